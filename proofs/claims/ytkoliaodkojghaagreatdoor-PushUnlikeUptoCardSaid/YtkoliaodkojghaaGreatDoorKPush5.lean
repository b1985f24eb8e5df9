/- Parts, joined: A range over an iterator that yields a known list, by a body that always goes on: the law that the walks use. No condition. commonplaceref03.digits: an Int's digits. No condition. -/
import Derived.RangeFuncNested
import Derived.RangeFuncBound
import Derived.RangeFuncCalls
import Derived.RangeFuncLeaves
import Derived.WalkKit
import Derived.OwnWalkIn
import Derived.TacticsInMore
import Derived.Test.YtkoliaodkojghaaGreatDoorProg
import Derived.Below
import Derived.Lib.ItoaLen
import Derived.Lib.Hide
import Derived.IntWalk
/- A range over an iterator that yields a known list, by a body that always goes on: the law that the walks use. No condition. -/
namespace Go.Proofs.YtkoliaodkojghaaGreatDoor
open Go.RowKit

/-- The iterator yields the list xs, whatever its rounds do, so they keep what it needs (N). -/
def Yields {α : Type} (P : Program) (gf : Nat) (lb : Array Value) (encs : α → Array Value) (xs : List α) (N : World → Prop) : Prop :=
  ∀ (n l : Nat) (J : List α → World → Prop) (W : World), (∀ s A B, J s A → Below A.heap.size A B → J s B) → (∀ s A, J s A → N A) →
    (∀ pre x rest A, xs = pre ++ x :: rest → J pre A → YieldAt Fence.wide n P l (encs x) A fun e B => e = .returned (.bool true) ∧ J (pre ++ [x]) B) →
    J [] W → CallsIn Fence.wide (n + 1) P gf (#[.func (.yield l) #[] #[]] ++ lb) W fun e B => (∃ v, e = .returned v) ∧ J xs B

/-- How the body of a round is left: at its end. -/
def goesOn (I : World → Prop) (d : Nat) (W : World) : Exit → Act → World → Prop
  | .normal, _, W' => W'.heap[d]? = W.heap[d]? ∧ W'.heap[d + 1]? = W.heap[d + 1]? ∧ I W'
  | _, _, _ => False

theorem wp_range_all {α : Type} {P : Program} {g : Operand} {ps : Array Tmp} {assign body : Code} {Q : Exit → Act → World → Prop} {a : Act} {w : World} {n : Nat}
    {gf : Nat} {lb : Array Value} (hg : a.eval g = .func (.func gf) #[] lb) (eg : ∀ args w, (callFunc gf args).run P w = .ok (.enter gf args) w)
    {encs : α → Array Value} {xs : List α} {N : World → Prop} (hit : Yields P gf lb encs xs N) (hps : ∀ x, (encs x).size = ps.size)
    (I : List α → World → Prop) (hIn : ∀ s A B, I s A → Below A.heap.size A B → I s B)
    (hIp : ∀ s A k o o', I s A → A.heap[k]? = some o → o.isCells = false → (k = w.heap.size ∨ k = w.heap.size + 1) → I s (A.putObj k o'))
    (hIb : ∀ s A, I s A → N A) (h0 : I [] w) (a₁ : α → Act)
    (hassign : ∀ (l : Nat) (x : α) (W : World) (K : Act → World → Prop), K (a₁ x) W →
      assign.wpIn (Fence.wide.inRound l) n P (Exit.then K (fun _ _ _ => False)) { tmps := (ps.zip (encs x)).foldl (fun t (p, v) => t.setIfInBounds p v) a.tmps, defers := [] } W)
    (hbody : ∀ (l : Nat) (pre : List α) (x : α) (rest : List α) (W : World), xs = pre ++ x :: rest → I pre W → (∃ ds, W.heap[w.heap.size]? = some (.deferred ds)) → (∃ r, W.heap[w.heap.size + 1]? = some (.loop r)) →
      body.wpIn (Fence.wide.inRound l) n P (goesOn (I (pre ++ [x])) w.heap.size W) (a₁ x) W)
    (hdone : ∀ (W : World), I xs W → W.heap[w.heap.size]? = some (.deferred (some [])) → Q .normal { a with defers := { target := .collected w.heap.size, args := #[] } :: a.defers } W) :
    (Code.rangeFunc g ps assign body).wpIn Fence.wide (n + 1 + 1) P Q a w := by
  refine wpIn_rangeFunc ?_
  intro fn hfn
  have hro : Fence.wide.round = none := rfl
  rw [hro]
  obtain ⟨rec, hrec⟩ : ∃ rec : LoopState → Option Code → Loop, rec = fun st pe => { state := st, pending := pe, fn, tmps := a.tmps, params := ps, assign, body, defers := w.heap.size } := ⟨_, rfl⟩
  obtain ⟨W1, hW1⟩ : ∃ W1, (w.alloc (.deferred (some []))).alloc (.loop (rec .ready none)) = W1 := ⟨_, rfl⟩
  have hL1 : W1.heap[w.heap.size + 1]? = some (.loop (rec .ready none)) := by
    rw [← hW1]; have := World.alloc_heap_new (w.alloc (.deferred (some []))) (.loop (rec .ready none)); rwa [World.size_alloc] at this
  have hK1 : W1.heap[w.heap.size]? = some (.deferred (some [])) := by
    rw [← hW1]; exact (Below.heap_alloc _ _ _ (by simp)).trans (World.alloc_heap_new w _)
  have hI1 : I [] W1 := by
    rw [← hW1]; exact hIn _ _ _ h0 (((Below.refl _ w).alloc (Nat.le_refl _) _).alloc (by simp) _)
  refine ⟨w.heap.size + 1, [{ target := .collected w.heap.size, args := #[] }], W1, { target := .fn (.func gf) lb, args := #[.func (.yield (w.heap.size + 1)) #[] #[]] }, W1, gf,
    #[.func (.yield (w.heap.size + 1)) #[] #[]] ++ lb, W1, ?_, ?_, ?_, ?_, fun h => by simp [Fence.wide] at h, ?_⟩
  · rw [← hW1, hrec]; exact run_enterLoop_outer _ _ _ _ _
  · simp only [resolve, hg]
    simp [go_sem]
  · intro f' _; trivial
  · simp [invoke, go_sem, eg]
  · refine (hit n (w.heap.size + 1)
      (fun pre W => I pre W ∧ W.heap[w.heap.size + 1]? = some (.loop (rec .ready none)) ∧ W.heap[w.heap.size]? = some (.deferred (some [])))
      W1 (fun s A B hs hb => ⟨hIn s A B hs.1 hb, (hb.block _ (Array.getElem?_eq_some_iff.1 hs.2.1).1).trans hs.2.1, (hb.block _ (Array.getElem?_eq_some_iff.1 hs.2.2).1).trans hs.2.2⟩)
      (fun s A hs => hIb s A hs.1) ?_ ⟨hI1, hL1, hK1⟩).mono ?_
    · -- one round
      rintro pre x rest W hx ⟨hi, hl, hk⟩
      have hlt : w.heap.size + 1 < W.heap.size := (Array.getElem?_eq_some_iff.1 hl).1
      have hy := run_yield (P := P) (args := encs x) hl (by rw [hrec]; exact hps x)
      rw [hrec] at hy
      refine ⟨fn, _, assign, body, hy, roundIn_of_wpIn trivial (hassign _ x W _ ⟨_, run_beginRound hl (by rw [hrec]), ?_⟩)⟩
      have hl2 : (W.putObj (w.heap.size + 1) (.loop { rec .ready none with state := .busy })).heap[w.heap.size + 1]? = some (.loop { rec .ready none with state := .busy }) := World.putObj_heap_same hlt
      have hk2 : (W.putObj (w.heap.size + 1) (.loop { rec .ready none with state := .busy })).heap[w.heap.size]? = some (.deferred (some [])) := (World.putObj_heap_other (by omega)).trans hk
      refine wpIn_mono (hbody _ pre x rest _ hx (hIp _ _ _ _ _ hi hl rfl (.inr rfl)) ⟨_, hk2⟩ ⟨_, hl2⟩) ?_
      rintro e a3 W3 hp
      cases e with
      | normal =>
        obtain ⟨h1, h2, hi3⟩ := hp
        have hl3 := h2.trans hl2
        have hk3 := h1.trans hk2
        have hr := run_endRound (P := P) none hl3
        rw [hrec] at hr
        refine ⟨_, _, hr, rfl, hIp _ _ _ _ _ hi3 hl3 rfl (.inr rfl), ?_, ?_⟩
        · rw [World.putObj_heap_same (Array.getElem?_eq_some_iff.1 hl3).1, hrec]; rfl
        · exact (World.putObj_heap_other (by omega)).trans hk3
      | ret => exact hp.elim
      | exit id => exact hp.elim
      | goto t => exact hp.elim
      | panic ch => exact hp.elim
      | outgrown => exact hp.elim
    · -- behind the iterator
      rintro e W2 ⟨⟨v, rfl⟩, hi, hl, hk⟩
      exact ⟨none, _, by have := run_endLoop (P := P) hl (by rw [hrec]; simp); rw [hrec] at this; exact this, hdone _ (hIp _ _ _ _ _ hi hl rfl (.inr rfl)) ((World.putObj_heap_other (by omega)).trans hk)⟩

end Go.Proofs.YtkoliaodkojghaaGreatDoor

/- commonplaceref03.digits: an Int's digits. No condition. -/
namespace Go.Proofs.YtkoliaodkojghaaGreatDoor
open Go.RowKit

/-- A digit's letter. -/
def dgt (d : Nat) : UInt8 := UInt8.ofNat (48 + d)

def digs (u : Nat) : List UInt8 := if _h : u = 0 then [] else digs (u / 10) ++ [dgt (u % 10)]
termination_by u
decreasing_by omega

theorem digs_zero : digs 0 = [] := by rw [digs, dif_pos rfl]
theorem digs_pos {u : Nat} (h : u ≠ 0) : digs u = digs (u / 10) ++ [dgt (u % 10)] := by rw [digs, dif_neg h]
theorem digs_dec (u : Nat) : u ≠ 0 → digs u = Lib.decDigits u := by
  induction u using Nat.strongRecOn with
  | _ u ih =>
    intro h
    rw [digs_pos h, Lib.decDigits]
    unfold dgt
    by_cases h10 : u < 10
    · rw [dif_pos h10, show u / 10 = 0 from by omega, digs_zero, show u % 10 = u from by omega, List.nil_append]
    · rw [dif_neg h10, ih (u / 10) (by omega) (by omega)]
theorem digs_len {u : Nat} (h : (u : Int) ≤ 9223372036854775808) : (digs u).length ≤ 30 := by
  by_cases h0 : u = 0
  · subst h0; rw [digs_zero]; simp
  · rw [digs_dec u h0, Lib.decDigits_length]
    exact Nat.le_trans (Lib.nDigits_le20 u (by omega)) (by omega)

theorem run_cut (S : ByteArray) (d e : Nat) (hd : d ≤ e) (he : e ≤ S.size) (w : World) : (Instr.slice 9 (.string S) (some (.int .i64 d)) (some (.int .i64 e)) none).run Tryz.prog w = .ok (.string (S.extract d e)) w := by
  simp [Instr.slice, run_underlying Tryz.underlying9, Instr.sliceBounds, go_sem, hd, he]
theorem digit_at : ∀ d : Fin 10, (⟨#[48, 49, 50, 51, 52, 53, 54, 55, 56, 57]⟩ : ByteArray).extract d.val (d.val + 1) = ⟨#[dgt d.val]⟩ := by decide
theorem run_digit (d : Nat) (hd : d < 10) (w : World) : (Instr.slice 9 (.string ⟨#[48, 49, 50, 51, 52, 53, 54, 55, 56, 57]⟩) (some (.int .i64 d)) (some (.int .i64 ((d : Int) + 1))) none).run Tryz.prog w = .ok (.string ⟨#[dgt d]⟩) w := by
  have := run_cut ⟨#[48, 49, 50, 51, 52, 53, 54, 55, 56, 57]⟩ d (d + 1) (by omega) (by show d + 1 ≤ 10; omega) w
  rw [digit_at ⟨d, hd⟩] at this
  exact this

set_option maxRecDepth 20000 in
set_option maxHeartbeats 1000000 in
theorem digits_pos (a : Nat) (ha : a ≠ 0) (hm : (a : Int) ≤ 9223372036854775807) (w : World) :
    Calls Tryz.prog 48 #[.int .i64 a] w fun e w' => e = .returned (.string ⟨(Lib.itoa a).toArray⟩) ∧ w = w' := by
  have hi : Lib.itoa a = digs a := by
    rw [digs_dec a ha, Lib.itoa, if_neg (by omega)]; simp
  rw [hi]
  have hl := digs_len (u := a) (by omega)
  have H0 : Hid (digs a ++ (⟨#[]⟩ : ByteArray).data.toList = digs a) := by show _ = _; simp
  clear hi
  go_enter Tryz.func48, Tryz.ntmps48
  have ha1 : ((a : Int) == 0) = false := by simp; omega
  go_wp2
  go_loop [3, 4] (fun s m => ∃ (T : ByteArray) (u : Nat), s = .string T ∧ m = .int .i64 u ∧ u ≤ a ∧ Hid (digs u ++ T.data.toList = digs a)) (fun _ m => (intOf m).toNat)
  case atStart => exact ⟨_, a, rfl, rfl, Nat.le_refl _, H0⟩
  case round =>
    obtain ⟨T, u, rfl, rfl, hu, hT⟩ := hrel
    clear H0
    have hTs : T.size ≤ 30 := by
      have h1 := congrArg List.length hT.out
      rw [List.length_append] at h1
      have h2 : T.data.toList.length = T.size := by rw [Array.length_toList]; rfl
      omega
    by_cases hu0 : u = 0
    · subst hu0
      have hT' := hT.out
      rw [digs_zero, List.nil_append] at hT'
      have hE : (⟨(digs a).toArray⟩ : ByteArray) = T := by rw [← hT']
      have HE := Lib.hid hE
      clear hT hT' hE ha1 hl
      have h0 : ((a : Int) < 0) = False := by simp
      go_wp2
      go_ret
      exact ⟨by rw [HE.out]; rfl, rfl⟩
    · have hu1 : ((u : Int) == 0) = false := by simp; omega
      have hT' : Hid (digs (u / 10) ++ ((⟨#[dgt (u % 10)]⟩ : ByteArray) ++ T).data.toList = digs a) := by
        have := hT.out
        rw [digs_pos hu0] at this
        show _ = _
        rw [← this, ByteArray.data_append, Array.toList_append]
        simp
      have hd := run_digit (u % 10) (by omega) w
      have hm10 : (u : Int) % 10 = ((u % 10 : Nat) : Int) := by omega
      have hq10 : (u : Int) / 10 = ((u / 10 : Nat) : Int) := by omega
      have hlt : u % 10 < 10 := by omega
      have hqu : u / 10 < u := by omega
      generalize u % 10 = d at *
      generalize u / 10 = q at *
      have hdn : decide ((d : Int) < 0) = false := by simp
      clear hT ha1 hl
      go_wp2
      go_round
      case rel => exact ⟨_, q, rfl, rfl, by omega, hT'⟩
      case measure => simp [intOf]; omega

set_option maxRecDepth 20000 in
set_option maxHeartbeats 1000000 in
theorem digits_neg (a : Nat) (ha : a ≠ 0) (hm : (a : Int) ≤ 9223372036854775808) (n : Int) (hn : n = -(a : Int)) (w : World) :
    Calls Tryz.prog 48 #[.int .i64 n] w fun e w' => e = .returned (.string ⟨(Lib.itoa n).toArray⟩) ∧ w = w' := by
  have hi : Lib.itoa n = 45 :: digs a := by
    rw [digs_dec a ha, Lib.itoa, if_pos (by omega), hn]; simp
  rw [hi]
  have hl := digs_len (u := a) (by omega)
  have H0 : Hid (digs a ++ (⟨#[]⟩ : ByteArray).data.toList = digs a) := by show _ = _; simp
  have Hn := Lib.hid hn
  have hn1 : (n == 0) = false := by simp; omega
  have hn2 : n < 0 := by omega
  clear hi hn
  go_enter Tryz.func48, Tryz.ntmps48
  go_wp2
  go_loop [3, 4] (fun s m => ∃ (T : ByteArray) (M : Int) (u : Nat), s = .string T ∧ m = .int .i64 M ∧ Hid (M = -(u : Int)) ∧ u ≤ a ∧ Hid (digs u ++ T.data.toList = digs a)) (fun _ m => (-(intOf m)).toNat)
  case atStart => exact ⟨_, n, a, rfl, rfl, Hn, Nat.le_refl _, H0⟩
  case round =>
    obtain ⟨T, M, u, rfl, rfl, hM, hu, hT⟩ := hrel
    clear H0
    have hTs : T.size ≤ 30 := by
      have h1 := congrArg List.length hT.out
      rw [List.length_append] at h1
      have h2 : T.data.toList.length = T.size := by rw [Array.length_toList]; rfl
      omega
    have hMu := hM.out
    by_cases hu0 : u = 0
    · subst hu0
      obtain rfl : M = 0 := by simpa using hMu
      have hT' := hT.out
      rw [digs_zero, List.nil_append] at hT'
      have hE : (⟨(45 :: digs a).toArray⟩ : ByteArray) = ⟨#[45]⟩ ++ T := by
        apply ByteArray.ext
        rw [ByteArray.data_append]
        apply Array.ext'
        rw [Array.toList_append, hT']
        simp
      have HE := Lib.hid hE
      clear hT hT' hE hn1 hl hM hMu
      go_wp2
      go_ret
      exact ⟨by rw [HE.out]; rfl, rfl⟩
    · have hT' : Hid (digs (u / 10) ++ ((⟨#[dgt (u % 10)]⟩ : ByteArray) ++ T).data.toList = digs a) := by
        have := hT.out
        rw [digs_pos hu0] at this
        show _ = _
        rw [← this, ByteArray.data_append, Array.toList_append]
        simp
      have hM1 : (M == 0) = false := by simp; omega
      have hM2 : -9223372036854775808 ≤ M := by omega
      have hM3 : M < 0 := by omega
      have hd := run_digit (u % 10) (by omega) w
      obtain ⟨D, hD⟩ : ∃ D, M.tmod 10 = D := ⟨_, rfl⟩
      obtain ⟨Q, hQ⟩ : ∃ Q, M.tdiv 10 = Q := ⟨_, rfl⟩
      have hD' : D = -((u % 10 : Nat) : Int) := by
        rw [← hD, hMu, Int.neg_tmod, Int.tmod_eq_emod_of_nonneg (by omega)]; omega
      have hQ' : Q = -((u / 10 : Nat) : Int) := by
        rw [← hQ, hMu, Int.neg_tdiv, Int.tdiv_eq_ediv_of_nonneg (by omega)]; omega
      have hlt : u % 10 < 10 := by omega
      have hqu : u / 10 < u := by omega
      generalize u % 10 = d at *
      generalize u / 10 = q at *
      have HQ := Lib.hid hQ'
      have hMQ : M < Q := by omega
      have hQ1 : -9223372036854775808 ≤ Q := by omega
      have hQ2 : Q ≤ 0 := by omega
      have hQ3 : Q ≤ 9223372036854775807 := by omega
      by_cases hd0 : d = 0
      · subst hd0
        obtain rfl : D = 0 := by simpa using hD'
        have hd1 : (Instr.slice 9 (.string ⟨#[48, 49, 50, 51, 52, 53, 54, 55, 56, 57]⟩) (some (.int .i64 0)) (some (.int .i64 1)) none).run Tryz.prog w = .ok (.string ⟨#[dgt 0]⟩) w := hd
        clear hT hn1 hl hM hD' hQ' hMu hd
        go_wp2
        go_round
        case rel => exact ⟨_, Q, q, rfl, rfl, HQ, by omega, hT'⟩
        case measure => simp only [intOf]; omega
      · have hDn : D < 0 := by omega
        have hDb : -10 < D := by omega
        have hDd : -D = (d : Int) := by omega
        clear hT hn1 hl hM hD' hQ'
        clear hMu
        go_wp2
        go_round
        case rel => exact ⟨_, Q, q, rfl, rfl, HQ, by omega, hT'⟩
        case measure => simp only [intOf]; omega

/-- commonplaceref03.digits -/
theorem digits_calls (n : Int) (h1 : -9223372036854775808 ≤ n) (h2 : n ≤ 9223372036854775807) (w : World) :
    Calls Tryz.prog 48 #[.int .i64 n] w fun e w' => e = .returned (.string ⟨(Lib.itoa n).toArray⟩) ∧ w = w' := by
  by_cases h0 : n = 0
  · subst h0
    have e : (⟨(Lib.itoa 0).toArray⟩ : ByteArray) = ⟨#[48]⟩ := by
      have : Lib.itoa 0 = [48] := by
        rw [Lib.itoa, if_neg (by omega)]
        exact Lib.decDigits_one (i := 0) (by omega)
      rw [this]
    rw [e]
    go_enter Tryz.func48, Tryz.ntmps48
    go_wp2
    go_ret
    exact ⟨rfl, rfl⟩
  · rcases Int.lt_or_le n 0 with h | h
    · exact digits_neg n.natAbs (by omega) (by omega) n (by omega) w
    · have := digits_pos n.toNat (by omega) (by omega) w
      rwa [show ((n.toNat : Nat) : Int) = n from by omega] at this

end Go.Proofs.YtkoliaodkojghaaGreatDoor
