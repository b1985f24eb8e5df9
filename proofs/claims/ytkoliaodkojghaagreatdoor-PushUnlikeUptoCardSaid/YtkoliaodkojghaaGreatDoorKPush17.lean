/- Parts, joined: The reference's Valid, and why it holds a value for one that may not be. A range over an iterator that yields a known list, each of it in one of several ways (what way, q, is known in the round alone), by a body that always goes on. No condition. Why a value may not be: the reference's function. Condition: a bulk of at most 10^9. A text's bytes: what '[]byte(s)' makes. No condition. -/
import Derived.Test.YtkoliaodkojghaaGreatDoorProg
import Derived.Lib.MapLaws
import Derived.RangeFuncNested
import Derived.RangeFuncBound
import Derived.RangeFuncCalls
import Derived.RangeFuncLeaves
import Derived.WalkKit
import Derived.OwnWalkIn
import Derived.TacticsInMore
import Derived.Lib.UnsafeStr
import Derived.Lib.Strings
import Derived.Test.YtkoliaodkojghaaGreatDoorKPush5
import Derived.Test.YtkoliaodkojghaaGreatDoorKPush15
/- The reference's Valid, and why it holds a value for one that may not be. -/
namespace Go.Proofs.YtkoliaodkojghaaGreatDoor
open Go.RowKit

theorem validGoD_more : ∀ (n m : Nat) (l : List UInt8), l.length ≤ n → l.length ≤ m → Lib.validGoD n l = Lib.validGoD m l
  | 0, m, l, hn, hm => by
    obtain rfl : l = [] := List.eq_nil_of_length_eq_zero (by omega)
    cases m <;> simp [Lib.validGoD]
  | n + 1, 0, l, hn, hm => by
    obtain rfl : l = [] := List.eq_nil_of_length_eq_zero (by omega)
    simp [Lib.validGoD]
  | n + 1, m + 1, l, hn, hm => by
    simp only [Lib.validGoD]
    by_cases h : l = []
    · simp [h]
    · rw [if_neg h, if_neg h]
      split
      · rfl
      · have hw := Lib.decodeL_width l
        have hl : 0 < l.length := List.length_pos_iff.2 h
        exact validGoD_more n m _ (by rw [List.length_drop]; omega) (by rw [List.length_drop]; omega)

theorem validD_step {l : List UInt8} (h : l ≠ []) : Lib.validD l = if (Lib.decodeL l).1 = 65533 ∧ (Lib.decodeL l).2 = 1 then false else Lib.validD (l.drop (Lib.decodeL l).2) := by
  have hw := Lib.decodeL_width l
  have hl : 0 < l.length := List.length_pos_iff.2 h
  unfold Lib.validD
  obtain ⟨n, hn⟩ : ∃ n, l.length = n + 1 := ⟨l.length - 1, by omega⟩
  rw [hn]
  simp only [Lib.validGoD]
  rw [if_neg h]
  split
  · rfl
  · exact validGoD_more _ _ _ (by rw [List.length_drop]; omega) (Nat.le_refl _)

/-- A step of the reference's runes. -/
theorem validD_at {l : List UInt8} (h : l ≠ []) : ((atSpec l).2 = 0 ∧ Lib.validD l = false) ∨ (∃ n : Nat, (atSpec l).2 = (n : Int) ∧ 1 ≤ n ∧ n ≤ l.length ∧ Lib.validD l = Lib.validD (l.drop n)) := by
  have hg := atSpec_dec l h
  unfold goodAt at hg
  rw [validD_step h]
  by_cases hb : (Lib.decodeL l).1 = 65533 ∧ (Lib.decodeL l).2 = 1
  · rw [if_pos hb] at hg ⊢
    rw [hg]
    exact .inl ⟨rfl, rfl⟩
  · rw [if_neg hb] at hg ⊢
    rw [hg]
    have hw := Lib.decodeL_width l
    exact .inr ⟨(Lib.decodeL l).2, rfl, hw, Lib.decodeL_le l h, rfl⟩

set_option maxHeartbeats 1000000 in
/-- commonplaceref01.Valid -/
theorem RValid_calls (s : ByteArray) (w : World) (hs : s.size ≤ 1000000000) :
    Calls Tryz.prog 82 #[.string s] w fun e w' => e = .returned (.bool (validB s)) ∧ w = w' := by
  obtain ⟨V, hV⟩ : ∃ V, validB s = V := ⟨_, rfl⟩
  rw [hV]
  have H0 := Lib.hid hV
  clear hV
  go_enter Tryz.func82, Tryz.ntmps82
  go_wp2
  go_loop [3] (fun i => ∃ k : Nat, k ≤ s.size ∧ i = .int .i64 k ∧ Hid (Lib.validD (s.data.toList.drop k) = V)) (fun i => s.size - (intOf i).toNat)
  case atStart => exact ⟨0, Nat.zero_le _, rfl, H0⟩
  case round =>
    obtain ⟨k, hk, rfl, hf⟩ := hrel
    clear H0
    by_cases hlt : k < s.size
    · have hne : s.data.toList.drop k ≠ [] := by
        intro e
        have := congrArg List.length e
        rw [List.length_drop, ← Lib.size_eq] at this
        simp at this
        omega
      have hA := At_calls s k w (by omega) (by omega)
      rcases validD_at hne with ⟨h0, hv⟩ | ⟨n, hn, hn1, hn2, hv⟩
      · have hf' := hf.out
        rw [hv] at hf'
        subst hf'
        rw [h0] at hA
        generalize (atSpec (s.data.toList.drop k)).1 = R at hA
        have HA := Lib.hid hA
        clear hA h0 hv hne hf
        go_wp2_with (go_at_call 128; refine (HA.out).mono ?_; rintro e w' ⟨rfl, rfl⟩)
        go_ret
        exact ⟨rfl, rfl⟩
      · have hf' := hf.out
        rw [hv, List.drop_drop] at hf'
        have Hf := Lib.hid hf'
        rw [hn] at hA
        rw [List.length_drop, ← Lib.size_eq] at hn2
        generalize (atSpec (s.data.toList.drop k)).1 = R at hA
        have HA := Lib.hid hA
        clear hA hn hv hne hf hf'
        have e0 : ((n : Int) == 0) = false := by simp; omega
        go_wp2_with (go_at_call 128; refine (HA.out).mono ?_; rintro e w' ⟨rfl, rfl⟩)
        go_round
        case rel => exact ⟨k + n, by omega, by go_num, Hf⟩
        case measure => simp [intOf]; omega
    · obtain rfl : k = s.size := by omega
      have hf' := hf.out
      rw [List.drop_eq_nil_of_le (by rw [← Lib.size_eq]; omega)] at hf'
      have : V = true := by rw [← hf']; rfl
      subst this
      clear hf hf'
      go_wp2
      go_ret
      exact ⟨rfl, rfl⟩

end Go.Proofs.YtkoliaodkojghaaGreatDoor

/- A range over an iterator that yields a known list, each of it in one of several ways (what way, q, is known in the round alone), by a body that always goes on. No condition. -/
namespace Go.Proofs.YtkoliaodkojghaaGreatDoor
open Go.RowKit

/-- The iterator yields the list xs, each x in a way q of which E holds, whatever its rounds do, so they keep what it needs (N). -/
def YieldsE {α β : Type} (P : Program) (gf : Nat) (lb : Array Value) (encs : α → β → Array Value) (E : α → β → World → Prop) (xs : List α) (N : World → Prop) : Prop :=
  ∀ (n l : Nat) (J : List α → World → Prop) (W : World), (∀ s A B, J s A → Below A.heap.size A B → J s B) → (∀ s A, J s A → N A) →
    (∀ pre x rest q A, xs = pre ++ x :: rest → J pre A → E x q A → YieldAt Fence.wide n P l (encs x q) A fun e B => e = .returned (.bool true) ∧ J (pre ++ [x]) B) →
    J [] W → CallsIn Fence.wide (n + 1) P gf (#[.func (.yield l) #[] #[]] ++ lb) W fun e B => (∃ v, e = .returned v) ∧ J xs B

theorem wp_range_each {α β : Type} {P : Program} {g : Operand} {ps : Array Tmp} {assign body : Code} {Q : Exit → Act → World → Prop} {a : Act} {w : World} {n : Nat}
    {gf : Nat} {lb : Array Value} (hg : a.eval g = .func (.func gf) #[] lb) (eg : ∀ args w, (callFunc gf args).run P w = .ok (.enter gf args) w)
    {encs : α → β → Array Value} {E : α → β → World → Prop} {xs : List α} {N : World → Prop} (hit : YieldsE P gf lb encs E xs N) (hps : ∀ x q, (encs x q).size = ps.size)
    (hEp : ∀ x q A k o o', E x q A → A.heap[k]? = some o → o.isCells = false → E x q (A.putObj k o'))
    (I : List α → World → Prop) (hIn : ∀ s A B, I s A → Below A.heap.size A B → I s B)
    (hIp : ∀ s A k o o', I s A → A.heap[k]? = some o → o.isCells = false → (k = w.heap.size ∨ k = w.heap.size + 1) → I s (A.putObj k o'))
    (hIb : ∀ s A, I s A → N A) (h0 : I [] w) (a₁ : α → β → Act)
    (hassign : ∀ (l : Nat) (x : α) (q : β) (W : World) (K : Act → World → Prop), K (a₁ x q) W →
      assign.wpIn (Fence.wide.inRound l) n P (Exit.then K (fun _ _ _ => False)) { tmps := (ps.zip (encs x q)).foldl (fun t (p, v) => t.setIfInBounds p v) a.tmps, defers := [] } W)
    (hbody : ∀ (l : Nat) (pre : List α) (x : α) (rest : List α) (q : β) (W : World), xs = pre ++ x :: rest → I pre W → E x q W → (∃ ds, W.heap[w.heap.size]? = some (.deferred ds)) → (∃ r, W.heap[w.heap.size + 1]? = some (.loop r)) →
      body.wpIn (Fence.wide.inRound l) n P (goesOn (I (pre ++ [x])) w.heap.size W) (a₁ x q) W)
    (hdone : ∀ (W : World), I xs W → W.heap[w.heap.size]? = some (.deferred (some [])) → Q .normal { a with defers := { target := .collected w.heap.size, args := #[] } :: a.defers } W) :
    (Code.rangeFunc g ps assign body).wpIn Fence.wide (n + 1 + 1) P Q a w := by
  refine wpIn_rangeFunc ?_
  intro fn hfn
  have hro : Fence.wide.round = none := rfl
  rw [hro]
  obtain ⟨rec, hrec⟩ : ∃ rec : LoopState → Option Code → Loop, rec = fun st pe => { state := st, pending := pe, fn, tmps := a.tmps, params := ps, assign, body, defers := w.heap.size } := ⟨_, rfl⟩
  obtain ⟨W1, hW1⟩ : ∃ W1, (w.alloc (.deferred (some []))).alloc (.loop (rec .ready none)) = W1 := ⟨_, rfl⟩
  have hL1 : W1.heap[w.heap.size + 1]? = some (.loop (rec .ready none)) := by
    rw [← hW1]; have := World.alloc_heap_new (w.alloc (.deferred (some []))) (.loop (rec .ready none)); rwa [World.size_alloc] at this
  have hK1 : W1.heap[w.heap.size]? = some (.deferred (some [])) := by
    rw [← hW1]; exact (Below.heap_alloc _ _ _ (by simp)).trans (World.alloc_heap_new w _)
  have hI1 : I [] W1 := by
    rw [← hW1]; exact hIn _ _ _ h0 (((Below.refl _ w).alloc (Nat.le_refl _) _).alloc (by simp) _)
  refine ⟨w.heap.size + 1, [{ target := .collected w.heap.size, args := #[] }], W1, { target := .fn (.func gf) lb, args := #[.func (.yield (w.heap.size + 1)) #[] #[]] }, W1, gf,
    #[.func (.yield (w.heap.size + 1)) #[] #[]] ++ lb, W1, ?_, ?_, ?_, ?_, fun h => by simp [Fence.wide] at h, ?_⟩
  · rw [← hW1, hrec]; exact run_enterLoop_outer _ _ _ _ _
  · simp only [resolve, hg]
    simp [go_sem]
  · intro f' _; trivial
  · simp [invoke, go_sem, eg]
  · refine (hit n (w.heap.size + 1)
      (fun pre W => I pre W ∧ W.heap[w.heap.size + 1]? = some (.loop (rec .ready none)) ∧ W.heap[w.heap.size]? = some (.deferred (some [])))
      W1 (fun s A B hs hb => ⟨hIn s A B hs.1 hb, (hb.block _ (Array.getElem?_eq_some_iff.1 hs.2.1).1).trans hs.2.1, (hb.block _ (Array.getElem?_eq_some_iff.1 hs.2.2).1).trans hs.2.2⟩)
      (fun s A hs => hIb s A hs.1) ?_ ⟨hI1, hL1, hK1⟩).mono ?_
    · -- one round
      rintro pre x rest q W hx ⟨hi, hl, hk⟩ hE
      have hlt : w.heap.size + 1 < W.heap.size := (Array.getElem?_eq_some_iff.1 hl).1
      have hy := run_yield (P := P) (args := encs x q) hl (by rw [hrec]; exact hps x q)
      rw [hrec] at hy
      refine ⟨fn, _, assign, body, hy, roundIn_of_wpIn trivial (hassign _ x q W _ ⟨_, run_beginRound hl (by rw [hrec]), ?_⟩)⟩
      have hl2 : (W.putObj (w.heap.size + 1) (.loop { rec .ready none with state := .busy })).heap[w.heap.size + 1]? = some (.loop { rec .ready none with state := .busy }) := World.putObj_heap_same hlt
      have hk2 : (W.putObj (w.heap.size + 1) (.loop { rec .ready none with state := .busy })).heap[w.heap.size]? = some (.deferred (some [])) := (World.putObj_heap_other (by omega)).trans hk
      refine wpIn_mono (hbody _ pre x rest q _ hx (hIp _ _ _ _ _ hi hl rfl (.inr rfl)) (hEp _ _ _ _ _ _ hE hl rfl) ⟨_, hk2⟩ ⟨_, hl2⟩) ?_
      rintro e a3 W3 hp
      cases e with
      | normal =>
        obtain ⟨h1, h2, hi3⟩ := hp
        have hl3 := h2.trans hl2
        have hk3 := h1.trans hk2
        have hr := run_endRound (P := P) none hl3
        rw [hrec] at hr
        refine ⟨_, _, hr, rfl, hIp _ _ _ _ _ hi3 hl3 rfl (.inr rfl), ?_, ?_⟩
        · rw [World.putObj_heap_same (Array.getElem?_eq_some_iff.1 hl3).1, hrec]; rfl
        · exact (World.putObj_heap_other (by omega)).trans hk3
      | ret => exact hp.elim
      | exit id => exact hp.elim
      | goto t => exact hp.elim
      | panic ch => exact hp.elim
      | outgrown => exact hp.elim
    · -- behind the iterator
      rintro e W2 ⟨⟨v, rfl⟩, hi, hl, hk⟩
      exact ⟨none, _, by have := run_endLoop (P := P) hl (by rw [hrec]; simp); rw [hrec] at this; exact this, hdone _ (hIp _ _ _ _ _ hi hl rfl (.inr rfl)) ((World.putObj_heap_other (by omega)).trans hk)⟩

end Go.Proofs.YtkoliaodkojghaaGreatDoor

/- Why a value may not be: the reference's function. Condition: a bulk of at most 10^9. -/
namespace Go.Proofs.YtkoliaodkojghaaGreatDoor
open Go.RowKit

theorem bare_calls2 {k : Int} {b : Bool} {n : Int} {t : ByteArray} {la oa : Option Addr} {ln lc on oc : Nat} {B : Bool} (h : oddB k b n t ln on = B) (w : World) :
  Calls Tryz.prog 176 #[.agg #[.int .i64 k, .bool b, .int .i64 n, .string t, .slice la ln lc, .slice oa on oc]] w fun e w' => e = .returned (.bool (!B)) ∧ Below w.heap.size w w' := by
  subst h
  exact bare_calls _ _ _ _ _ _ _ _ _ _ _

theorem RValid_calls2 {s : ByteArray} {B : Bool} (h : validB s = B) (w : World) (hs : s.size ≤ 1000000000) :
    Calls Tryz.prog 82 #[.string s] w fun e w' => e = .returned (.bool B) ∧ w = w' := by
  subst h
  exact RValid_calls _ _ hs

def MayRC (v : Val) : Prop := ∀ (cs : List Value) (d : Int) (w : World), HoldsV w w.heap.size v cs → v.bulk ≤ 1000000000 → 0 ≤ d → d ≤ 65 →
    Calls Tryz.prog 130 #[.agg cs.toArray, .int .i64 d] w fun e w' => e = .returned (.int .i64 (mayV v d)) ∧ Below w.heap.size w w'

set_option maxHeartbeats 2000000 in
theorem mayR_list (k : Int) (b : Bool) (n : Int) (t : ByteArray) (l : List Val) (la oa : Option Addr) (lc oc : Nat) (d : Int) (w : World) (g off : Nat) (hla : l = [] ∨ (la = some ⟨g, off, none⟩ ∧ g < w.heap.size ∧ HoldsL w w.heap.size l g off))
    (hb : bulkL l + t.size ≤ 1000000000) (h0 : 0 ≤ d) (h64 : d ≤ 64) (IH : ∀ v ∈ l, MayRC v) (hodd : oddB k b n t l.length 0 = false) (hval : validB t = true) :
    Calls Tryz.prog 130 #[.agg #[.int .i64 k, .bool b, .int .i64 n, .string t, .slice la l.length lc, .slice oa 0 oc], .int .i64 d] w fun e w' => e = .returned (.int .i64 (mayL l (d + 1))) ∧ Below w.heap.size w w' := by
  have hlen : l.length ≤ 1000000000 := by have := bulkL_len l; omega
  have h64' : ¬ (64 < d) := by omega
  have H : Hid (mayL (l.drop 0) (d + 1) = mayL l (d + 1)) := by rw [List.drop_zero]; exact rfl
  go_enter Tryz.func130, Tryz.ntmps130
  go_wp2_with (first | (go_at_call 176; refine (bare_calls2 hodd _).mono ?_; rintro e w1 ⟨rfl, hb1⟩; obtain ⟨hc1, hf1⟩ := bcell hb1; have hz1 := hb1.size; simp only [World.size_alloc] at hz1; have hbw1 : Below w.heap.size w w1 := ((Below.refl _ _).alloc (Nat.le_refl _) _).trans (hb1.mono (by simp)); have hbox1 : w1.heap[w.heap.size]? = some (.cells #[.int .i64 k, .bool b, .int .i64 n, .string t, .slice la l.length lc, .slice oa 0 oc] 45 (0, 0)) := (hb1.block _ (by simp)).trans (heap_alloc_new _ _)) | (go_at_call 82; refine (RValid_calls2 hval _ (by omega)).mono ?_; rintro e w2 ⟨rfl, rfl⟩))
  clear hb1 hodd hc1 hf1 hz1
  go_loopw [5] (fun i wr => ∃ j : Nat, j ≤ l.length ∧ i = .int .i64 j ∧ Hid (mayL (l.drop j) (d + 1) = mayL l (d + 1)) ∧ Below w.heap.size w wr ∧ wr.heap[w.heap.size]? = some (.cells #[.int .i64 k, .bool b, .int .i64 n, .string t, .slice la l.length lc, .slice oa 0 oc] 45 (0, 0))) (fun i _ => l.length - (intOf i).toNat)
  case atStart => exact ⟨0, Nat.zero_le _, rfl, H, hbw1, hbox1⟩
  case round =>
    obtain ⟨j, hj, rfl, hm, hbw, hbox⟩ := hrel
    clear H hbw1 hbox1
    have hbx : w.heap.size < wr.heap.size := (Array.getElem?_eq_some_iff.1 hbox).1
    have b4 : wr.cell? ⟨w.heap.size, 4, none⟩ = some (.slice la l.length lc) := by rw [Lib.cell_of_heap hbox]; rfl
    have b5 : wr.cell? ⟨w.heap.size, 5, none⟩ = some (.slice oa 0 oc) := by rw [Lib.cell_of_heap hbox]; rfl
    by_cases hlt : j < l.length
    · obtain ⟨rfl, hg, hL⟩ : la = some ⟨g, off, none⟩ ∧ g < w.heap.size ∧ HoldsL w w.heap.size l g off := by
        rcases hla with rfl | h
        · simp at hlt
        · exact h
      obtain ⟨v, hv⟩ : ∃ v, l[j]? = some v := ⟨_, List.getElem?_eq_getElem hlt⟩
      have hdrop : l.drop j = v :: l.drop (j + 1) := drop_of_get hv
      have hmem : v ∈ l := List.mem_of_getElem? hv
      have hbv := bulkL_mem hmem
      have IHv := Lib.hid (IH v hmem)
      have hm' := hm.out
      rw [hdrop] at hm'
      simp only [mayL] at hm'
      clear hm hdrop hmem IH
      obtain ⟨m, hmv⟩ : ∃ m, mayV v (d + 1) = m := ⟨_, rfl⟩
      rw [hmv] at hm'
      have Hmv := Lib.hid hmv
      clear hmv
      obtain ⟨k', b', n', t', l', o'⟩ := v
      obtain ⟨la', lc', oa', oc', hvs, c0, c1, c2, c3, c4, c5⟩ := (hL.below hg hbw).six hv
      clear hla hL hv
      have hz := hbw.size
      by_cases hm0 : m = 0
      · rw [if_pos hm0] at hm'
        subst hm0
        have Hk := Lib.hid hm'
        clear hm'
        go_wp2_with (go_at_call 130; refine (IHv.out _ (d + 1) _ (HoldsV.more (by omega) _ _ hvs) (by omega) (by omega) (by omega)).mono ?_; rintro e w2 ⟨he, hb2⟩; rw [Hmv.out] at he; subst he; have hbw2 : Below w.heap.size w w2 := hbw.trans (hb2.mono hz); have hbox2 := (hb2.block _ hbx).trans hbox)
        go_roundw
        case rel => exact ⟨j + 1, by omega, by go_num, Hk, hbw2, hbox2⟩
        case measure => simp [intOf]; omega
      · rw [if_neg hm0] at hm'
        have Hk := Lib.hid hm'
        clear hm'
        have hm1 : (m == 0) = false := by simpa using hm0
        have hm2 : (m != 0) = true := by simpa using hm0
        go_wp2_with (go_at_call 130; refine (IHv.out _ (d + 1) _ (HoldsV.more (by omega) _ _ hvs) (by omega) (by omega) (by omega)).mono ?_; rintro e w2 ⟨he, hb2⟩; rw [Hmv.out] at he; subst he; have hbw2 : Below w.heap.size w w2 := hbw.trans (hb2.mono hz))
        go_ret
        exact ⟨by rw [← Hk.out]; rfl, hbw2⟩
    · obtain rfl : j = l.length := by omega
      have hm' := hm.out
      rw [List.drop_length] at hm'
      have Hm := Lib.hid hm'
      clear hm hm'
      go_wp2
      go_loopw [8] (fun i wx => i = .int .i64 0 ∧ wx = wr) (fun _ _ => 0)
      case atStart => exact ⟨rfl, rfl⟩
      case round =>
        obtain ⟨rfl, rfl⟩ := hrel
        go_wp2
        go_ret
        exact ⟨by rw [← Hm.out]; rfl, hbw⟩

end Go.Proofs.YtkoliaodkojghaaGreatDoor

/- A text's bytes: what '[]byte(s)' makes. No condition. -/
namespace Go.Proofs.YtkoliaodkojghaaGreatDoor
open Go Go.RowKit

theorem cell_freeze (w : World) (a : Addr) (n : Nat) (p : Addr) : (w.freeze a n).cell? p = w.cell? p := by
  unfold World.freeze
  split
  · rfl
  · unfold World.cell?
    simp only [Array.getElem?_modify]
    by_cases h : a.block = p.block
    · rw [if_pos h]
      cases hw : w.heap[p.block]? with
      | none => rfl
      | some o => cases o <;> rfl
    · rw [if_neg h]
theorem size_freeze (w : World) (a : Addr) (n : Nat) : (w.freeze a n).heap.size = w.heap.size := by
  unfold World.freeze
  split
  · rfl
  · simp
theorem run_to_bytes {P : Program} (src dst e : TypeId) (hs : P.underlying src = some .string) (hd : P.underlying dst = some (.slice e)) (he : P.underlying e = some (.int .u8)) (s : ByteArray) (w : World) :
    ∃ cap w', (convert src dst (.string s)).run P w = .ok (.slice (some ⟨w.heap.size, 0, none⟩) s.size cap) w' ∧ Below w.heap.size w w' ∧ w'.heap.size = w.heap.size + 1 ∧
      ∀ (j : Nat) (x : UInt8), s.data.toList[j]? = some x → w'.cell? ⟨w.heap.size, j, none⟩ = some (.int .u8 x.toNat) := by
  have key : ∀ (W : World) (cap : Nat), Below w.heap.size w W → W.heap.size = w.heap.size → ∃ w', (do let a ← newRow e (s.data.map (fun b => Value.int .u8 b.toNat) ++ Array.replicate (cap - s.size) (.int .u8 0)); markStringish a; pure (Value.slice (some a) s.size cap) : Sem Value).run P W = .ok (.slice (some ⟨w.heap.size, 0, none⟩) s.size cap) w' ∧ Below w.heap.size w w' ∧ w'.heap.size = w.heap.size + 1 ∧
      ∀ (j : Nat) (x : UInt8), s.data.toList[j]? = some x → w'.cell? ⟨w.heap.size, j, none⟩ = some (.int .u8 x.toNat) := by
    intro W cap hB hz
    obtain ⟨C, hC⟩ : ∃ C, s.data.map (fun b => Value.int .u8 b.toNat) ++ Array.replicate (cap - s.size) (.int .u8 0) = C := ⟨_, rfl⟩
    rw [hC]
    have hB1 : Below w.heap.size w (W.alloc (.cells C e)) := hB.alloc (by omega) _
    have hn := heap_alloc_new W (.cells C e)
    have hsh : (W.alloc (.cells C e)).shape? W.heap.size = some (e, C.size) := by unfold World.shape?; rw [hn]
    refine ⟨(W.alloc (.cells C e)).freeze ⟨W.heap.size, C.size, none⟩ 1, ?_, Lib.below_freeze hB1 (by simp [hz]) _, by rw [size_freeze]; simp [hz], fun j x hx => ?_⟩
    · have hnew : Sem.run P (newRow e C) W = .ok ⟨W.heap.size, 0, none⟩ (W.alloc (.cells C e)) := rfl
      simp only [Sem.run_bind, hnew, Result.andThen_ok, markStringish, run_shape, hsh, run_freeze, Sem.run_pure]
      rw [hz]
    · rw [cell_freeze, ← hz, cell_of_row _ _ _ _ _ _ hn, ← hC]
      have hj := (List.getElem?_eq_some_iff.1 hx).1
      rw [Array.getElem?_append_left (by simpa using hj), Array.getElem?_map]
      rw [← Array.getElem?_toList, hx]; rfl
  by_cases hf : (Question.appendCap s.size 0 e).forced = true
  · obtain ⟨w', h1, h2⟩ := key w 0 (Below.refl _ _) rfl
    refine ⟨0, w', ?_, h2⟩
    rw [← h1]
    simp [convert, run_underlying hs, run_underlying hd, run_underlying he, Conv.stringToBytes, hf]
  · obtain ⟨w', h1, h2⟩ := key w.drew ((Question.appendCap s.size 0 e).cut (w.tape w.drawn (Question.appendCap s.size 0 e))) (Below.refl _ _).drew rfl
    refine ⟨((Question.appendCap s.size 0 e).cut (w.tape w.drawn (Question.appendCap s.size 0 e))), w', ?_, h2⟩
    rw [← h1]
    simp [convert, run_underlying hs, run_underlying hd, run_underlying he, Conv.stringToBytes, hf]
theorem dB_fresh {b g : Nat} {w' : World} {l : List UInt8} {n cap : Nat} (hn : n = l.length) (hg : b ≤ g) (hlt : g < w'.heap.size) (h : ∀ (j : Nat) (x : UInt8), l[j]? = some x → w'.cell? ⟨g, j, none⟩ = some (.int .u8 x.toNat)) : Fresh b w' (.row 1 (dB l)) [.slice (some ⟨g, 0, none⟩) n cap] := by
  subst hn
  intro w'' k1 k2
  refine ⟨_, cap, by rw [dB_len], dB_cells _, bcells l, dB_holds _ _ _, .inr ⟨g, 0, rfl, hlt, fun j u hu => ?_⟩⟩
  rw [k2 _ hg hlt, Nat.zero_add]
  unfold bcells at hu
  rw [List.getElem?_map] at hu
  obtain ⟨x, hx, rfl⟩ := Option.map_eq_some_iff.1 hu
  exact h j x hx
/-- '[]byte(s)'. -/
theorem wpList_to_bytes {P : Program} {ops : Array Oper} {rest : List Oper} {o : Oper} {a : Act} {w : World} {Q : Exit → Act → World → Prop} (hgd : o.guard = none) (src dst e : TypeId) (x : Operand)
    (ho : o.op = .convert src dst x) (hs : P.underlying src = some .string) (hd : P.underlying dst = some (.slice e)) (he : P.underlying e = some (.int .u8)) (s : ByteArray) (hx : a.eval x = .string s)
    (h : ∀ cap w', Below w.heap.size w w' → Fresh w.heap.size w' (.row 1 (dB s.data.toList)) [.slice (some ⟨w.heap.size, 0, none⟩) s.size cap] → wpList P ops Q rest (a.put o.dst (.slice (some ⟨w.heap.size, 0, none⟩) s.size cap)) w') : wpList P ops Q (o :: rest) a w :=
  wpList_plain hgd fun K hK => by
    obtain ⟨cap, w', h1, h2, h3, h4⟩ := run_to_bytes src dst e hs hd he s w
    unfold Oper.wp execOp
    simp only [ho, hx, Sem.run_bind, Sem.run_pure, Result.andThen_ok, h1]
    exact hK _ _ (h cap w' h2 (dB_fresh (Lib.size_eq s) (Nat.le_refl _) (by omega) h4))
end Go.Proofs.YtkoliaodkojghaaGreatDoor
