/- Parts, joined: commonplaceref03.digits: an Int's digits. No condition. strings.Builder wherever it lies (a block of its own, or a field of a struct that the call made): its methods' contracts. Condition: at most 2^47 bytes. utf.Quote: the quote of a text. Condition: a text shorter than 10^9. utf.Quote: the walk. Condition: a text shorter than 10^9. The writer of texts: join. Condition: at most 10^11 bytes. -/
import Derived.Test.YtjjbbnodmpemiaaGreatDoorProg
import Derived.WalkKit
import Derived.Below
import Derived.Lib.ItoaLen
import Derived.Lib.Hide
import Derived.IntWalk
import Derived.Test.YtjjbbnodmpemiaaGreatDoorShelf
import Derived.Lib.OthersKept
import Derived.Lib.FrozenHead2
import Derived.Shelf.Strings.BuilderK
import Derived.BigQuiet
import Derived.Deep.QuietTactic
import Derived.WalkLawsBesides
import Derived.WalkSpells
import Derived.Lib.RuneBytes
import Derived.Test.YtjjbbnodmpemiaaGreatDoorKPull6
/- commonplaceref03.digits: an Int's digits. No condition. -/
namespace Go.Proofs.YtjjbbnodmpemiaaGreatDoor
open Go.RowKit

/-- A digit's letter. -/
def dgt (d : Nat) : UInt8 := UInt8.ofNat (48 + d)

def digs (u : Nat) : List UInt8 := if h : u = 0 then [] else digs (u / 10) ++ [dgt (u % 10)]
termination_by u
decreasing_by omega

theorem digs_zero : digs 0 = [] := by rw [digs, dif_pos rfl]
theorem digs_pos {u : Nat} (h : u ≠ 0) : digs u = digs (u / 10) ++ [dgt (u % 10)] := by rw [digs, dif_neg h]
theorem digs_dec (u : Nat) : u ≠ 0 → digs u = Lib.decDigits u := by
  induction u using Nat.strongRecOn with
  | _ u ih =>
    intro h
    rw [digs_pos h, Lib.decDigits]
    unfold dgt
    by_cases h10 : u < 10
    · rw [dif_pos h10, show u / 10 = 0 from by omega, digs_zero, show u % 10 = u from by omega, List.nil_append]
    · rw [dif_neg h10, ih (u / 10) (by omega) (by omega)]
theorem digs_len {u : Nat} (h : (u : Int) ≤ 9223372036854775808) : (digs u).length ≤ 30 := by
  by_cases h0 : u = 0
  · subst h0; rw [digs_zero]; simp
  · rw [digs_dec u h0, Lib.decDigits_length]
    exact Nat.le_trans (Lib.nDigits_le20 u (by omega)) (by omega)

theorem run_cut (S : ByteArray) (d e : Nat) (hd : d ≤ e) (he : e ≤ S.size) (w : World) : (Instr.slice 9 (.string S) (some (.int .i64 d)) (some (.int .i64 e)) none).run Tryz.prog w = .ok (.string (S.extract d e)) w := by
  simp [Instr.slice, run_underlying Tryz.underlying9, Instr.sliceBounds, go_sem, hd, he]
theorem digit_at : ∀ d : Fin 10, (⟨#[48, 49, 50, 51, 52, 53, 54, 55, 56, 57]⟩ : ByteArray).extract d.val (d.val + 1) = ⟨#[dgt d.val]⟩ := by decide
theorem run_digit (d : Nat) (hd : d < 10) (w : World) : (Instr.slice 9 (.string ⟨#[48, 49, 50, 51, 52, 53, 54, 55, 56, 57]⟩) (some (.int .i64 d)) (some (.int .i64 ((d : Int) + 1))) none).run Tryz.prog w = .ok (.string ⟨#[dgt d]⟩) w := by
  have := run_cut ⟨#[48, 49, 50, 51, 52, 53, 54, 55, 56, 57]⟩ d (d + 1) (by omega) (by show d + 1 ≤ 10; omega) w
  rw [digit_at ⟨d, hd⟩] at this
  exact this

set_option maxRecDepth 20000 in
set_option maxHeartbeats 1000000 in
theorem digits_pos (a : Nat) (ha : a ≠ 0) (hm : (a : Int) ≤ 9223372036854775807) (w : World) :
    Calls Tryz.prog 41 #[.int .i64 a] w fun e w' => e = .returned (.string ⟨(Lib.itoa a).toArray⟩) ∧ w = w' := by
  have hi : Lib.itoa a = digs a := by
    rw [digs_dec a ha, Lib.itoa, if_neg (by omega)]; simp
  rw [hi]
  have hl := digs_len (u := a) (by omega)
  have H0 : Hid (digs a ++ (⟨#[]⟩ : ByteArray).data.toList = digs a) := by show _ = _; simp
  clear hi
  go_enter Tryz.func41, Tryz.ntmps41
  have ha1 : ((a : Int) == 0) = false := by simp; omega
  go_wp2
  go_loop [3, 4] (fun s m => ∃ (T : ByteArray) (u : Nat), s = .string T ∧ m = .int .i64 u ∧ u ≤ a ∧ Hid (digs u ++ T.data.toList = digs a)) (fun _ m => (intOf m).toNat)
  case atStart => exact ⟨_, a, rfl, rfl, Nat.le_refl _, H0⟩
  case round =>
    obtain ⟨T, u, rfl, rfl, hu, hT⟩ := hrel
    clear H0
    have hTs : T.size ≤ 30 := by
      have h1 := congrArg List.length hT.out
      rw [List.length_append] at h1
      have h2 : T.data.toList.length = T.size := by rw [Array.length_toList]; rfl
      omega
    by_cases hu0 : u = 0
    · subst hu0
      have hT' := hT.out
      rw [digs_zero, List.nil_append] at hT'
      have hE : (⟨(digs a).toArray⟩ : ByteArray) = T := by rw [← hT']
      have HE := Lib.hid hE
      clear hT hT' hE ha1 hl
      have h0 : ((a : Int) < 0) = False := by simp
      go_wp2
      go_ret
      exact ⟨by rw [HE.out]; rfl, rfl⟩
    · have hu1 : ((u : Int) == 0) = false := by simp; omega
      have hT' : Hid (digs (u / 10) ++ ((⟨#[dgt (u % 10)]⟩ : ByteArray) ++ T).data.toList = digs a) := by
        have := hT.out
        rw [digs_pos hu0] at this
        show _ = _
        rw [← this, ByteArray.data_append, Array.toList_append]
        simp
      have hd := run_digit (u % 10) (by omega) w
      have hm10 : (u : Int) % 10 = ((u % 10 : Nat) : Int) := by omega
      have hq10 : (u : Int) / 10 = ((u / 10 : Nat) : Int) := by omega
      have hlt : u % 10 < 10 := by omega
      have hqu : u / 10 < u := by omega
      generalize u % 10 = d at *
      generalize u / 10 = q at *
      have hdn : decide ((d : Int) < 0) = false := by simp
      clear hT ha1 hl
      go_wp2
      go_round
      case rel => exact ⟨_, q, rfl, rfl, by omega, hT'⟩
      case measure => simp [intOf]; omega

set_option maxRecDepth 20000 in
set_option maxHeartbeats 1000000 in
theorem digits_neg (a : Nat) (ha : a ≠ 0) (hm : (a : Int) ≤ 9223372036854775808) (n : Int) (hn : n = -(a : Int)) (w : World) :
    Calls Tryz.prog 41 #[.int .i64 n] w fun e w' => e = .returned (.string ⟨(Lib.itoa n).toArray⟩) ∧ w = w' := by
  have hi : Lib.itoa n = 45 :: digs a := by
    rw [digs_dec a ha, Lib.itoa, if_pos (by omega), hn]; simp
  rw [hi]
  have hl := digs_len (u := a) (by omega)
  have H0 : Hid (digs a ++ (⟨#[]⟩ : ByteArray).data.toList = digs a) := by show _ = _; simp
  have Hn := Lib.hid hn
  have hn1 : (n == 0) = false := by simp; omega
  have hn2 : n < 0 := by omega
  clear hi hn
  go_enter Tryz.func41, Tryz.ntmps41
  go_wp2
  go_loop [3, 4] (fun s m => ∃ (T : ByteArray) (M : Int) (u : Nat), s = .string T ∧ m = .int .i64 M ∧ Hid (M = -(u : Int)) ∧ u ≤ a ∧ Hid (digs u ++ T.data.toList = digs a)) (fun _ m => (-(intOf m)).toNat)
  case atStart => exact ⟨_, n, a, rfl, rfl, Hn, Nat.le_refl _, H0⟩
  case round =>
    obtain ⟨T, M, u, rfl, rfl, hM, hu, hT⟩ := hrel
    clear H0
    have hTs : T.size ≤ 30 := by
      have h1 := congrArg List.length hT.out
      rw [List.length_append] at h1
      have h2 : T.data.toList.length = T.size := by rw [Array.length_toList]; rfl
      omega
    have hMu := hM.out
    by_cases hu0 : u = 0
    · subst hu0
      obtain rfl : M = 0 := by simpa using hMu
      have hT' := hT.out
      rw [digs_zero, List.nil_append] at hT'
      have hE : (⟨(45 :: digs a).toArray⟩ : ByteArray) = ⟨#[45]⟩ ++ T := by
        apply ByteArray.ext
        rw [ByteArray.data_append]
        apply Array.ext'
        rw [Array.toList_append, hT']
        simp
      have HE := Lib.hid hE
      clear hT hT' hE hn1 hl hM hMu
      go_wp2
      go_ret
      exact ⟨by rw [HE.out]; rfl, rfl⟩
    · have hT' : Hid (digs (u / 10) ++ ((⟨#[dgt (u % 10)]⟩ : ByteArray) ++ T).data.toList = digs a) := by
        have := hT.out
        rw [digs_pos hu0] at this
        show _ = _
        rw [← this, ByteArray.data_append, Array.toList_append]
        simp
      have hM1 : (M == 0) = false := by simp; omega
      have hM2 : -9223372036854775808 ≤ M := by omega
      have hM3 : M < 0 := by omega
      have hd := run_digit (u % 10) (by omega) w
      obtain ⟨D, hD⟩ : ∃ D, M.tmod 10 = D := ⟨_, rfl⟩
      obtain ⟨Q, hQ⟩ : ∃ Q, M.tdiv 10 = Q := ⟨_, rfl⟩
      have hD' : D = -((u % 10 : Nat) : Int) := by
        rw [← hD, hMu, Int.neg_tmod, Int.tmod_eq_emod_of_nonneg (by omega)]; omega
      have hQ' : Q = -((u / 10 : Nat) : Int) := by
        rw [← hQ, hMu, Int.neg_tdiv, Int.tdiv_eq_ediv_of_nonneg (by omega)]; omega
      have hlt : u % 10 < 10 := by omega
      have hqu : u / 10 < u := by omega
      generalize u % 10 = d at *
      generalize u / 10 = q at *
      have HQ := Lib.hid hQ'
      have hMQ : M < Q := by omega
      have hQ1 : -9223372036854775808 ≤ Q := by omega
      have hQ2 : Q ≤ 0 := by omega
      have hQ3 : Q ≤ 9223372036854775807 := by omega
      by_cases hd0 : d = 0
      · subst hd0
        obtain rfl : D = 0 := by simpa using hD'
        have hd1 : (Instr.slice 9 (.string ⟨#[48, 49, 50, 51, 52, 53, 54, 55, 56, 57]⟩) (some (.int .i64 0)) (some (.int .i64 1)) none).run Tryz.prog w = .ok (.string ⟨#[dgt 0]⟩) w := hd
        clear hT hn1 hl hM hD' hQ' hMu hd
        go_wp2
        go_round
        case rel => exact ⟨_, Q, q, rfl, rfl, HQ, by omega, hT'⟩
        case measure => simp only [intOf]; omega
      · have hDn : D < 0 := by omega
        have hDb : -10 < D := by omega
        have hDd : -D = (d : Int) := by omega
        clear hT hn1 hl hM hD' hQ'
        clear hMu
        go_wp2
        go_round
        case rel => exact ⟨_, Q, q, rfl, rfl, HQ, by omega, hT'⟩
        case measure => simp only [intOf]; omega

/-- commonplaceref03.digits -/
theorem digits_calls (n : Int) (h1 : -9223372036854775808 ≤ n) (h2 : n ≤ 9223372036854775807) (w : World) :
    Calls Tryz.prog 41 #[.int .i64 n] w fun e w' => e = .returned (.string ⟨(Lib.itoa n).toArray⟩) ∧ w = w' := by
  by_cases h0 : n = 0
  · subst h0
    have e : (⟨(Lib.itoa 0).toArray⟩ : ByteArray) = ⟨#[48]⟩ := by
      have : Lib.itoa 0 = [48] := by
        rw [Lib.itoa, if_neg (by omega)]
        exact Lib.decDigits_one (i := 0) (by omega)
      rw [this]
    rw [e]
    go_enter Tryz.func41, Tryz.ntmps41
    go_wp2
    go_ret
    exact ⟨rfl, rfl⟩
  · rcases Int.lt_or_le n 0 with h | h
    · exact digits_neg n.natAbs (by omega) (by omega) n (by omega) w
    · have := digits_pos n.toNat (by omega) (by omega) w
      rwa [show ((n.toNat : Nat) : Int) = n from by omega] at this

end Go.Proofs.YtjjbbnodmpemiaaGreatDoor

/- strings.Builder wherever it lies (a block of its own, or a field of a struct that the call made): its methods' contracts. Condition: at most 2^47 bytes. -/
namespace Go.Proofs.YtjjbbnodmpemiaaGreatDoor
open Go.RowKit Go.Shelf

/-- A strings.Builder that lies at cell o of block g, one of the call's own (from B on), whose cells are cs: it holds the bytes bs. -/
def Bld (w : World) (B g o : Nat) (t : TypeId) (cs : Array Value) (bs : List UInt8) : Prop :=
  B ≤ g ∧ w.heap[g]? = some (.cells cs t (0, 0)) ∧ t ≠ 5 ∧ o + 1 < cs.size ∧ (cs[o]? = some (.pointer none) ∨ cs[o]? = some (.pointer (some ⟨g, o, none⟩))) ∧
    ∃ v, cs[o + 1]? = some v ∧ w.ownsRow B 5 1 v bs.length (Lib.byteCells bs)

/-- The cells behind a write. -/
def bldSet (g o : Nat) (cs : Array Value) (v : Value) : Array Value := (cs.setIfInBounds o (.pointer (some ⟨g, o, none⟩))).setIfInBounds (o + 1) v

theorem Bld.lt {w : World} {B g o : Nat} {t : TypeId} {cs : Array Value} {bs : List UInt8} (h : Bld w B g o t cs bs) : g < w.heap.size := by
  rcases Nat.lt_or_ge g w.heap.size with h' | h'
  · exact h'
  · have := h.2.1; simp [Array.getElem?_eq_none h'] at this

/-- What is no cells of bytes and not block g stands as it stood. -/
abbrev Kept (g : Nat) (w w' : World) : Prop := Lib.OthersKept 5 (some g) w w'

theorem setCell_heap {w : World} {g i : Nat} {cs : Array Value} {t : TypeId} (h : w.heap[g]? = some (.cells cs t (0, 0))) (u : Value) : (w.setCell ⟨g, i, none⟩ u).heap[g]? = some (.cells (cs.setIfInBounds i u) t (0, 0)) := by
  simp [World.setCell, Array.getElem?_modify, h]

theorem Bld.used {w : World} {B g o : Nat} {t : TypeId} {cs : Array Value} {bs : List UInt8} (h : Bld w B g o t cs bs) :
    Bld (w.setCell ⟨g, o, none⟩ (.pointer (some ⟨g, o, none⟩))) B g o t (cs.setIfInBounds o (.pointer (some ⟨g, o, none⟩))) bs := by
  obtain ⟨hB, hb, ht, hs, h0, v, h1, hown⟩ := h
  refine ⟨hB, setCell_heap hb _, ht, by simpa using hs, .inr (by rw [Array.getElem?_setIfInBounds_self_of_lt (by omega)]), v, by rw [Array.getElem?_setIfInBounds, if_neg (by omega)]; exact h1, ?_⟩
  exact hown.kept (row := some g) ⟨rfl, rfl, rfl, by simp [World.setCell], fun k _ hk => Below.heap_setCell _ _ _ _ (fun e => hk (by simp [e]))⟩ (Or.inr (Lib.ownBlock_ne hown hb ht))

set_option maxHeartbeats 1000000 in
set_option maxRecDepth 100000 in
/-- (*strings.Builder).copyCheck -/
theorem copyCheck_calls (B g o : Nat) (t : TypeId) (cs : Array Value) (bs : List UInt8) (w : World) (h : Bld w B g o t cs bs) (hl : liesAt Tryz.prog Tryz.prog.depth t (cs.size / Tryz.prog.cellsOf t) o 100 1 = true) :
    Calls Tryz.prog 133 #[.pointer (some ⟨g, o, none⟩)] w fun e w' => e = .returned (.tuple #[]) ∧ Bld w' B g o t (cs.setIfInBounds o (.pointer (some ⟨g, o, none⟩))) bs ∧ Below B w w' ∧ Kept g w w' := by
  have hu := h.used
  obtain ⟨hB, hb, ht, hs, h0, v, h1, hown⟩ := h
  obtain ⟨j, hj, hj2⟩ : ∃ j, Tryz.prog.info? 100 = some j ∧ j.size = 2 := by
    have : (Tryz.prog.info? 100).map (·.size) = some 2 := by kernel_rfl
    cases hq : Tryz.prog.info? 100 with
    | none => simp [hq] at this
    | some j => exact ⟨j, rfl, by simpa [hq] using this⟩
  have hsh : w.shape? g = some (t, cs.size) := by simp [World.shape?, hb]
  rcases h0 with h0 | h0
  · have c0 : w.cell? ⟨g, o, none⟩ = some (.pointer none) := by rw [Lib.cell_of_heap hb]; exact h0
    have f0 : w.frozen? ⟨g, o, none⟩ = false := Lib.frozen_of_heap hb o
    go_enter Tryz.func133, Tryz.ntmps133
    go_wp2
    rw [Lib.run_to_unsafe (P := Tryz.prog) w (src := 98) (dst := 127) (t := 100) ⟨g, o, none⟩ Tryz.underlying98 Tryz.underlying127 hj (by omega) hsh (by show o < cs.size; omega)]
    simp only [Result.andThen]
    rw [Oper.upon_value]
    go_wp2
    rw [run_callFunc_extern Tryz.func146 (by kernel_rfl) (by kernel_rfl) (by kernel_rfl) (e := Extern.AbiNoEscape.same) (by kernel_rfl)]
    rw [Lib.run_noEscape]
    simp only [Result.andThen]
    rw [Oper.upon_value]
    go_wp2
    rw [Lib.run_from_unsafe (P := Tryz.prog) w (src := 127) (dst := 98) (u := 100) ⟨g, o, none⟩ Tryz.underlying127 Tryz.underlying98 hj hsh hl]
    simp only [Result.andThen]
    rw [Oper.upon_value]
    go_wp2
    go_end0
    exact ⟨rfl, hu, (Below.refl B w).setCell (p := ⟨g, o, none⟩) hB _, (Lib.OthersKept.refl _ _ w).setCell ⟨g, o, none⟩ rfl _⟩
  · have c0 : w.cell? ⟨g, o, none⟩ = some (.pointer (some ⟨g, o, none⟩)) := by rw [Lib.cell_of_heap hb]; exact h0
    have hself : cs.setIfInBounds o (.pointer (some ⟨g, o, none⟩)) = cs := by
      apply Array.ext_getElem?
      intro i
      rw [Array.getElem?_setIfInBounds]
      split
      · rename_i h
        subst h
        rw [if_pos (by omega), h0]
      · rfl
    have neq := Lib.run_neq_ptr_same (P := Tryz.prog) w (tp := 98) (te := 100) ⟨g, o, none⟩ Tryz.underlying98 hj
    go_enter Tryz.func133, Tryz.ntmps133
    go_wp2
    go_end0
    exact ⟨rfl, by rw [hself]; exact ⟨hB, hb, ht, hs, .inr h0, v, h1, hown⟩, Below.refl _ _, Lib.OthersKept.refl _ _ _⟩

theorem infoByte : (Tryz.prog.info? 5).map (fun i => (i.zero, i.size, i.bytes)) = some (some (.int .u8 0), 1, 1) := by kernel_rfl

/-- Behind an append: the new slice is laid into 'buf'. -/
theorem Bld.put {w1 w2 : World} {B g o : Nat} {t : TypeId} {cs : Array Value} {bs bs' : List UInt8} (h : Bld w1 B g o t (cs.setIfInBounds o (.pointer (some ⟨g, o, none⟩))) bs) (hos : o + 1 < cs.size)
    (hb2 : w2.heap[g]? = some (.cells (cs.setIfInBounds o (.pointer (some ⟨g, o, none⟩))) t (0, 0))) {v' : Value} (hown' : w2.ownsRow B 5 1 v' bs'.length (Lib.byteCells bs')) :
    Bld (w2.setCell ⟨g, o + 1, none⟩ v') B g o t (bldSet g o cs v') bs' := by
  obtain ⟨hB, _, ht, hs, h0, _⟩ := h
  refine ⟨hB, setCell_heap hb2 _, ht, by simpa [bldSet] using hs, .inr ?_, v', ?_, ?_⟩
  · unfold bldSet
    rw [Array.getElem?_setIfInBounds, if_neg (by omega), Array.getElem?_setIfInBounds_self_of_lt (by omega)]
  · unfold bldSet
    rw [Array.getElem?_setIfInBounds_self_of_lt (by simpa using hs)]
  · exact hown'.kept (row := some g) ⟨rfl, rfl, rfl, by simp [World.setCell], fun k _ hk => Below.heap_setCell _ _ _ _ (fun e => hk (by simp [e]))⟩ (Or.inr (Lib.ownBlock_ne hown' hb2 ht))

theorem ownsRow_kind {w : World} {B : Nat} {e : TypeId} {v : Value} {n : Nat} {xs : List Value} (h : w.ownsRow B e 1 v n xs) : ∀ g, v.ownBlock = some g → ∃ c fz, w.heap[g]? = some (.cells c e fz) := by
  intro g hg
  rcases h.2 with ⟨rfl, _⟩ | ⟨g', cap, cur, rfl, _, hgg, _⟩
  · simp [Value.ownBlock] at hg
  · simp [Value.ownBlock] at hg
    subst hg
    exact ⟨cur, _, hgg⟩

theorem byteCells_append (a b : List UInt8) : Lib.byteCells (a ++ b) = Lib.byteCells a ++ Lib.byteCells b := by simp [Lib.byteCells]

set_option maxHeartbeats 2000000 in
set_option maxRecDepth 100000 in
/-- (*strings.Builder).WriteString -/
theorem WriteString_calls (B g o : Nat) (t : TypeId) (cs : Array Value) (bs : List UInt8) (s : ByteArray) (w : World) (h : Bld w B g o t cs bs) (hl : liesAt Tryz.prog Tryz.prog.depth t (cs.size / Tryz.prog.cellsOf t) o 100 1 = true)
    (hlen : bs.length + s.size ≤ 140737488355328) (hBw : B ≤ w.heap.size) :
    Calls Tryz.prog 120 #[.pointer (some ⟨g, o, none⟩), .string s] w fun e w' => e = .returned (.tuple #[.int .i64 s.size, .nilIface]) ∧
      (∃ v, Bld w' B g o t (bldSet g o cs v) (bs ++ s.data.toList)) ∧ Below B w w' ∧ Kept g w w' := by
  obtain ⟨i0, hi, hz0, hz1, hz2⟩ := info_parts infoByte
  have hos : o + 1 < cs.size := h.2.2.2.1
  go_enter Tryz.func120, Tryz.ntmps120
  go_wp2_with (go_at_call 133; refine (copyCheck_calls B g o t cs bs _ h hl).mono ?_)
  rintro e w1 ⟨rfl, h1, hb1, hk1⟩
  have h1' := h1
  obtain ⟨hB, hbk, ht, hs, h0, v, hv, hown⟩ := h1
  have c1 : w1.cell? ⟨g, o + 1, none⟩ = some v := by rw [Lib.cell_of_heap hbk]; exact hv
  clear h hv h0
  go_wp2_with (at_builtin; refine Lib.wpList_append_own_string _ rfl _ _ 35 9 rfl B 5 i0 Tryz.underlying35 Tryz.underlying9 hi hz0 hz1 hz2 _ _ _ rfl hown s rfl ?c3 ?c4 ?c5 ?_)
  case c3 => unfold maxLen; omega
  case c4 => omega
  case c5 => have := hb1.size; omega
  intro v' w2 hown' hgrow _
  have hne := Lib.ownBlock_ne hown hbk ht
  have hlt : g < w1.heap.size := h1'.lt
  have hb2 : w2.heap[g]? = some (.cells (cs.setIfInBounds o (.pointer (some ⟨g, o, none⟩))) t (0, 0)) := by
    rw [hgrow.block g hlt (fun e => hne e.symm)]
    exact hbk
  have d1 : w2.cell? ⟨g, o + 1, none⟩ = some v := by rw [Lib.cell_of_heap hb2, ← Lib.cell_of_heap hbk]; exact c1
  have f1 : w2.frozen? ⟨g, o + 1, none⟩ = false := Lib.frozen_of_heap hb2 _
  have hk2 := hk1.grown hgrow (ownsRow_kind hown)
  have hbw2 := hb1.grown hgrow (by have := hb1.size; omega) (fun k hk => (hown.lt k hk).1)
  obtain ⟨ao, n', cap, rfl⟩ : ∃ ao n' cap, v' = .slice ao n' cap := by
    rcases hown'.2 with ⟨hv, _⟩ | ⟨g, cap, cur, hv, _⟩
    · exact ⟨_, _, _, hv⟩
    · exact ⟨_, _, _, hv⟩
  have hfin := Bld.put h1' hos hb2 (bs' := bs ++ s.data.toList) (v' := .slice ao n' cap) (by
    rw [byteCells_append, List.length_append]
    have e : s.data.toList.length = s.size := by rw [← Lib.size_eq]
    rw [e]
    exact hown')
  clear hown hown' hgrow c1 hbk hb2 h1' hb1 hk1 hne
  go_wp2
  go_ret2
  exact ⟨rfl, ⟨_, hfin⟩, hbw2.setCell (p := ⟨g, o + 1, none⟩) hB _, hk2.setCell ⟨g, o + 1, none⟩ rfl _⟩

set_option maxHeartbeats 2000000 in
set_option maxRecDepth 100000 in
/-- (*strings.Builder).WriteByte -/
theorem WriteByte_calls (B g o : Nat) (t : TypeId) (cs : Array Value) (bs : List UInt8) (c : Int) (hc0 : 0 ≤ c) (hc1 : c < 256) (w : World) (h : Bld w B g o t cs bs) (hl : liesAt Tryz.prog Tryz.prog.depth t (cs.size / Tryz.prog.cellsOf t) o 100 1 = true)
    (hlen : bs.length + 1 ≤ 140737488355328) (hBw : B ≤ w.heap.size) :
    Calls Tryz.prog 138 #[.pointer (some ⟨g, o, none⟩), .int .u8 c] w fun e w' => e = .returned .nilIface ∧
      (∃ v, Bld w' B g o t (bldSet g o cs v) (bs ++ [UInt8.ofNat c.toNat])) ∧ Below B w w' ∧ Kept g w w' := by
  obtain ⟨i0, hi, hz0, hz1, hz2⟩ := info_parts infoByte
  have hos : o + 1 < cs.size := h.2.2.2.1
  go_enter Tryz.func138, Tryz.ntmps138
  go_wp2_with (go_at_call 133; refine (copyCheck_calls B g o t cs bs _ h hl).mono ?_)
  rintro e w1 ⟨rfl, h1, hb1, hk1⟩
  have h1' := h1
  obtain ⟨hB, hbk, ht, hs, h0, v, hv, hown⟩ := h1
  have c1 : w1.cell? ⟨g, o + 1, none⟩ = some v := by rw [Lib.cell_of_heap hbk]; exact hv
  clear h hv h0
  go_wp2_with (at_builtin; refine wpList_append_own _ rfl _ _ 35 rfl B 5 i0 (.int .u8 0) 1 1 Tryz.underlying35 hi hz0 hz1 hz2 rfl (by decide) _ _ _ rfl (hown.alloc _) ⟨w1.heap.size, 0, none⟩ 1 1 [.int .u8 c] rfl rfl ?c1 ?c2 ?c3 ?c4 ?c5 ?_)
  case c1 =>
    intro j u hj
    match j, hj with
    | 0, hj => simp at hj; subst hj; simp [Addr.add]
  case c2 => intro u hu; simp at hu; subst hu; rfl
  case c3 => unfold maxLen; omega
  case c4 => omega
  case c5 => have := hb1.size; simp; omega
  intro v' w2 hown' hgrow _
  have hne := Lib.ownBlock_ne hown hbk ht
  have hlt : g < w1.heap.size := h1'.lt
  have hb2 : w2.heap[g]? = some (.cells (cs.setIfInBounds o (.pointer (some ⟨g, o, none⟩))) t (0, 0)) := by
    rw [hgrow.block g (by simp; omega) (fun e => hne e.symm), Lib.alloc_old w1 _ g hlt]
    exact hbk
  have d1 : w2.cell? ⟨g, o + 1, none⟩ = some v := by rw [Lib.cell_of_heap hb2, ← Lib.cell_of_heap hbk]; exact c1
  have f1 : w2.frozen? ⟨g, o + 1, none⟩ = false := Lib.frozen_of_heap hb2 _
  have hk2 := (hk1.alloc _).grown hgrow (ownsRow_kind (hown.alloc _))
  have hbw2 := (hb1.alloc (by have := hb1.size; omega) _).grown hgrow (by have := hb1.size; simp; omega) (fun k hk => (hown.lt k hk).1)
  obtain ⟨ao, n', cap, rfl⟩ : ∃ ao n' cap, v' = .slice ao n' cap := by
    rcases hown'.2 with ⟨hv, _⟩ | ⟨g, cap, cur, hv, _⟩
    · exact ⟨_, _, _, hv⟩
    · exact ⟨_, _, _, hv⟩
  have hfin := Bld.put h1' hos hb2 (bs' := bs ++ [UInt8.ofNat c.toNat]) (v' := .slice ao n' cap) (by
    rw [byteCells_append, List.length_append]
    have e : Lib.byteCells [UInt8.ofNat c.toNat] = [.int .u8 c] := by
      simp [Lib.byteCells]; omega
    rw [e]
    exact hown')
  clear hown hown' hgrow c1 hbk hb2 h1' hb1 hk1 hne
  go_wp2
  go_ret
  exact ⟨rfl, ⟨_, hfin⟩, hbw2.setCell (p := ⟨g, o + 1, none⟩) hB _, hk2.setCell ⟨g, o + 1, none⟩ rfl _⟩

theorem runeCells_bytes (r : Int) : Lib.runeCells r = Lib.byteCells (Lib.encodeRune r) := (Lib.byteCells_encodeRune r).symm

set_option maxHeartbeats 2000000 in
set_option maxRecDepth 100000 in
/-- (*strings.Builder).WriteRune -/
theorem WriteRune_calls (B g o : Nat) (t : TypeId) (cs : Array Value) (bs : List UInt8) (r : Int) (hr0 : -2147483648 ≤ r) (hr1 : r ≤ 2147483647) (w : World) (h : Bld w B g o t cs bs) (hl : liesAt Tryz.prog Tryz.prog.depth t (cs.size / Tryz.prog.cellsOf t) o 100 1 = true)
    (hlen : bs.length + 4 ≤ 140737488355328) (hBw : B ≤ w.heap.size) :
    Calls Tryz.prog 141 #[.pointer (some ⟨g, o, none⟩), .int .i32 r] w fun e w' => (∃ k : Int, e = .returned (.tuple #[.int .i64 k, .nilIface])) ∧
      (∃ v, Bld w' B g o t (bldSet g o cs v) (bs ++ Lib.encodeRune r)) ∧ Below B w w' ∧ Kept g w w' := by
  have hos : o + 1 < cs.size := h.2.2.2.1
  go_enter Tryz.func141, Tryz.ntmps141
  go_wp2_with (go_at_call 133; refine (copyCheck_calls B g o t cs bs _ h hl).mono ?_)
  rintro e w1 ⟨rfl, h1, hb1, hk1⟩
  have h1' := h1
  obtain ⟨hB, hbk, ht, hs, h0, v, hv, hown⟩ := h1
  have c1 : w1.cell? ⟨g, o + 1, none⟩ = some v := by rw [Lib.cell_of_heap hbk]; exact hv
  clear h hv h0
  obtain ⟨ao, n0, cap, rfl⟩ : ∃ ao n' cap, v = .slice ao n' cap := by
    rcases hown.2 with ⟨hv, _⟩ | ⟨g, cap, cur, hv, _⟩
    · exact ⟨_, _, _, hv⟩
    · exact ⟨_, _, _, hv⟩
  go_wp2_with (go_at_call 153; refine (Tryz.utf8_AppendRune_plain B _ _ _ r hr0 hr1 _ hown (by omega) (by have := hb1.size; omega)).mono ?_)
  rintro e w2 ⟨v', rfl, hown', ob, hgrow⟩
  have hne := Lib.ownBlock_ne hown hbk ht
  have hlt : g < w1.heap.size := h1'.lt
  have hb2 : w2.heap[g]? = some (.cells (cs.setIfInBounds o (.pointer (some ⟨g, o, none⟩))) t (0, 0)) := by
    rw [hgrow.block g (by simp; omega) (fun e => hne e.symm), Lib.alloc_old w1 _ g hlt]
    exact hbk
  have d1 : w2.cell? ⟨g, o + 1, none⟩ = some (.slice ao n0 cap) := by rw [Lib.cell_of_heap hb2, ← Lib.cell_of_heap hbk]; exact c1
  have f1 : w2.frozen? ⟨g, o + 1, none⟩ = false := Lib.frozen_of_heap hb2 _
  have hk2 := (hk1.alloc ob).grown hgrow (ownsRow_kind (hown.alloc _))
  have hbw2 := (hb1.alloc (by have := hb1.size; omega) ob).grown hgrow (by have := hb1.size; simp; omega) (fun k hk => (hown.lt k hk).1)
  obtain ⟨ao', n', cap', rfl⟩ : ∃ ao n' cap, v' = .slice ao n' cap := by
    rcases hown'.2 with ⟨hv, _⟩ | ⟨g, cap, cur, hv, _⟩
    · exact ⟨_, _, _, hv⟩
    · exact ⟨_, _, _, hv⟩
  have hfin := Bld.put h1' hos hb2 (bs' := bs ++ Lib.encodeRune r) (v' := .slice ao' n' cap') (by
    rw [byteCells_append, List.length_append]
    rw [runeCells_bytes] at hown'
    simpa [Lib.byteCells] using hown')
  have e1 : (w2.setCell ⟨g, o + 1, none⟩ (.slice ao' n' cap')).cell? ⟨g, o + 1, none⟩ = some (.slice ao' n' cap') := World.cell?_setCell_same' _ _ _ (by rw [d1]; rfl)
  clear hown hown' hgrow c1 hbk hb2 h1' hb1 hk1 hne
  go_wp2
  go_ret2
  exact ⟨⟨_, rfl⟩, ⟨_, hfin⟩, hbw2.setCell (p := ⟨g, o + 1, none⟩) hB _, hk2.setCell ⟨g, o + 1, none⟩ rfl _⟩

set_option maxHeartbeats 2000000 in
set_option maxRecDepth 100000 in
/-- (*strings.Builder).String, of a builder that holds a byte at least -/
theorem String_calls (B g o : Nat) (t : TypeId) (cs : Array Value) (l : List UInt8) (w : World) (h : Bld w B g o t cs l) (hl0 : l ≠ []) :
    Calls Tryz.prog 61 #[.pointer (some ⟨g, o, none⟩)] w fun e w' => e = .returned (.string ⟨l.toArray⟩) ∧ Below B w w' ∧ Kept g w w' := by
  obtain ⟨hB, hbk, ht, hs, h0, v, hv, hown⟩ := h
  have hl1 : l.length ≠ 0 := by simpa using hl0
  obtain ⟨gg, cap, cur, rfl, hbg, hg, hnc, hcm, hcs, htake⟩ : ∃ gg cap cur, v = .slice (some ⟨gg, 0, none⟩) l.length cap ∧ B ≤ gg ∧ w.heap[gg]? = some (.cells cur 5 (0, 0)) ∧ l.length ≤ cap ∧ cap ≤ maxLen ∧ cur.size = cap * 1 ∧ cur.toList.take (l.length * 1) = Lib.byteCells l := by
    rcases hown.2 with ⟨_, hz⟩ | ⟨gg, cap, cur, hv, r⟩
    · exact absurd hz hl1
    · exact ⟨gg, cap, cur, hv, r⟩
  have c1 : w.drew.cell? ⟨g, o + 1, none⟩ = some (.slice (some ⟨gg, 0, none⟩) l.length cap) := by
    have : w.drew.heap[g]? = some (.cells cs t (0, 0)) := hbk
    rw [Lib.cell_of_heap this]; exact hv
  have hSD : (Builtin.unsafeSliceData_ #[35] 147 #[.slice (some ⟨gg, 0, none⟩) l.length cap]).run Tryz.prog w.drew = .ok (.pointer (some ⟨gg, 0, none⟩)) w.drew :=
    Lib.run_unsafeSliceData_row _ _ _ _ _ _ (by omega)
  have hUS : (Builtin.unsafeString_ #[147, 3] 9 #[.pointer (some ⟨gg, 0, none⟩), .int .i64 l.length]).run Tryz.prog w.drew = .ok (.string ⟨l.toArray⟩) (w.drew.freeze ⟨gg, 0, none⟩ l.length) := by
    refine Lib.run_unsafeString_row w.drew 147 3 9 5 Tryz.underlying147 (by kernel_rfl) gg cur.size (by have hg' : w.drew.heap[gg]? = some (.cells cur 5 (0, 0)) := hg; simp [World.shape?, hg']) l hl0 (by omega) (by unfold maxLen at hcm; omega) ?_
    intro j x hx
    have := hown.cells (g := gg) rfl j (.int .u8 x.toNat) (by simp [Lib.byteCells, hx])
    exact this
  clear hv h0
  go_enter Tryz.func61, Tryz.ntmps61
  go_wp2
  go_region
  all_goals (go_wp2; go_ret; exact ⟨rfl, Lib.below_freeze (Below.drew (Below.refl B w)) (p := ⟨gg, 0, none⟩) hbg _, ((Lib.OthersKept.refl _ _ w).drew).freeze ⟨gg, 0, none⟩ _ ⟨cur, _, hg⟩⟩)

end Go.Proofs.YtjjbbnodmpemiaaGreatDoor

/- utf.Quote: the quote of a text. Condition: a text shorter than 10^9. -/
namespace Go.Proofs.YtjjbbnodmpemiaaGreatDoor
open Go.RowKit
attribute [local go_sem] Oper.semAt_some

/-- The letters of escapes, by their runes. -/
def letterTab : List (Int × Int) := [(34, 34), (92, 92), (8, 98), (9, 116), (10, 110), (12, 102), (13, 114)]

def ents : List (Int × Int) → Nat → List MapEntry
  | [], _ => []
  | (k, v) :: r, i => { key := .int .i32 k, val := .int .i32 v, born := i } :: ents r (i + 1)

/-- The world with one block more: a map of these. -/
def withMap (w : World) (kv : List (Int × Int)) : World := w.alloc (.map (ents kv 0).toArray kv.length)

def findKV (a : Int) : List (Int × Int) → Option Int
  | [] => none
  | (k, v) :: r => if a = k then some v else findKV a r

theorem findNow_ents (a : Int) : ∀ (kv : List (Int × Int)) (i j : Nat), ∃ q, Instr.findNow (.int .i32) (.int .i32 a) (ents kv i) j = some q ∧ q.map (·.2) = (findKV a kv).map (Value.int .i32)
  | [], _, _ => ⟨none, rfl, rfl⟩
  | (k, v) :: r, i, j => by
    by_cases h : a = k
    · subst h
      exact ⟨some (j, .int .i32 v), by simp [ents, Instr.findNow, Instr.sameNow], by simp [findKV]⟩
    · obtain ⟨q, h1, h2⟩ := findNow_ents a r (i + 1) (j + 1)
      refine ⟨q, ?_, by rw [h2]; simp [findKV, h]⟩
      have : (a == k) = false := by simpa using h
      simp [ents, Instr.findNow, Instr.sameNow, this, h1]

theorem ents_append : ∀ (kv : List (Int × Int)) (i : Nat) (k v : Int), ents (kv ++ [(k, v)]) i = ents kv i ++ [{ key := .int .i32 k, val := .int .i32 v, born := i + kv.length }]
  | [], i, k, v => by simp [ents]
  | (a, b) :: r, i, k, v => by
    simp only [List.cons_append, ents, ents_append r, List.length_cons]
    rw [show i + 1 + r.length = i + (r.length + 1) from by omega]

theorem alloc_set (w : World) (x y : Obj) : (w.alloc x).heap.setIfInBounds w.heap.size y = (w.alloc y).heap := by
  show (w.heap.push x).setIfInBounds w.heap.size y = w.heap.push y
  apply Array.ext
  · simp
  · intro i h1 h2
    rw [Array.getElem_setIfInBounds (by simpa using h1)]
    rw [Array.getElem_push, Array.getElem_push]
    by_cases hi : w.heap.size = i
    · subst hi
      simp
    · rw [if_neg hi]
      have : i < w.heap.size := by simp at h1; omega
      simp [this]

theorem run_check (e : Bool) (k : Int) (n : Nat) (w : World) : (Instr.checkKey e (n + 1) 21 (.int .i32 k)).run Tryz.prog w = .ok () w := by
  simp [Instr.checkKey, run_underlying Tryz.underlying21]

theorem run_check10 (e : Bool) (k : Int) (w : World) : (Instr.checkKey e 10000 21 (.int .i32 k)).run Tryz.prog w = .ok () w := run_check e k 9999 w

theorem run_insert (w : World) (kv : List (Int × Int)) (k v : Int) (h : findKV k kv = none) :
    (Instr.mapUpdate 186 (.map (some w.heap.size)) (.int .i32 k) (.int .i32 v)).run Tryz.prog (withMap w kv) = .ok () (withMap w (kv ++ [(k, v)])) := by
  have hb : (withMap w kv).heap[w.heap.size]? = some (.map (ents kv 0).toArray kv.length) := heap_alloc_new _ _
  obtain ⟨q, h1, h2⟩ := findNow_ents k kv 0 0
  rw [h] at h2
  have hq : q = none := by cases q <;> simp_all
  subst hq
  have hck := run_check10 false k (withMap w kv)
  have hfk : (Instr.findKey 21 (.int .i32 k) (ents kv 0)).run Tryz.prog (withMap w kv) = .ok none (withMap w kv) := by
    simp [Instr.findKey, Sem.run_bind, run_underlying Tryz.underlying21, h1]
  unfold Instr.mapUpdate
  simp only [Sem.run_bind, run_underlying Tryz.underlying186, Result.andThen, getObj, Sem.run, hb, hck, hfk, setObj]
  simp only [withMap, ents_append, List.length_append, List.length_cons, List.length_nil, Nat.zero_add]
  rw [alloc_set, List.push_toArray]
  rfl

theorem run_look (w : World) (b : Nat) (kv : List (Int × Int)) (k : Int) (hb : w.heap[b]? = some (.map (ents kv 0).toArray kv.length)) :
    (Instr.lookup 186 (.map (some b)) (.int .i32 k) true).run Tryz.prog w = .ok (.tuple #[.int .i32 ((findKV k kv).getD 0), .bool (findKV k kv).isSome]) w := by
  obtain ⟨q, h1, h2⟩ := findNow_ents k kv 0 0
  have hck := fun e => run_check10 e k w
  have hfk : (Instr.findKey 21 (.int .i32 k) (ents kv 0)).run Tryz.prog w = .ok q w := by
    simp [Instr.findKey, Sem.run_bind, run_underlying Tryz.underlying21, h1]
  unfold Instr.lookup
  simp only [Sem.run_bind, run_underlying Tryz.underlying186, Result.andThen, getObj, Sem.run, hb]
  cases q with
  | none =>
    have : findKV k kv = none := by cases hq : findKV k kv <;> simp_all
    rw [this]
    have hz : (zeroValue 21).run Tryz.prog w = .ok (.int .i32 0) w := Tryz.zeroValue21 w
    simp [hck, hfk, hz, Result.andThen]
  | some p =>
    obtain ⟨i, v⟩ := p
    obtain ⟨u, hu⟩ : ∃ u, findKV k kv = some u := by cases hq : findKV k kv <;> simp_all
    rw [hu] at h2 ⊢
    simp at h2
    subst h2
    simp [hck, hfk]

set_option maxHeartbeats 1000000 in
set_option maxRecDepth 100000 in
theorem letters_calls (w : World) :
    Calls Tryz.prog 142 #[] w fun e w' => e = .returned (.map (some w.heap.size)) ∧ withMap w letterTab = w' := by
  have hmm : (Instr.makeMap 186 none).run Tryz.prog w = .ok (.map (some w.heap.size)) (withMap w []) := run_makeMap _ w
  have u1 := run_insert w [] 34 34 rfl
  have u2 := run_insert w [(34, 34)] 92 92 rfl
  have u3 := run_insert w [(34, 34), (92, 92)] 8 98 rfl
  have u4 := run_insert w [(34, 34), (92, 92), (8, 98)] 9 116 rfl
  have u5 := run_insert w [(34, 34), (92, 92), (8, 98), (9, 116)] 10 110 rfl
  have u6 := run_insert w [(34, 34), (92, 92), (8, 98), (9, 116), (10, 110)] 12 102 rfl
  have u7 := run_insert w [(34, 34), (92, 92), (8, 98), (9, 116), (10, 110), (12, 102)] 13 114 rfl
  simp only [List.nil_append, List.cons_append] at u1 u2 u3 u4 u5 u6 u7
  go_enter Tryz.func142, Tryz.ntmps142
  go_wp2
  go_ret
  exact ⟨rfl, rfl⟩

end Go.Proofs.YtjjbbnodmpemiaaGreatDoor

/- utf.Quote: the walk. Condition: a text shorter than 10^9. -/
namespace Go.Proofs.YtjjbbnodmpemiaaGreatDoor
open Go.RowKit
attribute [local go_sem] Oper.semAt_some

def hexd (n : Nat) : UInt8 := if n < 10 then UInt8.ofNat (48 + n) else UInt8.ofNat (87 + n)

/-- How a rune is written in a quote. -/
def quoteRune (r : Nat) : List UInt8 :=
  if 32 ≤ r ∧ r ≠ 34 ∧ r ≠ 92 then Lib.encodeRune r
  else match findKV r letterTab with
    | some c => [92, UInt8.ofNat c.toNat]
    | none => [92, 117, 48, 48, hexd (r / 16), hexd (r % 16)]

def quoteRunes (l : List (Nat × Nat)) : List UInt8 := l.flatMap fun x => quoteRune x.2

theorem standsFor_calls (r : Int) (w : World) : Calls Tryz.prog 140 #[.int .i32 r] w fun e w' => e = .returned (.bool (decide (32 ≤ r ∧ r ≠ 34 ∧ r ≠ 92))) ∧ w = w' := by
  go_enter Tryz.func140, Tryz.ntmps140
  go_wp2
  all_goals go_ret
  all_goals refine ⟨ret_bool ?_, rfl⟩
  all_goals first | (simp_all; done) | (simp_all; omega) | (rw [Bool.eq_iff_iff]; simp_all)

theorem standsFor_calls2 {r : Int} {B : Bool} (h : decide (32 ≤ r ∧ r ≠ 34 ∧ r ≠ 92) = B) (w : World) : Calls Tryz.prog 140 #[.int .i32 r] w fun e w' => e = .returned (.bool B) ∧ w = w' := by
  subst h
  exact standsFor_calls _ _

theorem letters_calls2 (w : World) :
    Calls Tryz.prog 142 #[] w fun e w' => e = .returned (.map (some w.heap.size)) ∧ w.alloc (.map (ents letterTab 0).toArray letterTab.length) = w' := letters_calls w

/-- The box of 'letters': nil, or the map, which was made behind D. -/
def Letters (W : World) (lb D : Nat) (m : Option Nat) : Prop :=
  W.heap[lb]? = some (.cells #[.map m] 186 (0, 0)) ∧ ∀ mb, m = some mb → D + 1 < mb ∧ W.heap[mb]? = some (.map (ents letterTab 0).toArray letterTab.length)

theorem liesB : liesAt Tryz.prog Tryz.prog.depth 100 (2 / Tryz.prog.cellsOf 100) 0 100 1 = true := by kernel_rfl

/-- A builder in a block of its own. -/
def BB (w : World) (B g : Nat) (bs : List UInt8) : Prop := ∃ p v, Bld w B g 0 100 #[p, v] bs

theorem Bld.keep {A W : World} {B g o : Nat} {t : TypeId} {cs : Array Value} {bs : List UInt8} (h : Bld A B g o t cs bs) {row : Option Nat} (hg : A.grownBy W row) (hr : ∀ k, row = some k → ∃ ob : Obj, A.heap[k]? = some ob ∧ ob.isCells = false) : Bld W B g o t cs bs := by
  obtain ⟨hB, hb, ht, hs, h0, v, h1, hown⟩ := h
  refine ⟨hB, (grownBy_keeps_cells hg hr hb rfl).trans hb, ht, hs, h0, v, h1, hown.kept hg ?_⟩
  cases hv : v.ownBlock with
  | none => exact .inl rfl
  | some k =>
    refine .inr fun e => ?_
    obtain ⟨ob, ho, hc⟩ := hr k e.symm
    obtain ⟨c, fz, hk⟩ := ownsRow_kind hown k hv
    rw [hk] at ho
    cases ho
    cases hc
theorem below_grown {A W : World} (h : Below A.heap.size A W) : A.grownBy W none := ⟨h.os, h.tape, h.output, h.size, fun i hi _ => h.block i hi⟩
theorem BB.below {A W : World} {B g : Nat} {bs : List UInt8} (h : BB A B g bs) (hb : Below A.heap.size A W) : BB W B g bs := by
  obtain ⟨p, v, h⟩ := h
  exact ⟨p, v, h.keep (below_grown hb) (fun k e => by cases e)⟩
theorem BB.put {A : World} {B g k : Nat} {bs : List UInt8} {o o' : Obj} (h : BB A B g bs) (ho : A.heap[k]? = some o) (hc : o.isCells = false) : BB (A.putObj k o') B g bs := by
  obtain ⟨p, v, h⟩ := h
  exact ⟨p, v, h.keep (grownBy_putObj' A k o') (fun j e => by cases e; exact ⟨o, ho, hc⟩)⟩
theorem BB.lt {A : World} {B g : Nat} {bs : List UInt8} (h : BB A B g bs) : g < A.heap.size := by
  obtain ⟨p, v, h⟩ := h
  exact h.lt
theorem BB.base {A : World} {B g : Nat} {bs : List UInt8} (h : BB A B g bs) : B ≤ g := by
  obtain ⟨p, v, h⟩ := h
  exact h.1

/-- A store into a block that is no builder's. -/
theorem BB.store {A : World} {B g k : Nat} {bs : List UInt8} {cs : Array Value} {t : TypeId} (h : BB A B g bs) (hk : A.heap[k]? = some (.cells cs t (0, 0))) (ht : t ≠ 5) (hne : k ≠ g) (i : Nat) (u : Value) : BB (A.setCell ⟨k, i, none⟩ u) B g bs := by
  obtain ⟨p, v, hB, hb, ht', hs, h0, v', h1, hown⟩ := h
  refine ⟨p, v, hB, (Below.heap_setCell _ _ _ _ (fun e => hne e.symm)).trans hb, ht', hs, h0, v', h1, ?_⟩
  exact hown.kept (row := some k) ⟨rfl, rfl, rfl, by simp [World.setCell], fun j _ hj => Below.heap_setCell _ _ _ _ (fun e => hj (by simp [e]))⟩ (Or.inr (Lib.ownBlock_ne hown hk ht))

theorem bb_WriteByte {B g : Nat} {bs : List UInt8} (c : Int) (hc0 : 0 ≤ c) (hc1 : c < 256) {w : World} (h : BB w B g bs) (hlen : bs.length ≤ 100000000000) :
    Calls Tryz.prog 138 #[.pointer (some ⟨g, 0, none⟩), .int .u8 c] w fun e w' => e = .returned .nilIface ∧ BB w' B g (bs ++ [UInt8.ofNat c.toNat]) ∧ Below B w w' ∧ Kept g w w' := by
  obtain ⟨p, v, h⟩ := h
  refine (WriteByte_calls B g 0 _ _ bs c hc0 hc1 w h liesB (by omega) (by have := h.lt; have := h.1; omega)).mono ?_
  rintro e w' ⟨rfl, ⟨v', h'⟩, hb, hk⟩
  exact ⟨rfl, ⟨_, v', h'⟩, hb, hk⟩
theorem bb_WriteB {B g : Nat} {bs : List UInt8} (u : UInt8) {w : World} (h : BB w B g bs) (hlen : bs.length ≤ 100000000000) :
    Calls Tryz.prog 138 #[.pointer (some ⟨g, 0, none⟩), .int .u8 u.toNat] w fun e w' => e = .returned .nilIface ∧ BB w' B g (bs ++ [u]) ∧ Below B w w' ∧ Kept g w w' := by
  have hu := u.toNat_lt
  have h1 := bb_WriteByte (u.toNat : Int) (by omega) (by omega) h hlen
  have e : UInt8.ofNat (Int.toNat (u.toNat : Int)) = u := by rw [Int.toNat_natCast]; simp
  rwa [e] at h1
theorem hexd_at : ∀ n : Fin 16, (⟨#[48, 49, 50, 51, 52, 53, 54, 55, 56, 57, 97, 98, 99, 100, 101, 102]⟩ : ByteArray)[n.val]'(by simp [ByteArray.size]) = hexd n.val := by decide
theorem and15 : ∀ n : Fin 32, bits .and .i32 ((n.val : Nat) : Int) 15 = ((n.val : Nat) : Int) % 16 := by decide
theorem bb_WriteRune {B g : Nat} {bs : List UInt8} (r : Int) (hr0 : 0 ≤ r) (hr1 : r ≤ 2147483647) {w : World} (h : BB w B g bs) (hlen : bs.length ≤ 100000000000) :
    Calls Tryz.prog 141 #[.pointer (some ⟨g, 0, none⟩), .int .i32 r] w fun e w' => (∃ k : Int, e = .returned (.tuple #[.int .i64 k, .nilIface])) ∧ BB w' B g (bs ++ Lib.encodeRune r) ∧ Below B w w' ∧ Kept g w w' := by
  obtain ⟨p, v, h⟩ := h
  refine (WriteRune_calls B g 0 _ _ bs r (by omega) hr1 w h liesB (by omega) (by have := h.lt; have := h.1; omega)).mono ?_
  rintro e w' ⟨hk0, ⟨v', h'⟩, hb, hk⟩
  exact ⟨hk0, ⟨_, v', h'⟩, hb, hk⟩
theorem bb_WriteString {B g : Nat} {bs : List UInt8} (s : ByteArray) {w : World} (h : BB w B g bs) (hlen : bs.length + s.size ≤ 100000000000) :
    Calls Tryz.prog 120 #[.pointer (some ⟨g, 0, none⟩), .string s] w fun e w' => e = .returned (.tuple #[.int .i64 s.size, .nilIface]) ∧ BB w' B g (bs ++ s.data.toList) ∧ Below B w w' ∧ Kept g w w' := by
  obtain ⟨p, v, h⟩ := h
  refine (WriteString_calls B g 0 _ _ bs s w h liesB (by omega) (by have := h.lt; have := h.1; omega)).mono ?_
  rintro e w' ⟨rfl, ⟨v', h'⟩, hb, hk⟩
  exact ⟨rfl, ⟨_, v', h'⟩, hb, hk⟩

theorem bb_String {B g : Nat} {bs : List UInt8} {w : World} (h : BB w B g bs) (h0 : bs ≠ []) :
    Calls Tryz.prog 61 #[.pointer (some ⟨g, 0, none⟩)] w fun e w' => e = .returned (.string ⟨bs.toArray⟩) ∧ Below B w w' ∧ Kept g w w' := by
  obtain ⟨p, v, h⟩ := h
  exact String_calls B g 0 _ _ bs w h h0

theorem letters_range {a c : Int} (h : findKV a letterTab = some c) : 34 ≤ c ∧ c < 128 := by
  simp only [letterTab, findKV] at h
  repeat' split at h
  all_goals first | (cases h; done) | (simp at h; omega)
theorem encode_small {c : Int} (h0 : 0 ≤ c) (h1 : c < 128) : Lib.encodeRune c = [UInt8.ofNat c.toNat] := by
  unfold Lib.encodeRune
  rw [Lib.encodeRuneZ_one h0 (by omega)]
  rfl
theorem letters_none {r : Nat} (h : findKV r letterTab = none) (h2 : ¬(32 ≤ r ∧ r ≠ 34 ∧ r ≠ 92)) : r < 32 := by
  simp only [letterTab, findKV] at h
  repeat' split at h
  all_goals first | (cases h; done) | omega

theorem hexd_lt (n : Nat) (h : n < 16) : (hexd n).toNat = if n < 10 then 48 + n else 87 + n := by
  unfold hexd
  split <;> simp <;> omega

theorem quoteRune_len (r : Nat) : (quoteRune r).length ≤ 6 := by
  unfold quoteRune
  split
  · unfold Lib.encodeRune Lib.encodeRuneZ
    repeat' split
    all_goals simp
  · split <;> simp
theorem quoteRunes_len (l : List (Nat × Nat)) : (quoteRunes l).length ≤ 6 * l.length := by
  unfold quoteRunes
  induction l with
  | nil => simp
  | cons x r ih => simp only [List.flatMap_cons, List.length_append, List.length_cons]; have := quoteRune_len x.2; omega
theorem runesFrom_len : ∀ (n : Nat) (l : List UInt8) (p : Nat), (runesFrom n l p).length ≤ n
  | 0, _, _ => by simp [runesFrom]
  | n + 1, l, p => by
    simp only [runesFrom]
    split
    · simp
    · split
      · simp
      · simp only [List.length_cons]; have := runesFrom_len n (l.drop (Lib.decodeL l).2) (p + (Lib.decodeL l).2); omega
theorem runesFrom_le : ∀ (n : Nat) (l : List UInt8) (p : Nat), ∀ x ∈ runesFrom n l p, x.2 ≤ 1114111
  | 0, _, _, x, h => by simp [runesFrom] at h
  | n + 1, l, p, x, h => by
    simp only [runesFrom] at h
    split at h
    · simp at h
    · split at h
      · simp at h
      · rcases List.mem_cons.1 h with rfl | h
        · exact Lib.decodeL_rune l
        · exact runesFrom_le n _ _ x h

end Go.Proofs.YtjjbbnodmpemiaaGreatDoor

/- The writer of texts: join. Condition: at most 10^11 bytes. -/
namespace Go.Proofs.YtjjbbnodmpemiaaGreatDoor
open Go.RowKit

/-- A writer that has had acc: it keeps it, or counts it. -/
def Wr (W : World) (B g : Nat) (keeps : Bool) (acc : List UInt8) : Prop :=
  ∃ p v, Bld W B g 1 102 #[.bool keeps, p, v, .int .i64 (acc.length : Int)] (if keeps then acc else [])

theorem liesW : liesAt Tryz.prog Tryz.prog.depth 102 (4 / Tryz.prog.cellsOf 102) 1 100 1 = true := by kernel_rfl

theorem Bld.other {w : World} {B g o : Nat} {t : TypeId} {cs : Array Value} {bs : List UInt8} (h : Bld w B g o t cs bs) (i : Nat) (hi : i ≠ o) (hi2 : i ≠ o + 1) (u : Value) :
    Bld (w.setCell ⟨g, i, none⟩ u) B g o t (cs.setIfInBounds i u) bs := by
  obtain ⟨hB, hb, ht, hs, h0, v, h1, hown⟩ := h
  refine ⟨hB, setCell_heap hb _, ht, by simpa using hs, ?_, v, by rw [Array.getElem?_setIfInBounds, if_neg hi2]; exact h1, ?_⟩
  · rw [Array.getElem?_setIfInBounds, if_neg hi]; exact h0
  · exact hown.kept (row := some g) ⟨rfl, rfl, rfl, by simp [World.setCell], fun k _ hk => Below.heap_setCell _ _ _ _ (fun e => hk (by simp [e]))⟩ (Or.inr (Lib.ownBlock_ne hown hb ht))

theorem Wr.below {A W : World} {B g : Nat} {k : Bool} {acc : List UInt8} (h : Wr A B g k acc) (hb : Below A.heap.size A W) : Wr W B g k acc := by
  obtain ⟨p, v, h⟩ := h
  exact ⟨p, v, h.keep (below_grown hb) (fun k e => by cases e)⟩
theorem Wr.put {A : World} {B g k : Nat} {b : Bool} {acc : List UInt8} {o o' : Obj} (h : Wr A B g b acc) (ho : A.heap[k]? = some o) (hc : o.isCells = false) : Wr (A.putObj k o') B g b acc := by
  obtain ⟨p, v, h⟩ := h
  exact ⟨p, v, h.keep (grownBy_putObj' A k o') (fun j e => by cases e; exact ⟨o, ho, hc⟩)⟩
theorem Wr.lt {A : World} {B g : Nat} {k : Bool} {acc : List UInt8} (h : Wr A B g k acc) : g < A.heap.size := by
  obtain ⟨p, v, h⟩ := h
  exact h.lt
theorem Wr.base {A : World} {B g : Nat} {k : Bool} {acc : List UInt8} (h : Wr A B g k acc) : B ≤ g := by
  obtain ⟨p, v, h⟩ := h
  exact h.1

/-- The parts that were joined. -/
def flat (ss : List ByteArray) : List UInt8 := ss.flatMap fun s => s.data.toList
theorem flat_snoc (ss : List ByteArray) (s : ByteArray) : flat (ss ++ [s]) = flat ss ++ s.data.toList := by simp [flat]

set_option maxHeartbeats 2000000 in
set_option maxRecDepth 100000 in
theorem join_calls (B g : Nat) (keeps : Bool) (acc : List UInt8) (ss : List ByteArray) (b c : Nat) (w : World) (h : Wr w B g keeps acc) (hp : w.heap[b]? = some (.cells (ss.map Value.string).toArray 9 (0, 0))) (hbg : b ≠ g)
    (hlen : acc.length + (flat ss).length ≤ 50000000000) (hn : ss.length ≤ 1000) :
    Calls Tryz.prog 84 #[.pointer (some ⟨g, 0, none⟩), .slice (some ⟨b, 0, none⟩) ss.length c] w fun e w' => e = .returned (.tuple #[]) ∧ Wr w' B g keeps (acc ++ flat ss) ∧ Below B w w' ∧ Kept g w w' := by
  go_enter Tryz.func84, Tryz.ntmps84
  go_wp2
  go_loopw [8] (fun i wr => ∃ k : Nat, k ≤ ss.length ∧ i = .int .i64 k ∧ Wr wr B g keeps (acc ++ flat (ss.take k)) ∧ Below B w wr ∧ Kept g w wr) (fun i _ => ss.length - (intOf i).toNat)
  case atStart => exact ⟨0, Nat.zero_le _, rfl, by simpa [flat] using h, Below.refl _ _, Lib.OthersKept.refl _ _ _⟩
  case round =>
    obtain ⟨k, hk, rfl, hw, hb, hkp⟩ := hrel
    by_cases hlt : k < ss.length
    · obtain ⟨s, hs⟩ : ∃ s, ss[k]? = some s := ⟨_, List.getElem?_eq_getElem hlt⟩
      have htk : ss.take (k + 1) = ss.take k ++ [s] := by rw [List.take_add_one, hs]; rfl
      have hfl : (flat ss).length = (flat (ss.take k)).length + s.size + (flat (ss.drop (k + 1))).length := by
        have : ss = ss.take k ++ [s] ++ ss.drop (k + 1) := by rw [← htk, List.take_append_drop]
        have h2 := congrArg (fun l => (flat l).length) this
        simp only [flat, List.flatMap_append, List.length_append, List.flatMap_cons, List.flatMap_nil, List.append_nil] at h2 ⊢
        rw [h2, Lib.size_eq]
      have hpr := hkp _ _ hp (by simpa using hbg) (fun c fz e => by cases e)
      have cp : wr.cell? ⟨b, k, none⟩ = some (.string s) := by rw [Lib.cell_of_heap hpr]; simp [hs]
      obtain ⟨p, v, hbl⟩ := hw
      have hbl' := hbl
      obtain ⟨hB, hbk, ht, _, _, _⟩ := hbl'
      have g0 : wr.cell? ⟨g, 0, none⟩ = some (.bool keeps) := by rw [Lib.cell_of_heap hbk]; rfl
      have g3 : wr.cell? ⟨g, 3, none⟩ = some (.int .i64 ((acc ++ flat (ss.take k)).length : Int)) := by rw [Lib.cell_of_heap hbk]; rfl
      have f3 : wr.frozen? ⟨g, 3, none⟩ = false := Lib.frozen_of_heap hbk 3
      have hln : (acc ++ flat (ss.take k)).length ≤ 50000000000 := by rw [List.length_append]; omega
      have hln2 : (acc ++ flat (ss.take k)).length + s.size ≤ 50000000000 := by rw [List.length_append]; omega
      have hz := hbl.lt
      have hfin : acc ++ flat (ss.take (k + 1)) = (acc ++ flat (ss.take k)) ++ s.data.toList := by rw [htk, flat_snoc, List.append_assoc]
      generalize acc ++ flat (ss.take k) = L at *
      have Hfin := Lib.hid hfin
      have he : ((L.length : Int) + (s.size : Int)) = ((L ++ s.data.toList).length : Int) := by rw [List.length_append, ← Lib.size_eq]; omega
      have He := Lib.hid he
      clear hfin he hbk htk hfl
      cases keeps
      · have hbs : Bld (wr.setCell ⟨g, 3, none⟩ (.int .i64 ((L.length : Int) + (s.size : Int)))) B g 1 102 #[.bool false, p, v, .int .i64 ((L.length : Int) + (s.size : Int))] [] := hbl.other 3 (by omega) (by omega) _
        go_wp2
        go_roundw
        case rel =>
          refine ⟨k + 1, by omega, by go_num, ?_, hb.setCell (p := ⟨g, 3, none⟩) hB _, hkp.setCell ⟨g, 3, none⟩ rfl _⟩
          rw [Hfin.out]
          rw [He.out] at hbs ⊢
          exact ⟨p, v, hbs⟩
        case measure => simp [intOf]; omega
      · have hbs : Bld (wr.setCell ⟨g, 3, none⟩ (.int .i64 ((L.length : Int) + (s.size : Int)))) B g 1 102 #[.bool true, p, v, .int .i64 ((L.length : Int) + (s.size : Int))] L := hbl.other 3 (by omega) (by omega) _
        go_wp2_with (go_at_call 120; refine (WriteString_calls B g 1 _ _ L s _ hbs liesW (by omega) (by simp [World.setCell]; omega)).mono ?_; rintro e w2 ⟨rfl, ⟨v', hb2⟩, hbw2, hk2⟩)
        go_roundw
        case rel =>
          refine ⟨k + 1, by omega, by go_num, ?_, (hb.setCell (p := ⟨g, 3, none⟩) hB _).trans hbw2, (hkp.setCell ⟨g, 3, none⟩ rfl _).trans hk2⟩
          rw [Hfin.out]
          rw [He.out] at hb2
          exact ⟨_, v', hb2⟩
        case measure => simp [intOf]; omega
    · obtain rfl : k = ss.length := by omega
      rw [List.take_length] at hw
      have Hw := Lib.hid hw
      clear hw
      go_wp2
      go_end0
      exact ⟨rfl, Hw.out, hb, hkp⟩

end Go.Proofs.YtjjbbnodmpemiaaGreatDoor
