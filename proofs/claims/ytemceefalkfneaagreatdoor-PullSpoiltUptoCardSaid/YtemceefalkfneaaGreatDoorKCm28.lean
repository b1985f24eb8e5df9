/- Parts, joined: Objects of the call's own, given back: laws that all encoders use. Condition: a bulk of at most 9 * 10^7. The reference's keys and its zero value. Condition: a bulk of at most 10^8. keys.May, and the reference's. Condition: texts shorter than 2^63. -/
import Derived.Test.YtemceefalkfneaaGreatDoorProg
import Derived.WalkLawsBesides
import Derived.Handy
import Derived.Laws.EntriesVeiled
import Derived.Test.YtemceefalkfneaaGreatDoorKCm1
import Derived.Test.YtemceefalkfneaaGreatDoorKCm4
import Derived.Test.YtemceefalkfneaaGreatDoorKCm15
import Derived.Test.YtemceefalkfneaaGreatDoorKCm16
import Derived.Test.YtemceefalkfneaaGreatDoorKCm17
import Derived.Test.YtemceefalkfneaaGreatDoorKCm19
import Derived.Test.YtemceefalkfneaaGreatDoorKCm21
import Derived.Test.YtemceefalkfneaaGreatDoorKCm22
import Derived.Test.YtemceefalkfneaaGreatDoorKCm25
import Derived.Test.YtemceefalkfneaaGreatDoorKCm26
/- Objects of the call's own, given back: laws that all encoders use. Condition: a bulk of at most 9 * 10^7. -/
namespace Go.Proofs.YtemceefalkfneaaGreatDoor
open Go Go.RowKit

theorem holds_tvP (w : World) (B : Nat) (key s : ByteArray) : Holds w B (dP (key, tv s)) [.string key, .int .i64 4, .bool false, .int .i64 0, .string s, .slice none 0 0, .slice none 0 0] := by
  have h1 : HoldsV w B (tv s) [.int .i64 4, .bool false, .int .i64 0, .string s, .slice none 0 0, .slice none 0 0] := by
    simp only [tv, HoldsV]
    exact ⟨none, 0, none, 0, rfl, by simp, by simp⟩
  exact ⟨[.string key], _, rfl, ⟨rfl, rfl⟩, _, [], by simp, holds_of_V _ _ h1, rfl⟩
theorem holds_ivP (w : World) (B : Nat) (key : ByteArray) (n : Int) : Holds w B (dP (key, iv n)) [.string key, .int .i64 3, .bool false, .int .i64 n, .string ⟨#[]⟩, .slice none 0 0, .slice none 0 0] := by
  have h1 : HoldsV w B (iv n) [.int .i64 3, .bool false, .int .i64 n, .string ⟨#[]⟩, .slice none 0 0, .slice none 0 0] := by
    simp only [iv, HoldsV]
    exact ⟨none, 0, none, 0, rfl, by simp, by simp⟩
  exact ⟨[.string key], _, rfl, ⟨rfl, rfl⟩, _, [], by simp, holds_of_V _ _ h1, rfl⟩
/-- An object of the call's own, given back. -/
def MadePost (o : List (ByteArray × Val)) (w : World) (e : Ending) (w' : World) : Prop := Below w.heap.size w w' ∧
  ∃ la lc oa oc, e = .returned (.agg #[.int .i64 6, .bool false, .int .i64 0, .string ⟨#[]⟩, .slice la 0 lc, .slice oa o.length oc]) ∧ Fresh w.heap.size w' (dV (ov o)) [.int .i64 6, .bool false, .int .i64 0, .string ⟨#[]⟩, .slice la 0 lc, .slice oa o.length oc]
/-- value.Object of members that may stand so. -/
theorem vobj_ok (o o' : List (ByteArray × Val)) (a : Option Addr) (n c : Nat) (w : World) (h : Holds w w.heap.size (.row 7 (dO o)) [.slice a n c]) (hb : bulkO o ≤ 90000000) (ho : objAll o [] = some o') :
    Calls Tryz.prog 46 #[.slice a n c] w fun e w' => Below w.heap.size w w' ∧ ∃ la lc oa oc, e = .returned (.tuple #[.agg #[.int .i64 6, .bool false, .int .i64 0, .string ⟨#[]⟩, .slice la 0 lc, .slice oa o'.length oc], .int .i64 0]) ∧ Fresh w.heap.size w' (dV (ov o')) [.int .i64 6, .bool false, .int .i64 0, .string ⟨#[]⟩, .slice la 0 lc, .slice oa o'.length oc] := by
  refine (vobj_calls o a n c w h hb).mono ?_
  rintro e w' ⟨hb', ⟨hn, _⟩ | ⟨o2, cs, h2, rfl, hl, hf⟩⟩
  · rw [ho] at hn; cases hn
  · rw [ho] at h2
    cases h2
    have hv := holdsV_of (.mk 6 false 0 ⟨#[]⟩ [] o') _ hf.now
    simp only [HoldsV] at hv
    obtain ⟨la, lc, oa, oc, rfl, _, _⟩ := hv
    exact ⟨hb', la, lc, oa, oc, rfl, hf⟩
theorem fin_res {B R b' : Nat} {w0 w2 : World} {o : Obj} {d : D} {cs : List Value} (vs : List Value) (hb : Below B w0 w2) (hBw : B ≤ w2.heap.size) (hR : B ≤ R) (hRb : R < b') (hf : Fresh b' w2 d cs) :
    Below B w0 ((setMany w2 R 0 vs).alloc o) ∧ Fresh B ((setMany w2 R 0 vs).alloc o) d cs := by
  have h1 := setMany_below vs hb hR (o := 0)
  refine ⟨h1.alloc (by rw [setMany_size]; exact hBw) _, ?_⟩
  have h2 : Fresh B (setMany w2 R 0 vs) d cs := hf.keep (by omega) (by rw [setMany_size]; exact Nat.le_refl _) fun p p1 p2 => World.cell?_of_block (setMany_far vs _ _ _ _ (by omega))
  exact h2.later (alloc_below _ _)
theorem size3 {w w1 : World} {o o' : Obj} (h : Below ((w.alloc o).alloc o').heap.size ((w.alloc o).alloc o') w1) : w.heap.size < w1.heap.size ∧ w.heap.size + 1 < w1.heap.size := by
  have := h.size
  simp at this
  omega
/-- The result's variable, behind two calls. -/
theorem res_box {w w1 w2 : World} {o o' : Obj} (hb1 : Below ((w.alloc o).alloc (.cells zero6 52)).heap.size ((w.alloc o).alloc (.cells zero6 52)) w1) (hb2 : Below (w1.alloc o').heap.size (w1.alloc o') w2) : Blk w2 (w.heap.size + 1) 52 zero6 := by
  have h0 : Blk ((w.alloc o).alloc (.cells zero6 52)) (w.heap.size + 1) 52 zero6 := by
    have := Blk.new (w.alloc o) 52 zero6
    rwa [World.size_alloc] at this
  have h1 := (h0.below hb1 h0.lt).alloc o'
  exact h1.below hb2 h1.lt
/-- The op's own member, alone. -/
theorem op_row (W : World) (s : ByteArray) : RowD W.heap.size 57 7 (W.alloc (.cells #[.string kOp, .int .i64 4, .bool false, .int .i64 0, .string s, .slice none 0 0, .slice none 0 0] 57)) (dO [(kOp, tv s)]) (.slice (some ⟨W.heap.size, 0, none⟩) 1 1) :=
  RowD.lit (Nat.le_refl _) rfl (fun w'' B => holds_tvP w'' B kOp s)
theorem fresh_tvP (b : Nat) (w : World) (key s : ByteArray) : Fresh b w (dP (key, tv s)) [.string key, .int .i64 4, .bool false, .int .i64 0, .string s, .slice none 0 0, .slice none 0 0] := fun _ _ _ => holds_tvP _ _ _ _
theorem below_two (w : World) (o o' : Obj) : Below w.heap.size w ((w.alloc o).alloc o') := ((Below.refl w.heap.size w).alloc (Nat.le_refl _) _).alloc (by simp) _
theorem fresh_lv {b : Nat} {w : World} {vs : List Val} {a : Option Addr} {n c : Nat} (h : Fresh b w (.row 6 (dL vs)) [.slice a n c]) : Fresh b w (dV (lv vs)) [.int .i64 5, .bool false, .int .i64 0, .string ⟨#[]⟩, .slice a n c, .slice none 0 0] := fun w'' h1 h2 => by
  simp only [lv, dV, Holds]
  exact HoldsA.six.2 ⟨[.slice a n c], [.slice none 0 0], rfl, rfl, rfl, rfl, rfl, h w'' h1 h2, ⟨none, 0, rfl, by simp [dO], [], rfl, by simp [dO]⟩⟩
theorem last_none (k : ByteArray) : ∀ q, (none : Option ByteArray) = some q → leB k q = false := fun _ e => by cases e
theorem last_some {k p : ByteArray} (h : leB k p = false) : ∀ q, some p = some q → leB k q = false := fun _ e => by cases e; exact h
theorem in_iv {n : Int} (h0 : 0 ≤ n) (h1 : n ≤ 4611686018427387903) : inV (iv n) := by
  simp only [iv, inV, inL, inO]
  exact ⟨by omega, trivial, trivial⟩
theorem bulk_iv (n : Int) : (iv n).bulk = 6 := rfl
/-- A slice over a block that is known whole. -/
theorem holds_blk {w : World} {g : Nat} {t : TypeId} {cs : Array Value} {l : List D} {s n c : Nat} (h : Blk w g t cs) (hs : ∀ d ∈ l, d.cells = s) (hA : HoldsA w w.heap.size l cs.toList) (hn : n = l.length) : Holds w w.heap.size (.row s l) [.slice (some ⟨g, 0, none⟩) n c] := by
  subst hn
  exact ⟨_, c, rfl, hs, cs.toList, hA, .inr ⟨g, 0, rfl, h.lt, fun j u hu => by rw [Nat.zero_add]; exact (h.cell j).trans (by rw [← Array.getElem?_toList]; exact hu)⟩⟩
end Go.Proofs.YtemceefalkfneaaGreatDoor

/- The reference's keys and its zero value. Condition: a bulk of at most 10^8. -/
namespace Go.Proofs.YtemceefalkfneaaGreatDoor
open Go.RowKit

theorem rkey_calls (s : ByteArray) (w : World) (hs : s.size ≤ 1000000000) : Calls Tryz.prog 48 #[.string s] w fun e w' => e = .returned (.int .i64 (keyE s)) ∧ w = w' := by
  obtain ⟨B, hB⟩ : ∃ B, validB s = B := ⟨_, rfl⟩
  have hC := fun W => RValid_calls2 hB W hs
  have e0 : s.toList.isEmpty = decide (s.size = 0) := by
    rw [Lib.toList_data, Lib.size_eq]; cases s.data.toList <;> simp
  have hE : keyE s = if s.size = 0 then 8 else if 64 < s.size then 6 else if B then 0 else 3 := by
    unfold keyE
    rw [e0, hB]; simp
  have HC := Lib.hid hC
  clear hC
  clear hB e0
  by_cases h0 : s.size = 0
  · rw [if_pos h0] at hE
    have t0 : ((s.size : Int) == 0) = true := by rw [beq_iff_eq]; omega
    have HE := Lib.hid hE
    clear hE
    clear h0
    go_enter Tryz.func48, Tryz.ntmps48
    go_wp2
    go_ret
    exact ⟨by rw [HE.out]; rfl, rfl⟩
  rw [if_neg h0] at hE
  have t0 : ((s.size : Int) == 0) = false := by rw [beq_eq_false_iff_ne]; omega
  by_cases h1 : 64 < s.size
  · rw [if_pos h1] at hE
    have t1 : (64 : Int) < (s.size : Int) := by omega
    have HE := Lib.hid hE
    clear hE
    clear h0 h1
    go_enter Tryz.func48, Tryz.ntmps48
    go_wp2
    go_ret
    exact ⟨by rw [HE.out]; rfl, rfl⟩
  rw [if_neg h1] at hE
  have t1 : (s.size : Int) ≤ 64 := by omega
  have HE := Lib.hid hE
  clear hE
  clear h0 h1
  cases B with
  | true =>
    go_enter Tryz.func48, Tryz.ntmps48
    go_wp2_with (go_at_call 82; (with_reducible refine (HC.out _).mono ?_); rintro e w2 ⟨rfl, rfl⟩)
    go_ret
    exact ⟨by rw [HE.out]; rfl, rfl⟩
  | false =>
    go_enter Tryz.func48, Tryz.ntmps48
    go_wp2_with (go_at_call 82; (with_reducible refine (HC.out _).mono ?_); rintro e w2 ⟨rfl, rfl⟩)
    go_ret
    exact ⟨by rw [HE.out]; rfl, rfl⟩
abbrev zeroV : Val := .mk 0 false 0 ⟨#[]⟩ [] []
theorem zeroB_iff (v : Val) : zeroB v = true ↔ v = zeroV := by
  obtain ⟨k, b, n, t, l, o⟩ := v
  simp only [zeroB, zero6B, Bool.and_eq_true, decide_eq_true_eq, Bool.not_eq_true', List.length_eq_zero_iff, List.isEmpty_iff, Val.mk.injEq]
  constructor
  · rintro ⟨⟨⟨⟨⟨rfl, rfl⟩, rfl⟩, ht⟩, rfl⟩, rfl⟩
    refine ⟨rfl, rfl, rfl, ?_, rfl, rfl⟩
    rw [Lib.toList_data] at ht
    exact ByteArray.ext (Array.ext' ht)
  · rintro ⟨rfl, rfl, rfl, rfl, rfl, rfl⟩
    exact ⟨⟨⟨⟨⟨rfl, rfl⟩, rfl⟩, by rw [Lib.toList_data]⟩, rfl⟩, rfl⟩
theorem holds_zero (w : World) (B : Nat) : HoldsV w B zeroV [.int .i64 0, .bool false, .int .i64 0, .string ⟨#[]⟩, .slice none 0 0, .slice none 0 0] := by
  simp only [HoldsV]
  exact ⟨none, 0, none, 0, rfl, by simp, by simp⟩
/-- Is a value nothing at all, as the reference asks it? -/
theorem rzero_calls (v : Val) (cs : List Value) (w : World) (hV : HoldsV w w.heap.size v cs) (hb : v.bulk ≤ 100000000) {B : Bool} (hB : zeroB v = B) :
    Calls Tryz.prog 47 #[.agg cs.toArray, .agg #[.int .i64 0, .bool false, .int .i64 0, .string ⟨#[]⟩, .slice none 0 0, .slice none 0 0]] w fun e w' => e = .returned (.bool B) ∧ Below w.heap.size w w' := by
  refine (req_calls v zeroV cs _ w hV (holds_zero _ _) hb (by simp [Val.bulk, bulkL, bulkO, ByteArray.size])).mono ?_
  rintro e w' ⟨X, rfl, hX, hb'⟩
  refine ⟨?_, hb'⟩
  rw [← zeroB_iff, hB] at hX
  cases X <;> cases B <;> simp_all
theorem le_not (x y : List UInt8) : (Op.bytesLess x y || x == y) = !Op.bytesLess y x := by
  rcases bl_tri x y with h | h | h
  · have : Op.bytesLess y x = false := by
      cases h2 : Op.bytesLess y x with
      | false => rfl
      | true => have := bl_trans h h2; rw [bl_irrefl] at this; cases this
    simp [h, this]
  · subst h; simp [bl_irrefl]
  · have h1 : Op.bytesLess x y = false := by
      cases h2 : Op.bytesLess x y with
      | false => rfl
      | true => have := bl_trans h h2; rw [bl_irrefl] at this; cases this
    have h3 : (x == y) = false := by
      rw [beq_eq_false_iff_ne]
      rintro rfl
      rw [bl_irrefl] at h; cases h
    simp [h, h1, h3]
end Go.Proofs.YtemceefalkfneaaGreatDoor

/- keys.May, and the reference's. Condition: texts shorter than 2^63. -/
namespace Go.Proofs.YtemceefalkfneaaGreatDoor
open Go.RowKit


theorem reason1_calls (a : Addr) (s : ByteArray) (B : Bool) (w : World) (hc : w.cell? a = some (.string s)) (h : s.toList.isEmpty = B) : Calls Tryz.prog 176 #[.pointer (some a)] w fun e w' => e = .returned (.bool B) ∧ w = w' := by
  subst h
  go_enter Tryz.func176, Tryz.ntmps176
  go_wp2
  go_ret
  exact ⟨rfl, rfl⟩
theorem reason2_calls (a : Addr) (s : ByteArray) (B : Bool) (w : World) (hc : w.cell? a = some (.string s)) (h : decide (64 < (s.size : Int)) = B) : Calls Tryz.prog 177 #[.pointer (some a)] w fun e w' => e = .returned (.bool B) ∧ w = w' := by
  subst h
  go_enter Tryz.func177, Tryz.ntmps177
  go_wp2
  go_ret
  exact ⟨rfl, rfl⟩
theorem reason3_calls (a : Addr) (s : ByteArray) (B : Bool) (w : World) (hc : w.cell? a = some (.string s)) (h : validB s = B) (hs : s.size ≤ 9223372036854775807) (hT : Tabs w) : Calls Tryz.prog 178 #[.pointer (some a)] w fun e w' => e = .returned (.bool (!B)) ∧ Below w.heap.size w w' := by
  have hU := utfValid_calls2 h w hs hT
  have HU := Lib.hid hU
  clear hU
  clear h hT
  go_enter Tryz.func178, Tryz.ntmps178
  go_wp2_with (go_at_call 164; refine HU.out.mono ?_; rintro e w1 ⟨rfl, hb1⟩)
  go_ret
  exact ⟨rfl, hb1⟩

/-- The three reasons, as they lie. -/
abbrev reasonCells (g : Nat) : Array Value := #[.int .i64 8, .func (.func 176) #[] #[.pointer (some ⟨g, 0, none⟩)], .int .i64 6, .func (.func 177) #[] #[.pointer (some ⟨g, 0, none⟩)], .int .i64 3, .func (.func 178) #[] #[.pointer (some ⟨g, 0, none⟩)]]
theorem reasons_calls (s : ByteArray) (w : World) : Calls Tryz.prog 121 #[.string s] w fun e w' => e = .returned (.slice (some ⟨w.heap.size + 1, 0, none⟩) 3 3) ∧ w' = (w.alloc (.cells #[.string s] 9)).alloc (.cells (reasonCells w.heap.size) 184) := by
  go_enter Tryz.func121, Tryz.ntmps121
  go_wp2
  go_ret
  exact ⟨rfl, rfl⟩

set_option maxRecDepth 100000 in
set_option maxHeartbeats 1000000 in
theorem keysMay_calls (s : ByteArray) (w : World) (hT : Tabs w) (hs : s.size ≤ 9223372036854775807) : Calls Tryz.prog 75 #[.string s] w fun e w' => e = .returned (.int .i64 (keyE s)) ∧ Below w.heap.size w w' := by
  obtain ⟨b1, hb1⟩ : ∃ b, s.toList.isEmpty = b := ⟨_, rfl⟩
  obtain ⟨b2, hb2⟩ : ∃ b, decide (64 < (s.size : Int)) = b := ⟨_, rfl⟩
  obtain ⟨b3, hb3⟩ : ∃ b, validB s = b := ⟨_, rfl⟩
  have hE : keyE s = if b1 then 8 else if b2 then 6 else if b3 then 0 else 3 := by
    unfold keyE
    rw [hb1, hb3, ← hb2]
    by_cases h : 64 < s.size
    · have h' : 64 < (s.size : Int) := by omega
      simp [h, h']
    · have h' : ¬ 64 < (s.size : Int) := by omega
      simp [h, h']
  have h1 := fun W (hc : Blk W w.heap.size 9 #[.string s]) => reason1_calls ⟨w.heap.size, 0, none⟩ s b1 W (hc.cell 0) hb1
  have h2 := fun W (hc : Blk W w.heap.size 9 #[.string s]) => reason2_calls ⟨w.heap.size, 0, none⟩ s b2 W (hc.cell 0) hb2
  have h3 := fun W (hc : Blk W w.heap.size 9 #[.string s]) hB => reason3_calls ⟨w.heap.size, 0, none⟩ s b3 W (hc.cell 0) hb3 hs (hT.below hB)
  have H1 := Lib.hid h1
  have H2 := Lib.hid h2
  have H3 := Lib.hid h3
  have HE := Lib.hid hE
  clear h1 h2 h3 hE
  clear hb1 hb2 hb3 hT
  go_enter Tryz.func75, Tryz.ntmps75
  go_wp2_with (fail)
  with_reducible refine (reasons_calls s _).mono ?_
  rintro e w1 ⟨rfl, rfl⟩
  go_wp2_with (fail)
  refine wp_loop_rounds 4 ?_
  cases b1 with
  | true =>
    rw [rounds_succ]
    go_wp2_with (go_at_call 176; refine (H1.out _ ?_).mono ?_; (repeat (first | exact Blk.new _ _ _ | refine Blk.alloc ?_ _)); rintro e w2 ⟨rfl, rfl⟩)
    go_ret
    exact ⟨by rw [HE.out]; rfl, by go_grown⟩
  | false =>
    rw [rounds_succ]
    go_wp2_with (go_at_call 176; refine (H1.out _ ?_).mono ?_; (repeat (first | exact Blk.new _ _ _ | refine Blk.alloc ?_ _)); rintro e w2 ⟨rfl, rfl⟩)
    rw [rounds_succ]
    cases b2 with
    | true =>
      go_wp2_with (go_at_call 177; refine (H2.out _ ?_).mono ?_; (repeat (first | exact Blk.new _ _ _ | refine Blk.alloc ?_ _)); rintro e w2 ⟨rfl, rfl⟩)
      go_ret
      exact ⟨by rw [HE.out]; rfl, by go_grown⟩
    | false =>
      go_wp2_with (go_at_call 177; refine (H2.out _ ?_).mono ?_; (repeat (first | exact Blk.new _ _ _ | refine Blk.alloc ?_ _)); rintro e w2 ⟨rfl, rfl⟩)
      rw [rounds_succ]
      cases b3 with
      | false =>
        go_wp2_with (go_at_call 178; refine (H3.out _ ?_ ?_).mono ?_; (repeat (first | exact Blk.new _ _ _ | refine Blk.alloc ?_ _)); (go_grown); rintro e w2 ⟨rfl, hb2⟩; obtain ⟨hc2, hf2⟩ := bcell hb2)
        go_ret
        exact ⟨by rw [HE.out]; rfl, ((((alloc_below _ _).alloc (by simp) _).alloc (by simp; omega) _).alloc (by simp; omega) _).alloc (by simp; omega) _ |>.trans (hb2.mono (by simp; omega))⟩
      | true =>
        go_wp2_with (go_at_call 178; refine (H3.out _ ?_ ?_).mono ?_; (repeat (first | exact Blk.new _ _ _ | refine Blk.alloc ?_ _)); (go_grown); rintro e w2 ⟨rfl, hb2⟩; obtain ⟨hc2, hf2⟩ := bcell hb2)
        rw [rounds_succ]
        go_wp2
        go_ret
        exact ⟨by rw [HE.out]; rfl, ((((alloc_below _ _).alloc (by simp) _).alloc (by simp; omega) _).alloc (by simp; omega) _).alloc (by simp; omega) _ |>.trans (hb2.mono (by simp; omega))⟩
end Go.Proofs.YtemceefalkfneaaGreatDoor
