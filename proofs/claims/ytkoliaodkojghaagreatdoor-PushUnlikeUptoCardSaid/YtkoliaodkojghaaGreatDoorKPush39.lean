/- Parts, joined: The reference's keys and its zero value. Condition: a bulk of at most 10^8. keys.May, and the reference's. Condition: texts shorter than 2^63. What the program and the reference ask of a mutator's fields is the same. Plain. No condition. -/
import Derived.Test.YtkoliaodkojghaaGreatDoorProg
import Derived.WalkLawsBesides
import Derived.Handy
import Derived.Laws.EntriesVeiled
import Derived.Test.YtkoliaodkojghaaGreatDoorKPush2
import Derived.Test.YtkoliaodkojghaaGreatDoorKPush7
import Derived.Test.YtkoliaodkojghaaGreatDoorKPush24
import Derived.Test.YtkoliaodkojghaaGreatDoorKPush34
import Derived.Test.YtkoliaodkojghaaGreatDoorKPush35
import Derived.Test.YtkoliaodkojghaaGreatDoorKPush37
/- The reference's keys and its zero value. Condition: a bulk of at most 10^8. -/
namespace Go.Proofs.YtkoliaodkojghaaGreatDoor
open Go.RowKit

theorem rkey_calls (s : ByteArray) (w : World) (hs : s.size ≤ 1000000000) : Calls Tryz.prog 95 #[.string s] w fun e w' => e = .returned (.int .i64 (keyE s)) ∧ w = w' := by
  obtain ⟨B, hB⟩ : ∃ B, validB s = B := ⟨_, rfl⟩
  have hC := fun W => RValid_calls2 hB W hs
  have e0 : s.toList.isEmpty = decide (s.size = 0) := by
    rw [Lib.toList_data, Lib.size_eq]; cases s.data.toList <;> simp
  have hE : keyE s = if s.size = 0 then 8 else if 64 < s.size then 6 else if B then 0 else 3 := by
    unfold keyE
    rw [e0, hB]; simp
  have HC := Lib.hid hC
  clear hC
  clear hB e0
  by_cases h0 : s.size = 0
  · rw [if_pos h0] at hE
    have t0 : ((s.size : Int) == 0) = true := by rw [beq_iff_eq]; omega
    have HE := Lib.hid hE
    clear hE
    clear h0
    go_enter Tryz.func95, Tryz.ntmps95
    go_wp2
    go_ret
    exact ⟨by rw [HE.out]; rfl, rfl⟩
  rw [if_neg h0] at hE
  have t0 : ((s.size : Int) == 0) = false := by rw [beq_eq_false_iff_ne]; omega
  by_cases h1 : 64 < s.size
  · rw [if_pos h1] at hE
    have t1 : (64 : Int) < (s.size : Int) := by omega
    have HE := Lib.hid hE
    clear hE
    clear h0 h1
    go_enter Tryz.func95, Tryz.ntmps95
    go_wp2
    go_ret
    exact ⟨by rw [HE.out]; rfl, rfl⟩
  rw [if_neg h1] at hE
  have t1 : (s.size : Int) ≤ 64 := by omega
  have HE := Lib.hid hE
  clear hE
  clear h0 h1
  cases B with
  | true =>
    go_enter Tryz.func95, Tryz.ntmps95
    go_wp2_with (go_at_call 82; (with_reducible refine (HC.out _).mono ?_); rintro e w2 ⟨rfl, rfl⟩)
    go_ret
    exact ⟨by rw [HE.out]; rfl, rfl⟩
  | false =>
    go_enter Tryz.func95, Tryz.ntmps95
    go_wp2_with (go_at_call 82; (with_reducible refine (HC.out _).mono ?_); rintro e w2 ⟨rfl, rfl⟩)
    go_ret
    exact ⟨by rw [HE.out]; rfl, rfl⟩
abbrev zeroV : Val := .mk 0 false 0 ⟨#[]⟩ [] []
theorem zeroB_iff (v : Val) : zeroB v = true ↔ v = zeroV := by
  obtain ⟨k, b, n, t, l, o⟩ := v
  simp only [zeroB, zero6B, Bool.and_eq_true, decide_eq_true_eq, Bool.not_eq_true', List.length_eq_zero_iff, List.isEmpty_iff, Val.mk.injEq]
  constructor
  · rintro ⟨⟨⟨⟨⟨rfl, rfl⟩, rfl⟩, ht⟩, rfl⟩, rfl⟩
    refine ⟨rfl, rfl, rfl, ?_, rfl, rfl⟩
    rw [Lib.toList_data] at ht
    exact ByteArray.ext (Array.ext' ht)
  · rintro ⟨rfl, rfl, rfl, rfl, rfl, rfl⟩
    exact ⟨⟨⟨⟨⟨rfl, rfl⟩, rfl⟩, by rw [Lib.toList_data]⟩, rfl⟩, rfl⟩
theorem holds_zero (w : World) (B : Nat) : HoldsV w B zeroV [.int .i64 0, .bool false, .int .i64 0, .string ⟨#[]⟩, .slice none 0 0, .slice none 0 0] := by
  simp only [HoldsV]
  exact ⟨none, 0, none, 0, rfl, by simp, by simp⟩
/-- Is a value nothing at all, as the reference asks it? -/
theorem rzero_calls (v : Val) (cs : List Value) (w : World) (hV : HoldsV w w.heap.size v cs) (hb : v.bulk ≤ 100000000) {B : Bool} (hB : zeroB v = B) :
    Calls Tryz.prog 86 #[.agg cs.toArray, .agg #[.int .i64 0, .bool false, .int .i64 0, .string ⟨#[]⟩, .slice none 0 0, .slice none 0 0]] w fun e w' => e = .returned (.bool B) ∧ Below w.heap.size w w' := by
  refine (req_calls v zeroV cs _ w hV (holds_zero _ _) hb (by simp [Val.bulk, bulkL, bulkO, ByteArray.size])).mono ?_
  rintro e w' ⟨X, rfl, hX, hb'⟩
  refine ⟨?_, hb'⟩
  rw [← zeroB_iff, hB] at hX
  cases X <;> cases B <;> simp_all
theorem le_not (x y : List UInt8) : (Op.bytesLess x y || x == y) = !Op.bytesLess y x := by
  rcases bl_tri x y with h | h | h
  · have : Op.bytesLess y x = false := by
      cases h2 : Op.bytesLess y x with
      | false => rfl
      | true => have := bl_trans h h2; rw [bl_irrefl] at this; cases this
    simp [h, this]
  · subst h; simp [bl_irrefl]
  · have h1 : Op.bytesLess x y = false := by
      cases h2 : Op.bytesLess x y with
      | false => rfl
      | true => have := bl_trans h h2; rw [bl_irrefl] at this; cases this
    have h3 : (x == y) = false := by
      rw [beq_eq_false_iff_ne]
      rintro rfl
      rw [bl_irrefl] at h; cases h
    simp [h, h1, h3]
end Go.Proofs.YtkoliaodkojghaaGreatDoor

/- keys.May, and the reference's. Condition: texts shorter than 2^63. -/
namespace Go.Proofs.YtkoliaodkojghaaGreatDoor
open Go.RowKit


theorem reason1_calls (a : Addr) (s : ByteArray) (B : Bool) (w : World) (hc : w.cell? a = some (.string s)) (h : s.toList.isEmpty = B) : Calls Tryz.prog 173 #[.pointer (some a)] w fun e w' => e = .returned (.bool B) ∧ w = w' := by
  subst h
  go_enter Tryz.func173, Tryz.ntmps173
  go_wp2
  go_ret
  exact ⟨rfl, rfl⟩
theorem reason2_calls (a : Addr) (s : ByteArray) (B : Bool) (w : World) (hc : w.cell? a = some (.string s)) (h : decide (64 < (s.size : Int)) = B) : Calls Tryz.prog 174 #[.pointer (some a)] w fun e w' => e = .returned (.bool B) ∧ w = w' := by
  subst h
  go_enter Tryz.func174, Tryz.ntmps174
  go_wp2
  go_ret
  exact ⟨rfl, rfl⟩
theorem reason3_calls (a : Addr) (s : ByteArray) (B : Bool) (w : World) (hc : w.cell? a = some (.string s)) (h : validB s = B) (hs : s.size ≤ 9223372036854775807) (hT : Tabs w) : Calls Tryz.prog 175 #[.pointer (some a)] w fun e w' => e = .returned (.bool (!B)) ∧ Below w.heap.size w w' := by
  have hU := utfValid_calls2 h w hs hT
  have HU := Lib.hid hU
  clear hU
  clear h hT
  go_enter Tryz.func175, Tryz.ntmps175
  go_wp2_with (go_at_call 120; refine HU.out.mono ?_; rintro e w1 ⟨rfl, hb1⟩)
  go_ret
  exact ⟨rfl, hb1⟩

/-- The three reasons, as they lie. -/
abbrev reasonCells (g : Nat) : Array Value := #[.int .i64 8, .func (.func 173) #[] #[.pointer (some ⟨g, 0, none⟩)], .int .i64 6, .func (.func 174) #[] #[.pointer (some ⟨g, 0, none⟩)], .int .i64 3, .func (.func 175) #[] #[.pointer (some ⟨g, 0, none⟩)]]
theorem reasons_calls (s : ByteArray) (w : World) : Calls Tryz.prog 129 #[.string s] w fun e w' => e = .returned (.slice (some ⟨w.heap.size + 1, 0, none⟩) 3 3) ∧ w' = (w.alloc (.cells #[.string s] 9)).alloc (.cells (reasonCells w.heap.size) 183) := by
  go_enter Tryz.func129, Tryz.ntmps129
  go_wp2
  go_ret
  exact ⟨rfl, rfl⟩

set_option maxRecDepth 100000 in
set_option maxHeartbeats 1000000 in
theorem keysMay_calls (s : ByteArray) (w : World) (hT : Tabs w) (hs : s.size ≤ 9223372036854775807) : Calls Tryz.prog 90 #[.string s] w fun e w' => e = .returned (.int .i64 (keyE s)) ∧ Below w.heap.size w w' := by
  obtain ⟨b1, hb1⟩ : ∃ b, s.toList.isEmpty = b := ⟨_, rfl⟩
  obtain ⟨b2, hb2⟩ : ∃ b, decide (64 < (s.size : Int)) = b := ⟨_, rfl⟩
  obtain ⟨b3, hb3⟩ : ∃ b, validB s = b := ⟨_, rfl⟩
  have hE : keyE s = if b1 then 8 else if b2 then 6 else if b3 then 0 else 3 := by
    unfold keyE
    rw [hb1, hb3, ← hb2]
    by_cases h : 64 < s.size
    · have h' : 64 < (s.size : Int) := by omega
      simp [h, h']
    · have h' : ¬ 64 < (s.size : Int) := by omega
      simp [h, h']
  have h1 := fun W (hc : Blk W w.heap.size 9 #[.string s]) => reason1_calls ⟨w.heap.size, 0, none⟩ s b1 W (hc.cell 0) hb1
  have h2 := fun W (hc : Blk W w.heap.size 9 #[.string s]) => reason2_calls ⟨w.heap.size, 0, none⟩ s b2 W (hc.cell 0) hb2
  have h3 := fun W (hc : Blk W w.heap.size 9 #[.string s]) hB => reason3_calls ⟨w.heap.size, 0, none⟩ s b3 W (hc.cell 0) hb3 hs (hT.below hB)
  have H1 := Lib.hid h1
  have H2 := Lib.hid h2
  have H3 := Lib.hid h3
  have HE := Lib.hid hE
  clear h1 h2 h3 hE
  clear hb1 hb2 hb3 hT
  go_enter Tryz.func90, Tryz.ntmps90
  go_wp2_with (fail)
  with_reducible refine (reasons_calls s _).mono ?_
  rintro e w1 ⟨rfl, rfl⟩
  go_wp2_with (fail)
  refine wp_loop_rounds 4 ?_
  cases b1 with
  | true =>
    rw [rounds_succ]
    go_wp2_with (go_at_call 173; refine (H1.out _ ?_).mono ?_; (repeat (first | exact Blk.new _ _ _ | refine Blk.alloc ?_ _)); rintro e w2 ⟨rfl, rfl⟩)
    go_ret
    exact ⟨by rw [HE.out]; rfl, by go_grown⟩
  | false =>
    rw [rounds_succ]
    go_wp2_with (go_at_call 173; refine (H1.out _ ?_).mono ?_; (repeat (first | exact Blk.new _ _ _ | refine Blk.alloc ?_ _)); rintro e w2 ⟨rfl, rfl⟩)
    rw [rounds_succ]
    cases b2 with
    | true =>
      go_wp2_with (go_at_call 174; refine (H2.out _ ?_).mono ?_; (repeat (first | exact Blk.new _ _ _ | refine Blk.alloc ?_ _)); rintro e w2 ⟨rfl, rfl⟩)
      go_ret
      exact ⟨by rw [HE.out]; rfl, by go_grown⟩
    | false =>
      go_wp2_with (go_at_call 174; refine (H2.out _ ?_).mono ?_; (repeat (first | exact Blk.new _ _ _ | refine Blk.alloc ?_ _)); rintro e w2 ⟨rfl, rfl⟩)
      rw [rounds_succ]
      cases b3 with
      | false =>
        go_wp2_with (go_at_call 175; refine (H3.out _ ?_ ?_).mono ?_; (repeat (first | exact Blk.new _ _ _ | refine Blk.alloc ?_ _)); (go_grown); rintro e w2 ⟨rfl, hb2⟩; obtain ⟨hc2, hf2⟩ := bcell hb2)
        go_ret
        exact ⟨by rw [HE.out]; rfl, ((((alloc_below _ _).alloc (by simp) _).alloc (by simp; omega) _).alloc (by simp; omega) _).alloc (by simp; omega) _ |>.trans (hb2.mono (by simp; omega))⟩
      | true =>
        go_wp2_with (go_at_call 175; refine (H3.out _ ?_ ?_).mono ?_; (repeat (first | exact Blk.new _ _ _ | refine Blk.alloc ?_ _)); (go_grown); rintro e w2 ⟨rfl, hb2⟩; obtain ⟨hc2, hf2⟩ := bcell hb2)
        rw [rounds_succ]
        go_wp2
        go_ret
        exact ⟨by rw [HE.out]; rfl, ((((alloc_below _ _).alloc (by simp) _).alloc (by simp; omega) _).alloc (by simp; omega) _).alloc (by simp; omega) _ |>.trans (hb2.mono (by simp; omega))⟩
end Go.Proofs.YtkoliaodkojghaaGreatDoor

/- What the program and the reference ask of a mutator's fields is the same. Plain. No condition. -/
namespace Go.Proofs.YtkoliaodkojghaaGreatDoor
open Go.RowKit

/-- Is something wrong with a mutator's fields? As the program asks it. -/
def strangeF (k : Int) (dst : ByteArray) (n : Int) (had wasZ has valZ : Bool) (ln : Nat) : Bool :=
  if (!had && !wasZ) = true then true
  else if k = 1 ∨ k = 5 then !(dst.toList.isEmpty && decide (n = 0) && !had && wasZ && !has && decide (ln = 0))
  else if k = 2 then !(dst.toList.isEmpty && decide (n = 0) && !had && wasZ && !has && valZ && decide (ln = 0))
  else if k = 3 then !(dst.toList.isEmpty && !had && wasZ && !has && valZ && decide (ln = 0))
  else if k = 4 then (!has && !valZ) || !(dst.toList.isEmpty && decide (n = 0) && decide (ln = 0))
  else if k = 6 then !(decide (n = 0) && !had && wasZ && !has && valZ && decide (ln = 0))
  else if k = 7 then !(dst.toList.isEmpty && decide (n = 0) && !has && valZ)
  else true
theorem strange_bare (k : Int) (dst : ByteArray) (n : Int) (had wasZ has valZ : Bool) (ln : Nat) : strangeF k dst n had wasZ has valZ ln = !bareF k dst n had wasZ has valZ ln := by
  unfold strangeF bareF
  generalize dst.toList.isEmpty = e
  generalize hz : decide (n = 0) = z
  generalize hy : decide (ln = 0) = y
  by_cases h1 : k = 1
  · subst h1; simp; cases e <;> cases z <;> cases y <;> cases had <;> cases wasZ <;> cases has <;> cases valZ <;> rfl
  by_cases h5 : k = 5
  · subst h5; simp; cases e <;> cases z <;> cases y <;> cases had <;> cases wasZ <;> cases has <;> cases valZ <;> rfl
  by_cases h2 : k = 2
  · subst h2; simp; cases e <;> cases z <;> cases y <;> cases had <;> cases wasZ <;> cases has <;> cases valZ <;> rfl
  by_cases h3 : k = 3
  · subst h3; simp; cases e <;> cases z <;> cases y <;> cases had <;> cases wasZ <;> cases has <;> cases valZ <;> rfl
  by_cases h4 : k = 4
  · subst h4; simp; cases e <;> cases z <;> cases y <;> cases had <;> cases wasZ <;> cases has <;> cases valZ <;> rfl
  by_cases h6 : k = 6
  · subst h6; simp; cases e <;> cases z <;> cases y <;> cases had <;> cases wasZ <;> cases has <;> cases valZ <;> rfl
  by_cases h7 : k = 7
  · subst h7; simp; cases e <;> cases z <;> cases y <;> cases had <;> cases wasZ <;> cases has <;> cases valZ <;> rfl
  have : (decide (1 ≤ k) && decide (k ≤ 7)) = false := by simp; omega
  simp [h1, h2, h3, h4, h5, h6, h7, this]
end Go.Proofs.YtkoliaodkojghaaGreatDoor
