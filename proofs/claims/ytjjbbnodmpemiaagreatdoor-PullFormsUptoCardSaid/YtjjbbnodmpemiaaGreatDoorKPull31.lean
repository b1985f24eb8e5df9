/- Parts, joined: A patch's ops as data, and why a list of them may not be a patch. Plain. No condition. keys.May, and the reference's. Condition: texts shorter than 2^63. -/
import Derived.Test.YtjjbbnodmpemiaaGreatDoorProg
import Derived.Handy
import Derived.Laws.EntriesVeiled
import Derived.Test.YtjjbbnodmpemiaaGreatDoorKPull1
import Derived.Test.YtjjbbnodmpemiaaGreatDoorKPull6
import Derived.Test.YtjjbbnodmpemiaaGreatDoorKPull20
import Derived.Test.YtjjbbnodmpemiaaGreatDoorKPull23
import Derived.Test.YtjjbbnodmpemiaaGreatDoorKPull26
import Derived.Test.YtjjbbnodmpemiaaGreatDoorKPull29
/- A patch's ops as data, and why a list of them may not be a patch. Plain. No condition. -/
namespace Go.Proofs.YtjjbbnodmpemiaaGreatDoor
open Go.RowKit

structure POp where
  k : Int
  key : ByteArray
  v : Val

def dQ (p : POp) : D := .agg [.leaf (.int .i64 p.k), .leaf (.string p.key), dV p.v]
theorem dQ_cells (p : POp) : (dQ p).cells = 8 := by simp only [dQ, D.cells, cellsA, dV_cells]
def dQs (l : List POp) : List D := l.map dQ
theorem dQs_cells (l : List POp) : ∀ d ∈ dQs l, d.cells = 8 := by
  intro d hd
  obtain ⟨v, _, rfl⟩ := List.mem_map.1 hd
  exact dQ_cells v
theorem dQs_len (l : List POp) : (dQs l).length = l.length := List.length_map ..
def bulkQ : List POp → Nat
  | [] => 0
  | p :: r => 2 + p.key.size + p.v.bulk + bulkQ r
theorem bulkQ_mem {l : List POp} {p : POp} (h : p ∈ l) : 2 + p.key.size + p.v.bulk ≤ bulkQ l := by
  induction l with
  | nil => cases h
  | cons x r ih =>
    simp only [bulkQ]
    rcases List.mem_cons.1 h with rfl | h
    · omega
    · have := ih h; omega
theorem bulkQ_len (l : List POp) : 8 * l.length ≤ bulkQ l := by
  induction l with
  | nil => simp [bulkQ]
  | cons x r ih => simp only [bulkQ, List.length_cons]; have := x.v.bulk_pos; omega
def inQ (l : List POp) : Prop := ∀ p ∈ l, inV p.v

/-- May a text be a key? -/
def keyB (k : ByteArray) : Bool := !k.toList.isEmpty && (decide (k.size ≤ 64) && validB k)
/-- Why it may not. -/
def keyE (k : ByteArray) : Int := if k.toList.isEmpty then 8 else if 64 < k.size then 6 else if validB k then 0 else 3
theorem keyE_zero (k : ByteArray) : keyE k = 0 ↔ keyB k = true := by
  unfold keyE keyB
  cases k.toList.isEmpty <;> by_cases h : 64 < k.size <;> cases validB k <;> simp [h] <;> omega
/-- Has a value nothing, not even a Kind? -/
def zeroB : Val → Bool
  | .mk k b n t l o => zero6B k b n t l.length o.length
def strangeB (p : POp) : Bool := if p.k = 1 then false else if p.k = 2 then !zeroB p.v else if p.k = 3 then !p.key.toList.isEmpty || !zeroB p.v else true
def followsB (q p : POp) : Bool := decide (p.k ≠ 3) && (decide (q.k = 3) || Op.bytesLess q.key.toList p.key.toList)
/-- Why ops behind another one may not be a patch. -/
def mayOps : Option POp → List POp → Int
  | _, [] => 0
  | prev, p :: r =>
    if strangeB p || prev.any (fun q => !followsB q p) then 2
    else if p.k = 3 then mayOps (some p) r
    else if keyB p.key = false then 8
    else if p.k = 2 then mayOps (some p) r
    else if fitsV p.v = 0 then mayOps (some p) r else fitsV p.v

end Go.Proofs.YtjjbbnodmpemiaaGreatDoor

/- keys.May, and the reference's. Condition: texts shorter than 2^63. -/
namespace Go.Proofs.YtjjbbnodmpemiaaGreatDoor
open Go.RowKit


theorem reason1_calls (a : Addr) (s : ByteArray) (B : Bool) (w : World) (hc : w.cell? a = some (.string s)) (h : s.toList.isEmpty = B) : Calls Tryz.prog 70 #[.pointer (some a)] w fun e w' => e = .returned (.bool B) ∧ w = w' := by
  subst h
  go_enter Tryz.func70, Tryz.ntmps70
  go_wp2
  go_ret
  exact ⟨rfl, rfl⟩
theorem reason2_calls (a : Addr) (s : ByteArray) (B : Bool) (w : World) (hc : w.cell? a = some (.string s)) (h : decide (64 < (s.size : Int)) = B) : Calls Tryz.prog 71 #[.pointer (some a)] w fun e w' => e = .returned (.bool B) ∧ w = w' := by
  subst h
  go_enter Tryz.func71, Tryz.ntmps71
  go_wp2
  go_ret
  exact ⟨rfl, rfl⟩
theorem reason3_calls (a : Addr) (s : ByteArray) (B : Bool) (w : World) (hc : w.cell? a = some (.string s)) (h : validB s = B) (hs : s.size ≤ 9223372036854775807) (hT : Tabs w) : Calls Tryz.prog 72 #[.pointer (some a)] w fun e w' => e = .returned (.bool (!B)) ∧ Below w.heap.size w w' := by
  have hU := utfValid_calls2 h w hs hT
  have HU := Lib.hid hU
  clear hU
  clear h hT
  go_enter Tryz.func72, Tryz.ntmps72
  go_wp2_with (go_at_call 73; refine HU.out.mono ?_; rintro e w1 ⟨rfl, hb1⟩)
  go_ret
  exact ⟨rfl, hb1⟩

/-- The three reasons, as they lie. -/
abbrev reasonCells (g : Nat) : Array Value := #[.int .i64 8, .func (.func 70) #[] #[.pointer (some ⟨g, 0, none⟩)], .int .i64 6, .func (.func 71) #[] #[.pointer (some ⟨g, 0, none⟩)], .int .i64 3, .func (.func 72) #[] #[.pointer (some ⟨g, 0, none⟩)]]
theorem reasons_calls (s : ByteArray) (w : World) : Calls Tryz.prog 48 #[.string s] w fun e w' => e = .returned (.slice (some ⟨w.heap.size + 1, 0, none⟩) 3 3) ∧ w' = (w.alloc (.cells #[.string s] 9)).alloc (.cells (reasonCells w.heap.size) 92) := by
  go_enter Tryz.func48, Tryz.ntmps48
  go_wp2
  go_ret
  exact ⟨rfl, rfl⟩

set_option maxRecDepth 100000 in
set_option maxHeartbeats 1000000 in
theorem keysMay_calls (s : ByteArray) (w : World) (hT : Tabs w) (hs : s.size ≤ 9223372036854775807) : Calls Tryz.prog 31 #[.string s] w fun e w' => e = .returned (.int .i64 (keyE s)) ∧ Below w.heap.size w w' := by
  obtain ⟨b1, hb1⟩ : ∃ b, s.toList.isEmpty = b := ⟨_, rfl⟩
  obtain ⟨b2, hb2⟩ : ∃ b, decide (64 < (s.size : Int)) = b := ⟨_, rfl⟩
  obtain ⟨b3, hb3⟩ : ∃ b, validB s = b := ⟨_, rfl⟩
  have hE : keyE s = if b1 then 8 else if b2 then 6 else if b3 then 0 else 3 := by
    unfold keyE
    rw [hb1, hb3, ← hb2]
    by_cases h : 64 < s.size
    · have h' : 64 < (s.size : Int) := by omega
      simp [h, h']
    · have h' : ¬ 64 < (s.size : Int) := by omega
      simp [h, h']
  have h1 := fun W (hc : Blk W w.heap.size 9 #[.string s]) => reason1_calls ⟨w.heap.size, 0, none⟩ s b1 W (hc.cell 0) hb1
  have h2 := fun W (hc : Blk W w.heap.size 9 #[.string s]) => reason2_calls ⟨w.heap.size, 0, none⟩ s b2 W (hc.cell 0) hb2
  have h3 := fun W (hc : Blk W w.heap.size 9 #[.string s]) hB => reason3_calls ⟨w.heap.size, 0, none⟩ s b3 W (hc.cell 0) hb3 hs (hT.below hB)
  have H1 := Lib.hid h1
  have H2 := Lib.hid h2
  have H3 := Lib.hid h3
  have HE := Lib.hid hE
  clear h1 h2 h3 hE
  clear hb1 hb2 hb3 hT
  go_enter Tryz.func31, Tryz.ntmps31
  go_wp2_with (fail)
  with_reducible refine (reasons_calls s _).mono ?_
  rintro e w1 ⟨rfl, rfl⟩
  go_wp2_with (fail)
  refine wp_loop_rounds 4 ?_
  cases b1 with
  | true =>
    rw [rounds_succ]
    go_wp2_with (go_at_call 70; refine (H1.out _ ?_).mono ?_; (repeat (first | exact Blk.new _ _ _ | refine Blk.alloc ?_ _)); rintro e w2 ⟨rfl, rfl⟩)
    go_ret
    exact ⟨by rw [HE.out]; rfl, by go_grown⟩
  | false =>
    rw [rounds_succ]
    go_wp2_with (go_at_call 70; refine (H1.out _ ?_).mono ?_; (repeat (first | exact Blk.new _ _ _ | refine Blk.alloc ?_ _)); rintro e w2 ⟨rfl, rfl⟩)
    rw [rounds_succ]
    cases b2 with
    | true =>
      go_wp2_with (go_at_call 71; refine (H2.out _ ?_).mono ?_; (repeat (first | exact Blk.new _ _ _ | refine Blk.alloc ?_ _)); rintro e w2 ⟨rfl, rfl⟩)
      go_ret
      exact ⟨by rw [HE.out]; rfl, by go_grown⟩
    | false =>
      go_wp2_with (go_at_call 71; refine (H2.out _ ?_).mono ?_; (repeat (first | exact Blk.new _ _ _ | refine Blk.alloc ?_ _)); rintro e w2 ⟨rfl, rfl⟩)
      rw [rounds_succ]
      cases b3 with
      | false =>
        go_wp2_with (go_at_call 72; refine (H3.out _ ?_ ?_).mono ?_; (repeat (first | exact Blk.new _ _ _ | refine Blk.alloc ?_ _)); (go_grown); rintro e w2 ⟨rfl, hb2⟩; obtain ⟨hc2, hf2⟩ := bcell hb2)
        go_ret
        exact ⟨by rw [HE.out]; rfl, ((((alloc_below _ _).alloc (by simp) _).alloc (by simp; omega) _).alloc (by simp; omega) _).alloc (by simp; omega) _ |>.trans (hb2.mono (by simp; omega))⟩
      | true =>
        go_wp2_with (go_at_call 72; refine (H3.out _ ?_ ?_).mono ?_; (repeat (first | exact Blk.new _ _ _ | refine Blk.alloc ?_ _)); (go_grown); rintro e w2 ⟨rfl, hb2⟩; obtain ⟨hc2, hf2⟩ := bcell hb2)
        rw [rounds_succ]
        go_wp2
        go_ret
        exact ⟨by rw [HE.out]; rfl, ((((alloc_below _ _).alloc (by simp) _).alloc (by simp; omega) _).alloc (by simp; omega) _).alloc (by simp; omega) _ |>.trans (hb2.mono (by simp; omega))⟩
end Go.Proofs.YtjjbbnodmpemiaaGreatDoor
