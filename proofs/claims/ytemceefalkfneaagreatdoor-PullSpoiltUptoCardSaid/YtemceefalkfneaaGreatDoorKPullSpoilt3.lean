/- Parts, joined: patch.zero, patch.follows, patch.strange. No condition. -/
import Derived.Test.YtemceefalkfneaaGreatDoorProg
import Derived.WalkKit
import Derived.Lib.Hide
import Derived.Test.YtemceefalkfneaaGreatDoorKCm16

/- patch.zero, patch.follows, patch.strange. No condition. -/
namespace Go.Proofs.YtemceefalkfneaaGreatDoor
open Go.RowKit

set_option maxRecDepth 100000 in
theorem zero_calls (k : Int) (b : Bool) (n : Int) (t : ByteArray) (la oa : Option Addr) (ln lc on oc : Nat) (B : Bool) (w : World) (h : zero6B k b n t ln on = B) :
    Calls Tryz.prog 120 #[.agg #[.int .i64 k, .bool b, .int .i64 n, .string t, .slice la ln lc, .slice oa on oc]] w fun e w' => e = .returned (.bool B) ∧ Below w.heap.size w w' := by
  have fin : ∀ X : Bool, X = zero6B k b n t ln on → Ending.returned (.bool X) = .returned (.bool B) := fun X hX => by rw [hX, h]
  have Fin := Lib.hid fin
  clear fin h
  go_enter Tryz.func120, Tryz.ntmps120
  go_wp2
  all_goals (go_ret; refine ⟨Fin.out _ ?_, alloc_below _ _⟩; simp_all [zero6B, beq_cast])

set_option maxRecDepth 100000 in
theorem follows_calls (k k' : Int) (s s' : ByteArray) (a0 a1 a2 a3 a4 a5 b0 b1 b2 b3 b4 b5 : Value) (B : Bool) (w : World) (h : (decide (k' ≠ 3) && (decide (k = 3) || Op.bytesLess s.toList s'.toList)) = B) :
    Calls Tryz.prog 74 #[.agg #[.int .i64 k, .string s, a0, a1, a2, a3, a4, a5], .agg #[.int .i64 k', .string s', b0, b1, b2, b3, b4, b5]] w fun e w' => e = .returned (.bool B) ∧ Below w.heap.size w w' := by
  have fin : ∀ X : Bool, X = (decide (k' ≠ 3) && (decide (k = 3) || Op.bytesLess s.toList s'.toList)) → Ending.returned (.bool X) = .returned (.bool B) := fun X hX => by rw [hX, h]
  have Fin := Lib.hid fin
  clear fin h
  go_enter Tryz.func74, Tryz.ntmps74
  go_wp2
  all_goals (go_ret; refine ⟨Fin.out _ ?_, (alloc_below _ _).alloc (by simp) _⟩; first | (simp_all; done) | (simp only [bne_dec, beq_dec]))

set_option maxRecDepth 100000 in
theorem strange_calls (k : Int) (s : ByteArray) (k' : Int) (b : Bool) (n : Int) (t : ByteArray) (la oa : Option Addr) (ln lc on oc : Nat) (B : Bool) (w : World)
    (h : (if k = 1 then false else if k = 2 then !zero6B k' b n t ln on else if k = 3 then !s.toList.isEmpty || !zero6B k' b n t ln on else true) = B) :
    Calls Tryz.prog 73 #[.agg #[.int .i64 k, .string s, .int .i64 k', .bool b, .int .i64 n, .string t, .slice la ln lc, .slice oa on oc]] w fun e w' => e = .returned (.bool B) ∧ Below w.heap.size w w' := by
  obtain ⟨Z, hZ⟩ : ∃ Z, zero6B k' b n t ln on = Z := ⟨_, rfl⟩
  rw [hZ] at h
  have fin : ∀ X : Bool, X = (if k = 1 then false else if k = 2 then !Z else if k = 3 then !s.toList.isEmpty || !Z else true) → Ending.returned (.bool X) = .returned (.bool B) := fun X hX => by rw [hX, h]
  have hcz := fun W => zero_calls k' b n t la oa ln lc on oc Z W hZ
  have Fin := Lib.hid fin
  have Hcz := Lib.hid hcz
  clear fin hcz
  clear hZ h
  go_enter Tryz.func73, Tryz.ntmps73
  go_wp2_with (go_at_call 120; refine (Hcz.out _).mono ?_; rintro e w1 ⟨rfl, hb1⟩)
  all_goals first
    | (go_ret; refine ⟨Fin.out _ ?_, alloc_below _ _⟩; (by_cases e1 : k = 1 <;> by_cases e2 : k = 2 <;> by_cases e3 : k = 3 <;> cases Z <;> simp_all))
    | (go_ret; refine ⟨Fin.out _ ?_, (alloc_below _ _).trans (hb1.mono (by simp))⟩; (by_cases e1 : k = 1 <;> by_cases e2 : k = 2 <;> by_cases e3 : k = 3 <;> cases Z <;> simp_all))
end Go.Proofs.YtemceefalkfneaaGreatDoor
