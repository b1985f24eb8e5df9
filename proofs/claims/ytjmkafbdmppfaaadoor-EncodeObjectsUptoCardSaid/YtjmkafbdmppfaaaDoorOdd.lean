/- Whether a value has anything that its kind does not name: the program's function and the reference's. No condition. -/
import Derived.Test.YtjmkafbdmppfaaaDoorProg
import Derived.WalkKit
import Derived.BigQuiet
import Derived.Deep.QuietTactic
import Derived.WalkLawsBesides
import Derived.WalkSpells
import Derived.Lib.Hide
import Derived.Lib.Strings
namespace Go.Proofs.YtjmkafbdmppfaaaDoor
open Go.RowKit

def oddB (k : Int) (b : Bool) (n : Int) (t : ByteArray) (ln on : Nat) : Bool :=
  if k == 1 then b || n != 0 || !t.toList.isEmpty || ln != 0 || on != 0
  else if k == 2 then n != 0 || !t.toList.isEmpty || ln != 0 || on != 0
  else if k == 3 then b || !t.toList.isEmpty || ln != 0 || on != 0
  else if k == 4 then b || n != 0 || ln != 0 || on != 0
  else if k == 5 then b || n != 0 || !t.toList.isEmpty || on != 0
  else if k == 6 then b || n != 0 || !t.toList.isEmpty || ln != 0
  else true

set_option maxHeartbeats 1000000 in
theorem odd_calls (k : Int) (b : Bool) (n : Int) (t : ByteArray) (la oa : Option Addr) (ln lc on oc : Nat) (w : World) :
  Calls Tryd.prog 71 #[.agg #[.int .i64 k, .bool b, .int .i64 n, .string t, .slice la ln lc, .slice oa on oc]] w fun e w' => e = .returned (.bool (oddB k b n t ln on)) ∧ Below w.heap.size w w' := by
  go_enter Tryd.func71, Tryd.ntmps71
  go_wp2
  all_goals go_ret
  all_goals simp only [oddB, *]
  all_goals refine ⟨by first | (simp_all; done) | (simp_all; omega) | (simp_all; rw [Bool.eq_iff_iff]; simp [Nat.pos_iff_ne_zero]), ?_⟩
  all_goals exact Below.alloc (Below.refl _ _) (Nat.le_refl _) _

theorem toList_empty : (ByteArray.empty).toList = [] := by rw [Lib.toList_data]; rfl
theorem toList_ne {t : ByteArray} (h : ¬t = ByteArray.empty) : t.toList ≠ [] := by
  intro e
  rw [Lib.toList_data] at e
  apply h
  have : t.data = #[] := by simpa using e
  exact ByteArray.ext this
theorem ret_bool {a b : Bool} (h : a = b) : Ending.returned (.bool a) = .returned (.bool b) := by rw [h]
theorem cast_beq (n : Nat) : ((n : Int) == 0) = (n == 0) := by rw [Bool.eq_iff_iff]; simp

set_option maxHeartbeats 2000000 in
theorem bare_calls (k : Int) (b : Bool) (n : Int) (t : ByteArray) (la oa : Option Addr) (ln lc on oc : Nat) (w : World) :
  Calls Tryd.prog 57 #[.agg #[.int .i64 k, .bool b, .int .i64 n, .string t, .slice la ln lc, .slice oa on oc]] w fun e w' => e = .returned (.bool (!oddB k b n t ln on)) ∧ Below w.heap.size w w' := by
  rcases (by omega : k = 1 ∨ k = 2 ∨ k = 3 ∨ k = 4 ∨ k = 5 ∨ k = 6 ∨ k < 1 ∨ 6 < k) with rfl | rfl | rfl | rfl | rfl | rfl | h | h
  all_goals
    go_enter Tryd.func57, Tryd.ntmps57
    go_wp2
    all_goals go_ret
    all_goals refine ⟨ret_bool ?_, Below.alloc (Below.refl _ _) (Nat.le_refl _) _⟩
    all_goals simp only [oddB, cast_beq]
  all_goals first | (simp_all [toList_ne]; done) | (subst_vars; simp_all [bne]; done) | (rw [if_neg (by simp; omega), if_neg (by simp; omega), if_neg (by simp; omega), if_neg (by simp; omega), if_neg (by simp; omega), if_neg (by simp; omega)]; rfl) | skip

end Go.Proofs.YtjmkafbdmppfaaaDoor
