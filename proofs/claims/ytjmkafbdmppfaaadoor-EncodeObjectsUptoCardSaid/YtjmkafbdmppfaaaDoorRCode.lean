/- commonplaceref01.Code: an escape's rune. No condition. -/
import Derived.Test.YtjmkafbdmppfaaaDoorProg
import Derived.WalkKit
import Derived.Below
import Derived.Lib.RuneBytes
import Derived.Lib.Hide
import Derived.IntWalk
import Derived.Laws.IdiomStrings
namespace Go.Proofs.YtjmkafbdmppfaaaDoor
open Go.RowKit

/-- What the k-th escape's letter stands for. -/
def codeTab : List Int := [34, 92, 47, 8, 12, 10, 13, 9]

set_option maxHeartbeats 1000000 in
theorem RCode_calls (k : Nat) (c : Int) (h : codeTab[k]? = some c) (w : World) :
    Calls Tryd.prog 59 #[.int .i64 k] w fun e w' => e = .returned (.int .i64 c) ∧ Below w.heap.size w w' := by
  have hk : k < 8 := (List.getElem?_eq_some_iff.1 h).1
  rcases (by omega : k = 0 ∨ k = 1 ∨ k = 2 ∨ k = 3 ∨ k = 4 ∨ k = 5 ∨ k = 6 ∨ k = 7) with rfl | rfl | rfl | rfl | rfl | rfl | rfl | rfl
  all_goals
    (obtain rfl := Option.some.inj h
     clear h hk
     go_enter Tryd.func59, Tryd.ntmps59
     go_wp2
     go_ret
     exact ⟨rfl, (Below.refl _ _).alloc (Nat.le_refl _) _⟩)

end Go.Proofs.YtjmkafbdmppfaaaDoor
