/- The law EncodeObjects, walked: it returns true. Condition: a bulk of at most 10^8. -/
import Derived.Test.YtjmkafbdmppfaaaDoorProg
import Derived.Test.YtjmkafbdmppfaaaDoorRCopy
import Derived.Test.YtjmkafbdmppfaaaDoorObjectsW
namespace Go.Proofs.YtjmkafbdmppfaaaDoor
open Go.RowKit

theorem Objects_law (l : List (ByteArray × Val)) (la : Option Addr) (lc : Nat) (w : World) (hT : Tabs w) (hl : l = [] ∨ ∃ g off, la = some ⟨g, off, none⟩ ∧ g < w.heap.size ∧ HoldsO w w.heap.size l g off) (hb : bulkO l ≤ 100000000) (hi : inO l) :
    Calls Tryd.prog 7 #[.slice la l.length lc] w fun e w' => e = .returned (.bool true) ∧ Below w.heap.size w w' :=
  Objects_walk copy_calls l la lc w hT hl hb hi

end Go.Proofs.YtjmkafbdmppfaaaDoor
