/- The shelf's contracts that are used. -/
import Derived.Shelf.SlGeneric
import Derived.Ground.SlsfProg
import Derived.Shelf.SlSortCmp.NoneTotal
import Derived.Test.YtobmaegpfbheoaaGreatDoorProg
namespace Go.Proofs
open Go.Shelf
end Go.Proofs
