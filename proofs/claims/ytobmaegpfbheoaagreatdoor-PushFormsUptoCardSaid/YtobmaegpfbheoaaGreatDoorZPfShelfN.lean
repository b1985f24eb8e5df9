/- The shelf's contracts that are used. -/
import Derived.Shelf.Strconv.ParseIntPublic10
import Derived.Test.YtobmaegpfbheoaaGreatDoorProg
namespace Go.Proofs
open Go.Shelf
end Go.Proofs
