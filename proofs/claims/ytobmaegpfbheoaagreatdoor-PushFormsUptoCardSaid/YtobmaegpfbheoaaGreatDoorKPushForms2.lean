/- Parts: Parts of a row of bytes, as slices. Plain. No condition. -/
import Derived.Laws.Slices
import Derived.Test.YtobmaegpfbheoaaGreatDoorKPf31
namespace Go.Proofs.YtobmaegpfbheoaaGreatDoor
open Go Go.RowKit
end Go.Proofs.YtobmaegpfbheoaaGreatDoor
