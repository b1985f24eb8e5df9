/- Parts, joined: pull.EncodeResponse of an answer that may not be. Condition: a bulk of at most 10^8. -/
import Derived.Test.YtackmnbpfbaemaaGreatDoorProg
import Derived.Test.YtackmnbpfbaemaaGreatDoorKPb40
namespace Go.Proofs.YtackmnbpfbaemaaGreatDoor
open Go Go.RowKit
end Go.Proofs.YtackmnbpfbaemaaGreatDoor
