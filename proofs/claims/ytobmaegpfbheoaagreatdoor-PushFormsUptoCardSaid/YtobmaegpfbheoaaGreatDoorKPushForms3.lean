/- Parts: Four bytes put together as a sum, the lowest first. Plain. No condition. -/
import Derived.Laws.BitsAllLaws
import Derived.Test.YtobmaegpfbheoaaGreatDoorKPushForms1
namespace Go.Proofs.YtobmaegpfbheoaaGreatDoor
open Go
end Go.Proofs.YtobmaegpfbheoaaGreatDoor
