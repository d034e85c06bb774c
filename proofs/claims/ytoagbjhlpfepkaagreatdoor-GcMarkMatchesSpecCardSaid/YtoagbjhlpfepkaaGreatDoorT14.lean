/- Walks, printed by wip/gen/walk.py. -/
import Derived.Test.YtoagbjhlpfepkaaGreatDoorT13
import Derived.Test.YtoagbjhlpfepkaaGreatDoorV5
set_option linter.all false
set_option maxRecDepth 100000
set_option maxHeartbeats 4000000
namespace Go.Proofs.YtoagbjhlpfepkaaGreatDoor
open Go Go.Vc Go.RowKit

end Go.Proofs.YtoagbjhlpfepkaaGreatDoor
