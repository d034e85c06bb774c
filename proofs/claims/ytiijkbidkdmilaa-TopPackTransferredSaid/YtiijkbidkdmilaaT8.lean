/- Walks, printed by wip/gen/walk.py. -/
import Derived.Test.YtiijkbidkdmilaaT7
import Derived.Test.YtiijkbidkdmilaaV5
set_option linter.all false
set_option maxRecDepth 100000
set_option maxHeartbeats 4000000
namespace Go.Proofs.Ytiijkbidkdmilaa
open Go Go.Vc Go.RowKit

end Go.Proofs.Ytiijkbidkdmilaa
