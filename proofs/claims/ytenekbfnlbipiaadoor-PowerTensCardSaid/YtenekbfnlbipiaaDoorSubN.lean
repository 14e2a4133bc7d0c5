/- Walks: Sub. -/
import Derived.Test.YtenekbfnlbipiaaDoorSub
import Derived.Test.YtenekbfnlbipiaaDoorDvA
namespace Go.Proofs.YtenekbfnlbipiaaDoor
open Go.RowKit
set_option linter.unusedVariables false
set_option linter.unusedSimpArgs false
set_option maxHeartbeats 4000000
set_option maxRecDepth 100000

end Go.Proofs.YtenekbfnlbipiaaDoor
