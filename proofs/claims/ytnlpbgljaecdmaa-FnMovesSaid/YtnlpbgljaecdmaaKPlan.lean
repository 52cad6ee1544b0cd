/- PlanGraph, of the program and of the reference. -/
import Derived.Test.YtnlpbgljaecdmaaKPlan0
import Derived.Test.YtnlpbgljaecdmaaKAnyG
namespace Go.Proofs.Ytnlpbgljaecdmaa
open Go.RowKit
set_option linter.unusedSimpArgs false
set_option linter.unusedVariables false
end Go.Proofs.Ytnlpbgljaecdmaa
