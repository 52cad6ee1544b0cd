/- Pick: a channel looked up. -/
import Derived.Test.YtnlpbgljaecdmaaKBook9
import Derived.Test.YtnlpbgljaecdmaaKOwn
namespace Go.Proofs.Ytnlpbgljaecdmaa
open Go.RowKit
set_option linter.unusedSimpArgs false
set_option linter.unusedVariables false
end Go.Proofs.Ytnlpbgljaecdmaa
