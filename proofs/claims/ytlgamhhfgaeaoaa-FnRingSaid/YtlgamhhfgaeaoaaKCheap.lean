/- Cheapest, of the program and of the reference. -/
import Derived.Test.YtlgamhhfgaeaoaaKRing
namespace Go.Proofs.Ytlgamhhfgaeaoaa
open Go.RowKit
set_option linter.unusedSimpArgs false
set_option linter.unusedVariables false
end Go.Proofs.Ytlgamhhfgaeaoaa
