/- Appending to rows of elements. No program in sight. -/
import Derived.Test.YtohobndkbmpfcaaGreatKMk
namespace Go.Proofs.YtohobndkbmpfcaaGreat
open Go.RowKit
end Go.Proofs.YtohobndkbmpfcaaGreat
