/- Appending to rows of elements. No program in sight. -/
import Derived.Test.YtogkbcmfoalpiaaGreatKMk
namespace Go.Proofs.YtogkbcmfoalpiaaGreat
open Go.RowKit
end Go.Proofs.YtogkbcmfoalpiaaGreat
