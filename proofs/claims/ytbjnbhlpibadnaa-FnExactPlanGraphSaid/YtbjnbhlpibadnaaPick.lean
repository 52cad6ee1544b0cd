/- Pick: a channel looked up. -/
import Derived.Test.YtbjnbhlpibadnaaBook9
import Derived.Test.YtbjnbhlpibadnaaBox
namespace Go.Proofs.Ytbjnbhlpibadnaa
open Go.RowKit
set_option linter.unusedSimpArgs false
set_option linter.unusedVariables false

def zeroChan : Chan := ⟨0, 0, 0, 0, 0, 0, 0⟩
def pickOf (x : Book) (ch : Int) : Option Chan := if bookOk x = true then (if 0 ≤ chanAt x.chans ch then x.chans[(chanAt x.chans ch).toNat]? else none) else none
def chanV (c : Chan) : Value := .agg #[.int .i64 c.id, .int .i64 c.size, .int .i64 c.loc, .int .i64 c.remote, .int .i64 c.base, .int .i64 c.ppm, .int .i64 c.score]
def pickV (r : Option Chan) : Value := .tuple #[chanV (r.getD zeroChan), .bool r.isSome]

end Go.Proofs.Ytbjnbhlpibadnaa
