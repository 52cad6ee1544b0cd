/- Allow as a plain function. -/
import Derived.Test.YtogkbcmfoalpiaaGreatKNum
namespace Go.Proofs.YtogkbcmfoalpiaaGreat
open Go.RowKit
set_option linter.unusedSimpArgs false
set_option linter.unusedVariables false
def allowIn(size few all sf sa amt:Int):Bool:=amtOk size&&amtOk few&&amtOk all&&amtOk amt&&decide (0≤sf)&&decide (0≤sa)&&decide (few≤all)&&decide (sf≤sa)
def allow(size few all sf sa amt:Int)(good:Bool):Int:=
 if allowIn size few all sf sa amt then
  if sa<10∧all+amt≤size then (if sf<5∧few+amt≤size/2 then 1 else if good then 2 else 0)else 0
 else 0
end Go.Proofs.YtogkbcmfoalpiaaGreat
