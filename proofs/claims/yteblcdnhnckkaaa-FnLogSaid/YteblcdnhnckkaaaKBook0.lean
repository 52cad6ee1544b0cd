/- A book: where a channel lies, of the program and of the reference. -/
import Derived.Test.YteblcdnhnckkaaaKOwn
import Derived.Test.YteblcdnhnckkaaaKNum
namespace Go.Proofs.Yteblcdnhnckkaaa
open Go.RowKit
set_option linter.unusedSimpArgs false
set_option linter.unusedVariables false
def chanAt(l:List Chan)(ch:Int):Int:=match l.findIdx? (fun c=>c.id==ch)with|some i=>(i:Int)|none=>-1
end Go.Proofs.Yteblcdnhnckkaaa
