/- What the reader of data reads of the laws' types, as plain data. -/
import Derived.Test.YteblcdnhnckkaaaProg
import Derived.Test.YteblcdnhnckkaaaKSup
namespace Go.Proofs.Yteblcdnhnckkaaa
open Go.RowKit
set_option linter.unusedSimpArgs false
set_option linter.unusedVariables false
theorem u8_of_wf{n:Int}(h:(Lit.int .u8 n).wf=true):0≤n∧n≤255:=by
 simp[Lit.wf,IntKind.min,IntKind.max,IntKind.signed,IntKind.bits]at h
 omega
theorem cellsByte:Try.prog.cellsOf 5=1:=by kernel_rfl
theorem trodByte{H:Type}{enc:TypeId×Value→H}{w:World}{sp:Nat→Bool}{held:Bool}{fuel:Nat}{cs:List Value}{x:DataW H×List MemPlace}(h:DataW.trod enc Try.prog w 0 sp held fuel 5 cs=some x):∃y:Int,repByte w 0 w.heap.size cs y:=by
 obtain⟨n,rfl,_,hw⟩:=DataW.trod_int Try.underlying5 h
 exact⟨n,rfl,u8_of_wf hw⟩
end Go.Proofs.Yteblcdnhnckkaaa
