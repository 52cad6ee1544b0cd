/- What the reader of data reads of the laws' types, as plain data. -/
import Derived.Test.YtflhgkmhmcfimaaGreatProg
import Derived.Test.YtflhgkmhmcfimaaGreatQSup
namespace Go.Proofs.YtflhgkmhmcfimaaGreat
set_option maxRecDepth 100000
open Tryz
open Go.RowKit
set_option linter.unusedSimpArgs false
set_option linter.unusedVariables false
theorem Q3{n:Int}(h:(Lit.int .u8 n).wf=true):0<=n/\n<=255:=by
 simp[Lit.wf,IntKind.min,IntKind.max,IntKind.signed,IntKind.bits]at h;omega
theorem Kk:prog.cellsOf 5=1:=by kernel_rfl
theorem Kl{H:Type}{enc:TypeId×Value->H}{w:World}{sp:Nat->Bool}{held:Bool}{cS:Nat}{cs:List Value}{x:DataW H×List MemPlace}(h:DataW.trod enc prog w 0 sp held cS 5 cs=some x):∃y:Int,yb w 0 w.heap.size cs y:=by
 obtain⟨n,rfl,_,hw⟩:=DataW.trod_int underlying5 h;exact⟨n,rfl,Q3 hw⟩
end Go.Proofs.YtflhgkmhmcfimaaGreat
