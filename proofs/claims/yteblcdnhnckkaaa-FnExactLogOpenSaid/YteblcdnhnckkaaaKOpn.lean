/- What the reader of data reads of the laws' types, as plain data. -/
import Derived.Test.YteblcdnhnckkaaaProg
import Derived.Test.YteblcdnhnckkaaaKSup
namespace Go.Proofs.Yteblcdnhnckkaaa
open Go.RowKit
set_option linter.unusedSimpArgs false
set_option linter.unusedVariables false
theorem cellsByteL:Try.prog.cellsOf 56=1:=by kernel_rfl
theorem cellsCellL:Try.prog.cellsOf 22=1:=by kernel_rfl
theorem cellsWriteL:Try.prog.cellsOf 23=1:=by kernel_rfl
theorem u8_of_wf{n:Int}(h:(Lit.int .u8 n).wf=true):0≤n∧n≤255:=by
 simp[Lit.wf,IntKind.min,IntKind.max,IntKind.signed,IntKind.bits]at h
 omega
theorem cellsInt:Try.prog.cellsOf 3=1:=by kernel_rfl
theorem cellsByte:Try.prog.cellsOf 5=1:=by kernel_rfl
theorem trodByte{H:Type}{enc:TypeId×Value→H}{w:World}{sp:Nat→Bool}{held:Bool}{fuel:Nat}{cs:List Value}{x:DataW H×List MemPlace}(h:DataW.trod enc Try.prog w 0 sp held fuel 5 cs=some x):∃y:Int,repByte w 0 w.heap.size cs y:=by
 obtain⟨n,rfl,_,hw⟩:=DataW.trod_int Try.underlying5 h
 exact⟨n,rfl,u8_of_wf hw⟩
theorem cellsCell:Try.prog.cellsOf 149=1:=by kernel_rfl
theorem trodCell{H:Type}{enc:TypeId×Value→H}{w:World}{sp:Nat→Bool}{held:Bool}{fuel:Nat}{cs:List Value}{x:DataW H×List MemPlace}(h:DataW.trod enc Try.prog w 0 sp held fuel 149 cs=some x):∃y:Cell,repCell w 0 w.heap.size cs y:=by
 obtain⟨xs,n,_,_,hl,hxs,hf⟩:=DataW.trod_struct Try.underlying149 h
 have hl:=hl.trans cellsCell
 have hxs:xs.length=1:=hxs
 clear h
 obtain⟨k0,rfl⟩:=list1 hl
 obtain⟨y0,e0⟩:=getElem_some (show 0<xs.length by omega)
 have f0:=hf 0 ⟨_,_,_,_,_,_,_⟩ rfl
 rw[e0]at f0
 simp only[cellsByteL,List.drop_zero,List.drop_succ_cons,List.take_succ_cons,List.take_zero]at f0
 obtain⟨b0,r0⟩:=SlR.of_trod (rep:=repByte) Try.underlying56 cellsByte (by decide) (fun _ _ _ h=>trodByte h) f0
 exact⟨⟨b0⟩,k0,rfl,r0,rfl⟩
theorem cellsWrite:Try.prog.cellsOf 151=2:=by kernel_rfl
theorem trodWrite{H:Type}{enc:TypeId×Value→H}{w:World}{sp:Nat→Bool}{held:Bool}{fuel:Nat}{cs:List Value}{x:DataW H×List MemPlace}(h:DataW.trod enc Try.prog w 0 sp held fuel 151 cs=some x):∃y:Write,repWrite w 0 w.heap.size cs y:=by
 obtain⟨xs,n,_,_,hl,hxs,hf⟩:=DataW.trod_struct Try.underlying151 h
 have hl:=hl.trans cellsWrite
 have hxs:xs.length=2:=hxs
 clear h
 obtain⟨k0,cs0,rfl,hl0⟩:=listS hl
 obtain⟨k1,rfl⟩:=list1 hl0
 obtain⟨y0,e0⟩:=getElem_some (show 0<xs.length by omega)
 have f0:=hf 0 ⟨_,_,_,_,_,_,_⟩ rfl
 rw[e0]at f0
 simp only[cellsInt,List.drop_zero,List.drop_succ_cons,List.take_succ_cons,List.take_zero]at f0
 obtain⟨b0,q0,_,w0⟩:=DataW.trod_int Try.underlying3 f0
 obtain rfl:k0=.int .i64 b0:=by simpa using q0
 obtain⟨y1,e1⟩:=getElem_some (show 1<xs.length by omega)
 have f1:=hf 1 ⟨_,_,_,_,_,_,_⟩ rfl
 rw[e1]at f1
 simp only[cellsByteL,List.drop_zero,List.drop_succ_cons,List.take_succ_cons,List.take_zero]at f1
 obtain⟨b1,r1⟩:=SlR.of_trod (rep:=repByte) Try.underlying56 cellsByte (by decide) (fun _ _ _ h=>trodByte h) f1
 exact⟨⟨b0,b1⟩,k1,rfl,r1,i64_of_wf w0⟩
theorem cellsDisk:Try.prog.cellsOf 25=2:=by kernel_rfl
theorem trodDisk{H:Type}{enc:TypeId×Value→H}{w:World}{sp:Nat→Bool}{held:Bool}{fuel:Nat}{cs:List Value}{x:DataW H×List MemPlace}(h:DataW.trod enc Try.prog w 0 sp held fuel 25 cs=some x):∃y:Disk,repDisk w 0 w.heap.size cs y:=by
 obtain⟨xs,n,_,_,hl,hxs,hf⟩:=DataW.trod_struct Try.underlying25 h
 have hl:=hl.trans cellsDisk
 have hxs:xs.length=2:=hxs
 clear h
 obtain⟨k0,cs0,rfl,hl0⟩:=listS hl
 obtain⟨k1,rfl⟩:=list1 hl0
 obtain⟨y0,e0⟩:=getElem_some (show 0<xs.length by omega)
 have f0:=hf 0 ⟨_,_,_,_,_,_,_⟩ rfl
 rw[e0]at f0
 simp only[cellsCellL,List.drop_zero,List.drop_succ_cons,List.take_succ_cons,List.take_zero]at f0
 obtain⟨b0,r0⟩:=SlR.of_trod (rep:=repCell) Try.underlying22 cellsCell (by decide) (fun _ _ _ h=>trodCell h) f0
 obtain⟨y1,e1⟩:=getElem_some (show 1<xs.length by omega)
 have f1:=hf 1 ⟨_,_,_,_,_,_,_⟩ rfl
 rw[e1]at f1
 simp only[cellsWriteL,List.drop_zero,List.drop_succ_cons,List.take_succ_cons,List.take_zero]at f1
 obtain⟨b1,r1⟩:=SlR.of_trod (rep:=repWrite) Try.underlying23 cellsWrite (by decide) (fun _ _ _ h=>trodWrite h) f1
 exact⟨⟨b0,b1⟩,k0,k1,rfl,r0,r1,rfl⟩
end Go.Proofs.Yteblcdnhnckkaaa
