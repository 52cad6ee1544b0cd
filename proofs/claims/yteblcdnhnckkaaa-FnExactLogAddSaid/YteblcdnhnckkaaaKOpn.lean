/- What the reader of data reads of the laws' types, as plain data. -/
import Derived.Test.YteblcdnhnckkaaaProg
import Derived.Test.YteblcdnhnckkaaaKSup
namespace Go.Proofs.Yteblcdnhnckkaaa
open Go.RowKit
set_option linter.unusedSimpArgs false
set_option linter.unusedVariables false
theorem cellsByteL:Try.prog.cellsOf 56=1:=by kernel_rfl
theorem cellsCellL:Try.prog.cellsOf 22=1:=by kernel_rfl
theorem cellsWriteL:Try.prog.cellsOf 23=1:=by kernel_rfl
theorem cellsBool:Try.prog.cellsOf 4=1:=by kernel_rfl
theorem u8_of_wf{n:Int}(h:(Lit.int .u8 n).wf=true):0≤n∧n≤255:=by
 simp[Lit.wf,IntKind.min,IntKind.max,IntKind.signed,IntKind.bits]at h
 omega
theorem cellsInt:Try.prog.cellsOf 3=1:=by kernel_rfl
theorem cellsByte:Try.prog.cellsOf 5=1:=by kernel_rfl
theorem trodByte{H:Type}{enc:TypeId×Value→H}{w:World}{sp:Nat→Bool}{held:Bool}{fuel:Nat}{cs:List Value}{x:DataW H×List MemPlace}(h:DataW.trod enc Try.prog w 0 sp held fuel 5 cs=some x):∃y:Int,repByte w 0 w.heap.size cs y:=by
 obtain⟨n,rfl,_,hw⟩:=DataW.trod_int Try.underlying5 h
 exact⟨n,rfl,u8_of_wf hw⟩
theorem cellsCell:Try.prog.cellsOf 149=1:=by kernel_rfl
theorem trodCell{H:Type}{enc:TypeId×Value→H}{w:World}{sp:Nat→Bool}{held:Bool}{fuel:Nat}{cs:List Value}{x:DataW H×List MemPlace}(h:DataW.trod enc Try.prog w 0 sp held fuel 149 cs=some x):∃y:Cell,repCell w 0 w.heap.size cs y:=by
 obtain⟨xs,n,_,_,hl,hxs,hf⟩:=DataW.trod_struct Try.underlying149 h
 have hl:=hl.trans cellsCell
 have hxs:xs.length=1:=hxs
 clear h
 obtain⟨k0,rfl⟩:=list1 hl
 obtain⟨y0,e0⟩:=getElem_some (show 0<xs.length by omega)
 have f0:=hf 0 ⟨_,_,_,_,_,_,_⟩ rfl
 rw[e0]at f0
 simp only[cellsByteL,List.drop_zero,List.drop_succ_cons,List.take_succ_cons,List.take_zero]at f0
 obtain⟨b0,r0⟩:=SlR.of_trod (rep:=repByte) Try.underlying56 cellsByte (by decide) (fun _ _ _ h=>trodByte h) f0
 exact⟨⟨b0⟩,k0,rfl,r0,rfl⟩
theorem cellsWrite:Try.prog.cellsOf 151=2:=by kernel_rfl
theorem trodWrite{H:Type}{enc:TypeId×Value→H}{w:World}{sp:Nat→Bool}{held:Bool}{fuel:Nat}{cs:List Value}{x:DataW H×List MemPlace}(h:DataW.trod enc Try.prog w 0 sp held fuel 151 cs=some x):∃y:Write,repWrite w 0 w.heap.size cs y:=by
 obtain⟨xs,n,_,_,hl,hxs,hf⟩:=DataW.trod_struct Try.underlying151 h
 have hl:=hl.trans cellsWrite
 have hxs:xs.length=2:=hxs
 clear h
 obtain⟨k0,cs0,rfl,hl0⟩:=listS hl
 obtain⟨k1,rfl⟩:=list1 hl0
 obtain⟨y0,e0⟩:=getElem_some (show 0<xs.length by omega)
 have f0:=hf 0 ⟨_,_,_,_,_,_,_⟩ rfl
 rw[e0]at f0
 simp only[cellsInt,List.drop_zero,List.drop_succ_cons,List.take_succ_cons,List.take_zero]at f0
 obtain⟨b0,q0,_,w0⟩:=DataW.trod_int Try.underlying3 f0
 obtain rfl:k0=.int .i64 b0:=by simpa using q0
 obtain⟨y1,e1⟩:=getElem_some (show 1<xs.length by omega)
 have f1:=hf 1 ⟨_,_,_,_,_,_,_⟩ rfl
 rw[e1]at f1
 simp only[cellsByteL,List.drop_zero,List.drop_succ_cons,List.take_succ_cons,List.take_zero]at f1
 obtain⟨b1,r1⟩:=SlR.of_trod (rep:=repByte) Try.underlying56 cellsByte (by decide) (fun _ _ _ h=>trodByte h) f1
 exact⟨⟨b0,b1⟩,k1,rfl,r1,i64_of_wf w0⟩
theorem cellsDisk:Try.prog.cellsOf 25=2:=by kernel_rfl
theorem trodDisk{H:Type}{enc:TypeId×Value→H}{w:World}{sp:Nat→Bool}{held:Bool}{fuel:Nat}{cs:List Value}{x:DataW H×List MemPlace}(h:DataW.trod enc Try.prog w 0 sp held fuel 25 cs=some x):∃y:Disk,repDisk w 0 w.heap.size cs y:=by
 obtain⟨xs,n,_,_,hl,hxs,hf⟩:=DataW.trod_struct Try.underlying25 h
 have hl:=hl.trans cellsDisk
 have hxs:xs.length=2:=hxs
 clear h
 obtain⟨k0,cs0,rfl,hl0⟩:=listS hl
 obtain⟨k1,rfl⟩:=list1 hl0
 obtain⟨y0,e0⟩:=getElem_some (show 0<xs.length by omega)
 have f0:=hf 0 ⟨_,_,_,_,_,_,_⟩ rfl
 rw[e0]at f0
 simp only[cellsCellL,List.drop_zero,List.drop_succ_cons,List.take_succ_cons,List.take_zero]at f0
 obtain⟨b0,r0⟩:=SlR.of_trod (rep:=repCell) Try.underlying22 cellsCell (by decide) (fun _ _ _ h=>trodCell h) f0
 obtain⟨y1,e1⟩:=getElem_some (show 1<xs.length by omega)
 have f1:=hf 1 ⟨_,_,_,_,_,_,_⟩ rfl
 rw[e1]at f1
 simp only[cellsWriteL,List.drop_zero,List.drop_succ_cons,List.take_succ_cons,List.take_zero]at f1
 obtain⟨b1,r1⟩:=SlR.of_trod (rep:=repWrite) Try.underlying23 cellsWrite (by decide) (fun _ _ _ h=>trodWrite h) f1
 exact⟨⟨b0,b1⟩,k0,k1,rfl,r0,r1,rfl⟩
theorem cellsEvent:Try.prog.cellsOf 29=7:=by kernel_rfl
theorem trodEvent{H:Type}{enc:TypeId×Value→H}{w:World}{sp:Nat→Bool}{held:Bool}{fuel:Nat}{cs:List Value}{x:DataW H×List MemPlace}(h:DataW.trod enc Try.prog w 0 sp held fuel 29 cs=some x):∃y:Event,repEvent w 0 w.heap.size cs y:=by
 obtain⟨xs,n,_,_,hl,hxs,hf⟩:=DataW.trod_struct Try.underlying29 h
 have hl:=hl.trans cellsEvent
 have hxs:xs.length=7:=hxs
 clear h
 obtain⟨k0,cs0,rfl,hl0⟩:=listS hl
 obtain⟨k1,cs1,rfl,hl1⟩:=listS hl0
 obtain⟨k2,cs2,rfl,hl2⟩:=listS hl1
 obtain⟨k3,cs3,rfl,hl3⟩:=listS hl2
 obtain⟨k4,cs4,rfl,hl4⟩:=listS hl3
 obtain⟨k5,cs5,rfl,hl5⟩:=listS hl4
 obtain⟨k6,rfl⟩:=list1 hl5
 obtain⟨y0,e0⟩:=getElem_some (show 0<xs.length by omega)
 have f0:=hf 0 ⟨_,_,_,_,_,_,_⟩ rfl
 rw[e0]at f0
 simp only[cellsInt,List.drop_zero,List.drop_succ_cons,List.take_succ_cons,List.take_zero]at f0
 obtain⟨b0,q0,_,w0⟩:=DataW.trod_int Try.underlying3 f0
 obtain rfl:k0=.int .i64 b0:=by simpa using q0
 obtain⟨y1,e1⟩:=getElem_some (show 1<xs.length by omega)
 have f1:=hf 1 ⟨_,_,_,_,_,_,_⟩ rfl
 rw[e1]at f1
 simp only[cellsInt,List.drop_zero,List.drop_succ_cons,List.take_succ_cons,List.take_zero]at f1
 obtain⟨b1,q1,_,w1⟩:=DataW.trod_int Try.underlying3 f1
 obtain rfl:k1=.int .i64 b1:=by simpa using q1
 obtain⟨y2,e2⟩:=getElem_some (show 2<xs.length by omega)
 have f2:=hf 2 ⟨_,_,_,_,_,_,_⟩ rfl
 rw[e2]at f2
 simp only[cellsInt,List.drop_zero,List.drop_succ_cons,List.take_succ_cons,List.take_zero]at f2
 obtain⟨b2,q2,_,w2⟩:=DataW.trod_int Try.underlying3 f2
 obtain rfl:k2=.int .i64 b2:=by simpa using q2
 obtain⟨y3,e3⟩:=getElem_some (show 3<xs.length by omega)
 have f3:=hf 3 ⟨_,_,_,_,_,_,_⟩ rfl
 rw[e3]at f3
 simp only[cellsInt,List.drop_zero,List.drop_succ_cons,List.take_succ_cons,List.take_zero]at f3
 obtain⟨b3,q3,_,w3⟩:=DataW.trod_int Try.underlying3 f3
 obtain rfl:k3=.int .i64 b3:=by simpa using q3
 obtain⟨y4,e4⟩:=getElem_some (show 4<xs.length by omega)
 have f4:=hf 4 ⟨_,_,_,_,_,_,_⟩ rfl
 rw[e4]at f4
 simp only[cellsInt,List.drop_zero,List.drop_succ_cons,List.take_succ_cons,List.take_zero]at f4
 obtain⟨b4,q4,_,w4⟩:=DataW.trod_int Try.underlying3 f4
 obtain rfl:k4=.int .i64 b4:=by simpa using q4
 obtain⟨y5,e5⟩:=getElem_some (show 5<xs.length by omega)
 have f5:=hf 5 ⟨_,_,_,_,_,_,_⟩ rfl
 rw[e5]at f5
 simp only[cellsInt,List.drop_zero,List.drop_succ_cons,List.take_succ_cons,List.take_zero]at f5
 obtain⟨b5,q5,_,w5⟩:=DataW.trod_int Try.underlying3 f5
 obtain rfl:k5=.int .i64 b5:=by simpa using q5
 obtain⟨y6,e6⟩:=getElem_some (show 6<xs.length by omega)
 have f6:=hf 6 ⟨_,_,_,_,_,_,_⟩ rfl
 rw[e6]at f6
 simp only[cellsBool,List.drop_zero,List.drop_succ_cons,List.take_succ_cons,List.take_zero]at f6
 obtain⟨b6,q6,_⟩:=DataW.trod_bool Try.underlying4 f6
 obtain rfl:k6=.bool b6:=by simpa using q6
 exact⟨⟨b0,b1,b2,b3,b4,b5,b6⟩,rfl,⟨i64_of_wf w0,i64_of_wf w1,i64_of_wf w2,i64_of_wf w3,i64_of_wf w4,i64_of_wf w5⟩⟩
theorem cellsLog:Try.prog.cellsOf 27=4:=by kernel_rfl
theorem trodLog{H:Type}{enc:TypeId×Value→H}{w:World}{sp:Nat→Bool}{held:Bool}{fuel:Nat}{cs:List Value}{x:DataW H×List MemPlace}(h:DataW.trod enc Try.prog w 0 sp held fuel 27 cs=some x):∃y:Log,repLog w 0 w.heap.size cs y:=by
 obtain⟨xs,n,_,_,hl,hxs,hf⟩:=DataW.trod_struct Try.underlying27 h
 have hl:=hl.trans cellsLog
 have hxs:xs.length=3:=hxs
 clear h
 obtain⟨k0,cs0,rfl,hl0⟩:=listS hl
 obtain⟨k1,cs1,rfl,hl1⟩:=listS hl0
 obtain⟨k2,cs2,rfl,hl2⟩:=listS hl1
 obtain⟨k3,rfl⟩:=list1 hl2
 obtain⟨y0,e0⟩:=getElem_some (show 0<xs.length by omega)
 have f0:=hf 0 ⟨_,_,_,_,_,_,_⟩ rfl
 rw[e0]at f0
 simp only[cellsDisk,List.drop_zero,List.drop_succ_cons,List.take_succ_cons,List.take_zero]at f0
 obtain⟨b0,u0_0,u0_1,q0,r0_0,r0_1,w0⟩:=trodDisk f0
 simp only[List.cons.injEq,and_true]at q0
 obtain⟨rfl,rfl⟩:=q0
 obtain⟨y1,e1⟩:=getElem_some (show 1<xs.length by omega)
 have f1:=hf 1 ⟨_,_,_,_,_,_,_⟩ rfl
 rw[e1]at f1
 simp only[cellsInt,List.drop_zero,List.drop_succ_cons,List.take_succ_cons,List.take_zero]at f1
 obtain⟨b1,q1,_,w1⟩:=DataW.trod_int Try.underlying3 f1
 obtain rfl:k2=.int .i64 b1:=by simpa using q1
 obtain⟨y2,e2⟩:=getElem_some (show 2<xs.length by omega)
 have f2:=hf 2 ⟨_,_,_,_,_,_,_⟩ rfl
 rw[e2]at f2
 simp only[cellsInt,List.drop_zero,List.drop_succ_cons,List.take_succ_cons,List.take_zero]at f2
 obtain⟨b2,q2,_,w2⟩:=DataW.trod_int Try.underlying3 f2
 obtain rfl:k3=.int .i64 b2:=by simpa using q2
 exact⟨⟨b0,b1,b2⟩,_,_,rfl,r0_0,r0_1,⟨i64_of_wf w1,i64_of_wf w2⟩⟩
end Go.Proofs.Yteblcdnhnckkaaa
