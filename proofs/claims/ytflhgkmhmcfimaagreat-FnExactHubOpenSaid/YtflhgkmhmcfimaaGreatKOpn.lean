/- What the reader of data reads of the laws' types, as plain data. -/
import Derived.Test.YtflhgkmhmcfimaaGreatProg
import Derived.Test.YtflhgkmhmcfimaaGreatKSup
namespace Go.Proofs.YtflhgkmhmcfimaaGreat
set_option maxRecDepth 100000
open Tryz
open Go.RowKit
set_option linter.unusedSimpArgs false
set_option linter.unusedVariables false
theorem Kd:prog.cellsOf 76=1:=by kernel_rfl
theorem QY:prog.cellsOf 22=1:=by kernel_rfl
theorem QZ:prog.cellsOf 23=1:=by kernel_rfl
theorem Q3{n:Int}(h:(Lit.int .u8 n).wf=true):0<=n/\n<=255:=by
 simp[Lit.wf,IntKind.min,IntKind.max,IntKind.signed,IntKind.bits]at h;omega
theorem iJ:prog.cellsOf 3=1:=by kernel_rfl
theorem Kk:prog.cellsOf 5=1:=by kernel_rfl
theorem Kl{H:Type}{enc:TypeId×Value->H}{w:World}{sp:Nat->Bool}{held:Bool}{cS:Nat}{cs:List Value}{x:DataW H×List MemPlace}(h:DataW.trod enc prog w 0 sp held cS 5 cs=some x):∃y:Int,yb w 0 w.heap.size cs y:=by
 obtain⟨n,rfl,_,hw⟩:=DataW.trod_int underlying5 h;exact⟨n,rfl,Q3 hw⟩
theorem Km:prog.cellsOf 202=1:=by kernel_rfl
theorem Q9{H:Type}{enc:TypeId×Value->H}{w:World}{sp:Nat->Bool}{held:Bool}{cS:Nat}{cs:List Value}{x:DataW H×List MemPlace}(h:DataW.trod enc prog w 0 sp held cS 202 cs=some x):∃y:Cell,sF w 0 w.heap.size cs y:=by
 obtain⟨xs,n,_,_,hl,gG,hf⟩:=DataW.trod_struct underlying202 h;have hl:=hl.trans Km;have gG:xs.length=1:=gG;clear h;obtain⟨k0,rfl⟩:=qN hl;obtain⟨y0,e0⟩:=fy (show 0<xs.length by omega);have f0:=hf 0 ⟨_,_,_,_,_,_,_⟩ rfl;rw[e0]at f0;simp only[Kd,List.drop_zero,List.drop_succ_cons,List.take_succ_cons,List.take_zero]at f0;obtain⟨b0,r0⟩:=tG (dg:=yb) underlying76 Kk (by decide) (fun _ _ _ h=>Kl h) f0;exact⟨⟨b0⟩,k0,rfl,r0,rfl⟩
theorem Kn:prog.cellsOf 204=2:=by kernel_rfl
theorem Ra{H:Type}{enc:TypeId×Value->H}{w:World}{sp:Nat->Bool}{held:Bool}{cS:Nat}{cs:List Value}{x:DataW H×List MemPlace}(h:DataW.trod enc prog w 0 sp held cS 204 cs=some x):∃y:gq,sG w 0 w.heap.size cs y:=by
 obtain⟨xs,n,_,_,hl,gG,hf⟩:=DataW.trod_struct underlying204 h;have hl:=hl.trans Kn;have gG:xs.length=2:=gG;clear h;obtain⟨k0,oC,rfl,dY⟩:=fG hl;obtain⟨k1,rfl⟩:=qN dY;obtain⟨y0,e0⟩:=fy (show 0<xs.length by omega);have f0:=hf 0 ⟨_,_,_,_,_,_,_⟩ rfl;rw[e0]at f0;simp only[iJ,List.drop_zero,List.drop_succ_cons,List.take_succ_cons,List.take_zero]at f0;obtain⟨b0,q0,_,w0⟩:=DataW.trod_int underlying3 f0;obtain rfl:k0=.int .i64 b0:=by simpa using q0
 obtain⟨y1,e1⟩:=fy (show 1<xs.length by omega);have f1:=hf 1 ⟨_,_,_,_,_,_,_⟩ rfl;rw[e1]at f1;simp only[Kd,List.drop_zero,List.drop_succ_cons,List.take_succ_cons,List.take_zero]at f1;obtain⟨b1,r1⟩:=tG (dg:=yb) underlying76 Kk (by decide) (fun _ _ _ h=>Kl h) f1;exact⟨⟨b0,b1⟩,k1,rfl,r1,iK w0⟩
theorem Ko:prog.cellsOf 25=2:=by kernel_rfl
theorem Rb{H:Type}{enc:TypeId×Value->H}{w:World}{sp:Nat->Bool}{held:Bool}{cS:Nat}{cs:List Value}{x:DataW H×List MemPlace}(h:DataW.trod enc prog w 0 sp held cS 25 cs=some x):∃y:du,Rc w 0 w.heap.size cs y:=by
 obtain⟨xs,n,_,_,hl,gG,hf⟩:=DataW.trod_struct underlying25 h;have hl:=hl.trans Ko;have gG:xs.length=2:=gG;clear h;obtain⟨k0,oC,rfl,dY⟩:=fG hl;obtain⟨k1,rfl⟩:=qN dY;obtain⟨y0,e0⟩:=fy (show 0<xs.length by omega);have f0:=hf 0 ⟨_,_,_,_,_,_,_⟩ rfl;rw[e0]at f0;simp only[QY,List.drop_zero,List.drop_succ_cons,List.take_succ_cons,List.take_zero]at f0;obtain⟨b0,r0⟩:=tG (dg:=sF) underlying22 Km (by decide) (fun _ _ _ h=>Q9 h) f0;obtain⟨y1,e1⟩:=fy (show 1<xs.length by omega);have f1:=hf 1 ⟨_,_,_,_,_,_,_⟩ rfl;rw[e1]at f1;simp only[QZ,List.drop_zero,List.drop_succ_cons,List.take_succ_cons,List.take_zero]at f1;obtain⟨b1,r1⟩:=tG (dg:=sG) underlying23 Kn (by decide) (fun _ _ _ h=>Ra h) f1;exact⟨⟨b0,b1⟩,k0,k1,rfl,r0,r1,rfl⟩
end Go.Proofs.YtflhgkmhmcfimaaGreat
