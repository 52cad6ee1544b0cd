/- Cost, of the program and of the reference. -/
import Derived.Test.YtlgamhhfgaeaoaaKFlow2I
import Derived.Test.YtlgamhhfgaeaoaaKFlow2S
import Derived.Test.YtlgamhhfgaeaoaaKCost0
namespace Go.Proofs.Ytlgamhhfgaeaoaa
open Go.RowKit
set_option maxHeartbeats 16000000
set_option maxRecDepth 100000
set_option linter.unusedSimpArgs false
set_option linter.unusedVariables false
theorem impl_Cost_c(x:Graph)(a:Option Addr)(c:Nat)(f:List Int)(a':Option Addr)(c':Nat)(w:World)(h:SlR 4 repEdge w 0 w.heap.size (.slice a x.edges.length c) x.edges)
 (h':SlR 1 repInt w 0 w.heap.size (.slice a' f.length c') f) :
 Calls Try.prog 10 #[.agg #[.int .i64 x.n,.slice a x.edges.length c],.slice a' f.length c'] w fun e w'=>e=.returned (.int .i64 (cost x f))∧Grow w w':=by
 by_cases hok:flowOk x f=true
 rotate_left
 ·have hok:flowOk x f=false:=by simpa using hok
  have hr:cost x f=0:=by simp[cost,hok]
  have HR:=Lib.hid hr;clear hr
  go_enter Try.func10,Try.ntmps10
  go_wp2_with fail
  refine(impl_FlowOk_c x _ _ f _ _ _ (h.grow' repEdge_stable (Grow.below ((Grow.refl _).alloc _ _))) (h'.grow' repInt_stable (Grow.below ((Grow.refl _).alloc _ _)))).mono ?_
  rintro e w1 ⟨rfl,g1⟩
  go_wp2_with fail
  go_ret
  exact⟨by rw[HR.out];rfl,((Grow.refl w).alloc _ _).trans g1⟩
 obtain⟨h60,hlen,hp⟩:=flowOk_parts hok
 have hr:cost x f=costSum (x.edges.zip f):=by simp[cost,hok]
 have HR:=Lib.hid hr;have HLEN:=Lib.hid hlen;have HP:=Lib.hid hp
 have hlf:f.length≤60:=by omega
 clear hr hlen hp
 have hzl:(x.edges.zip f).length=x.edges.length:=by have:=HLEN.out;simp;omega
 have HZL:=Lib.hid hzl;clear hzl
 go_enter Try.func10,Try.ntmps10
 go_wp2_with fail
 refine(impl_FlowOk_c x _ _ f _ _ _ (h.grow' repEdge_stable (Grow.below ((Grow.refl _).alloc _ _))) (h'.grow' repInt_stable (Grow.below ((Grow.refl _).alloc _ _)))).mono ?_
 rintro e w1 ⟨rfl,g1⟩
 have b0:=cellGrow g1 (cell_new 0 rfl)
 have b1:=cellGrow g1 (cell_new 1 rfl)
 go_wp2_with fail
 have G1:=((Grow.refl w).alloc _ _).trans g1
 have hG1:=Lib.hid G1;clear G1
 go_loopg [5,15] x.edges.length (fun g n i wr=>∃k:Nat,k+g=x.edges.length∧i=.int .i64 k∧n=.int .i64 (costSum ((x.edges.zip f).take k))∧Grow w wr)
 case atStart=>exact⟨0,by simp,rfl,rfl,hG1.out⟩
 case round=>
  obtain⟨k,hk,rfl,rfl,hg⟩:=hrel
  have hbd:-(1000000000000000*60)≤costSum ((x.edges.zip f).take k)∧costSum ((x.edges.zip f).take k)≤1000000000000000*60:=by
   have h1:=costSum_bd ((x.edges.zip f).take k) (fun p hp=>HP.out p (List.mem_of_mem_take hp))
   have hl:((x.edges.zip f).take k).length≤60:=Nat.le_trans (List.length_take_le _ _) (by omega)
   omega
  by_cases hlt:k<x.edges.length
  ·obtain⟨b,off,e0,e1,e2,e3,rfl,hb⟩:=elem_edge h k hlt
   obtain⟨b',off',f0,rfl,hb'⟩:=elem_int h' k (by have:=HLEN.out;omega)
   have e0:=cellGrow hg e0;have e1:=cellGrow hg e1;have e2:=cellGrow hg e2;have e3:=cellGrow hg e3;have f0:=cellGrow hg f0
   have hbz:b<wr.heap.size:=by have:=hg.size;omega
   have hbz':b'<wr.heap.size:=by have:=hg.size;omega
   have hltz:k<(x.edges.zip f).length:=by have:=HZL.out;omega
   have hzk:(x.edges.zip f)[k]=(x.edges[k],f[k]'(by have:=HLEN.out;omega)):=List.getElem_zip
   have hsn:=costSum_snoc hltz
   have hpk:=HP.out _ (List.getElem_mem hltz)
   rw[hzk]at hsn hpk
   obtain⟨p1,p2,p3,p4⟩:=hpk
   obtain⟨m1,m2⟩:=mul_bd p1 p2 p3 p4 (by omega)
   obtain⟨s1,s2⟩:=hbd
   have HSN:=Lib.hid hsn;have HG:=Lib.hid hg;have HK:=Lib.hid hk
   clear hsn hzk hg hltz
   generalize x.edges[k]=e at *
   generalize f[k]'(by have:=HLEN.out;omega)=v at *
   generalize costSum ((x.edges.zip f).take k)=s at *
   clear hk
   have hk0:(0:Int)≤(k:Int):=by omega
   have hk1:(k:Int)<(f.length:Int):=by have:=HLEN.out;omega
   have hk2:k<f.length:=by omega
   obtain⟨frm,to,cap,co⟩:=e
   simp only at e0 e1 e2 e3 p1 p2 m1 m2
   go_wp2_with fail
   go_quiet (fail)
   go_wp2_with fail
   go_roundg (x.edges.length-(k+1))
   case measure=>have:=HK.out;omega
   case rel=>exact⟨k+1,by have:=HK.out;omega,by go_num,by rw[HSN.out],(HG.out.alloc _ _).drewN _⟩
  ·have hke:k=x.edges.length:=by omega
   have htk:(x.edges.zip f).take k=x.edges.zip f:=List.take_of_length_le (by have:=HZL.out;omega)
   rw[htk]at hbd ⊢
   have HG:=Lib.hid hg;clear hg htk hke hbd
   go_wp2
   go_ret
   exact⟨by rw[HR.out];rfl,HG.out⟩
end Go.Proofs.Ytlgamhhfgaeaoaa
