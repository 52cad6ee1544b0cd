/- MovesCost, of the program and of the reference. -/
import Derived.Test.YtnlpbgljaecdmaaKNum
namespace Go.Proofs.Ytnlpbgljaecdmaa
open Go.RowKit
set_option maxHeartbeats 16000000
set_option maxRecDepth 100000
set_option linter.unusedSimpArgs false
set_option linter.unusedVariables false
def mvOk(m:Move):Bool:=inB m.amt 1 1000000000&&inB m.ppm 0 1000000
def mvSum(l:List Move):Int:=(l.map fun m=>m.amt*m.ppm).sum
def movesCost(l:List Move):Int:=if decide (l.length≤20)&&l.all mvOk then mvSum l else 0
theorem mvOk_iff{m:Move}:mvOk m=true↔1≤m.amt∧m.amt≤1000000000∧0≤m.ppm∧m.ppm≤1000000:=by
 simp[mvOk,inB];omega
theorem mvProd{m:Move}(h:mvOk m=true):0≤m.amt*m.ppm∧m.amt*m.ppm≤1000000000000000:=by
 obtain⟨h1,h2,h3,h4⟩:=mvOk_iff.1 h
 refine⟨Int.mul_nonneg (by omega) h3,?_⟩
 have:=Int.mul_le_mul h2 h4 h3 (by omega)
 omega
theorem mvSum_snoc{l:List Move}{k:Nat}(hk:k<l.length):mvSum (l.take (k+1))=mvSum (l.take k)+l[k].amt*l[k].ppm:=by
 unfold mvSum;rw[List.take_succ_eq_append_getElem hk,List.map_append,List.sum_append];simp
theorem mvSum_bd:∀(l:List Move),l.all mvOk=true→0≤mvSum l∧mvSum l≤1000000000000000*l.length
 |[],_=>by simp[mvSum]
 |m::r,h=>by
  simp only[List.all_cons,Bool.and_eq_true]at h
  have h1:=mvProd h.1
  have h2:=mvSum_bd r h.2
  have:mvSum (m::r)=m.amt*m.ppm+mvSum r:=by simp[mvSum]
  rw[this,List.length_cons]
  omega
theorem mv_take_succ{p:Move→Bool}{l:List Move}{k:Nat}(hk:k<l.length):(l.take (k+1)).all p=((l.take k).all p&&p l[k]):=by
 rw[List.take_succ_eq_append_getElem hk,List.all_append];simp
theorem mv_all_false{p:Move→Bool}{l:List Move}{k:Nat}(hk:k<l.length)(h:p l[k]=false):l.all p=false:=by
 rw[List.all_eq_false];exact⟨l[k],List.getElem_mem hk,by simp[h]⟩
theorem impl_MovesCost_c(l:List Move)(a:Option Addr)(c:Nat)(w:World)(h:SlR 4 repMove w 0 w.heap.size (.slice a l.length c) l) :
 Calls Try.prog 8 #[.slice a l.length c] w fun e w'=>e=.returned (.int .i64 (movesCost l))∧Grow w w':=by
 obtain⟨a_,cap_,heq,hc1,hc2,hsl⟩:=h
 injection heq with q1 q2 q3
 subst q1 q3
 clear q2
 have hm:l.length≤9223372036854775807:=by unfold maxLen at hc2;omega
 clear hc1 hc2
 have HS:=Lib.hid hsl;clear hsl
 go_enter Try.func8,Try.ntmps8
 go_wp2
 go_loopg [3,8] l.length (fun g n i wr=>∃k:Nat,k+g=l.length∧i=.int .i64 k∧(l.take k).all mvOk=true∧k≤20∧n=.int .i64 (mvSum (l.take k))∧Grow w wr)
 case atStart=>exact⟨0,by simp,rfl,by simp,by omega,rfl,Grow.refl _⟩
 case round=>
  obtain⟨k,hk,rfl,hall,hk20,rfl,hg⟩:=hrel
  by_cases hlt:k<l.length
  ·rcases HS.out with h0|⟨b,off,rfl,hb1,hb2,hel⟩
   ·exfalso;rw[h0]at hlt;exact absurd hlt (by simp)
   obtain⟨e0,e1,e2,e3,_⟩:=Move.atCell (hel.same repMove_stable (hg.same (Nat.le_refl _)) hb1 hb2) k hlt
   have hbs:=mvSum_bd _ hall
   have hlk:(l.take k).length=k:=by simp;omega
   rw[hlk]at hbs
   obtain⟨hbs1,hbs2⟩:=hbs
   have HB:=Lib.hid hg;have HK:=Lib.hid hk;have HALL:=Lib.hid hall
   have HE:Hid (mvOk l[k]=false→l.all mvOk=false):=fun h=>mv_all_false hlt h
   have HT:Hid ((l.take (k+1)).all mvOk=((l.take k).all mvOk&&mvOk l[k])):=mv_take_succ hlt
   have HM:Hid (mvSum (l.take (k+1))=mvSum (l.take k)+l[k].amt*l[k].ppm):=mvSum_snoc hlt
   clear hg hk hel hall hlk
   generalize l[k]=e at *
   generalize mvSum (l.take k)=s at *
   by_cases h20:k<20
   ·by_cases ho:mvOk e=true
    ·obtain⟨o1,o2⟩:=mvProd ho
     have HO:=Lib.hid ho
     simp only[mvOk,Bool.and_eq_true]at ho
     obtain⟨ho1,ho2⟩:=ho
     go_wp2_with (go_at_call 16;refine(in_c _ _ _ _).mono ?_;rintro e w' ⟨rfl,rfl⟩)
     go_roundg (l.length-(k+1))
     case measure=>have:=HK.out;omega
     case rel=>
      refine⟨k+1,by have:=HK.out;omega,by go_num,?_,by omega,?_,HB.out.alloc _ _⟩
      ·rw[HT.out,HALL.out,HO.out];rfl
      ·rw[HM.out]
    ·have ho:mvOk e=false:=by simpa using ho
     have hres:movesCost l=0:=by simp[movesCost,HE.out ho]
     have HR:=Lib.hid hres;clear hres
     have hoo:inB e.amt 1 1000000000=false∨(inB e.amt 1 1000000000=true∧inB e.ppm 0 1000000=false):=by
      revert ho;unfold mvOk;cases inB e.amt 1 1000000000<;>cases inB e.ppm 0 1000000<;>simp
     clear ho
     rcases hoo with ho|⟨ho,ho2⟩
     all_goals
      go_wp2_with (go_at_call 16;refine(in_c _ _ _ _).mono ?_;rintro e w' ⟨rfl,rfl⟩)
      go_ret
      exact⟨by rw[HR.out];rfl,HB.out.alloc _ _⟩
   ·have hres:movesCost l=0:=by
     have:¬l.length≤20:=by omega
     simp[movesCost,this]
    have HR:=Lib.hid hres;clear hres
    go_wp2
    go_ret
    exact⟨by rw[HR.out];rfl,HB.out.alloc _ _⟩
  ·have hke:k=l.length:=by omega
   have hres:movesCost l=mvSum (l.take k):=by
    rw[hke,List.take_length]at hall ⊢
    have:l.length≤20:=by omega
    simp[movesCost,hall,this]
   have HR:=Lib.hid hres;clear hres hke
   have HB:=Lib.hid hg;clear hg hall
   go_wp2
   go_ret
   exact⟨by rw[HR.out];rfl,HB.out⟩
end Go.Proofs.Ytnlpbgljaecdmaa
