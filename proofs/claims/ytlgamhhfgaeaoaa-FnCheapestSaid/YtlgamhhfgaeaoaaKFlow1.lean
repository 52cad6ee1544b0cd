/- GraphOk, of the program and of the reference. -/
import Derived.Test.YtlgamhhfgaeaoaaKNum
namespace Go.Proofs.Ytlgamhhfgaeaoaa
open Go.RowKit
set_option maxHeartbeats 16000000
set_option maxRecDepth 100000
set_option linter.unusedSimpArgs false
set_option linter.unusedVariables false
def edgeOk(n:Int)(e:Edge):Bool:=
 inB e.frm 0 (n-1)&&inB e.to 0 (n-1)&&!(e.frm==e.to)&&inB e.cap 0 1000000000&&inB e.cost (-1000000) 1000000
def graphOk(x:Graph):Bool:=inB x.n 1 24&&decide (x.edges.length≤60)&&x.edges.all (edgeOk x.n)
theorem all_take_succ{α:Type}{p:α→Bool}{l:List α}{k:Nat}(hk:k<l.length):(l.take (k+1)).all p=((l.take k).all p&&p l[k]):=by
 rw[List.take_succ_eq_append_getElem hk,List.all_append];simp
theorem all_false_of{α:Type}{p:α→Bool}{l:List α}{k:Nat}(hk:k<l.length)(h:p l[k]=false):l.all p=false:=by
 rw[List.all_eq_false];exact⟨l[k],List.getElem_mem hk,by simp[h]⟩
theorem impl_GraphOk_c(x:Graph)(a:Option Addr)(c:Nat)(w:World)(h:SlR 4 repEdge w 0 w.heap.size (.slice a x.edges.length c) x.edges) :
 Calls Try.prog 22 #[.agg #[.int .i64 x.n,.slice a x.edges.length c]] w fun e w'=>e=.returned (.bool (graphOk x))∧Grow w w':=by
 obtain⟨a_,cap_,heq,hc1,hc2,hsl⟩:=h
 injection heq with q1 q2 q3
 subst q1 q3
 clear q2
 have HS:=Lib.hid hsl;clear hsl
 by_cases h1:inB x.n 1 24=true
 ·by_cases h2:x.edges.length≤60
  ·obtain⟨hn2,hn3⟩:=inB_true.1 h1
   have h3:decide ((60:Int)<(x.edges.length:Int))=false:=by simp;omega
   go_enter Try.func22,Try.ntmps22
   go_wp2_with (go_at_call 23;refine(in_c _ _ _ _).mono ?_;rintro e w' ⟨rfl,rfl⟩)
   have hg0:Grow w (w.alloc (.cells #[.int .i64 x.n,.slice a x.edges.length c] 25)):=(Grow.refl _).alloc _ _
   go_loopg [18] x.edges.length (fun g i wr=>∃k:Nat,k+g=x.edges.length∧i=.int .i64 k∧(x.edges.take k).all (edgeOk x.n)=true∧
    Grow (w.alloc (.cells #[.int .i64 x.n,.slice a x.edges.length c] 25)) wr)
   case atStart=>exact⟨0,by simp,rfl,by simp,Grow.refl _⟩
   case round=>
    obtain⟨k,hk,rfl,hall,hg⟩:=hrel
    have hgw:=hg0.trans hg
    have HALL:=Lib.hid hall;clear hall
    have c0:wr.cell? ⟨w.heap.size,0,none⟩=some (.int .i64 x.n):=cellIn hg.below (by simp) (cell_new 0 rfl)
    have c1:wr.cell? ⟨w.heap.size,1,none⟩=some (.slice a x.edges.length c):=cellIn hg.below (by simp) (cell_new 1 rfl)
    have hz:w.heap.size<wr.heap.size:=by have:=hg.size;simp at this;omega
    by_cases hlt:k<x.edges.length
    ·rcases HS.out with h0|⟨b,off,rfl,hb1,hb2,hel⟩
     ·exfalso;rw[h0]at hlt;exact absurd hlt (by simp)
     obtain⟨e0,e1,e2,e3,_⟩:=Edge.atCell (hel.same repEdge_stable (hgw.same (Nat.le_refl _)) hb1 hb2) k hlt
     have hz2:b<wr.heap.size:=by omega
     have HB:=Lib.hid hgw;have HG:=Lib.hid hg;have HK:=Lib.hid hk
     have HE:Hid (edgeOk x.n x.edges[k]=false→x.edges.all (edgeOk x.n)=false):=fun h=>all_false_of hlt h
     have HT:Hid ((x.edges.take (k+1)).all (edgeOk x.n)=((x.edges.take k).all (edgeOk x.n)&&edgeOk x.n x.edges[k])):=all_take_succ hlt
     clear hgw hg hk hel
     generalize x.edges[k]=e at *
     go_wp2_with (go_at_call 23;refine(in_c _ _ _ _).mono ?_;rintro e w' ⟨rfl,rfl⟩)
     all_goals first
      |(go_roundg (x.edges.length-(k+1))
        case measure=>have:=HK.out;omega
        case rel=>
         refine⟨k+1,by have:=HK.out;omega,by go_num,?_,HG.out.alloc _ _⟩
         rw[HT.out,HALL.out]
         first|(simp[edgeOk, *];done)|simp_all[edgeOk])
      |(go_ret
        refine⟨?_,HB.out.alloc _ _⟩
        have hf:edgeOk x.n e=false:=by first|(simp[edgeOk, *];done)|simp_all[edgeOk]
        simp[graphOk,HE.out hf])
    ·have hke:k=x.edges.length:=by omega
     have HKE:=Lib.hid hke;clear hke
     have HB:=Lib.hid hgw;clear hgw hg
     go_wp2
     go_ret
     refine⟨?_,HB.out⟩
     have:=HALL.out
     rw[HKE.out,List.take_length]at this
     simp[graphOk,h1,h2,this]
  ·have h3:decide ((60:Int)<(x.edges.length:Int))=true:=by simp;omega
   go_enter Try.func22,Try.ntmps22
   go_wp2_with (go_at_call 23;refine(in_c _ _ _ _).mono ?_;rintro e w' ⟨rfl,rfl⟩)
   all_goals
    go_ret
    exact⟨by simp[graphOk,h2],(Grow.refl _).alloc _ _⟩
 ·have h1:inB x.n 1 24=false:=by simpa using h1
  go_enter Try.func22,Try.ntmps22
  go_wp2_with (go_at_call 23;refine(in_c _ _ _ _).mono ?_;rintro e w' ⟨rfl,rfl⟩)
  all_goals
   go_ret
   exact⟨by simp[graphOk,h1],(Grow.refl _).alloc _ _⟩
theorem edgeOk_iff{n:Int}{e:Edge}:edgeOk n e=true↔0≤e.frm∧e.frm≤n-1∧0≤e.to∧e.to≤n-1∧e.frm≠e.to∧0≤e.cap∧e.cap≤1000000000∧-1000000≤e.cost∧e.cost≤1000000:=by
 simp[edgeOk,inB]
 omega
theorem edgeOk_no{n:Int}{e:Edge}(h:¬(0≤e.frm∧e.frm≤n-1∧0≤e.to∧e.to≤n-1∧e.frm≠e.to∧0≤e.cap∧e.cap≤1000000000∧-1000000≤e.cost∧e.cost≤1000000)):edgeOk n e=false:=by
 rw[Bool.eq_false_iff];exact fun h'=>h (edgeOk_iff.1 h')
theorem spec_GraphOk_c(x:Graph)(a:Option Addr)(c:Nat)(w:World)(h:SlR 4 repEdge w 0 w.heap.size (.slice a x.edges.length c) x.edges) :
 Calls Try.prog 25 #[.agg #[.int .i64 x.n,.slice a x.edges.length c]] w fun e w'=>e=.returned (.bool (graphOk x))∧Grow w w':=by
 obtain⟨a_,cap_,heq,hc1,hc2,hsl⟩:=h
 injection heq with q1 q2 q3
 subst q1 q3
 clear q2
 have HS:=Lib.hid hsl;clear hsl
 by_cases h1:inB x.n 1 24=true
 ·obtain⟨hn2,hn3⟩:=inB_true.1 h1
  by_cases h2:x.edges.length≤60
  ·have H1:=Lib.hid h1;clear h1
   have h4:decide (x.n<(1:Int))=false:=by simp;omega
   have h5:decide ((24:Int)<x.n)=false:=by simp;omega
   have h3:decide ((60:Int)<(x.edges.length:Int))=false:=by simp;omega
   go_enter Try.func25,Try.ntmps25
   go_wp2
   have hg0:Grow w (w.alloc (.cells #[.int .i64 x.n,.slice a x.edges.length c] 25)):=(Grow.refl _).alloc _ _
   go_loopg [22] x.edges.length (fun g i wr=>∃k:Nat,k+g=x.edges.length∧i=.int .i64 k∧(x.edges.take k).all (edgeOk x.n)=true∧
    Grow (w.alloc (.cells #[.int .i64 x.n,.slice a x.edges.length c] 25)) wr)
   case atStart=>exact⟨0,by simp,rfl,by simp,Grow.refl _⟩
   case round=>
    obtain⟨k,hk,rfl,hall,hg⟩:=hrel
    have hgw:=hg0.trans hg
    have HALL:=Lib.hid hall;clear hall
    have c0:wr.cell? ⟨w.heap.size,0,none⟩=some (.int .i64 x.n):=cellIn hg.below (by simp) (cell_new 0 rfl)
    have c1:wr.cell? ⟨w.heap.size,1,none⟩=some (.slice a x.edges.length c):=cellIn hg.below (by simp) (cell_new 1 rfl)
    have hz:w.heap.size<wr.heap.size:=by have:=hg.size;simp at this;omega
    by_cases hlt:k<x.edges.length
    ·rcases HS.out with h0|⟨b,off,rfl,hb1,hb2,hel⟩
     ·exfalso;rw[h0]at hlt;exact absurd hlt (by simp)
     obtain⟨e0,e1,e2,e3,_⟩:=Edge.atCell (hel.same repEdge_stable (hgw.same (Nat.le_refl _)) hb1 hb2) k hlt
     have hz2:b<wr.heap.size:=by omega
     have HB:=Lib.hid hgw;have HG:=Lib.hid hg;have HK:=Lib.hid hk
     have HE:Hid (edgeOk x.n x.edges[k]=false→x.edges.all (edgeOk x.n)=false):=fun h=>all_false_of hlt h
     have HT:Hid ((x.edges.take (k+1)).all (edgeOk x.n)=((x.edges.take k).all (edgeOk x.n)&&edgeOk x.n x.edges[k])):=all_take_succ hlt
     clear hgw hg hk hel
     generalize x.edges[k]=e at *
     go_wp2
     all_goals first
      |(go_roundg (x.edges.length-(k+1))
        case measure=>have:=HK.out;omega
        case rel=>
         refine⟨k+1,by have:=HK.out;omega,by go_num,?_,HG.out.alloc _ _⟩
         rw[HT.out,HALL.out,Bool.true_and]
         exact edgeOk_iff.2 (by first|omega|(simp only[beq_iff_eq,beq_eq_false_iff_ne,ne_eq]at *;omega)))
      |(go_ret
        refine⟨?_,HB.out.alloc _ _⟩
        have hf:edgeOk x.n e=false:=edgeOk_no (by first|omega|(simp only[beq_iff_eq,beq_eq_false_iff_ne,ne_eq]at *;omega))
        simp[graphOk,HE.out hf])
    ·have hke:k=x.edges.length:=by omega
     have HKE:=Lib.hid hke;clear hke
     have HB:=Lib.hid hgw;clear hgw hg
     go_wp2
     go_ret
     refine⟨?_,HB.out⟩
     have:=HALL.out
     rw[HKE.out,List.take_length]at this
     simp[graphOk,H1.out,h2,this]
  ·have h4:decide (x.n<(1:Int))=false:=by simp;omega
   have h5:decide ((24:Int)<x.n)=false:=by simp;omega
   have h3:decide ((60:Int)<(x.edges.length:Int))=true:=by simp;omega
   go_enter Try.func25,Try.ntmps25
   go_wp2
   all_goals
    go_ret
    exact⟨by simp[graphOk,h2],(Grow.refl _).alloc _ _⟩
 ·have h1:inB x.n 1 24=false:=by simpa using h1
  have hf:graphOk x=false:=by simp[graphOk,h1]
  have HF:=Lib.hid hf;clear hf
  rcases inB_false.1 h1 with h4|h4
  all_goals
   go_enter Try.func25,Try.ntmps25
   go_wp2
   all_goals
    go_ret
    exact⟨by rw[HF.out];rfl,(Grow.refl _).alloc _ _⟩
end Go.Proofs.Ytlgamhhfgaeaoaa
