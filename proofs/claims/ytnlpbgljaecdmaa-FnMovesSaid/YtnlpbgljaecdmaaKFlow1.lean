/- Texts joined: Flow1, Flow2, Cost0. -/
import Derived.Test.YtnlpbgljaecdmaaKNum
namespace Go.Proofs.Ytnlpbgljaecdmaa
open Go.RowKit
set_option maxHeartbeats 16000000
set_option maxRecDepth 100000
set_option linter.unusedSimpArgs false
set_option linter.unusedVariables false
def edgeOk(n:Int)(e:Edge):Bool:=
 inB e.frm 0 (n-1)&&inB e.to 0 (n-1)&&!(e.frm==e.to)&&inB e.cap 0 1000000000&&inB e.cost (-1000000) 1000000
def graphOk(x:Graph):Bool:=inB x.n 1 24&&decide (x.edges.length≤60)&&x.edges.all (edgeOk x.n)
theorem all_take_succ{α:Type}{p:α→Bool}{l:List α}{k:Nat}(hk:k<l.length):(l.take (k+1)).all p=((l.take k).all p&&p l[k]):=by
 rw[List.take_succ_eq_append_getElem hk,List.all_append];simp
theorem all_false_of{α:Type}{p:α→Bool}{l:List α}{k:Nat}(hk:k<l.length)(h:p l[k]=false):l.all p=false:=by
 rw[List.all_eq_false];exact⟨l[k],List.getElem_mem hk,by simp[h]⟩
theorem impl_GraphOk_c(x:Graph)(a:Option Addr)(c:Nat)(w:World)(h:SlR 4 repEdge w 0 w.heap.size (.slice a x.edges.length c) x.edges) :
 Calls Try.prog 22 #[.agg #[.int .i64 x.n,.slice a x.edges.length c]] w fun e w'=>e=.returned (.bool (graphOk x))∧Grow w w':=by
 obtain⟨a_,cap_,heq,hc1,hc2,hsl⟩:=h
 injection heq with q1 q2 q3
 subst q1 q3
 clear q2
 have HS:=Lib.hid hsl;clear hsl
 by_cases h1:inB x.n 1 24=true
 ·by_cases h2:x.edges.length≤60
  ·obtain⟨hn2,hn3⟩:=inB_true.1 h1
   have h3:decide ((60:Int)<(x.edges.length:Int))=false:=by simp;omega
   go_enter Try.func22,Try.ntmps22
   go_wp2_with (go_at_call 16;refine(in_c _ _ _ _).mono ?_;rintro e w' ⟨rfl,rfl⟩)
   have hg0:Grow w (w.alloc (.cells #[.int .i64 x.n,.slice a x.edges.length c] 36)):=(Grow.refl _).alloc _ _
   go_loopg [18] x.edges.length (fun g i wr=>∃k:Nat,k+g=x.edges.length∧i=.int .i64 k∧(x.edges.take k).all (edgeOk x.n)=true∧
    Grow (w.alloc (.cells #[.int .i64 x.n,.slice a x.edges.length c] 36)) wr)
   case atStart=>exact⟨0,by simp,rfl,by simp,Grow.refl _⟩
   case round=>
    obtain⟨k,hk,rfl,hall,hg⟩:=hrel
    have hgw:=hg0.trans hg
    have HALL:=Lib.hid hall;clear hall
    have c0:wr.cell? ⟨w.heap.size,0,none⟩=some (.int .i64 x.n):=cellIn hg.below (by simp) (cell_new 0 rfl)
    have c1:wr.cell? ⟨w.heap.size,1,none⟩=some (.slice a x.edges.length c):=cellIn hg.below (by simp) (cell_new 1 rfl)
    have hz:w.heap.size<wr.heap.size:=by have:=hg.size;simp at this;omega
    by_cases hlt:k<x.edges.length
    ·rcases HS.out with h0|⟨b,off,rfl,hb1,hb2,hel⟩
     ·exfalso;rw[h0]at hlt;exact absurd hlt (by simp)
     obtain⟨e0,e1,e2,e3,_⟩:=Edge.atCell (hel.same repEdge_stable (hgw.same (Nat.le_refl _)) hb1 hb2) k hlt
     have hz2:b<wr.heap.size:=by omega
     have HB:=Lib.hid hgw;have HG:=Lib.hid hg;have HK:=Lib.hid hk
     have HE:Hid (edgeOk x.n x.edges[k]=false→x.edges.all (edgeOk x.n)=false):=fun h=>all_false_of hlt h
     have HT:Hid ((x.edges.take (k+1)).all (edgeOk x.n)=((x.edges.take k).all (edgeOk x.n)&&edgeOk x.n x.edges[k])):=all_take_succ hlt
     clear hgw hg hk hel
     generalize x.edges[k]=e at *
     go_wp2_with (go_at_call 16;refine(in_c _ _ _ _).mono ?_;rintro e w' ⟨rfl,rfl⟩)
     all_goals first
      |(go_roundg (x.edges.length-(k+1))
        case measure=>have:=HK.out;omega
        case rel=>
         refine⟨k+1,by have:=HK.out;omega,by go_num,?_,HG.out.alloc _ _⟩
         rw[HT.out,HALL.out]
         first|(simp[edgeOk, *];done)|simp_all[edgeOk])
      |(go_ret
        refine⟨?_,HB.out.alloc _ _⟩
        have hf:edgeOk x.n e=false:=by first|(simp[edgeOk, *];done)|simp_all[edgeOk]
        simp[graphOk,HE.out hf])
    ·have hke:k=x.edges.length:=by omega
     have HKE:=Lib.hid hke;clear hke
     have HB:=Lib.hid hgw;clear hgw hg
     go_wp2
     go_ret
     refine⟨?_,HB.out⟩
     have:=HALL.out
     rw[HKE.out,List.take_length]at this
     simp[graphOk,h1,h2,this]
  ·have h3:decide ((60:Int)<(x.edges.length:Int))=true:=by simp;omega
   go_enter Try.func22,Try.ntmps22
   go_wp2_with (go_at_call 16;refine(in_c _ _ _ _).mono ?_;rintro e w' ⟨rfl,rfl⟩)
   all_goals
    go_ret
    exact⟨by simp[graphOk,h2],(Grow.refl _).alloc _ _⟩
 ·have h1:inB x.n 1 24=false:=by simpa using h1
  go_enter Try.func22,Try.ntmps22
  go_wp2_with (go_at_call 16;refine(in_c _ _ _ _).mono ?_;rintro e w' ⟨rfl,rfl⟩)
  all_goals
   go_ret
   exact⟨by simp[graphOk,h1],(Grow.refl _).alloc _ _⟩
theorem edgeOk_iff{n:Int}{e:Edge}:edgeOk n e=true↔0≤e.frm∧e.frm≤n-1∧0≤e.to∧e.to≤n-1∧e.frm≠e.to∧0≤e.cap∧e.cap≤1000000000∧-1000000≤e.cost∧e.cost≤1000000:=by
 simp[edgeOk,inB]
 omega
theorem edgeOk_no{n:Int}{e:Edge}(h:¬(0≤e.frm∧e.frm≤n-1∧0≤e.to∧e.to≤n-1∧e.frm≠e.to∧0≤e.cap∧e.cap≤1000000000∧-1000000≤e.cost∧e.cost≤1000000)):edgeOk n e=false:=by
 rw[Bool.eq_false_iff];exact fun h'=>h (edgeOk_iff.1 h')
theorem spec_GraphOk_c(x:Graph)(a:Option Addr)(c:Nat)(w:World)(h:SlR 4 repEdge w 0 w.heap.size (.slice a x.edges.length c) x.edges) :
 Calls Try.prog 30 #[.agg #[.int .i64 x.n,.slice a x.edges.length c]] w fun e w'=>e=.returned (.bool (graphOk x))∧Grow w w':=by
 obtain⟨a_,cap_,heq,hc1,hc2,hsl⟩:=h
 injection heq with q1 q2 q3
 subst q1 q3
 clear q2
 have HS:=Lib.hid hsl;clear hsl
 by_cases h1:inB x.n 1 24=true
 ·obtain⟨hn2,hn3⟩:=inB_true.1 h1
  by_cases h2:x.edges.length≤60
  ·have H1:=Lib.hid h1;clear h1
   have h4:decide (x.n<(1:Int))=false:=by simp;omega
   have h5:decide ((24:Int)<x.n)=false:=by simp;omega
   have h3:decide ((60:Int)<(x.edges.length:Int))=false:=by simp;omega
   go_enter Try.func30,Try.ntmps30
   go_wp2
   have hg0:Grow w (w.alloc (.cells #[.int .i64 x.n,.slice a x.edges.length c] 36)):=(Grow.refl _).alloc _ _
   go_loopg [22] x.edges.length (fun g i wr=>∃k:Nat,k+g=x.edges.length∧i=.int .i64 k∧(x.edges.take k).all (edgeOk x.n)=true∧
    Grow (w.alloc (.cells #[.int .i64 x.n,.slice a x.edges.length c] 36)) wr)
   case atStart=>exact⟨0,by simp,rfl,by simp,Grow.refl _⟩
   case round=>
    obtain⟨k,hk,rfl,hall,hg⟩:=hrel
    have hgw:=hg0.trans hg
    have HALL:=Lib.hid hall;clear hall
    have c0:wr.cell? ⟨w.heap.size,0,none⟩=some (.int .i64 x.n):=cellIn hg.below (by simp) (cell_new 0 rfl)
    have c1:wr.cell? ⟨w.heap.size,1,none⟩=some (.slice a x.edges.length c):=cellIn hg.below (by simp) (cell_new 1 rfl)
    have hz:w.heap.size<wr.heap.size:=by have:=hg.size;simp at this;omega
    by_cases hlt:k<x.edges.length
    ·rcases HS.out with h0|⟨b,off,rfl,hb1,hb2,hel⟩
     ·exfalso;rw[h0]at hlt;exact absurd hlt (by simp)
     obtain⟨e0,e1,e2,e3,_⟩:=Edge.atCell (hel.same repEdge_stable (hgw.same (Nat.le_refl _)) hb1 hb2) k hlt
     have hz2:b<wr.heap.size:=by omega
     have HB:=Lib.hid hgw;have HG:=Lib.hid hg;have HK:=Lib.hid hk
     have HE:Hid (edgeOk x.n x.edges[k]=false→x.edges.all (edgeOk x.n)=false):=fun h=>all_false_of hlt h
     have HT:Hid ((x.edges.take (k+1)).all (edgeOk x.n)=((x.edges.take k).all (edgeOk x.n)&&edgeOk x.n x.edges[k])):=all_take_succ hlt
     clear hgw hg hk hel
     generalize x.edges[k]=e at *
     go_wp2
     all_goals first
      |(go_roundg (x.edges.length-(k+1))
        case measure=>have:=HK.out;omega
        case rel=>
         refine⟨k+1,by have:=HK.out;omega,by go_num,?_,HG.out.alloc _ _⟩
         rw[HT.out,HALL.out,Bool.true_and]
         exact edgeOk_iff.2 (by first|omega|(simp only[beq_iff_eq,beq_eq_false_iff_ne,ne_eq]at *;omega)))
      |(go_ret
        refine⟨?_,HB.out.alloc _ _⟩
        have hf:edgeOk x.n e=false:=edgeOk_no (by first|omega|(simp only[beq_iff_eq,beq_eq_false_iff_ne,ne_eq]at *;omega))
        simp[graphOk,HE.out hf])
    ·have hke:k=x.edges.length:=by omega
     have HKE:=Lib.hid hke;clear hke
     have HB:=Lib.hid hgw;clear hgw hg
     go_wp2
     go_ret
     refine⟨?_,HB.out⟩
     have:=HALL.out
     rw[HKE.out,List.take_length]at this
     simp[graphOk,H1.out,h2,this]
  ·have h4:decide (x.n<(1:Int))=false:=by simp;omega
   have h5:decide ((24:Int)<x.n)=false:=by simp;omega
   have h3:decide ((60:Int)<(x.edges.length:Int))=true:=by simp;omega
   go_enter Try.func30,Try.ntmps30
   go_wp2
   all_goals
    go_ret
    exact⟨by simp[graphOk,h2],(Grow.refl _).alloc _ _⟩
 ·have h1:inB x.n 1 24=false:=by simpa using h1
  have hf:graphOk x=false:=by simp[graphOk,h1]
  have HF:=Lib.hid hf;clear hf
  rcases inB_false.1 h1 with h4|h4
  all_goals
   go_enter Try.func30,Try.ntmps30
   go_wp2
   all_goals
    go_ret
    exact⟨by rw[HF.out];rfl,(Grow.refl _).alloc _ _⟩
end Go.Proofs.Ytnlpbgljaecdmaa
namespace Go.Proofs.Ytnlpbgljaecdmaa
open Go.RowKit
set_option linter.unusedSimpArgs false
set_option linter.unusedVariables false
def stepSum(s:List Int)(p:Edge×Int):List Int:=
 let s1:=s.set p.1.frm.toNat (s.getD p.1.frm.toNat 0-p.2)
 s1.set p.1.to.toNat (s1.getD p.1.to.toNat 0+p.2)
def sumsOf(n:Nat)(l:List (Edge×Int)):List Int:=l.foldl stepSum (List.replicate n 0)
def flowIn(p:Edge×Int):Bool:=inB p.2 0 p.1.cap
def flowOk(x:Graph)(f:List Int):Bool:=
 graphOk x&&decide (f.length=x.edges.length)&&(x.edges.zip f).all flowIn&&(sumsOf x.n.toNat (x.edges.zip f)).all (fun n=>n==0)
theorem stepSum_length(s:List Int)(p:Edge×Int):(stepSum s p).length=s.length:=by simp[stepSum]
theorem foldSum_length:∀(l:List (Edge×Int)) (s:List Int),(l.foldl stepSum s).length=s.length
 |[],_=>rfl
 |p::r,s=>by rw[List.foldl_cons,foldSum_length r,stepSum_length]
theorem sumsOf_length(n:Nat)(l:List (Edge×Int)):(sumsOf n l).length=n:=by unfold sumsOf;rw[foldSum_length];simp
theorem sumsOf_snoc(n:Nat)(l:List (Edge×Int))(k:Nat)(hk:k<l.length):sumsOf n (l.take (k+1))=stepSum (sumsOf n (l.take k)) l[k]:=by
 unfold sumsOf;rw[List.take_succ_eq_append_getElem hk,List.foldl_append];rfl
def bdd(b:Int)(s:List Int):Prop:=∀i (h:i<s.length),-b≤s[i]∧s[i]≤b
theorem bdd_set{b c:Int}{s:List Int}(h:bdd b s)(i:Nat)(v:Int)(hbc:b≤c)(h1:-c≤v)(h2:v≤c):bdd c (s.set i v):=fun j hj=>by
 have hj':j<s.length:=by simpa using hj
 have hb:=h j hj'
 by_cases e:i=j
 ·subst e;simp only[List.getElem_set_self];exact⟨h1,h2⟩
 ·rw[List.getElem_set_ne e];exact⟨by omega,by omega⟩
theorem bdd_getD{b:Int}{s:List Int}(h:bdd b s)(hb:0≤b)(i:Nat):-b≤s.getD i 0∧s.getD i 0≤b:=by
 by_cases hi:i<s.length
 ·rw[List.getD_eq_getElem?_getD,List.getElem?_eq_getElem hi];exact h i hi
 ·rw[List.getD_eq_getElem?_getD,List.getElem?_eq_none (by omega)];exact⟨by simpa using hb,by simpa using hb⟩
theorem bdd_step{b:Int}{s:List Int}{p:Edge×Int}(h:bdd b s)(hb:0≤b)(h0:0≤p.2)(h1:p.2≤1000000000):bdd (b+2000000000) (stepSum s p):=by
 have g1:=bdd_getD h hb p.1.frm.toNat
 have h1':bdd (b+1000000000) (s.set p.1.frm.toNat (s.getD p.1.frm.toNat 0-p.2)):=bdd_set h _ _ (by omega) (by omega) (by omega)
 have g2:=bdd_getD h1' (by omega) p.1.to.toNat
 exact bdd_set h1' _ _ (by omega) (by omega) (by omega)
theorem bdd_fold:∀(l:List (Edge×Int)) (b:Int) (s:List Int),bdd b s→0≤b→(∀p∈l,0≤p.2∧p.2≤1000000000)→bdd (b+2000000000*l.length) (l.foldl stepSum s)
 |[],b,s,h,_,_=>by simpa using h
 |p::r,b,s,h,hb,hp=>by
  have hp0:=hp p (by simp)
  have:=bdd_fold r (b+2000000000) (stepSum s p) (bdd_step h hb hp0.1 hp0.2) (by omega) (fun q hq=>hp q (by simp[hq]))
  rw[List.foldl_cons]
  rw[show b+2000000000*((p::r).length:Int)=b+2000000000+2000000000*(r.length:Int)from by rw[List.length_cons];omega]
  exact this
theorem bdd_sums(n:Nat)(l:List (Edge×Int))(hp:∀p∈l,0≤p.2∧p.2≤1000000000):bdd (2000000000*l.length) (sumsOf n l):=by
 have h0:bdd 0 (List.replicate n 0):=fun i hi=>by simp
 have:=bdd_fold l 0 _ h0 (Int.le_refl _) hp
 simpa[sumsOf]using this
theorem all_take_succ'{α:Type}{p:α→Bool}{l:List α}{k:Nat}(hk:k<l.length):(l.take (k+1)).all p=((l.take k).all p&&p l[k]):=by
 rw[List.take_succ_eq_append_getElem hk,List.all_append];simp
theorem infoInts:(Try.prog.info? 3).map (fun i=>(i.zero,i.size,i.bytes))=some (some (.int .i64 0),1,8):=by kernel_rfl
theorem madeInts(n:Nat)(hn:n≤1048576)(w:World):(Instr.makeSlice 46 (.int .i64 (n:Int)) (.int .i64 (n:Int))).run Try.prog w =
 .ok (.slice (some ⟨w.heap.size,0,none⟩) n n) (w.alloc (.cells (madeCells #[.int .i64 0] n) 3)):=by
 obtain⟨i,hi,hz,hs,hb⟩:=info_parts infoInts
 have:=run_make (P:=Try.prog) w 46 3 i _ Try.underlying46 hi hz .i64 .i64 n n (by omega) (Int.le_refl _) (by rw[hb];omega) (by omega)
 simpa[hs,Value.cells]using this
end Go.Proofs.Ytnlpbgljaecdmaa
namespace Go.Proofs.Ytnlpbgljaecdmaa
open Go.RowKit
set_option linter.unusedSimpArgs false
set_option linter.unusedVariables false
def costSum(l:List (Edge×Int)):Int:=(l.map fun p=>p.1.cost*p.2).sum
def cost(x:Graph)(f:List Int):Int:=if flowOk x f then costSum (x.edges.zip f)else 0
theorem costSum_snoc{l:List (Edge×Int)}{k:Nat}(hk:k<l.length):costSum (l.take (k+1))=costSum (l.take k)+l[k].1.cost*l[k].2:=by
 unfold costSum;rw[List.take_succ_eq_append_getElem hk,List.map_append,List.sum_append];simp
theorem flowOk_parts{x:Graph}{f:List Int}(h:flowOk x f=true):x.edges.length≤60∧f.length=x.edges.length∧
 ∀p∈x.edges.zip f,-1000000≤p.1.cost∧p.1.cost≤1000000∧0≤p.2∧p.2≤1000000000:=by
 unfold flowOk at h
 simp only[Bool.and_eq_true,decide_eq_true_eq]at h
 obtain⟨⟨⟨h1,h2⟩,h3⟩,_⟩:=h
 unfold graphOk at h1
 simp only[Bool.and_eq_true,decide_eq_true_eq]at h1
 refine⟨h1.1.2,h2,fun p hp=>?_⟩
 have a1:=edgeOk_iff.1 (List.all_eq_true.1 h1.2 _ (List.of_mem_zip hp).1)
 have a2:=inB_true.1 (List.all_eq_true.1 h3 p hp)
 omega
end Go.Proofs.Ytnlpbgljaecdmaa
