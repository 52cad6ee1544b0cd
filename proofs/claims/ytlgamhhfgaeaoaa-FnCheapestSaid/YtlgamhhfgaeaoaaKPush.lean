/- Push, of the program and of the reference. -/
import Derived.Test.YtlgamhhfgaeaoaaKArcs
import Derived.Test.YtlgamhhfgaeaoaaKIntRow
import Derived.Test.YtlgamhhfgaeaoaaKFlow2I
import Derived.Test.YtlgamhhfgaeaoaaKFlow2S
namespace Go.Proofs.Ytlgamhhfgaeaoaa
open Go.RowKit
set_option maxHeartbeats 16000000
set_option maxRecDepth 100000
set_option linter.unusedSimpArgs false
set_option linter.unusedVariables false
theorem hasArc_succ{l:List Arc}{j:Nat}(h:j<l.length)(id:Int):hasArc (l.take (j+1)) id=(hasArc (l.take j) id||(l[j].id==id)):=by
 unfold hasArc;rw[List.take_succ_eq_append_getElem h,List.any_append];simp
theorem leastAt_succ{l:List Arc}{j:Nat}(h:j<l.length)(r id:Int):leastAt (l.take (j+1)) r id=leastStep id (leastAt (l.take j) r id) l[j]:=by
 unfold leastAt;rw[List.take_succ_eq_append_getElem h,List.foldl_append];rfl
theorem leastOf_succ{l:List Arc}{ring:List Int}{k:Nat}(h:k<ring.length)(r:Int):leastOf l r (ring.take (k+1))=leastAt l (leastOf l r (ring.take k)) ring[k]:=by
 unfold leastOf;rw[List.take_succ_eq_append_getElem h,List.foldl_append];rfl
theorem pushAll_succ{ring:List Int}{k:Nat}(h:k<ring.length)(r:Int)(f:List Int):pushAll r (ring.take (k+1)) f=pushStep r (pushAll r (ring.take k) f) ring[k]:=by
 unfold pushAll;rw[List.take_succ_eq_append_getElem h,List.foldl_append];rfl
theorem hasI_succ{l:List Int}{j:Nat}(h:j<l.length)(n:Int):hasI (l.take (j+1)) n=(hasI (l.take j) n||(l[j]==n)):=by
 unfold hasI;rw[List.take_succ_eq_append_getElem h,List.any_append];simp
theorem leastStep_yes{id r:Int}{a:Arc}(h1:a.id=id)(h2:a.room<r):leastStep id r a=a.room:=if_pos ⟨h1,h2⟩
theorem leastStep_no{id r:Int}{a:Arc}(h:¬(a.id=id∧a.room<r)):leastStep id r a=r:=if_neg h
theorem leastStep_min(id r t:Int)(a:Arc):leastStep id (min r t) a=min (leastStep id r a) t:=by
 unfold leastStep
 by_cases h:a.id=id
 ·simp only[h,true_and];(repeat' split)<;>omega
 ·simp[h]
theorem leastAt_min(id t:Int):∀(l:List Arc) (r:Int),leastAt l (min r t) id=min (leastAt l r id) t
 |[],_=>rfl
 |a::l,r=>by
  show leastAt l (leastStep id (min r t) a) id=min (leastAt l (leastStep id r a) id) t
  rw[leastStep_min,leastAt_min id t l]
theorem leastOf_start{l:List Arc}{ring:List Int}(hl:∀a∈l,a.room≤1000000000)(h0:ring.length≠0)(hr:ringsOk l ring=true):leastOf l 1000000001 ring=leastOf l 1000000000 ring:=by
 cases ring with
 |nil=>exact absurd rfl h0
 |cons id ring=>
  show leastOf l (leastAt l 1000000001 id) ring=leastOf l (leastAt l 1000000000 id) ring
  have h1:=List.all_eq_true.1 hr 0 (by simp)
  have h2:hasArc l id=true:=by
   unfold ringAt at h1
   simp only[List.getElem?_cons_zero,Bool.and_eq_true]at h1
   exact h1.1
  unfold hasArc at h2
  obtain⟨a,ha,he⟩:=List.any_eq_true.1 h2
  have h3:=leastAt_arc id l 1000000001 a ha (by simpa using he)
  have h4:=leastAt_min id 1000000000 l 1000000001
  rw[show min (1000000001:Int) 1000000000=1000000000 by omega]at h4
  have:=hl a ha
  rw[h4,show min (leastAt l 1000000001 id) 1000000000=leastAt l 1000000001 id by omega]
theorem pushAll_bdd{r:Int}(h0:0≤r)(h1:r≤1000000000):∀(ring:List Int) (o:List Int) (b:Int),0≤b→bdd b o→bdd (b+1000000000*ring.length) (pushAll r ring o)
 |[],o,b,_,h=>by simpa[pushAll]using h
 |id::ring,o,b,hb,h=>by
  have hs:bdd (b+1000000000) (pushStep r o id):=by
   unfold pushStep
   have:=bdd_getD h hb (id/2).toNat
   refine bdd_set h _ _ (by omega) ?_ ?_<;>split<;>omega
  have:=pushAll_bdd h0 h1 ring _ (b+1000000000) (by omega) hs
  intro i hi
  have:=this i hi
  rw[List.length_cons]
  push_cast
  show -(b+1000000000*(↑ring.length+1))≤(pushAll r ring (pushStep r o id))[i]∧(pushAll r ring (pushStep r o id))[i]≤b+1000000000*(↑ring.length+1)
  omega
theorem pushL_no{x:Graph}{f r:List Int}(h:pushOk x f r=false):pushL x f r=[]:=by unfold pushL;rw[h];rfl
theorem ringAt_eq{l:List Arc}{ring:List Int}{k:Nat}(h:k<ring.length):ringAt l ring k=(hasArc l ring[k]&&!(hasI (ring.take k) ring[k])):=by
 unfold ringAt;rw[List.getElem?_eq_getElem h];rfl
theorem ringsOk_no{l:List Arc}{ring:List Int}{k:Nat}(h:k<ring.length)(h2:ringAt l ring k=false):ringsOk l ring=false:=by
 unfold ringsOk;rw[List.all_eq_false];exact⟨k,by simpa using h,by simp[h2]⟩
theorem ringsOk_yes{l:List Arc}{ring:List Int}(h:∀j,j<ring.length→ringAt l ring j=true):ringsOk l ring=true:=by
 unfold ringsOk;rw[List.all_eq_true];intro j hj;exact h j (by simpa using hj)
theorem found_at{x:Graph}{f:List Int}(h:flowOk x f=true){id:Int}(hi:hasArc (arcsOf x f) id=true):∃i,i<f.length∧(id=2*(i:Int)∨id=2*(i:Int)+1):=by
 unfold hasArc at hi
 obtain⟨a,ha,he⟩:=List.any_eq_true.1 hi
 obtain⟨i,h1,h2,hc⟩:=arc_at h ha
 have he':a.id=id:=by simpa using he
 refine⟨i,h2,?_⟩
 rcases hc with⟨q,_⟩|⟨q,_⟩
 ·left;omega
 ·right;omega
theorem impl_Push_c(x:Graph)(a0:Option Addr)(c0:Nat)(f:List Int)(a1:Option Addr)(c1:Nat)(r:List Int)(a2:Option Addr)(c2:Nat)(w:World)(h0:SlR 4 repEdge w 0 w.heap.size (.slice a0 x.edges.length c0) x.edges)(h1:SlR 1 repInt w 0 w.heap.size (.slice a1 f.length c1) f)(h2:SlR 1 repInt w 0 w.heap.size (.slice a2 r.length c2) r)(hr:r.length≤1048576) :
 Calls Try.prog 8 #[.agg #[.int .i64 x.n,.slice a0 x.edges.length c0],.slice a1 f.length c1,.slice a2 r.length c2] w fun e w'=>∃a c,e=.returned (.tuple #[.slice a (pushL x f r).length c,.bool (pushOk x f r)])∧Grow w w'∧SlR 1 repInt w' w.heap.size w'.heap.size (.slice a (pushL x f r).length c) (pushL x f r):=by
 obtain⟨i0,hi0,hz0,hz1,hz2⟩:=info_parts infoInt'
 have hrc:=SlR.cap h2
 have H0:=Lib.hid h0;have H1:=Lib.hid h1;have H2:=Lib.hid h2
 clear h0 h1 h2
 have HP:Hid (pushOk x f r=(flowOk x f&&!(r.length==0)&&ringsOk (arcsOf x f) r&&flowOk x (pushTo x f r))):=rfl
 have HNL:Hid (pushOk x f r=false→pushL x f r=[]):=pushL_no
 have HRC:=Lib.hid hrc;clear hrc
 go_enter Try.func8,Try.ntmps8
 go_wp2_with fail
 refine(impl_FlowOk_c x _ _ f _ _ _ (H0.out.grow' repEdge_stable (Grow.below ((Grow.refl w).alloc _ _))) (H1.out.grow' repInt_stable (Grow.below ((Grow.refl w).alloc _ _)))).mono ?_
 rintro e V1 ⟨rfl,gs⟩
 have ys:=Grow.size gs
 simp only[World.size_setCell,World.size_alloc]at ys
 have B0:Box V1 (w.heap.size) [.int .i64 x.n,.slice a0 x.edges.length c0]:=Box.grow (Box.newAt (by simp) _ _) gs
 have G:Grow w V1:=Grow.trans ((Grow.refl w).alloc _ _) gs
 clear gs
 have z0:=B0.lt
 have q0_0:V1.cell? ⟨w.heap.size,0,none⟩=some (.int .i64 x.n):=B0.c 0 _ rfl
 have q0_1:V1.cell? ⟨w.heap.size,1,none⟩=some (.slice a0 x.edges.length c0):=B0.c 1 _ rfl
 have f0:=B0.f
 cases hok:flowOk x f
 ·have HB:Hid (pushOk x f r=false):=by
   show _=_
   rw[HP.out,hok];simp
  have HL:=Lib.hid (HNL.out HB.out)
  go_wp2_with fail
  go_ret2
  exact⟨none,0,by rw[HL.out,HB.out];rfl,G,by rw[HL.out];exact SlR.nil⟩
 by_cases hz:r.length=0
 ·have qz:((r.length:Int)==0)=true:=by rw[beq_iff_eq];omega
  have HB:Hid (pushOk x f r=false):=by
   show _=_
   rw[HP.out,hz];simp
  have HL:=Lib.hid (HNL.out HB.out)
  go_wp2_with fail
  go_ret2
  exact⟨none,0,by rw[HL.out,HB.out];rfl,G,by rw[HL.out];exact SlR.nil⟩
 have qz:((r.length:Int)==0)=false:=by rw[beq_eq_false_iff_ne];omega
 have HZ:=Lib.hid hz;have HOK:=Lib.hid hok;clear hok hz
 go_wp2_with fail
 refine(impl_arcs_c x _ _ f _ _ _ (H0.out.grow' repEdge_stable (Grow.below G)) (H1.out.grow' repInt_stable (Grow.below G)) HOK.out).mono ?_
 rintro e V2 ⟨aA,cA,rfl,gs,SA⟩
 clear z0 q0_0 q0_1 f0
 have ys:=Grow.size gs
 replace B0:Box V2 (w.heap.size) [.int .i64 x.n,.slice a0 x.edges.length c0]:=Box.grow B0 gs
 replace G:Grow w V2:=Grow.trans G gs
 clear gs
 --
 have z0:=B0.lt
 have q0_0:V2.cell? ⟨w.heap.size,0,none⟩=some (.int .i64 x.n):=B0.c 0 _ rfl
 have q0_1:V2.cell? ⟨w.heap.size,1,none⟩=some (.slice a0 x.edges.length c0):=B0.c 1 _ rfl
 have f0:=B0.f
 have hal:=arcsOf_len HOK.out
 have HFI:=Lib.hid (arcs_fine HOK.out)
 have HFO:Hid (∀id,hasArc (arcsOf x f) id=true→∃i,i<f.length∧(id=2*(i:Int)∨id=2*(i:Int)+1)):=fun id h=>found_at HOK.out h
 have HTO:Hid (pushTo x f r=pushAll (leastOf (arcsOf x f) 1000000000 r) r f):=rfl
 generalize hl:arcsOf x f=l at *
 have HLL:=Lib.hid hl;clear hl
 replace SA:=SA.all repArc_stable (Nat.le_refl _)
 go_wp2_with fail
 clear z0 q0_0 q0_1 f0
 go_loopg [9,32] r.length (fun g rm i wr=>∃k:Nat,k+g=r.length∧i=.int .i64 k∧rm=.int .i64 (leastOf l 1000000000 (r.take k))∧(∀j,j<k→ringAt l r j=true)∧SlR 5 repArc wr 0 wr.heap.size (.slice aA l.length cA) l∧Grow w wr∧Box wr (w.heap.size) [.int .i64 x.n,.slice a0 x.edges.length c0])
 case atStart=>exact⟨0,by simp,rfl,by simp[leastOf],fun j h=>absurd h (by omega),SA,G,B0⟩
 case round=>
  clear G B0
  obtain⟨k,hk,rfl,rfl,hall,SA,G,B0⟩:=hrel
  obtain⟨R3,rfl⟩:∃V,V=wr:=⟨_,rfl⟩
  have HALL:=Lib.hid hall;clear hall
  by_cases hlt:k<r.length
  ·have HK:=Lib.hid hk;clear hk
   have HNO:Hid (ringAt l r k=false→pushOk x f r=false):=fun h=>by rw[HP.out,ringsOk_no hlt h];simp
   have HRA:Hid (ringAt l r k=(hasArc l r[k]&&!(hasI (r.take k) r[k]))):=ringAt_eq hlt
   have HLS:Hid (leastOf l 1000000000 (r.take (k+1))=leastAt l (leastOf l 1000000000 (r.take k)) r[k]):=leastOf_succ hlt _
   have z0:=B0.lt
   have q0_0:R3.cell? ⟨w.heap.size,0,none⟩=some (.int .i64 x.n):=B0.c 0 _ rfl
   have q0_1:R3.cell? ⟨w.heap.size,1,none⟩=some (.slice a0 x.edges.length c0):=B0.c 1 _ rfl
   have f0:=B0.f
   obtain⟨b_id,off_id,ha_id,hb1_id,hb2_id,hel_id⟩:=H2.out.elems k hlt
   obtain⟨eid0,-⟩:=Int.atCell (hel_id.same repInt_stable (G.same (Nat.le_refl _)) hb1_id hb2_id) k hlt
   subst ha_id
   clear hel_id
   generalize r[k]=id at *
   generalize leastOf l 1000000000 (r.take k)=rm at *
   have hki:(k:Int)<(r.length:Int):=by omega
   have hkl:(k:Int)≤1048576:=by omega
   have hkc:(k:Int)≤(c2:Int):=by have:=HRC.out;omega
   go_wp2_with fail
   have SA0:=Lib.hid SA;clear SA
   clear z0 q0_0 q0_1 f0
   go_loopg [9,12,39] l.length (fun g rv fd i wi=>∃j:Nat,j+g=l.length∧i=.int .i64 j∧rv=.int .i64 (leastAt (l.take j) rm id)∧fd=.bool (hasArc (l.take j) id)∧SlR 5 repArc wi 0 wi.heap.size (.slice aA l.length cA) l∧Grow w wi∧Box wi (w.heap.size) [.int .i64 x.n,.slice a0 x.edges.length c0])
   case atStart=>exact⟨0,by simp,rfl,by simp[leastAt],by simp[hasArc],SA0.out,G,B0⟩
   case round=>
    clear G B0
    obtain⟨j,hj,rfl,rfl,rfl,SA,G,B0⟩:=hrel
    obtain⟨R4,rfl⟩:∃V,V=wr:=⟨_,rfl⟩
    by_cases hjt:j<l.length
    ·have HJ:=Lib.hid hj;clear hj
     have HLA:Hid (leastAt (l.take (j+1)) rm id=leastStep id (leastAt (l.take j) rm id) l[j]):=leastAt_succ hjt _ _
     have HHA:Hid (hasArc (l.take (j+1)) id=(hasArc (l.take j) id||(l[j].id==id))):=hasArc_succ hjt _
     obtain⟨b_a,off_a,ha_a,hb1_a,hb2_a,hel_a⟩:=SA.elems j hjt
     obtain⟨ea0,ea1,ea2,ea3,ea4,-⟩:=Arc.atCell hel_a j hjt
     clear hel_a
     have HSA:=Lib.hid SA;clear SA
     subst ha_a
     generalize l[j]=a at *
     generalize leastAt (l.take j) rm id=rj at *
     generalize hasArc (l.take j) id=hj at *
     have hja:(j:Int)<(l.length:Int):=by omega
     by_cases t1:a.id=id
     ·have q1:(a.id==id)=true:=by simpa using t1
      by_cases t2:a.room<rj
      ·have HST:Hid (leastStep id rj a=a.room):=leastStep_yes t1 t2
       have hmin:min rj a.room=a.room:=by omega
       have q2:decide (a.room<rj)=true:=by simp;omega
       have z0:=B0.lt
       have q0_0:R4.cell? ⟨w.heap.size,0,none⟩=some (.int .i64 x.n):=B0.c 0 _ rfl
       have q0_1:R4.cell? ⟨w.heap.size,1,none⟩=some (.slice a0 x.edges.length c0):=B0.c 1 _ rfl
       have f0:=B0.f
       have HT1:=Lib.hid t1;clear t1
       go_wp2_with fail
       go_roundg (l.length-(j+1))
       case measure=>have:=HJ.out;omega
       case rel=>exact⟨j+1,by have:=HJ.out;omega,by go_num,by rw[HLA.out,HST.out],by rw[HHA.out];simp[HT1.out],HSA.out.grow' repArc_stable (Grow.below ((Grow.refl _).alloc _ _)),(G.alloc _ _),(B0.alloc _ _)⟩
      ·have HST:Hid (leastStep id rj a=rj):=leastStep_no (fun h=>t2 h.2)
       have hmin:min rj a.room=rj:=by omega
       have q2:decide (a.room<rj)=false:=by simp;omega
       have z0:=B0.lt
       have q0_0:R4.cell? ⟨w.heap.size,0,none⟩=some (.int .i64 x.n):=B0.c 0 _ rfl
       have q0_1:R4.cell? ⟨w.heap.size,1,none⟩=some (.slice a0 x.edges.length c0):=B0.c 1 _ rfl
       have f0:=B0.f
       have HT1:=Lib.hid t1;clear t1
       go_wp2_with fail
       go_roundg (l.length-(j+1))
       case measure=>have:=HJ.out;omega
       case rel=>exact⟨j+1,by have:=HJ.out;omega,by go_num,by rw[HLA.out,HST.out],by rw[HHA.out];simp[HT1.out],HSA.out.grow' repArc_stable (Grow.below ((Grow.refl _).alloc _ _)),(G.alloc _ _),(B0.alloc _ _)⟩
     ·have q1:(a.id==id)=false:=by simpa using t1
      have HST:Hid (leastStep id rj a=rj):=leastStep_no (fun h=>t1 h.1)
      have z0:=B0.lt
      have q0_0:R4.cell? ⟨w.heap.size,0,none⟩=some (.int .i64 x.n):=B0.c 0 _ rfl
      have q0_1:R4.cell? ⟨w.heap.size,1,none⟩=some (.slice a0 x.edges.length c0):=B0.c 1 _ rfl
      have f0:=B0.f
      have HT1:=Lib.hid t1;clear t1
      go_wp2_with fail
      go_roundg (l.length-(j+1))
      case measure=>have:=HJ.out;omega
      case rel=>exact⟨j+1,by have:=HJ.out;omega,by go_num,by rw[HLA.out,HST.out],by rw[HHA.out];simp[HT1.out],HSA.out.grow' repArc_stable (Grow.below ((Grow.refl _).alloc _ _)),(G.alloc _ _),(B0.alloc _ _)⟩
    ·obtain rfl:j=l.length:=by omega
     simp only[List.take_length]
     clear hj hjt
     have z0:=B0.lt
     have q0_0:R4.cell? ⟨w.heap.size,0,none⟩=some (.int .i64 x.n):=B0.c 0 _ rfl
     have q0_1:R4.cell? ⟨w.heap.size,1,none⟩=some (.slice a0 x.edges.length c0):=B0.c 1 _ rfl
     have f0:=B0.f
     cases hfd:hasArc l id
     ·have HB:Hid (pushOk x f r=false):=HNO.out (by rw[HRA.out,hfd];simp)
      have HL:=Lib.hid (HNL.out HB.out)
      go_wp2_with fail
      go_ret2
      exact⟨none,0,by rw[HL.out,HB.out];rfl,G,by rw[HL.out];exact SlR.nil⟩
     have HFD:=Lib.hid hfd;clear hfd
     have HS:=H2.out.grow' repInt_stable (Grow.below G)
     have HSH:=Lib.hid HS;clear HS
     cases hhi:hasI (r.take k) id
     ·have HHI:=Lib.hid hhi
      go_wp2_with (go_at_call 20;refine(hasTake_c r _ _ k id 0 _ _ HSH.out (by omega) hr).mono ?_;rintro e w' ⟨rfl,rfl⟩)
      clear hhi
      go_roundg (r.length-(k+1))
      case measure=>have:=HK.out;omega
      case rel=>exact⟨k+1,by have:=HK.out;omega,by go_num,by rw[HLS.out],fun i hi=>by
       by_cases he:i=k
       ·rw[he,HRA.out,HFD.out,HHI.out];rfl
       ·exact HALL.out i (by omega),SA,G,B0⟩
     ·have HB:Hid (pushOk x f r=false):=HNO.out (by rw[HRA.out,hhi];simp)
      have HL:=Lib.hid (HNL.out HB.out)
      go_wp2_with (go_at_call 20;refine(hasTake_c r _ _ k id 0 _ _ HSH.out (by omega) hr).mono ?_;rintro e w' ⟨rfl,rfl⟩)
      go_ret2
      exact⟨none,0,by rw[HL.out,HB.out];rfl,G,by rw[HL.out];exact SlR.nil⟩
  ·obtain rfl:k=r.length:=by omega
   simp only[List.take_length]
   clear hk hlt
   have hro:=ringsOk_yes HALL.out
   have HRO:=Lib.hid hro;clear hro
   have HB:Hid (pushOk x f r=flowOk x (pushTo x f r)):=by
    show _=_
    rw[HP.out,HOK.out,HRO.out];simp[HZ.out]
   have hfl:0<f.length:=by
    have h1:=HALL.out 0 (by have:=HZ.out;omega)
    rw[ringAt_eq (by have:=HZ.out;omega)]at h1
    simp only[Bool.and_eq_true]at h1
    obtain⟨i,hi,_⟩:=HFO.out _ h1.1
    omega
   have hrm1:=leastOf_pos l r 1000000000 (fun a ha=>(HFI.out a ha).2.2.2.2.2.2.2.1) (by omega)
   have hrm2:=leastOf_le l r 1000000000
   obtain⟨n1,n2,g2,hlen,hee,hpp,hss⟩:=flowOk_facts HOK.out
   clear hss
   have hfb:bdd 1000000000 f:=fun i hi=>by
    have e:(x.edges.zip f)[i]'(by simp;omega)=(x.edges[i]'(by omega),f[i]):=List.getElem_zip
    have h1:=hpp _ (List.getElem_mem (show i<(x.edges.zip f).length by simp;omega))
    have h2:=edgeOk_iff.1 (hee _ (List.getElem_mem (show i<x.edges.length by omega)))
    rw[e]at h1
    simp only at h1
    omega
   have hf60:f.length≤60:=by omega
   clear hlen hee hpp g2
   have HFB:=Lib.hid hfb;clear hfb
   generalize leastOf l 1000000000 r=rm at *
   clear SA
   have hsz0:w.heap.size<R3.heap.size:=B0.lt
   have z0:=B0.lt
   have q0_0:R3.cell? ⟨w.heap.size,0,none⟩=some (.int .i64 x.n):=B0.c 0 _ rfl
   have q0_1:R3.cell? ⟨w.heap.size,1,none⟩=some (.slice a0 x.edges.length c0):=B0.c 1 _ rfl
   have f0:=B0.f
   go_wp2_with fail
   refine(impl_copyInts_c f _ _ _ (H1.out.grow' repInt_stable (Grow.below G)) (by omega) hfl).mono ?_
   rintro e V5 ⟨aO,cO,rfl,gs,SO⟩
   clear z0 q0_0 q0_1 f0
   have ys:=Grow.size gs
   replace B0:Box V5 (w.heap.size) [.int .i64 x.n,.slice a0 x.edges.length c0]:=Box.grow B0 gs
   replace G:Grow w V5:=Grow.trans G gs
   clear gs
   --
   have z0:=B0.lt
   have q0_0:V5.cell? ⟨w.heap.size,0,none⟩=some (.int .i64 x.n):=B0.c 0 _ rfl
   have q0_1:V5.cell? ⟨w.heap.size,1,none⟩=some (.slice a0 x.edges.length c0):=B0.c 1 _ rfl
   have f0:=B0.f
   have hcO1:=SlR.cap SO
   have hcO2:=SlR.capm SO
   obtain⟨b_o,off_o,ha_o,hbo1,hbo2,HIO⟩:=IntsOff.of_slr SO hfl
   subst ha_o
   clear SO
   have hbo0:w.heap.size<b_o:=by have:=hsz0;omega
   clear z0 q0_0 q0_1 f0
   have z0:=B0.lt
   have q0_0:V5.cell? ⟨w.heap.size,0,none⟩=some (.int .i64 x.n):=B0.c 0 _ rfl
   have q0_1:V5.cell? ⟨w.heap.size,1,none⟩=some (.slice a0 x.edges.length c0):=B0.c 1 _ rfl
   have f0:=B0.f
   go_wp2_with fail
   clear z0 q0_0 q0_1 f0
   go_loopg [66] r.length (fun g i wr=>∃k:Nat,k+g=r.length∧i=.int .i64 k∧IntsOff wr b_o off_o (pushAll rm (r.take k) f)∧Grow w wr∧Box wr (w.heap.size) [.int .i64 x.n,.slice a0 x.edges.length c0])
   case atStart=>exact⟨0,by simp,rfl,by simpa[pushAll]using HIO,G,B0⟩
   case round=>
    clear G B0
    obtain⟨k,hk,rfl,HIO,G,B0⟩:=hrel
    obtain⟨R6,rfl⟩:∃V,V=wr:=⟨_,rfl⟩
    have HH:=Lib.hid HIO;clear HIO
    have hbw:b_o<R6.heap.size:=by have:=HH.out 0 (by rw[pushAll_length];exact hfl);exact lt_of_cell this
    by_cases hlt:k<r.length
    ·have HK:=Lib.hid hk;clear hk
     have HPS:Hid (pushAll rm (r.take (k+1)) f=pushStep rm (pushAll rm (r.take k) f) r[k]):=pushAll_succ hlt rm f
     have h1:=HALL.out k hlt
     rw[ringAt_eq hlt]at h1
     simp only[Bool.and_eq_true]at h1
     obtain⟨i,hi,hid⟩:=HFO.out _ h1.1
     clear h1
     have hbd:=pushAll_bdd (r:=rm) (by omega) hrm2 (r.take k) f 1000000000 (by omega) HFB.out
     have hkl:(r.take k).length=k:=by rw[List.length_take];omega
     rw[hkl]at hbd
     have hsl:=pushAll_length rm (r.take k) f
     have z0:=B0.lt
     have q0_0:R6.cell? ⟨w.heap.size,0,none⟩=some (.int .i64 x.n):=B0.c 0 _ rfl
     have q0_1:R6.cell? ⟨w.heap.size,1,none⟩=some (.slice a0 x.edges.length c0):=B0.c 1 _ rfl
     have f0:=B0.f
     obtain⟨b_id,off_id,ha_id,hb1_id,hb2_id,hel_id⟩:=H2.out.elems k hlt
     obtain⟨eid0,-⟩:=Int.atCell (hel_id.same repInt_stable (G.same (Nat.le_refl _)) hb1_id hb2_id) k hlt
     subst ha_id
     clear hel_id
     generalize r[k]=id at *
     generalize pushAll rm (r.take k) f=s at *
     have his:i<s.length:=by omega
     have ev:=HH.out i his
     have hbd2:=hbd i his
     obtain⟨hbd3,hbd4⟩:=hbd2
     have HY:Hid (s.getD i 0=s[i]):=by show _=_;rw[List.getD_eq_getElem?_getD,List.getElem?_eq_getElem his];rfl
     generalize s[i]=y at *
     clear hbd
     have hk6:(k:Int)≤1048576:=by omega
     have hfz:R6.frozen? ⟨b_o,off_o+i,none⟩=false:=G.nf b_o _ (by omega) hbw
     have hii:(i:Int)<(f.length:Int):=by omega
     have hi0:(0:Int)≤(i:Int):=by omega
     have hki:(k:Int)<(r.length:Int):=by omega
     have HSL:=Lib.hid hsl;clear hsl
     rcases hid with hid|hid
     ·have hid0:0≤id:=by omega
      have hq1:id.tdiv 2=(i:Int):=by rw[Int.tdiv_eq_ediv_of_nonneg hid0];omega
      have hq2:id.tmod 2=0:=by rw[Int.tmod_eq_emod_of_nonneg hid0];omega
      have hq3:id/2=(i:Int):=by omega
      have hq4:id%2=0:=by omega
      have HST:Hid (pushStep rm s id=s.set i (y+rm)):=by
       show _=_
       unfold pushStep
       rw[hq3,Int.toNat_natCast,HY.out,if_pos hq4]
      have hid1:id≤121:=by omega
      clear hid
      go_wp2_with fail
      go_roundg (r.length-(k+1))
      case measure=>have:=HK.out;omega
      case rel=>exact⟨k+1,by have:=HK.out;omega,by go_num,by rw[HPS.out,HST.out];exact HH.out.set his _,(G.setCell (by show w.heap.size≤b_o;omega) _),(B0.other (by show b_o≠_;omega) _)⟩
     ·have hid0:0≤id:=by omega
      have hq1:id.tdiv 2=(i:Int):=by rw[Int.tdiv_eq_ediv_of_nonneg hid0];omega
      have hq2:id.tmod 2=1:=by rw[Int.tmod_eq_emod_of_nonneg hid0];omega
      have hq3:id/2=(i:Int):=by omega
      have hq4:id%2=1:=by omega
      have HST:Hid (pushStep rm s id=s.set i (y-rm)):=by
       show _=_
       unfold pushStep
       rw[hq3,Int.toNat_natCast,HY.out,if_neg (by omega)];rfl
      have hid1:id≤121:=by omega
      clear hid
      go_wp2_with fail
      go_roundg (r.length-(k+1))
      case measure=>have:=HK.out;omega
      case rel=>exact⟨k+1,by have:=HK.out;omega,by go_num,by rw[HPS.out,HST.out];exact HH.out.set his _,(G.setCell (by show w.heap.size≤b_o;omega) _),(B0.other (by show b_o≠_;omega) _)⟩
    ·obtain rfl:k=r.length:=by omega
     clear hk hlt
     have hio:=HH.out
     rw[List.take_length]at hio
     have hbd:=pushAll_bdd (r:=rm) (by omega) hrm2 r f 1000000000 (by omega) HFB.out
     rw[←HTO.out]at hio hbd
     have hpl:(pushTo x f r).length=f.length:=by rw[HTO.out,pushAll_length]
     have hro:(r.length:Int)≤1048576:=by omega
     have SR:=hio.slr (c:=cO) (lo:=w.heap.size) (hi:=R6.heap.size) (by omega) hbw (by omega) hcO2 (fun i hi=>by have:=hbd i hi;unfold i64;omega)
     rw[hpl]at SR
     have HPL:=Lib.hid hpl;clear hpl hio hbd
     generalize hpt:pushTo x f r=pt at *
     have HPT:=Lib.hid hpt;clear hpt
     have z0:=B0.lt
     have q0_0:R6.cell? ⟨w.heap.size,0,none⟩=some (.int .i64 x.n):=B0.c 0 _ rfl
     have q0_1:R6.cell? ⟨w.heap.size,1,none⟩=some (.slice a0 x.edges.length c0):=B0.c 1 _ rfl
     have f0:=B0.f
     go_wp2_with fail
     have SRc:SlR 1 repInt R6 0 R6.heap.size (.slice (some ⟨b_o,off_o,none⟩) pt.length cO) pt:=by rw[HPL.out];exact SR.stable repInt_stable (Same.refl _ _ _) (Nat.zero_le _) (Nat.le_refl _)
     have SRd:=Lib.hid SRc;clear SRc
     rw[←HPL.out]
     refine(impl_FlowOk_c x _ _ pt _ _ _ (H0.out.grow' repEdge_stable (Grow.below G)) SRd.out).mono ?_
     rintro e V7 ⟨rfl,gs⟩
     clear z0 q0_0 q0_1 f0
     have ys:=Grow.size gs
     replace B0:Box V7 (w.heap.size) [.int .i64 x.n,.slice a0 x.edges.length c0]:=Box.grow B0 gs
     replace SR:=SR.same repInt_stable (gs.same (by omega))
     replace G:Grow w V7:=Grow.trans G gs
     clear gs
     have z0:=B0.lt
     have q0_0:V7.cell? ⟨w.heap.size,0,none⟩=some (.int .i64 x.n):=B0.c 0 _ rfl
     have q0_1:V7.cell? ⟨w.heap.size,1,none⟩=some (.slice a0 x.edges.length c0):=B0.c 1 _ rfl
     have f0:=B0.f
     cases hok2:flowOk x pt
     ·have HB2:=Lib.hid (HB.out.trans hok2)
      have HL:=Lib.hid (HNL.out HB2.out)
      go_wp2_with fail
      go_ret2
      exact⟨none,0,by rw[HL.out,HB2.out];rfl,G,by rw[HL.out];exact SlR.nil⟩
     ·have HB2:=Lib.hid (HB.out.trans hok2)
      have HL:Hid (pushL x f r=pt):=by
       show _=_
       unfold pushL
       rw[if_pos HB2.out];exact HPT.out
      go_wp2_with fail
      go_ret2
      exact⟨_,cO,by rw[HL.out,HB2.out];rfl,G,by rw[HL.out,HPL.out];exact SR.stable repInt_stable (Same.refl _ _ _) (Nat.le_refl _) (by omega)⟩
theorem spec_Push_c(x:Graph)(a0:Option Addr)(c0:Nat)(f:List Int)(a1:Option Addr)(c1:Nat)(r:List Int)(a2:Option Addr)(c2:Nat)(w:World)(h0:SlR 4 repEdge w 0 w.heap.size (.slice a0 x.edges.length c0) x.edges)(h1:SlR 1 repInt w 0 w.heap.size (.slice a1 f.length c1) f)(h2:SlR 1 repInt w 0 w.heap.size (.slice a2 r.length c2) r)(hr:r.length≤1048576) :
 Calls Try.prog 26 #[.agg #[.int .i64 x.n,.slice a0 x.edges.length c0],.slice a1 f.length c1,.slice a2 r.length c2] w fun e w'=>∃a c,e=.returned (.tuple #[.slice a (pushL x f r).length c,.bool (pushOk x f r)])∧Grow w w'∧SlR 1 repInt w' w.heap.size w'.heap.size (.slice a (pushL x f r).length c) (pushL x f r):=by
 obtain⟨i0,hi0,hz0,hz1,hz2⟩:=info_parts infoInt'
 have hrc:=SlR.cap h2
 have H0:=Lib.hid h0;have H1:=Lib.hid h1;have H2:=Lib.hid h2
 clear h0 h1 h2
 have HP:Hid (pushOk x f r=(flowOk x f&&!(r.length==0)&&ringsOk (arcsOf x f) r&&flowOk x (pushTo x f r))):=rfl
 have HNL:Hid (pushOk x f r=false→pushL x f r=[]):=pushL_no
 have HRC:=Lib.hid hrc;clear hrc
 go_enter Try.func26,Try.ntmps26
 go_wp2_with fail
 refine(spec_FlowOk_c x _ _ f _ _ _ (H0.out.grow' repEdge_stable (Grow.below ((Grow.refl w).alloc _ _))) (H1.out.grow' repInt_stable (Grow.below ((Grow.refl w).alloc _ _)))).mono ?_
 rintro e V1 ⟨rfl,gs⟩
 have ys:=Grow.size gs
 simp only[World.size_setCell,World.size_alloc]at ys
 have B0:Box V1 (w.heap.size) [.int .i64 x.n,.slice a0 x.edges.length c0]:=Box.grow (Box.newAt (by simp) _ _) gs
 have G:Grow w V1:=Grow.trans ((Grow.refl w).alloc _ _) gs
 clear gs
 have z0:=B0.lt
 have q0_0:V1.cell? ⟨w.heap.size,0,none⟩=some (.int .i64 x.n):=B0.c 0 _ rfl
 have q0_1:V1.cell? ⟨w.heap.size,1,none⟩=some (.slice a0 x.edges.length c0):=B0.c 1 _ rfl
 have f0:=B0.f
 cases hok:flowOk x f
 ·have HB:Hid (pushOk x f r=false):=by
   show _=_
   rw[HP.out,hok];simp
  have HL:=Lib.hid (HNL.out HB.out)
  go_wp2_with fail
  go_ret2
  exact⟨none,0,by rw[HL.out,HB.out];rfl,G,by rw[HL.out];exact SlR.nil⟩
 by_cases hz:r.length=0
 ·have qz:((r.length:Int)==0)=true:=by rw[beq_iff_eq];omega
  have HB:Hid (pushOk x f r=false):=by
   show _=_
   rw[HP.out,hz];simp
  have HL:=Lib.hid (HNL.out HB.out)
  go_wp2_with fail
  go_ret2
  exact⟨none,0,by rw[HL.out,HB.out];rfl,G,by rw[HL.out];exact SlR.nil⟩
 have qz:((r.length:Int)==0)=false:=by rw[beq_eq_false_iff_ne];omega
 have HZ:=Lib.hid hz;have HOK:=Lib.hid hok;clear hok hz
 go_wp2_with fail
 refine(spec_arcs_c x _ _ f _ _ _ (H0.out.grow' repEdge_stable (Grow.below G)) (H1.out.grow' repInt_stable (Grow.below G)) HOK.out).mono ?_
 rintro e V2 ⟨aA,cA,rfl,gs,SA⟩
 clear z0 q0_0 q0_1 f0
 have ys:=Grow.size gs
 replace B0:Box V2 (w.heap.size) [.int .i64 x.n,.slice a0 x.edges.length c0]:=Box.grow B0 gs
 replace G:Grow w V2:=Grow.trans G gs
 clear gs
 --
 have z0:=B0.lt
 have q0_0:V2.cell? ⟨w.heap.size,0,none⟩=some (.int .i64 x.n):=B0.c 0 _ rfl
 have q0_1:V2.cell? ⟨w.heap.size,1,none⟩=some (.slice a0 x.edges.length c0):=B0.c 1 _ rfl
 have f0:=B0.f
 have hal:=arcsOf_len HOK.out
 have HFI:=Lib.hid (arcs_fine HOK.out)
 have HFO:Hid (∀id,hasArc (arcsOf x f) id=true→∃i,i<f.length∧(id=2*(i:Int)∨id=2*(i:Int)+1)):=fun id h=>found_at HOK.out h
 have HTO:Hid (pushTo x f r=pushAll (leastOf (arcsOf x f) 1000000000 r) r f):=rfl
 generalize hl:arcsOf x f=l at *
 have HLL:=Lib.hid hl;clear hl
 replace SA:=SA.all repArc_stable (Nat.le_refl _)
 go_wp2_with fail
 clear z0 q0_0 q0_1 f0
 go_loopg [9,33] r.length (fun g rm i wr=>∃k:Nat,k+g=r.length∧i=.int .i64 k∧rm=.int .i64 (leastOf l 1000000001 (r.take k))∧(∀j,j<k→ringAt l r j=true)∧SlR 5 repArc wr 0 wr.heap.size (.slice aA l.length cA) l∧Grow w wr∧Box wr (w.heap.size) [.int .i64 x.n,.slice a0 x.edges.length c0])
 case atStart=>exact⟨0,by simp,rfl,by simp[leastOf],fun j h=>absurd h (by omega),SA,G,B0⟩
 case round=>
  clear G B0
  obtain⟨k,hk,rfl,rfl,hall,SA,G,B0⟩:=hrel
  obtain⟨R3,rfl⟩:∃V,V=wr:=⟨_,rfl⟩
  have HALL:=Lib.hid hall;clear hall
  by_cases hlt:k<r.length
  ·have HK:=Lib.hid hk;clear hk
   have HNO:Hid (ringAt l r k=false→pushOk x f r=false):=fun h=>by rw[HP.out,ringsOk_no hlt h];simp
   have HRA:Hid (ringAt l r k=(hasArc l r[k]&&!(hasI (r.take k) r[k]))):=ringAt_eq hlt
   have HLS:Hid (leastOf l 1000000001 (r.take (k+1))=leastAt l (leastOf l 1000000001 (r.take k)) r[k]):=leastOf_succ hlt _
   have z0:=B0.lt
   have q0_0:R3.cell? ⟨w.heap.size,0,none⟩=some (.int .i64 x.n):=B0.c 0 _ rfl
   have q0_1:R3.cell? ⟨w.heap.size,1,none⟩=some (.slice a0 x.edges.length c0):=B0.c 1 _ rfl
   have f0:=B0.f
   obtain⟨b_id,off_id,ha_id,hb1_id,hb2_id,hel_id⟩:=H2.out.elems k hlt
   obtain⟨eid0,-⟩:=Int.atCell (hel_id.same repInt_stable (G.same (Nat.le_refl _)) hb1_id hb2_id) k hlt
   subst ha_id
   clear hel_id
   generalize r[k]=id at *
   generalize leastOf l 1000000001 (r.take k)=rm at *
   have hki:(k:Int)<(r.length:Int):=by omega
   have hkl:(k:Int)≤1048576:=by omega
   have hkc:(k:Int)≤(c2:Int):=by have:=HRC.out;omega
   go_wp2_with fail
   have SA0:=Lib.hid SA;clear SA
   clear z0 q0_0 q0_1 f0
   go_loopg [9,12,40] l.length (fun g rv fd i wi=>∃j:Nat,j+g=l.length∧i=.int .i64 j∧rv=.int .i64 (leastAt (l.take j) rm id)∧fd=.bool (hasArc (l.take j) id)∧SlR 5 repArc wi 0 wi.heap.size (.slice aA l.length cA) l∧Grow w wi∧Box wi (w.heap.size) [.int .i64 x.n,.slice a0 x.edges.length c0])
   case atStart=>exact⟨0,by simp,rfl,by simp[leastAt],by simp[hasArc],SA0.out,G,B0⟩
   case round=>
    clear G B0
    obtain⟨j,hj,rfl,rfl,rfl,SA,G,B0⟩:=hrel
    obtain⟨R4,rfl⟩:∃V,V=wr:=⟨_,rfl⟩
    by_cases hjt:j<l.length
    ·have HJ:=Lib.hid hj;clear hj
     have HLA:Hid (leastAt (l.take (j+1)) rm id=leastStep id (leastAt (l.take j) rm id) l[j]):=leastAt_succ hjt _ _
     have HHA:Hid (hasArc (l.take (j+1)) id=(hasArc (l.take j) id||(l[j].id==id))):=hasArc_succ hjt _
     obtain⟨b_a,off_a,ha_a,hb1_a,hb2_a,hel_a⟩:=SA.elems j hjt
     obtain⟨ea0,ea1,ea2,ea3,ea4,-⟩:=Arc.atCell hel_a j hjt
     clear hel_a
     have HSA:=Lib.hid SA;clear SA
     subst ha_a
     generalize l[j]=a at *
     generalize leastAt (l.take j) rm id=rj at *
     generalize hasArc (l.take j) id=hj at *
     have hja:(j:Int)<(l.length:Int):=by omega
     by_cases t1:a.id=id
     ·have q1:(a.id==id)=true:=by simpa using t1
      by_cases t2:a.room<rj
      ·have HST:Hid (leastStep id rj a=a.room):=leastStep_yes t1 t2
       have q2:decide (a.room<rj)=true:=by simp;omega
       have z0:=B0.lt
       have q0_0:R4.cell? ⟨w.heap.size,0,none⟩=some (.int .i64 x.n):=B0.c 0 _ rfl
       have q0_1:R4.cell? ⟨w.heap.size,1,none⟩=some (.slice a0 x.edges.length c0):=B0.c 1 _ rfl
       have f0:=B0.f
       have HT1:=Lib.hid t1;clear t1
       go_wp2_with fail
       go_roundg (l.length-(j+1))
       case measure=>have:=HJ.out;omega
       case rel=>exact⟨j+1,by have:=HJ.out;omega,by go_num,by rw[HLA.out,HST.out],by rw[HHA.out];simp[HT1.out],HSA.out.grow' repArc_stable (Grow.below ((Grow.refl _).alloc _ _)),(G.alloc _ _),(B0.alloc _ _)⟩
      ·have HST:Hid (leastStep id rj a=rj):=leastStep_no (fun h=>t2 h.2)
       have q2:decide (a.room<rj)=false:=by simp;omega
       have z0:=B0.lt
       have q0_0:R4.cell? ⟨w.heap.size,0,none⟩=some (.int .i64 x.n):=B0.c 0 _ rfl
       have q0_1:R4.cell? ⟨w.heap.size,1,none⟩=some (.slice a0 x.edges.length c0):=B0.c 1 _ rfl
       have f0:=B0.f
       have HT1:=Lib.hid t1;clear t1
       go_wp2_with fail
       go_roundg (l.length-(j+1))
       case measure=>have:=HJ.out;omega
       case rel=>exact⟨j+1,by have:=HJ.out;omega,by go_num,by rw[HLA.out,HST.out],by rw[HHA.out];simp[HT1.out],HSA.out.grow' repArc_stable (Grow.below ((Grow.refl _).alloc _ _)),(G.alloc _ _),(B0.alloc _ _)⟩
     ·have q1:(a.id==id)=false:=by simpa using t1
      have HST:Hid (leastStep id rj a=rj):=leastStep_no (fun h=>t1 h.1)
      have z0:=B0.lt
      have q0_0:R4.cell? ⟨w.heap.size,0,none⟩=some (.int .i64 x.n):=B0.c 0 _ rfl
      have q0_1:R4.cell? ⟨w.heap.size,1,none⟩=some (.slice a0 x.edges.length c0):=B0.c 1 _ rfl
      have f0:=B0.f
      have HT1:=Lib.hid t1;clear t1
      go_wp2_with fail
      go_roundg (l.length-(j+1))
      case measure=>have:=HJ.out;omega
      case rel=>exact⟨j+1,by have:=HJ.out;omega,by go_num,by rw[HLA.out,HST.out],by rw[HHA.out];simp[HT1.out],HSA.out.grow' repArc_stable (Grow.below ((Grow.refl _).alloc _ _)),(G.alloc _ _),(B0.alloc _ _)⟩
    ·obtain rfl:j=l.length:=by omega
     simp only[List.take_length]
     clear hj hjt
     have z0:=B0.lt
     have q0_0:R4.cell? ⟨w.heap.size,0,none⟩=some (.int .i64 x.n):=B0.c 0 _ rfl
     have q0_1:R4.cell? ⟨w.heap.size,1,none⟩=some (.slice a0 x.edges.length c0):=B0.c 1 _ rfl
     have f0:=B0.f
     go_wp2_with fail
     clear z0 q0_0 q0_1 f0
     go_loopg [12,15] k (fun g fd i wq=>∃q:Nat,q+g=k∧i=.int .i64 q∧fd=.bool (hasArc l id&&!(hasI (r.take q) id))∧SlR 5 repArc wq 0 wq.heap.size (.slice aA l.length cA) l∧Grow w wq∧Box wq (w.heap.size) [.int .i64 x.n,.slice a0 x.edges.length c0])
     case atStart=>exact⟨0,by simp,rfl,by simp[hasI],SA,G,B0⟩
     case round=>
      clear G B0
      obtain⟨q,hq,rfl,rfl,SA,G,B0⟩:=hrel
      obtain⟨R5,rfl⟩:∃V,V=wr:=⟨_,rfl⟩
      by_cases hqt:q<k
      ·have HQ:=Lib.hid hq;clear hq
       have hql:q<r.length:=by omega
       have HHS:Hid (hasI (r.take (q+1)) id=(hasI (r.take q) id||(r[q]==id))):=hasI_succ hql _
       obtain⟨b_y,off_y,ha_y,hb1_y,hb2_y,hel_y⟩:=H2.out.elems q hql
       injection ha_y with ha_y
       injection ha_y with qb qo
       subst qb qo
       obtain⟨ey0,-⟩:=Int.atCell (hel_y.same repInt_stable (G.same (Nat.le_refl _)) hb1_y hb2_y) q hql
       clear hel_y
       generalize r[q]=y at *
       have hqi:(q:Int)<(r.length:Int):=by omega
       have hqk:(q:Int)<(k:Int):=by omega
       have z0:=B0.lt
       have q0_0:R5.cell? ⟨w.heap.size,0,none⟩=some (.int .i64 x.n):=B0.c 0 _ rfl
       have q0_1:R5.cell? ⟨w.heap.size,1,none⟩=some (.slice a0 x.edges.length c0):=B0.c 1 _ rfl
       have f0:=B0.f
       by_cases t1:y=id
       ·have q1:(y==id)=true:=by simpa using t1
        have HT1:=Lib.hid t1;clear t1
        go_wp2_with fail
        go_roundg (k-(q+1))
        case measure=>have:=HQ.out;omega
        case rel=>exact⟨q+1,by have:=HQ.out;omega,by go_num,by rw[HHS.out];simp[HT1.out],SA,G,B0⟩
       ·have q1:(y==id)=false:=by simpa using t1
        have HT1:=Lib.hid t1;clear t1
        generalize hhv:(hasArc l id&&!(hasI (r.take q) id))=fv at *
        have HFV:=Lib.hid hhv;clear hhv
        go_wp2_with fail
        go_roundg (k-(q+1))
        case measure=>have:=HQ.out;omega
        case rel=>exact⟨q+1,by have:=HQ.out;omega,by go_num,by rw[HHS.out,←HFV.out,q1,Bool.or_false],SA,G,B0⟩
      ·obtain rfl:q=k:=by omega
       clear hq hqt
       have z0:=B0.lt
       have q0_0:R5.cell? ⟨w.heap.size,0,none⟩=some (.int .i64 x.n):=B0.c 0 _ rfl
       have q0_1:R5.cell? ⟨w.heap.size,1,none⟩=some (.slice a0 x.edges.length c0):=B0.c 1 _ rfl
       have f0:=B0.f
       generalize hfv:(hasArc l id&&!(hasI (r.take q) id))=fv at *
       have HFV:=Lib.hid HRA.out;clear hfv
       cases fv
       ·have HB:Hid (pushOk x f r=false):=HNO.out HFV.out
        have HL:=Lib.hid (HNL.out HB.out)
        go_wp2_with fail
        go_ret2
        exact⟨none,0,by rw[HL.out,HB.out];rfl,G,by rw[HL.out];exact SlR.nil⟩
       ·go_wp2_with fail
        go_roundg (r.length-(q+1))
        case measure=>have:=HK.out;omega
        case rel=>exact⟨q+1,by have:=HK.out;omega,by go_num,by rw[HLS.out],fun i hi=>by
         by_cases he:i=q
         ·rw[he,HFV.out]
         ·exact HALL.out i (by omega),SA,G,B0⟩
  ·obtain rfl:k=r.length:=by omega
   simp only[List.take_length]
   clear hk hlt
   have hro:=ringsOk_yes HALL.out
   have HRO:=Lib.hid hro;clear hro
   rw[leastOf_start (fun a ha=>(HFI.out a ha).2.2.2.2.2.2.2.2.1) HZ.out HRO.out]
   have HB:Hid (pushOk x f r=flowOk x (pushTo x f r)):=by
    show _=_
    rw[HP.out,HOK.out,HRO.out];simp[HZ.out]
   have hfl:0<f.length:=by
    have h1:=HALL.out 0 (by have:=HZ.out;omega)
    rw[ringAt_eq (by have:=HZ.out;omega)]at h1
    simp only[Bool.and_eq_true]at h1
    obtain⟨i,hi,_⟩:=HFO.out _ h1.1
    omega
   have hrm1:=leastOf_pos l r 1000000000 (fun a ha=>(HFI.out a ha).2.2.2.2.2.2.2.1) (by omega)
   have hrm2:=leastOf_le l r 1000000000
   obtain⟨n1,n2,g2,hlen,hee,hpp,hss⟩:=flowOk_facts HOK.out
   clear hss
   have hfb:bdd 1000000000 f:=fun i hi=>by
    have e:(x.edges.zip f)[i]'(by simp;omega)=(x.edges[i]'(by omega),f[i]):=List.getElem_zip
    have h1:=hpp _ (List.getElem_mem (show i<(x.edges.zip f).length by simp;omega))
    have h2:=edgeOk_iff.1 (hee _ (List.getElem_mem (show i<x.edges.length by omega)))
    rw[e]at h1
    simp only at h1
    omega
   have hf60:f.length≤60:=by omega
   clear hlen hee hpp g2
   have HFB:=Lib.hid hfb;clear hfb
   generalize leastOf l 1000000000 r=rm at *
   clear SA
   have hsz0:w.heap.size<R3.heap.size:=B0.lt
   have z0:=B0.lt
   have q0_0:R3.cell? ⟨w.heap.size,0,none⟩=some (.int .i64 x.n):=B0.c 0 _ rfl
   have q0_1:R3.cell? ⟨w.heap.size,1,none⟩=some (.slice a0 x.edges.length c0):=B0.c 1 _ rfl
   have f0:=B0.f
   obtain⟨b_f,off_f,ha_f,_,hb_f,hel_f⟩:=IntsOff.of_slr H1.out hfl
   subst ha_f
   have HEF:=Lib.hid hel_f;clear hel_f
   have hi64:=ints_i64 H1.out
   have HI:=Lib.hid hi64;clear hi64
   have GB:=G
   have BB:=B0
   go_wp2_with (at_builtin
                go_loud (refine wpList_append_g rfl (.tmp 69) (.tmp 70) 26 rfl R3 ((Grow.refl R3).alloc _ _) 3 i0 _ 1 8 Try.underlying26 hi0 hz0 hz1 hz2 rfl (by omega) (.slice (some ⟨R3.heap.size,0,none⟩) 0 0) 0 [] rfl (by
                 have hm:=World.ownsRow_made (base:=R3.heap.size) (e:=3) (size:=1) R3 #[] 0 (Nat.le_refl _) (by simp[maxLen]) (by simp)
                 simpa using hm) ⟨b_f,off_f,none⟩ f.length c1 (f.map (Value.int .i64)) rfl (by simp) (ints_news (HEF.out.grow (G.alloc _ _))) (oneCell_ints f) (by simp only[maxLen];omega) (by omega) ?_)
                intro vO wO hown' hg' hgb hat
                have HOWN:=Lib.hid hown';have HGO:=Lib.hid hg';clear hown' hg' hgb hat
                replace G:=G.trans HGO.out
                replace B0:=B0.grow HGO.out
                clear z0 q0_0 q0_1 f0)
   have hown:=HOWN.out
   rw[Nat.zero_add,List.nil_append]at hown
   have SO:=ints_own hown HI.out
   clear hown HOWN
   have SO':=SO
   obtain⟨aO,cO,rfl,_,_,_⟩:=SO'
   have hcO1:=SlR.cap SO
   have hcO2:=SlR.capm SO
   obtain⟨b_o,off_o,ha_o,hbo1,hbo2,HIO⟩:=IntsOff.of_slr SO hfl
   subst ha_o
   clear SO
   have hbo0:w.heap.size<b_o:=by have:=hsz0;omega
   have z0:=B0.lt
   have q0_0:wO.cell? ⟨w.heap.size,0,none⟩=some (.int .i64 x.n):=B0.c 0 _ rfl
   have q0_1:wO.cell? ⟨w.heap.size,1,none⟩=some (.slice a0 x.edges.length c0):=B0.c 1 _ rfl
   have f0:=B0.f
   go_wp2_with fail
   clear z0 q0_0 q0_1 f0
   go_loopg [74] r.length (fun g i wr=>∃k:Nat,k+g=r.length∧i=.int .i64 k∧IntsOff wr b_o off_o (pushAll rm (r.take k) f)∧Grow w wr∧Box wr (w.heap.size) [.int .i64 x.n,.slice a0 x.edges.length c0])
   case atStart=>exact⟨0,by simp,rfl,by simpa[pushAll]using HIO,G,B0⟩
   case round=>
    clear G B0
    obtain⟨k,hk,rfl,HIO,G,B0⟩:=hrel
    obtain⟨R6,rfl⟩:∃V,V=wr:=⟨_,rfl⟩
    have HH:=Lib.hid HIO;clear HIO
    have hbw:b_o<R6.heap.size:=by have:=HH.out 0 (by rw[pushAll_length];exact hfl);exact lt_of_cell this
    by_cases hlt:k<r.length
    ·have HK:=Lib.hid hk;clear hk
     have HPS:Hid (pushAll rm (r.take (k+1)) f=pushStep rm (pushAll rm (r.take k) f) r[k]):=pushAll_succ hlt rm f
     have h1:=HALL.out k hlt
     rw[ringAt_eq hlt]at h1
     simp only[Bool.and_eq_true]at h1
     obtain⟨i,hi,hid⟩:=HFO.out _ h1.1
     clear h1
     have hbd:=pushAll_bdd (r:=rm) (by omega) hrm2 (r.take k) f 1000000000 (by omega) HFB.out
     have hkl:(r.take k).length=k:=by rw[List.length_take];omega
     rw[hkl]at hbd
     have hsl:=pushAll_length rm (r.take k) f
     have z0:=B0.lt
     have q0_0:R6.cell? ⟨w.heap.size,0,none⟩=some (.int .i64 x.n):=B0.c 0 _ rfl
     have q0_1:R6.cell? ⟨w.heap.size,1,none⟩=some (.slice a0 x.edges.length c0):=B0.c 1 _ rfl
     have f0:=B0.f
     obtain⟨b_id,off_id,ha_id,hb1_id,hb2_id,hel_id⟩:=H2.out.elems k hlt
     obtain⟨eid0,-⟩:=Int.atCell (hel_id.same repInt_stable (G.same (Nat.le_refl _)) hb1_id hb2_id) k hlt
     subst ha_id
     clear hel_id
     generalize r[k]=id at *
     generalize pushAll rm (r.take k) f=s at *
     have his:i<s.length:=by omega
     have ev:=HH.out i his
     have hbd2:=hbd i his
     obtain⟨hbd3,hbd4⟩:=hbd2
     have HY:Hid (s.getD i 0=s[i]):=by show _=_;rw[List.getD_eq_getElem?_getD,List.getElem?_eq_getElem his];rfl
     generalize s[i]=y at *
     clear hbd
     have hk6:(k:Int)≤1048576:=by omega
     have hfz:R6.frozen? ⟨b_o,off_o+i,none⟩=false:=G.nf b_o _ (by omega) hbw
     have hii:(i:Int)<(f.length:Int):=by omega
     have hi0:(0:Int)≤(i:Int):=by omega
     have hki:(k:Int)<(r.length:Int):=by omega
     have HSL:=Lib.hid hsl;clear hsl
     rcases hid with hid|hid
     ·have hid0:0≤id:=by omega
      have hq1:id.tdiv 2=(i:Int):=by rw[Int.tdiv_eq_ediv_of_nonneg hid0];omega
      have hq2:id.tmod 2=0:=by rw[Int.tmod_eq_emod_of_nonneg hid0];omega
      have hq3:id/2=(i:Int):=by omega
      have hq4:id%2=0:=by omega
      have HST:Hid (pushStep rm s id=s.set i (y+rm)):=by
       show _=_
       unfold pushStep
       rw[hq3,Int.toNat_natCast,HY.out,if_pos hq4]
      have hid1:id≤121:=by omega
      clear hid
      go_wp2_with fail
      go_roundg (r.length-(k+1))
      case measure=>have:=HK.out;omega
      case rel=>exact⟨k+1,by have:=HK.out;omega,by go_num,by rw[HPS.out,HST.out];exact HH.out.set his _,(G.setCell (by show w.heap.size≤b_o;omega) _),(B0.other (by show b_o≠_;omega) _)⟩
     ·have hid0:0≤id:=by omega
      have hq1:id.tdiv 2=(i:Int):=by rw[Int.tdiv_eq_ediv_of_nonneg hid0];omega
      have hq2:id.tmod 2=1:=by rw[Int.tmod_eq_emod_of_nonneg hid0];omega
      have hq3:id/2=(i:Int):=by omega
      have hq4:id%2=1:=by omega
      have HST:Hid (pushStep rm s id=s.set i (y-rm)):=by
       show _=_
       unfold pushStep
       rw[hq3,Int.toNat_natCast,HY.out,if_neg (by omega)];rfl
      have hid1:id≤121:=by omega
      clear hid
      go_wp2_with fail
      go_roundg (r.length-(k+1))
      case measure=>have:=HK.out;omega
      case rel=>exact⟨k+1,by have:=HK.out;omega,by go_num,by rw[HPS.out,HST.out];exact HH.out.set his _,(G.setCell (by show w.heap.size≤b_o;omega) _),(B0.other (by show b_o≠_;omega) _)⟩
    ·obtain rfl:k=r.length:=by omega
     clear hk hlt
     have hio:=HH.out
     rw[List.take_length]at hio
     have hbd:=pushAll_bdd (r:=rm) (by omega) hrm2 r f 1000000000 (by omega) HFB.out
     rw[←HTO.out]at hio hbd
     have hpl:(pushTo x f r).length=f.length:=by rw[HTO.out,pushAll_length]
     have hro:(r.length:Int)≤1048576:=by omega
     have SR:=hio.slr (c:=cO) (lo:=w.heap.size) (hi:=R6.heap.size) (by omega) hbw (by omega) hcO2 (fun i hi=>by have:=hbd i hi;unfold i64;omega)
     rw[hpl]at SR
     have HPL:=Lib.hid hpl;clear hpl hio hbd
     generalize hpt:pushTo x f r=pt at *
     have HPT:=Lib.hid hpt;clear hpt
     have z0:=B0.lt
     have q0_0:R6.cell? ⟨w.heap.size,0,none⟩=some (.int .i64 x.n):=B0.c 0 _ rfl
     have q0_1:R6.cell? ⟨w.heap.size,1,none⟩=some (.slice a0 x.edges.length c0):=B0.c 1 _ rfl
     have f0:=B0.f
     go_wp2_with fail
     have SRc:SlR 1 repInt R6 0 R6.heap.size (.slice (some ⟨b_o,off_o,none⟩) pt.length cO) pt:=by rw[HPL.out];exact SR.stable repInt_stable (Same.refl _ _ _) (Nat.zero_le _) (Nat.le_refl _)
     have SRd:=Lib.hid SRc;clear SRc
     rw[←HPL.out]
     refine(spec_FlowOk_c x _ _ pt _ _ _ (H0.out.grow' repEdge_stable (Grow.below G)) SRd.out).mono ?_
     rintro e V7 ⟨rfl,gs⟩
     clear z0 q0_0 q0_1 f0
     have ys:=Grow.size gs
     replace B0:Box V7 (w.heap.size) [.int .i64 x.n,.slice a0 x.edges.length c0]:=Box.grow B0 gs
     replace SR:=SR.same repInt_stable (gs.same (by omega))
     replace G:Grow w V7:=Grow.trans G gs
     clear gs
     have z0:=B0.lt
     have q0_0:V7.cell? ⟨w.heap.size,0,none⟩=some (.int .i64 x.n):=B0.c 0 _ rfl
     have q0_1:V7.cell? ⟨w.heap.size,1,none⟩=some (.slice a0 x.edges.length c0):=B0.c 1 _ rfl
     have f0:=B0.f
     cases hok2:flowOk x pt
     ·have HB2:=Lib.hid (HB.out.trans hok2)
      have HL:=Lib.hid (HNL.out HB2.out)
      go_wp2_with fail
      go_ret2
      exact⟨none,0,by rw[HL.out,HB2.out];rfl,G,by rw[HL.out];exact SlR.nil⟩
     ·have HB2:=Lib.hid (HB.out.trans hok2)
      have HL:Hid (pushL x f r=pt):=by
       show _=_
       unfold pushL
       rw[if_pos HB2.out];exact HPT.out
      go_wp2_with fail
      go_ret2
      exact⟨_,cO,by rw[HL.out,HB2.out];rfl,G,by rw[HL.out,HPL.out];exact SR.stable repInt_stable (Same.refl _ _ _) (Nat.le_refl _) (by omega)⟩
end Go.Proofs.Ytlgamhhfgaeaoaa
