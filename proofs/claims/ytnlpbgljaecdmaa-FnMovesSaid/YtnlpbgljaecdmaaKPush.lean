/- Texts joined: Push, Ring, Cheap. -/
import Derived.Test.YtnlpbgljaecdmaaKArcs
import Derived.Test.YtnlpbgljaecdmaaKIntRow
import Derived.Test.YtnlpbgljaecdmaaKFlow2I
import Derived.Test.YtnlpbgljaecdmaaKFlow2S
namespace Go.Proofs.Ytnlpbgljaecdmaa
open Go.RowKit
set_option maxHeartbeats 16000000
set_option maxRecDepth 100000
set_option linter.unusedSimpArgs false
set_option linter.unusedVariables false
theorem hasArc_succ{l:List Arc}{j:Nat}(h:j<l.length)(id:Int):hasArc (l.take (j+1)) id=(hasArc (l.take j) id||(l[j].id==id)):=by
 unfold hasArc;rw[List.take_succ_eq_append_getElem h,List.any_append];simp
theorem leastAt_succ{l:List Arc}{j:Nat}(h:j<l.length)(r id:Int):leastAt (l.take (j+1)) r id=leastStep id (leastAt (l.take j) r id) l[j]:=by
 unfold leastAt;rw[List.take_succ_eq_append_getElem h,List.foldl_append];rfl
theorem leastOf_succ{l:List Arc}{ring:List Int}{k:Nat}(h:k<ring.length)(r:Int):leastOf l r (ring.take (k+1))=leastAt l (leastOf l r (ring.take k)) ring[k]:=by
 unfold leastOf;rw[List.take_succ_eq_append_getElem h,List.foldl_append];rfl
theorem pushAll_succ{ring:List Int}{k:Nat}(h:k<ring.length)(r:Int)(f:List Int):pushAll r (ring.take (k+1)) f=pushStep r (pushAll r (ring.take k) f) ring[k]:=by
 unfold pushAll;rw[List.take_succ_eq_append_getElem h,List.foldl_append];rfl
theorem hasI_succ{l:List Int}{j:Nat}(h:j<l.length)(n:Int):hasI (l.take (j+1)) n=(hasI (l.take j) n||(l[j]==n)):=by
 unfold hasI;rw[List.take_succ_eq_append_getElem h,List.any_append];simp
theorem leastStep_yes{id r:Int}{a:Arc}(h1:a.id=id)(h2:a.room<r):leastStep id r a=a.room:=if_pos ⟨h1,h2⟩
theorem leastStep_no{id r:Int}{a:Arc}(h:¬(a.id=id∧a.room<r)):leastStep id r a=r:=if_neg h
theorem leastStep_min(id r t:Int)(a:Arc):leastStep id (min r t) a=min (leastStep id r a) t:=by
 unfold leastStep
 by_cases h:a.id=id
 ·simp only[h,true_and];(repeat' split)<;>omega
 ·simp[h]
theorem leastAt_min(id t:Int):∀(l:List Arc) (r:Int),leastAt l (min r t) id=min (leastAt l r id) t
 |[],_=>rfl
 |a::l,r=>by
  show leastAt l (leastStep id (min r t) a) id=min (leastAt l (leastStep id r a) id) t
  rw[leastStep_min,leastAt_min id t l]
theorem leastOf_start{l:List Arc}{ring:List Int}(hl:∀a∈l,a.room≤1000000000)(h0:ring.length≠0)(hr:ringsOk l ring=true):leastOf l 1000000001 ring=leastOf l 1000000000 ring:=by
 cases ring with
 |nil=>exact absurd rfl h0
 |cons id ring=>
  show leastOf l (leastAt l 1000000001 id) ring=leastOf l (leastAt l 1000000000 id) ring
  have h1:=List.all_eq_true.1 hr 0 (by simp)
  have h2:hasArc l id=true:=by
   unfold ringAt at h1
   simp only[List.getElem?_cons_zero,Bool.and_eq_true]at h1
   exact h1.1
  unfold hasArc at h2
  obtain⟨a,ha,he⟩:=List.any_eq_true.1 h2
  have h3:=leastAt_arc id l 1000000001 a ha (by simpa using he)
  have h4:=leastAt_min id 1000000000 l 1000000001
  rw[show min (1000000001:Int) 1000000000=1000000000 by omega]at h4
  have:=hl a ha
  rw[h4,show min (leastAt l 1000000001 id) 1000000000=leastAt l 1000000001 id by omega]
theorem pushAll_bdd{r:Int}(h0:0≤r)(h1:r≤1000000000):∀(ring:List Int) (o:List Int) (b:Int),0≤b→bdd b o→bdd (b+1000000000*ring.length) (pushAll r ring o)
 |[],o,b,_,h=>by simpa[pushAll]using h
 |id::ring,o,b,hb,h=>by
  have hs:bdd (b+1000000000) (pushStep r o id):=by
   unfold pushStep
   have:=bdd_getD h hb (id/2).toNat
   refine bdd_set h _ _ (by omega) ?_ ?_<;>split<;>omega
  have:=pushAll_bdd h0 h1 ring _ (b+1000000000) (by omega) hs
  intro i hi
  have:=this i hi
  rw[List.length_cons]
  push_cast
  show -(b+1000000000*(↑ring.length+1))≤(pushAll r ring (pushStep r o id))[i]∧(pushAll r ring (pushStep r o id))[i]≤b+1000000000*(↑ring.length+1)
  omega
theorem pushL_no{x:Graph}{f r:List Int}(h:pushOk x f r=false):pushL x f r=[]:=by unfold pushL;rw[h];rfl
theorem ringAt_eq{l:List Arc}{ring:List Int}{k:Nat}(h:k<ring.length):ringAt l ring k=(hasArc l ring[k]&&!(hasI (ring.take k) ring[k])):=by
 unfold ringAt;rw[List.getElem?_eq_getElem h];rfl
theorem ringsOk_no{l:List Arc}{ring:List Int}{k:Nat}(h:k<ring.length)(h2:ringAt l ring k=false):ringsOk l ring=false:=by
 unfold ringsOk;rw[List.all_eq_false];exact⟨k,by simpa using h,by simp[h2]⟩
theorem ringsOk_yes{l:List Arc}{ring:List Int}(h:∀j,j<ring.length→ringAt l ring j=true):ringsOk l ring=true:=by
 unfold ringsOk;rw[List.all_eq_true];intro j hj;exact h j (by simpa using hj)
theorem found_at{x:Graph}{f:List Int}(h:flowOk x f=true){id:Int}(hi:hasArc (arcsOf x f) id=true):∃i,i<f.length∧(id=2*(i:Int)∨id=2*(i:Int)+1):=by
 unfold hasArc at hi
 obtain⟨a,ha,he⟩:=List.any_eq_true.1 hi
 obtain⟨i,h1,h2,hc⟩:=arc_at h ha
 have he':a.id=id:=by simpa using he
 refine⟨i,h2,?_⟩
 rcases hc with⟨q,_⟩|⟨q,_⟩
 ·left;omega
 ·right;omega
theorem impl_Push_c(x:Graph)(a0:Option Addr)(c0:Nat)(f:List Int)(a1:Option Addr)(c1:Nat)(r:List Int)(a2:Option Addr)(c2:Nat)(w:World)(h0:SlR 4 repEdge w 0 w.heap.size (.slice a0 x.edges.length c0) x.edges)(h1:SlR 1 repInt w 0 w.heap.size (.slice a1 f.length c1) f)(h2:SlR 1 repInt w 0 w.heap.size (.slice a2 r.length c2) r)(hr:r.length≤1048576) :
 Calls Try.prog 24 #[.agg #[.int .i64 x.n,.slice a0 x.edges.length c0],.slice a1 f.length c1,.slice a2 r.length c2] w fun e w'=>∃a c,e=.returned (.tuple #[.slice a (pushL x f r).length c,.bool (pushOk x f r)])∧Grow w w'∧SlR 1 repInt w' w.heap.size w'.heap.size (.slice a (pushL x f r).length c) (pushL x f r):=by
 obtain⟨i0,hi0,hz0,hz1,hz2⟩:=info_parts infoInt'
 have hrc:=SlR.cap h2
 have H0:=Lib.hid h0;have H1:=Lib.hid h1;have H2:=Lib.hid h2
 clear h0 h1 h2
 have HP:Hid (pushOk x f r=(flowOk x f&&!(r.length==0)&&ringsOk (arcsOf x f) r&&flowOk x (pushTo x f r))):=rfl
 have HNL:Hid (pushOk x f r=false→pushL x f r=[]):=pushL_no
 have HRC:=Lib.hid hrc;clear hrc
 go_enter Try.func24,Try.ntmps24
 go_wp2_with fail
 refine(impl_FlowOk_c x _ _ f _ _ _ (H0.out.grow' repEdge_stable (Grow.below ((Grow.refl w).alloc _ _))) (H1.out.grow' repInt_stable (Grow.below ((Grow.refl w).alloc _ _)))).mono ?_
 rintro e V1 ⟨rfl,gs⟩
 have ys:=Grow.size gs
 simp only[World.size_setCell,World.size_alloc]at ys
 have B0:Box V1 (w.heap.size) [.int .i64 x.n,.slice a0 x.edges.length c0]:=Box.grow (Box.newAt (by simp) _ _) gs
 have G:Grow w V1:=Grow.trans ((Grow.refl w).alloc _ _) gs
 clear gs
 have z0:=B0.lt
 have q0_0:V1.cell? ⟨w.heap.size,0,none⟩=some (.int .i64 x.n):=B0.c 0 _ rfl
 have q0_1:V1.cell? ⟨w.heap.size,1,none⟩=some (.slice a0 x.edges.length c0):=B0.c 1 _ rfl
 have f0:=B0.f
 cases hok:flowOk x f
 ·have HB:Hid (pushOk x f r=false):=by
   show _=_
   rw[HP.out,hok];simp
  have HL:=Lib.hid (HNL.out HB.out)
  go_wp2_with fail
  go_ret2
  exact⟨none,0,by rw[HL.out,HB.out];rfl,G,by rw[HL.out];exact SlR.nil⟩
 by_cases hz:r.length=0
 ·have qz:((r.length:Int)==0)=true:=by rw[beq_iff_eq];omega
  have HB:Hid (pushOk x f r=false):=by
   show _=_
   rw[HP.out,hz];simp
  have HL:=Lib.hid (HNL.out HB.out)
  go_wp2_with fail
  go_ret2
  exact⟨none,0,by rw[HL.out,HB.out];rfl,G,by rw[HL.out];exact SlR.nil⟩
 have qz:((r.length:Int)==0)=false:=by rw[beq_eq_false_iff_ne];omega
 have HZ:=Lib.hid hz;have HOK:=Lib.hid hok;clear hok hz
 go_wp2_with fail
 refine(impl_arcs_c x _ _ f _ _ _ (H0.out.grow' repEdge_stable (Grow.below G)) (H1.out.grow' repInt_stable (Grow.below G)) HOK.out).mono ?_
 rintro e V2 ⟨aA,cA,rfl,gs,SA⟩
 clear z0 q0_0 q0_1 f0
 have ys:=Grow.size gs
 replace B0:Box V2 (w.heap.size) [.int .i64 x.n,.slice a0 x.edges.length c0]:=Box.grow B0 gs
 replace G:Grow w V2:=Grow.trans G gs
 clear gs
 --
 have z0:=B0.lt
 have q0_0:V2.cell? ⟨w.heap.size,0,none⟩=some (.int .i64 x.n):=B0.c 0 _ rfl
 have q0_1:V2.cell? ⟨w.heap.size,1,none⟩=some (.slice a0 x.edges.length c0):=B0.c 1 _ rfl
 have f0:=B0.f
 have hal:=arcsOf_len HOK.out
 have HFI:=Lib.hid (arcs_fine HOK.out)
 have HFO:Hid (∀id,hasArc (arcsOf x f) id=true→∃i,i<f.length∧(id=2*(i:Int)∨id=2*(i:Int)+1)):=fun id h=>found_at HOK.out h
 have HTO:Hid (pushTo x f r=pushAll (leastOf (arcsOf x f) 1000000000 r) r f):=rfl
 generalize hl:arcsOf x f=l at *
 have HLL:=Lib.hid hl;clear hl
 replace SA:=SA.all repArc_stable (Nat.le_refl _)
 go_wp2_with fail
 clear z0 q0_0 q0_1 f0
 go_loopg [9,32] r.length (fun g rm i wr=>∃k:Nat,k+g=r.length∧i=.int .i64 k∧rm=.int .i64 (leastOf l 1000000000 (r.take k))∧(∀j,j<k→ringAt l r j=true)∧SlR 5 repArc wr 0 wr.heap.size (.slice aA l.length cA) l∧Grow w wr∧Box wr (w.heap.size) [.int .i64 x.n,.slice a0 x.edges.length c0])
 case atStart=>exact⟨0,by simp,rfl,by simp[leastOf],fun j h=>absurd h (by omega),SA,G,B0⟩
 case round=>
  clear G B0
  obtain⟨k,hk,rfl,rfl,hall,SA,G,B0⟩:=hrel
  obtain⟨R3,rfl⟩:∃V,V=wr:=⟨_,rfl⟩
  have HALL:=Lib.hid hall;clear hall
  by_cases hlt:k<r.length
  ·have HK:=Lib.hid hk;clear hk
   have HNO:Hid (ringAt l r k=false→pushOk x f r=false):=fun h=>by rw[HP.out,ringsOk_no hlt h];simp
   have HRA:Hid (ringAt l r k=(hasArc l r[k]&&!(hasI (r.take k) r[k]))):=ringAt_eq hlt
   have HLS:Hid (leastOf l 1000000000 (r.take (k+1))=leastAt l (leastOf l 1000000000 (r.take k)) r[k]):=leastOf_succ hlt _
   have z0:=B0.lt
   have q0_0:R3.cell? ⟨w.heap.size,0,none⟩=some (.int .i64 x.n):=B0.c 0 _ rfl
   have q0_1:R3.cell? ⟨w.heap.size,1,none⟩=some (.slice a0 x.edges.length c0):=B0.c 1 _ rfl
   have f0:=B0.f
   obtain⟨b_id,off_id,ha_id,hb1_id,hb2_id,hel_id⟩:=H2.out.elems k hlt
   obtain⟨eid0,-⟩:=Int.atCell (hel_id.same repInt_stable (G.same (Nat.le_refl _)) hb1_id hb2_id) k hlt
   subst ha_id
   clear hel_id
   generalize r[k]=id at *
   generalize leastOf l 1000000000 (r.take k)=rm at *
   have hki:(k:Int)<(r.length:Int):=by omega
   have hkl:(k:Int)≤1048576:=by omega
   have hkc:(k:Int)≤(c2:Int):=by have:=HRC.out;omega
   go_wp2_with fail
   have SA0:=Lib.hid SA;clear SA
   clear z0 q0_0 q0_1 f0
   go_loopg [9,12,39] l.length (fun g rv fd i wi=>∃j:Nat,j+g=l.length∧i=.int .i64 j∧rv=.int .i64 (leastAt (l.take j) rm id)∧fd=.bool (hasArc (l.take j) id)∧SlR 5 repArc wi 0 wi.heap.size (.slice aA l.length cA) l∧Grow w wi∧Box wi (w.heap.size) [.int .i64 x.n,.slice a0 x.edges.length c0])
   case atStart=>exact⟨0,by simp,rfl,by simp[leastAt],by simp[hasArc],SA0.out,G,B0⟩
   case round=>
    clear G B0
    obtain⟨j,hj,rfl,rfl,rfl,SA,G,B0⟩:=hrel
    obtain⟨R4,rfl⟩:∃V,V=wr:=⟨_,rfl⟩
    by_cases hjt:j<l.length
    ·have HJ:=Lib.hid hj;clear hj
     have HLA:Hid (leastAt (l.take (j+1)) rm id=leastStep id (leastAt (l.take j) rm id) l[j]):=leastAt_succ hjt _ _
     have HHA:Hid (hasArc (l.take (j+1)) id=(hasArc (l.take j) id||(l[j].id==id))):=hasArc_succ hjt _
     obtain⟨b_a,off_a,ha_a,hb1_a,hb2_a,hel_a⟩:=SA.elems j hjt
     obtain⟨ea0,ea1,ea2,ea3,ea4,-⟩:=Arc.atCell hel_a j hjt
     clear hel_a
     have HSA:=Lib.hid SA;clear SA
     subst ha_a
     generalize l[j]=a at *
     generalize leastAt (l.take j) rm id=rj at *
     generalize hasArc (l.take j) id=hj at *
     have hja:(j:Int)<(l.length:Int):=by omega
     by_cases t1:a.id=id
     ·have q1:(a.id==id)=true:=by simpa using t1
      by_cases t2:a.room<rj
      ·have HST:Hid (leastStep id rj a=a.room):=leastStep_yes t1 t2
       have hmin:min rj a.room=a.room:=by omega
       have q2:decide (a.room<rj)=true:=by simp;omega
       have z0:=B0.lt
       have q0_0:R4.cell? ⟨w.heap.size,0,none⟩=some (.int .i64 x.n):=B0.c 0 _ rfl
       have q0_1:R4.cell? ⟨w.heap.size,1,none⟩=some (.slice a0 x.edges.length c0):=B0.c 1 _ rfl
       have f0:=B0.f
       have HT1:=Lib.hid t1;clear t1
       go_wp2_with fail
       go_roundg (l.length-(j+1))
       case measure=>have:=HJ.out;omega
       case rel=>exact⟨j+1,by have:=HJ.out;omega,by go_num,by rw[HLA.out,HST.out],by rw[HHA.out];simp[HT1.out],HSA.out.grow' repArc_stable (Grow.below ((Grow.refl _).alloc _ _)),(G.alloc _ _),(B0.alloc _ _)⟩
      ·have HST:Hid (leastStep id rj a=rj):=leastStep_no (fun h=>t2 h.2)
       have hmin:min rj a.room=rj:=by omega
       have q2:decide (a.room<rj)=false:=by simp;omega
       have z0:=B0.lt
       have q0_0:R4.cell? ⟨w.heap.size,0,none⟩=some (.int .i64 x.n):=B0.c 0 _ rfl
       have q0_1:R4.cell? ⟨w.heap.size,1,none⟩=some (.slice a0 x.edges.length c0):=B0.c 1 _ rfl
       have f0:=B0.f
       have HT1:=Lib.hid t1;clear t1
       go_wp2_with fail
       go_roundg (l.length-(j+1))
       case measure=>have:=HJ.out;omega
       case rel=>exact⟨j+1,by have:=HJ.out;omega,by go_num,by rw[HLA.out,HST.out],by rw[HHA.out];simp[HT1.out],HSA.out.grow' repArc_stable (Grow.below ((Grow.refl _).alloc _ _)),(G.alloc _ _),(B0.alloc _ _)⟩
     ·have q1:(a.id==id)=false:=by simpa using t1
      have HST:Hid (leastStep id rj a=rj):=leastStep_no (fun h=>t1 h.1)
      have z0:=B0.lt
      have q0_0:R4.cell? ⟨w.heap.size,0,none⟩=some (.int .i64 x.n):=B0.c 0 _ rfl
      have q0_1:R4.cell? ⟨w.heap.size,1,none⟩=some (.slice a0 x.edges.length c0):=B0.c 1 _ rfl
      have f0:=B0.f
      have HT1:=Lib.hid t1;clear t1
      go_wp2_with fail
      go_roundg (l.length-(j+1))
      case measure=>have:=HJ.out;omega
      case rel=>exact⟨j+1,by have:=HJ.out;omega,by go_num,by rw[HLA.out,HST.out],by rw[HHA.out];simp[HT1.out],HSA.out.grow' repArc_stable (Grow.below ((Grow.refl _).alloc _ _)),(G.alloc _ _),(B0.alloc _ _)⟩
    ·obtain rfl:j=l.length:=by omega
     simp only[List.take_length]
     clear hj hjt
     have z0:=B0.lt
     have q0_0:R4.cell? ⟨w.heap.size,0,none⟩=some (.int .i64 x.n):=B0.c 0 _ rfl
     have q0_1:R4.cell? ⟨w.heap.size,1,none⟩=some (.slice a0 x.edges.length c0):=B0.c 1 _ rfl
     have f0:=B0.f
     cases hfd:hasArc l id
     ·have HB:Hid (pushOk x f r=false):=HNO.out (by rw[HRA.out,hfd];simp)
      have HL:=Lib.hid (HNL.out HB.out)
      go_wp2_with fail
      go_ret2
      exact⟨none,0,by rw[HL.out,HB.out];rfl,G,by rw[HL.out];exact SlR.nil⟩
     have HFD:=Lib.hid hfd;clear hfd
     have HS:=H2.out.grow' repInt_stable (Grow.below G)
     have HSH:=Lib.hid HS;clear HS
     cases hhi:hasI (r.take k) id
     ·have HHI:=Lib.hid hhi
      go_wp2_with (go_at_call 42;refine(hasTake_c r _ _ k id 0 _ _ HSH.out (by omega) hr).mono ?_;rintro e w' ⟨rfl,rfl⟩)
      clear hhi
      go_roundg (r.length-(k+1))
      case measure=>have:=HK.out;omega
      case rel=>exact⟨k+1,by have:=HK.out;omega,by go_num,by rw[HLS.out],fun i hi=>by
       by_cases he:i=k
       ·rw[he,HRA.out,HFD.out,HHI.out];rfl
       ·exact HALL.out i (by omega),SA,G,B0⟩
     ·have HB:Hid (pushOk x f r=false):=HNO.out (by rw[HRA.out,hhi];simp)
      have HL:=Lib.hid (HNL.out HB.out)
      go_wp2_with (go_at_call 42;refine(hasTake_c r _ _ k id 0 _ _ HSH.out (by omega) hr).mono ?_;rintro e w' ⟨rfl,rfl⟩)
      go_ret2
      exact⟨none,0,by rw[HL.out,HB.out];rfl,G,by rw[HL.out];exact SlR.nil⟩
  ·obtain rfl:k=r.length:=by omega
   simp only[List.take_length]
   clear hk hlt
   have hro:=ringsOk_yes HALL.out
   have HRO:=Lib.hid hro;clear hro
   have HB:Hid (pushOk x f r=flowOk x (pushTo x f r)):=by
    show _=_
    rw[HP.out,HOK.out,HRO.out];simp[HZ.out]
   have hfl:0<f.length:=by
    have h1:=HALL.out 0 (by have:=HZ.out;omega)
    rw[ringAt_eq (by have:=HZ.out;omega)]at h1
    simp only[Bool.and_eq_true]at h1
    obtain⟨i,hi,_⟩:=HFO.out _ h1.1
    omega
   have hrm1:=leastOf_pos l r 1000000000 (fun a ha=>(HFI.out a ha).2.2.2.2.2.2.2.1) (by omega)
   have hrm2:=leastOf_le l r 1000000000
   obtain⟨n1,n2,g2,hlen,hee,hpp,hss⟩:=flowOk_facts HOK.out
   clear hss
   have hfb:bdd 1000000000 f:=fun i hi=>by
    have e:(x.edges.zip f)[i]'(by simp;omega)=(x.edges[i]'(by omega),f[i]):=List.getElem_zip
    have h1:=hpp _ (List.getElem_mem (show i<(x.edges.zip f).length by simp;omega))
    have h2:=edgeOk_iff.1 (hee _ (List.getElem_mem (show i<x.edges.length by omega)))
    rw[e]at h1
    simp only at h1
    omega
   have hf60:f.length≤60:=by omega
   clear hlen hee hpp g2
   have HFB:=Lib.hid hfb;clear hfb
   generalize leastOf l 1000000000 r=rm at *
   clear SA
   have hsz0:w.heap.size<R3.heap.size:=B0.lt
   have z0:=B0.lt
   have q0_0:R3.cell? ⟨w.heap.size,0,none⟩=some (.int .i64 x.n):=B0.c 0 _ rfl
   have q0_1:R3.cell? ⟨w.heap.size,1,none⟩=some (.slice a0 x.edges.length c0):=B0.c 1 _ rfl
   have f0:=B0.f
   go_wp2_with fail
   refine(impl_copyInts_c f _ _ _ (H1.out.grow' repInt_stable (Grow.below G)) (by omega) hfl).mono ?_
   rintro e V5 ⟨aO,cO,rfl,gs,SO⟩
   clear z0 q0_0 q0_1 f0
   have ys:=Grow.size gs
   replace B0:Box V5 (w.heap.size) [.int .i64 x.n,.slice a0 x.edges.length c0]:=Box.grow B0 gs
   replace G:Grow w V5:=Grow.trans G gs
   clear gs
   --
   have z0:=B0.lt
   have q0_0:V5.cell? ⟨w.heap.size,0,none⟩=some (.int .i64 x.n):=B0.c 0 _ rfl
   have q0_1:V5.cell? ⟨w.heap.size,1,none⟩=some (.slice a0 x.edges.length c0):=B0.c 1 _ rfl
   have f0:=B0.f
   have hcO1:=SlR.cap SO
   have hcO2:=SlR.capm SO
   obtain⟨b_o,off_o,ha_o,hbo1,hbo2,HIO⟩:=IntsOff.of_slr SO hfl
   subst ha_o
   clear SO
   have hbo0:w.heap.size<b_o:=by have:=hsz0;omega
   clear z0 q0_0 q0_1 f0
   have z0:=B0.lt
   have q0_0:V5.cell? ⟨w.heap.size,0,none⟩=some (.int .i64 x.n):=B0.c 0 _ rfl
   have q0_1:V5.cell? ⟨w.heap.size,1,none⟩=some (.slice a0 x.edges.length c0):=B0.c 1 _ rfl
   have f0:=B0.f
   go_wp2_with fail
   clear z0 q0_0 q0_1 f0
   go_loopg [66] r.length (fun g i wr=>∃k:Nat,k+g=r.length∧i=.int .i64 k∧IntsOff wr b_o off_o (pushAll rm (r.take k) f)∧Grow w wr∧Box wr (w.heap.size) [.int .i64 x.n,.slice a0 x.edges.length c0])
   case atStart=>exact⟨0,by simp,rfl,by simpa[pushAll]using HIO,G,B0⟩
   case round=>
    clear G B0
    obtain⟨k,hk,rfl,HIO,G,B0⟩:=hrel
    obtain⟨R6,rfl⟩:∃V,V=wr:=⟨_,rfl⟩
    have HH:=Lib.hid HIO;clear HIO
    have hbw:b_o<R6.heap.size:=by have:=HH.out 0 (by rw[pushAll_length];exact hfl);exact lt_of_cell this
    by_cases hlt:k<r.length
    ·have HK:=Lib.hid hk;clear hk
     have HPS:Hid (pushAll rm (r.take (k+1)) f=pushStep rm (pushAll rm (r.take k) f) r[k]):=pushAll_succ hlt rm f
     have h1:=HALL.out k hlt
     rw[ringAt_eq hlt]at h1
     simp only[Bool.and_eq_true]at h1
     obtain⟨i,hi,hid⟩:=HFO.out _ h1.1
     clear h1
     have hbd:=pushAll_bdd (r:=rm) (by omega) hrm2 (r.take k) f 1000000000 (by omega) HFB.out
     have hkl:(r.take k).length=k:=by rw[List.length_take];omega
     rw[hkl]at hbd
     have hsl:=pushAll_length rm (r.take k) f
     have z0:=B0.lt
     have q0_0:R6.cell? ⟨w.heap.size,0,none⟩=some (.int .i64 x.n):=B0.c 0 _ rfl
     have q0_1:R6.cell? ⟨w.heap.size,1,none⟩=some (.slice a0 x.edges.length c0):=B0.c 1 _ rfl
     have f0:=B0.f
     obtain⟨b_id,off_id,ha_id,hb1_id,hb2_id,hel_id⟩:=H2.out.elems k hlt
     obtain⟨eid0,-⟩:=Int.atCell (hel_id.same repInt_stable (G.same (Nat.le_refl _)) hb1_id hb2_id) k hlt
     subst ha_id
     clear hel_id
     generalize r[k]=id at *
     generalize pushAll rm (r.take k) f=s at *
     have his:i<s.length:=by omega
     have ev:=HH.out i his
     have hbd2:=hbd i his
     obtain⟨hbd3,hbd4⟩:=hbd2
     have HY:Hid (s.getD i 0=s[i]):=by show _=_;rw[List.getD_eq_getElem?_getD,List.getElem?_eq_getElem his];rfl
     generalize s[i]=y at *
     clear hbd
     have hk6:(k:Int)≤1048576:=by omega
     have hfz:R6.frozen? ⟨b_o,off_o+i,none⟩=false:=G.nf b_o _ (by omega) hbw
     have hii:(i:Int)<(f.length:Int):=by omega
     have hi0:(0:Int)≤(i:Int):=by omega
     have hki:(k:Int)<(r.length:Int):=by omega
     have HSL:=Lib.hid hsl;clear hsl
     rcases hid with hid|hid
     ·have hid0:0≤id:=by omega
      have hq1:id.tdiv 2=(i:Int):=by rw[Int.tdiv_eq_ediv_of_nonneg hid0];omega
      have hq2:id.tmod 2=0:=by rw[Int.tmod_eq_emod_of_nonneg hid0];omega
      have hq3:id/2=(i:Int):=by omega
      have hq4:id%2=0:=by omega
      have HST:Hid (pushStep rm s id=s.set i (y+rm)):=by
       show _=_
       unfold pushStep
       rw[hq3,Int.toNat_natCast,HY.out,if_pos hq4]
      have hid1:id≤121:=by omega
      clear hid
      go_wp2_with fail
      go_roundg (r.length-(k+1))
      case measure=>have:=HK.out;omega
      case rel=>exact⟨k+1,by have:=HK.out;omega,by go_num,by rw[HPS.out,HST.out];exact HH.out.set his _,(G.setCell (by show w.heap.size≤b_o;omega) _),(B0.other (by show b_o≠_;omega) _)⟩
     ·have hid0:0≤id:=by omega
      have hq1:id.tdiv 2=(i:Int):=by rw[Int.tdiv_eq_ediv_of_nonneg hid0];omega
      have hq2:id.tmod 2=1:=by rw[Int.tmod_eq_emod_of_nonneg hid0];omega
      have hq3:id/2=(i:Int):=by omega
      have hq4:id%2=1:=by omega
      have HST:Hid (pushStep rm s id=s.set i (y-rm)):=by
       show _=_
       unfold pushStep
       rw[hq3,Int.toNat_natCast,HY.out,if_neg (by omega)];rfl
      have hid1:id≤121:=by omega
      clear hid
      go_wp2_with fail
      go_roundg (r.length-(k+1))
      case measure=>have:=HK.out;omega
      case rel=>exact⟨k+1,by have:=HK.out;omega,by go_num,by rw[HPS.out,HST.out];exact HH.out.set his _,(G.setCell (by show w.heap.size≤b_o;omega) _),(B0.other (by show b_o≠_;omega) _)⟩
    ·obtain rfl:k=r.length:=by omega
     clear hk hlt
     have hio:=HH.out
     rw[List.take_length]at hio
     have hbd:=pushAll_bdd (r:=rm) (by omega) hrm2 r f 1000000000 (by omega) HFB.out
     rw[←HTO.out]at hio hbd
     have hpl:(pushTo x f r).length=f.length:=by rw[HTO.out,pushAll_length]
     have hro:(r.length:Int)≤1048576:=by omega
     have SR:=hio.slr (c:=cO) (lo:=w.heap.size) (hi:=R6.heap.size) (by omega) hbw (by omega) hcO2 (fun i hi=>by have:=hbd i hi;unfold i64;omega)
     rw[hpl]at SR
     have HPL:=Lib.hid hpl;clear hpl hio hbd
     generalize hpt:pushTo x f r=pt at *
     have HPT:=Lib.hid hpt;clear hpt
     have z0:=B0.lt
     have q0_0:R6.cell? ⟨w.heap.size,0,none⟩=some (.int .i64 x.n):=B0.c 0 _ rfl
     have q0_1:R6.cell? ⟨w.heap.size,1,none⟩=some (.slice a0 x.edges.length c0):=B0.c 1 _ rfl
     have f0:=B0.f
     go_wp2_with fail
     have SRc:SlR 1 repInt R6 0 R6.heap.size (.slice (some ⟨b_o,off_o,none⟩) pt.length cO) pt:=by rw[HPL.out];exact SR.stable repInt_stable (Same.refl _ _ _) (Nat.zero_le _) (Nat.le_refl _)
     have SRd:=Lib.hid SRc;clear SRc
     rw[←HPL.out]
     refine(impl_FlowOk_c x _ _ pt _ _ _ (H0.out.grow' repEdge_stable (Grow.below G)) SRd.out).mono ?_
     rintro e V7 ⟨rfl,gs⟩
     clear z0 q0_0 q0_1 f0
     have ys:=Grow.size gs
     replace B0:Box V7 (w.heap.size) [.int .i64 x.n,.slice a0 x.edges.length c0]:=Box.grow B0 gs
     replace SR:=SR.same repInt_stable (gs.same (by omega))
     replace G:Grow w V7:=Grow.trans G gs
     clear gs
     have z0:=B0.lt
     have q0_0:V7.cell? ⟨w.heap.size,0,none⟩=some (.int .i64 x.n):=B0.c 0 _ rfl
     have q0_1:V7.cell? ⟨w.heap.size,1,none⟩=some (.slice a0 x.edges.length c0):=B0.c 1 _ rfl
     have f0:=B0.f
     cases hok2:flowOk x pt
     ·have HB2:=Lib.hid (HB.out.trans hok2)
      have HL:=Lib.hid (HNL.out HB2.out)
      go_wp2_with fail
      go_ret2
      exact⟨none,0,by rw[HL.out,HB2.out];rfl,G,by rw[HL.out];exact SlR.nil⟩
     ·have HB2:=Lib.hid (HB.out.trans hok2)
      have HL:Hid (pushL x f r=pt):=by
       show _=_
       unfold pushL
       rw[if_pos HB2.out];exact HPT.out
      go_wp2_with fail
      go_ret2
      exact⟨_,cO,by rw[HL.out,HB2.out];rfl,G,by rw[HL.out,HPL.out];exact SR.stable repInt_stable (Same.refl _ _ _) (Nat.le_refl _) (by omega)⟩
theorem spec_Push_c(x:Graph)(a0:Option Addr)(c0:Nat)(f:List Int)(a1:Option Addr)(c1:Nat)(r:List Int)(a2:Option Addr)(c2:Nat)(w:World)(h0:SlR 4 repEdge w 0 w.heap.size (.slice a0 x.edges.length c0) x.edges)(h1:SlR 1 repInt w 0 w.heap.size (.slice a1 f.length c1) f)(h2:SlR 1 repInt w 0 w.heap.size (.slice a2 r.length c2) r)(hr:r.length≤1048576) :
 Calls Try.prog 32 #[.agg #[.int .i64 x.n,.slice a0 x.edges.length c0],.slice a1 f.length c1,.slice a2 r.length c2] w fun e w'=>∃a c,e=.returned (.tuple #[.slice a (pushL x f r).length c,.bool (pushOk x f r)])∧Grow w w'∧SlR 1 repInt w' w.heap.size w'.heap.size (.slice a (pushL x f r).length c) (pushL x f r):=by
 obtain⟨i0,hi0,hz0,hz1,hz2⟩:=info_parts infoInt'
 have hrc:=SlR.cap h2
 have H0:=Lib.hid h0;have H1:=Lib.hid h1;have H2:=Lib.hid h2
 clear h0 h1 h2
 have HP:Hid (pushOk x f r=(flowOk x f&&!(r.length==0)&&ringsOk (arcsOf x f) r&&flowOk x (pushTo x f r))):=rfl
 have HNL:Hid (pushOk x f r=false→pushL x f r=[]):=pushL_no
 have HRC:=Lib.hid hrc;clear hrc
 go_enter Try.func32,Try.ntmps32
 go_wp2_with fail
 refine(spec_FlowOk_c x _ _ f _ _ _ (H0.out.grow' repEdge_stable (Grow.below ((Grow.refl w).alloc _ _))) (H1.out.grow' repInt_stable (Grow.below ((Grow.refl w).alloc _ _)))).mono ?_
 rintro e V1 ⟨rfl,gs⟩
 have ys:=Grow.size gs
 simp only[World.size_setCell,World.size_alloc]at ys
 have B0:Box V1 (w.heap.size) [.int .i64 x.n,.slice a0 x.edges.length c0]:=Box.grow (Box.newAt (by simp) _ _) gs
 have G:Grow w V1:=Grow.trans ((Grow.refl w).alloc _ _) gs
 clear gs
 have z0:=B0.lt
 have q0_0:V1.cell? ⟨w.heap.size,0,none⟩=some (.int .i64 x.n):=B0.c 0 _ rfl
 have q0_1:V1.cell? ⟨w.heap.size,1,none⟩=some (.slice a0 x.edges.length c0):=B0.c 1 _ rfl
 have f0:=B0.f
 cases hok:flowOk x f
 ·have HB:Hid (pushOk x f r=false):=by
   show _=_
   rw[HP.out,hok];simp
  have HL:=Lib.hid (HNL.out HB.out)
  go_wp2_with fail
  go_ret2
  exact⟨none,0,by rw[HL.out,HB.out];rfl,G,by rw[HL.out];exact SlR.nil⟩
 by_cases hz:r.length=0
 ·have qz:((r.length:Int)==0)=true:=by rw[beq_iff_eq];omega
  have HB:Hid (pushOk x f r=false):=by
   show _=_
   rw[HP.out,hz];simp
  have HL:=Lib.hid (HNL.out HB.out)
  go_wp2_with fail
  go_ret2
  exact⟨none,0,by rw[HL.out,HB.out];rfl,G,by rw[HL.out];exact SlR.nil⟩
 have qz:((r.length:Int)==0)=false:=by rw[beq_eq_false_iff_ne];omega
 have HZ:=Lib.hid hz;have HOK:=Lib.hid hok;clear hok hz
 go_wp2_with fail
 refine(spec_arcs_c x _ _ f _ _ _ (H0.out.grow' repEdge_stable (Grow.below G)) (H1.out.grow' repInt_stable (Grow.below G)) HOK.out).mono ?_
 rintro e V2 ⟨aA,cA,rfl,gs,SA⟩
 clear z0 q0_0 q0_1 f0
 have ys:=Grow.size gs
 replace B0:Box V2 (w.heap.size) [.int .i64 x.n,.slice a0 x.edges.length c0]:=Box.grow B0 gs
 replace G:Grow w V2:=Grow.trans G gs
 clear gs
 --
 have z0:=B0.lt
 have q0_0:V2.cell? ⟨w.heap.size,0,none⟩=some (.int .i64 x.n):=B0.c 0 _ rfl
 have q0_1:V2.cell? ⟨w.heap.size,1,none⟩=some (.slice a0 x.edges.length c0):=B0.c 1 _ rfl
 have f0:=B0.f
 have hal:=arcsOf_len HOK.out
 have HFI:=Lib.hid (arcs_fine HOK.out)
 have HFO:Hid (∀id,hasArc (arcsOf x f) id=true→∃i,i<f.length∧(id=2*(i:Int)∨id=2*(i:Int)+1)):=fun id h=>found_at HOK.out h
 have HTO:Hid (pushTo x f r=pushAll (leastOf (arcsOf x f) 1000000000 r) r f):=rfl
 generalize hl:arcsOf x f=l at *
 have HLL:=Lib.hid hl;clear hl
 replace SA:=SA.all repArc_stable (Nat.le_refl _)
 go_wp2_with fail
 clear z0 q0_0 q0_1 f0
 go_loopg [9,33] r.length (fun g rm i wr=>∃k:Nat,k+g=r.length∧i=.int .i64 k∧rm=.int .i64 (leastOf l 1000000001 (r.take k))∧(∀j,j<k→ringAt l r j=true)∧SlR 5 repArc wr 0 wr.heap.size (.slice aA l.length cA) l∧Grow w wr∧Box wr (w.heap.size) [.int .i64 x.n,.slice a0 x.edges.length c0])
 case atStart=>exact⟨0,by simp,rfl,by simp[leastOf],fun j h=>absurd h (by omega),SA,G,B0⟩
 case round=>
  clear G B0
  obtain⟨k,hk,rfl,rfl,hall,SA,G,B0⟩:=hrel
  obtain⟨R3,rfl⟩:∃V,V=wr:=⟨_,rfl⟩
  have HALL:=Lib.hid hall;clear hall
  by_cases hlt:k<r.length
  ·have HK:=Lib.hid hk;clear hk
   have HNO:Hid (ringAt l r k=false→pushOk x f r=false):=fun h=>by rw[HP.out,ringsOk_no hlt h];simp
   have HRA:Hid (ringAt l r k=(hasArc l r[k]&&!(hasI (r.take k) r[k]))):=ringAt_eq hlt
   have HLS:Hid (leastOf l 1000000001 (r.take (k+1))=leastAt l (leastOf l 1000000001 (r.take k)) r[k]):=leastOf_succ hlt _
   have z0:=B0.lt
   have q0_0:R3.cell? ⟨w.heap.size,0,none⟩=some (.int .i64 x.n):=B0.c 0 _ rfl
   have q0_1:R3.cell? ⟨w.heap.size,1,none⟩=some (.slice a0 x.edges.length c0):=B0.c 1 _ rfl
   have f0:=B0.f
   obtain⟨b_id,off_id,ha_id,hb1_id,hb2_id,hel_id⟩:=H2.out.elems k hlt
   obtain⟨eid0,-⟩:=Int.atCell (hel_id.same repInt_stable (G.same (Nat.le_refl _)) hb1_id hb2_id) k hlt
   subst ha_id
   clear hel_id
   generalize r[k]=id at *
   generalize leastOf l 1000000001 (r.take k)=rm at *
   have hki:(k:Int)<(r.length:Int):=by omega
   have hkl:(k:Int)≤1048576:=by omega
   have hkc:(k:Int)≤(c2:Int):=by have:=HRC.out;omega
   go_wp2_with fail
   have SA0:=Lib.hid SA;clear SA
   clear z0 q0_0 q0_1 f0
   go_loopg [9,12,40] l.length (fun g rv fd i wi=>∃j:Nat,j+g=l.length∧i=.int .i64 j∧rv=.int .i64 (leastAt (l.take j) rm id)∧fd=.bool (hasArc (l.take j) id)∧SlR 5 repArc wi 0 wi.heap.size (.slice aA l.length cA) l∧Grow w wi∧Box wi (w.heap.size) [.int .i64 x.n,.slice a0 x.edges.length c0])
   case atStart=>exact⟨0,by simp,rfl,by simp[leastAt],by simp[hasArc],SA0.out,G,B0⟩
   case round=>
    clear G B0
    obtain⟨j,hj,rfl,rfl,rfl,SA,G,B0⟩:=hrel
    obtain⟨R4,rfl⟩:∃V,V=wr:=⟨_,rfl⟩
    by_cases hjt:j<l.length
    ·have HJ:=Lib.hid hj;clear hj
     have HLA:Hid (leastAt (l.take (j+1)) rm id=leastStep id (leastAt (l.take j) rm id) l[j]):=leastAt_succ hjt _ _
     have HHA:Hid (hasArc (l.take (j+1)) id=(hasArc (l.take j) id||(l[j].id==id))):=hasArc_succ hjt _
     obtain⟨b_a,off_a,ha_a,hb1_a,hb2_a,hel_a⟩:=SA.elems j hjt
     obtain⟨ea0,ea1,ea2,ea3,ea4,-⟩:=Arc.atCell hel_a j hjt
     clear hel_a
     have HSA:=Lib.hid SA;clear SA
     subst ha_a
     generalize l[j]=a at *
     generalize leastAt (l.take j) rm id=rj at *
     generalize hasArc (l.take j) id=hj at *
     have hja:(j:Int)<(l.length:Int):=by omega
     by_cases t1:a.id=id
     ·have q1:(a.id==id)=true:=by simpa using t1
      by_cases t2:a.room<rj
      ·have HST:Hid (leastStep id rj a=a.room):=leastStep_yes t1 t2
       have q2:decide (a.room<rj)=true:=by simp;omega
       have z0:=B0.lt
       have q0_0:R4.cell? ⟨w.heap.size,0,none⟩=some (.int .i64 x.n):=B0.c 0 _ rfl
       have q0_1:R4.cell? ⟨w.heap.size,1,none⟩=some (.slice a0 x.edges.length c0):=B0.c 1 _ rfl
       have f0:=B0.f
       have HT1:=Lib.hid t1;clear t1
       go_wp2_with fail
       go_roundg (l.length-(j+1))
       case measure=>have:=HJ.out;omega
       case rel=>exact⟨j+1,by have:=HJ.out;omega,by go_num,by rw[HLA.out,HST.out],by rw[HHA.out];simp[HT1.out],HSA.out.grow' repArc_stable (Grow.below ((Grow.refl _).alloc _ _)),(G.alloc _ _),(B0.alloc _ _)⟩
      ·have HST:Hid (leastStep id rj a=rj):=leastStep_no (fun h=>t2 h.2)
       have q2:decide (a.room<rj)=false:=by simp;omega
       have z0:=B0.lt
       have q0_0:R4.cell? ⟨w.heap.size,0,none⟩=some (.int .i64 x.n):=B0.c 0 _ rfl
       have q0_1:R4.cell? ⟨w.heap.size,1,none⟩=some (.slice a0 x.edges.length c0):=B0.c 1 _ rfl
       have f0:=B0.f
       have HT1:=Lib.hid t1;clear t1
       go_wp2_with fail
       go_roundg (l.length-(j+1))
       case measure=>have:=HJ.out;omega
       case rel=>exact⟨j+1,by have:=HJ.out;omega,by go_num,by rw[HLA.out,HST.out],by rw[HHA.out];simp[HT1.out],HSA.out.grow' repArc_stable (Grow.below ((Grow.refl _).alloc _ _)),(G.alloc _ _),(B0.alloc _ _)⟩
     ·have q1:(a.id==id)=false:=by simpa using t1
      have HST:Hid (leastStep id rj a=rj):=leastStep_no (fun h=>t1 h.1)
      have z0:=B0.lt
      have q0_0:R4.cell? ⟨w.heap.size,0,none⟩=some (.int .i64 x.n):=B0.c 0 _ rfl
      have q0_1:R4.cell? ⟨w.heap.size,1,none⟩=some (.slice a0 x.edges.length c0):=B0.c 1 _ rfl
      have f0:=B0.f
      have HT1:=Lib.hid t1;clear t1
      go_wp2_with fail
      go_roundg (l.length-(j+1))
      case measure=>have:=HJ.out;omega
      case rel=>exact⟨j+1,by have:=HJ.out;omega,by go_num,by rw[HLA.out,HST.out],by rw[HHA.out];simp[HT1.out],HSA.out.grow' repArc_stable (Grow.below ((Grow.refl _).alloc _ _)),(G.alloc _ _),(B0.alloc _ _)⟩
    ·obtain rfl:j=l.length:=by omega
     simp only[List.take_length]
     clear hj hjt
     have z0:=B0.lt
     have q0_0:R4.cell? ⟨w.heap.size,0,none⟩=some (.int .i64 x.n):=B0.c 0 _ rfl
     have q0_1:R4.cell? ⟨w.heap.size,1,none⟩=some (.slice a0 x.edges.length c0):=B0.c 1 _ rfl
     have f0:=B0.f
     go_wp2_with fail
     clear z0 q0_0 q0_1 f0
     go_loopg [12,15] k (fun g fd i wq=>∃q:Nat,q+g=k∧i=.int .i64 q∧fd=.bool (hasArc l id&&!(hasI (r.take q) id))∧SlR 5 repArc wq 0 wq.heap.size (.slice aA l.length cA) l∧Grow w wq∧Box wq (w.heap.size) [.int .i64 x.n,.slice a0 x.edges.length c0])
     case atStart=>exact⟨0,by simp,rfl,by simp[hasI],SA,G,B0⟩
     case round=>
      clear G B0
      obtain⟨q,hq,rfl,rfl,SA,G,B0⟩:=hrel
      obtain⟨R5,rfl⟩:∃V,V=wr:=⟨_,rfl⟩
      by_cases hqt:q<k
      ·have HQ:=Lib.hid hq;clear hq
       have hql:q<r.length:=by omega
       have HHS:Hid (hasI (r.take (q+1)) id=(hasI (r.take q) id||(r[q]==id))):=hasI_succ hql _
       obtain⟨b_y,off_y,ha_y,hb1_y,hb2_y,hel_y⟩:=H2.out.elems q hql
       injection ha_y with ha_y
       injection ha_y with qb qo
       subst qb qo
       obtain⟨ey0,-⟩:=Int.atCell (hel_y.same repInt_stable (G.same (Nat.le_refl _)) hb1_y hb2_y) q hql
       clear hel_y
       generalize r[q]=y at *
       have hqi:(q:Int)<(r.length:Int):=by omega
       have hqk:(q:Int)<(k:Int):=by omega
       have z0:=B0.lt
       have q0_0:R5.cell? ⟨w.heap.size,0,none⟩=some (.int .i64 x.n):=B0.c 0 _ rfl
       have q0_1:R5.cell? ⟨w.heap.size,1,none⟩=some (.slice a0 x.edges.length c0):=B0.c 1 _ rfl
       have f0:=B0.f
       by_cases t1:y=id
       ·have q1:(y==id)=true:=by simpa using t1
        have HT1:=Lib.hid t1;clear t1
        go_wp2_with fail
        go_roundg (k-(q+1))
        case measure=>have:=HQ.out;omega
        case rel=>exact⟨q+1,by have:=HQ.out;omega,by go_num,by rw[HHS.out];simp[HT1.out],SA,G,B0⟩
       ·have q1:(y==id)=false:=by simpa using t1
        have HT1:=Lib.hid t1;clear t1
        generalize hhv:(hasArc l id&&!(hasI (r.take q) id))=fv at *
        have HFV:=Lib.hid hhv;clear hhv
        go_wp2_with fail
        go_roundg (k-(q+1))
        case measure=>have:=HQ.out;omega
        case rel=>exact⟨q+1,by have:=HQ.out;omega,by go_num,by rw[HHS.out,←HFV.out,q1,Bool.or_false],SA,G,B0⟩
      ·obtain rfl:q=k:=by omega
       clear hq hqt
       have z0:=B0.lt
       have q0_0:R5.cell? ⟨w.heap.size,0,none⟩=some (.int .i64 x.n):=B0.c 0 _ rfl
       have q0_1:R5.cell? ⟨w.heap.size,1,none⟩=some (.slice a0 x.edges.length c0):=B0.c 1 _ rfl
       have f0:=B0.f
       generalize hfv:(hasArc l id&&!(hasI (r.take q) id))=fv at *
       have HFV:=Lib.hid HRA.out;clear hfv
       cases fv
       ·have HB:Hid (pushOk x f r=false):=HNO.out HFV.out
        have HL:=Lib.hid (HNL.out HB.out)
        go_wp2_with fail
        go_ret2
        exact⟨none,0,by rw[HL.out,HB.out];rfl,G,by rw[HL.out];exact SlR.nil⟩
       ·go_wp2_with fail
        go_roundg (r.length-(q+1))
        case measure=>have:=HK.out;omega
        case rel=>exact⟨q+1,by have:=HK.out;omega,by go_num,by rw[HLS.out],fun i hi=>by
         by_cases he:i=q
         ·rw[he,HFV.out]
         ·exact HALL.out i (by omega),SA,G,B0⟩
  ·obtain rfl:k=r.length:=by omega
   simp only[List.take_length]
   clear hk hlt
   have hro:=ringsOk_yes HALL.out
   have HRO:=Lib.hid hro;clear hro
   rw[leastOf_start (fun a ha=>(HFI.out a ha).2.2.2.2.2.2.2.2.1) HZ.out HRO.out]
   have HB:Hid (pushOk x f r=flowOk x (pushTo x f r)):=by
    show _=_
    rw[HP.out,HOK.out,HRO.out];simp[HZ.out]
   have hfl:0<f.length:=by
    have h1:=HALL.out 0 (by have:=HZ.out;omega)
    rw[ringAt_eq (by have:=HZ.out;omega)]at h1
    simp only[Bool.and_eq_true]at h1
    obtain⟨i,hi,_⟩:=HFO.out _ h1.1
    omega
   have hrm1:=leastOf_pos l r 1000000000 (fun a ha=>(HFI.out a ha).2.2.2.2.2.2.2.1) (by omega)
   have hrm2:=leastOf_le l r 1000000000
   obtain⟨n1,n2,g2,hlen,hee,hpp,hss⟩:=flowOk_facts HOK.out
   clear hss
   have hfb:bdd 1000000000 f:=fun i hi=>by
    have e:(x.edges.zip f)[i]'(by simp;omega)=(x.edges[i]'(by omega),f[i]):=List.getElem_zip
    have h1:=hpp _ (List.getElem_mem (show i<(x.edges.zip f).length by simp;omega))
    have h2:=edgeOk_iff.1 (hee _ (List.getElem_mem (show i<x.edges.length by omega)))
    rw[e]at h1
    simp only at h1
    omega
   have hf60:f.length≤60:=by omega
   clear hlen hee hpp g2
   have HFB:=Lib.hid hfb;clear hfb
   generalize leastOf l 1000000000 r=rm at *
   clear SA
   have hsz0:w.heap.size<R3.heap.size:=B0.lt
   have z0:=B0.lt
   have q0_0:R3.cell? ⟨w.heap.size,0,none⟩=some (.int .i64 x.n):=B0.c 0 _ rfl
   have q0_1:R3.cell? ⟨w.heap.size,1,none⟩=some (.slice a0 x.edges.length c0):=B0.c 1 _ rfl
   have f0:=B0.f
   obtain⟨b_f,off_f,ha_f,_,hb_f,hel_f⟩:=IntsOff.of_slr H1.out hfl
   subst ha_f
   have HEF:=Lib.hid hel_f;clear hel_f
   have hi64:=ints_i64 H1.out
   have HI:=Lib.hid hi64;clear hi64
   have GB:=G
   have BB:=B0
   go_wp2_with (at_builtin
                go_loud (refine wpList_append_g rfl (.tmp 69) (.tmp 70) 46 rfl R3 ((Grow.refl R3).alloc _ _) 3 i0 _ 1 8 Try.underlying46 hi0 hz0 hz1 hz2 rfl (by omega) (.slice (some ⟨R3.heap.size,0,none⟩) 0 0) 0 [] rfl (by
                 have hm:=World.ownsRow_made (base:=R3.heap.size) (e:=3) (size:=1) R3 #[] 0 (Nat.le_refl _) (by simp[maxLen]) (by simp)
                 simpa using hm) ⟨b_f,off_f,none⟩ f.length c1 (f.map (Value.int .i64)) rfl (by simp) (ints_news (HEF.out.grow (G.alloc _ _))) (oneCell_ints f) (by simp only[maxLen];omega) (by omega) ?_)
                intro vO wO hown' hg' hgb hat
                have HOWN:=Lib.hid hown';have HGO:=Lib.hid hg';clear hown' hg' hgb hat
                replace G:=G.trans HGO.out
                replace B0:=B0.grow HGO.out
                clear z0 q0_0 q0_1 f0)
   have hown:=HOWN.out
   rw[Nat.zero_add,List.nil_append]at hown
   have SO:=ints_own hown HI.out
   clear hown HOWN
   have SO':=SO
   obtain⟨aO,cO,rfl,_,_,_⟩:=SO'
   have hcO1:=SlR.cap SO
   have hcO2:=SlR.capm SO
   obtain⟨b_o,off_o,ha_o,hbo1,hbo2,HIO⟩:=IntsOff.of_slr SO hfl
   subst ha_o
   clear SO
   have hbo0:w.heap.size<b_o:=by have:=hsz0;omega
   have z0:=B0.lt
   have q0_0:wO.cell? ⟨w.heap.size,0,none⟩=some (.int .i64 x.n):=B0.c 0 _ rfl
   have q0_1:wO.cell? ⟨w.heap.size,1,none⟩=some (.slice a0 x.edges.length c0):=B0.c 1 _ rfl
   have f0:=B0.f
   go_wp2_with fail
   clear z0 q0_0 q0_1 f0
   go_loopg [74] r.length (fun g i wr=>∃k:Nat,k+g=r.length∧i=.int .i64 k∧IntsOff wr b_o off_o (pushAll rm (r.take k) f)∧Grow w wr∧Box wr (w.heap.size) [.int .i64 x.n,.slice a0 x.edges.length c0])
   case atStart=>exact⟨0,by simp,rfl,by simpa[pushAll]using HIO,G,B0⟩
   case round=>
    clear G B0
    obtain⟨k,hk,rfl,HIO,G,B0⟩:=hrel
    obtain⟨R6,rfl⟩:∃V,V=wr:=⟨_,rfl⟩
    have HH:=Lib.hid HIO;clear HIO
    have hbw:b_o<R6.heap.size:=by have:=HH.out 0 (by rw[pushAll_length];exact hfl);exact lt_of_cell this
    by_cases hlt:k<r.length
    ·have HK:=Lib.hid hk;clear hk
     have HPS:Hid (pushAll rm (r.take (k+1)) f=pushStep rm (pushAll rm (r.take k) f) r[k]):=pushAll_succ hlt rm f
     have h1:=HALL.out k hlt
     rw[ringAt_eq hlt]at h1
     simp only[Bool.and_eq_true]at h1
     obtain⟨i,hi,hid⟩:=HFO.out _ h1.1
     clear h1
     have hbd:=pushAll_bdd (r:=rm) (by omega) hrm2 (r.take k) f 1000000000 (by omega) HFB.out
     have hkl:(r.take k).length=k:=by rw[List.length_take];omega
     rw[hkl]at hbd
     have hsl:=pushAll_length rm (r.take k) f
     have z0:=B0.lt
     have q0_0:R6.cell? ⟨w.heap.size,0,none⟩=some (.int .i64 x.n):=B0.c 0 _ rfl
     have q0_1:R6.cell? ⟨w.heap.size,1,none⟩=some (.slice a0 x.edges.length c0):=B0.c 1 _ rfl
     have f0:=B0.f
     obtain⟨b_id,off_id,ha_id,hb1_id,hb2_id,hel_id⟩:=H2.out.elems k hlt
     obtain⟨eid0,-⟩:=Int.atCell (hel_id.same repInt_stable (G.same (Nat.le_refl _)) hb1_id hb2_id) k hlt
     subst ha_id
     clear hel_id
     generalize r[k]=id at *
     generalize pushAll rm (r.take k) f=s at *
     have his:i<s.length:=by omega
     have ev:=HH.out i his
     have hbd2:=hbd i his
     obtain⟨hbd3,hbd4⟩:=hbd2
     have HY:Hid (s.getD i 0=s[i]):=by show _=_;rw[List.getD_eq_getElem?_getD,List.getElem?_eq_getElem his];rfl
     generalize s[i]=y at *
     clear hbd
     have hk6:(k:Int)≤1048576:=by omega
     have hfz:R6.frozen? ⟨b_o,off_o+i,none⟩=false:=G.nf b_o _ (by omega) hbw
     have hii:(i:Int)<(f.length:Int):=by omega
     have hi0:(0:Int)≤(i:Int):=by omega
     have hki:(k:Int)<(r.length:Int):=by omega
     have HSL:=Lib.hid hsl;clear hsl
     rcases hid with hid|hid
     ·have hid0:0≤id:=by omega
      have hq1:id.tdiv 2=(i:Int):=by rw[Int.tdiv_eq_ediv_of_nonneg hid0];omega
      have hq2:id.tmod 2=0:=by rw[Int.tmod_eq_emod_of_nonneg hid0];omega
      have hq3:id/2=(i:Int):=by omega
      have hq4:id%2=0:=by omega
      have HST:Hid (pushStep rm s id=s.set i (y+rm)):=by
       show _=_
       unfold pushStep
       rw[hq3,Int.toNat_natCast,HY.out,if_pos hq4]
      have hid1:id≤121:=by omega
      clear hid
      go_wp2_with fail
      go_roundg (r.length-(k+1))
      case measure=>have:=HK.out;omega
      case rel=>exact⟨k+1,by have:=HK.out;omega,by go_num,by rw[HPS.out,HST.out];exact HH.out.set his _,(G.setCell (by show w.heap.size≤b_o;omega) _),(B0.other (by show b_o≠_;omega) _)⟩
     ·have hid0:0≤id:=by omega
      have hq1:id.tdiv 2=(i:Int):=by rw[Int.tdiv_eq_ediv_of_nonneg hid0];omega
      have hq2:id.tmod 2=1:=by rw[Int.tmod_eq_emod_of_nonneg hid0];omega
      have hq3:id/2=(i:Int):=by omega
      have hq4:id%2=1:=by omega
      have HST:Hid (pushStep rm s id=s.set i (y-rm)):=by
       show _=_
       unfold pushStep
       rw[hq3,Int.toNat_natCast,HY.out,if_neg (by omega)];rfl
      have hid1:id≤121:=by omega
      clear hid
      go_wp2_with fail
      go_roundg (r.length-(k+1))
      case measure=>have:=HK.out;omega
      case rel=>exact⟨k+1,by have:=HK.out;omega,by go_num,by rw[HPS.out,HST.out];exact HH.out.set his _,(G.setCell (by show w.heap.size≤b_o;omega) _),(B0.other (by show b_o≠_;omega) _)⟩
    ·obtain rfl:k=r.length:=by omega
     clear hk hlt
     have hio:=HH.out
     rw[List.take_length]at hio
     have hbd:=pushAll_bdd (r:=rm) (by omega) hrm2 r f 1000000000 (by omega) HFB.out
     rw[←HTO.out]at hio hbd
     have hpl:(pushTo x f r).length=f.length:=by rw[HTO.out,pushAll_length]
     have hro:(r.length:Int)≤1048576:=by omega
     have SR:=hio.slr (c:=cO) (lo:=w.heap.size) (hi:=R6.heap.size) (by omega) hbw (by omega) hcO2 (fun i hi=>by have:=hbd i hi;unfold i64;omega)
     rw[hpl]at SR
     have HPL:=Lib.hid hpl;clear hpl hio hbd
     generalize hpt:pushTo x f r=pt at *
     have HPT:=Lib.hid hpt;clear hpt
     have z0:=B0.lt
     have q0_0:R6.cell? ⟨w.heap.size,0,none⟩=some (.int .i64 x.n):=B0.c 0 _ rfl
     have q0_1:R6.cell? ⟨w.heap.size,1,none⟩=some (.slice a0 x.edges.length c0):=B0.c 1 _ rfl
     have f0:=B0.f
     go_wp2_with fail
     have SRc:SlR 1 repInt R6 0 R6.heap.size (.slice (some ⟨b_o,off_o,none⟩) pt.length cO) pt:=by rw[HPL.out];exact SR.stable repInt_stable (Same.refl _ _ _) (Nat.zero_le _) (Nat.le_refl _)
     have SRd:=Lib.hid SRc;clear SRc
     rw[←HPL.out]
     refine(spec_FlowOk_c x _ _ pt _ _ _ (H0.out.grow' repEdge_stable (Grow.below G)) SRd.out).mono ?_
     rintro e V7 ⟨rfl,gs⟩
     clear z0 q0_0 q0_1 f0
     have ys:=Grow.size gs
     replace B0:Box V7 (w.heap.size) [.int .i64 x.n,.slice a0 x.edges.length c0]:=Box.grow B0 gs
     replace SR:=SR.same repInt_stable (gs.same (by omega))
     replace G:Grow w V7:=Grow.trans G gs
     clear gs
     have z0:=B0.lt
     have q0_0:V7.cell? ⟨w.heap.size,0,none⟩=some (.int .i64 x.n):=B0.c 0 _ rfl
     have q0_1:V7.cell? ⟨w.heap.size,1,none⟩=some (.slice a0 x.edges.length c0):=B0.c 1 _ rfl
     have f0:=B0.f
     cases hok2:flowOk x pt
     ·have HB2:=Lib.hid (HB.out.trans hok2)
      have HL:=Lib.hid (HNL.out HB2.out)
      go_wp2_with fail
      go_ret2
      exact⟨none,0,by rw[HL.out,HB2.out];rfl,G,by rw[HL.out];exact SlR.nil⟩
     ·have HB2:=Lib.hid (HB.out.trans hok2)
      have HL:Hid (pushL x f r=pt):=by
       show _=_
       unfold pushL
       rw[if_pos HB2.out];exact HPT.out
      go_wp2_with fail
      go_ret2
      exact⟨_,cO,by rw[HL.out,HB2.out];rfl,G,by rw[HL.out,HPL.out];exact SR.stable repInt_stable (Same.refl _ _ _) (Nat.le_refl _) (by omega)⟩
end Go.Proofs.Ytnlpbgljaecdmaa
namespace Go.Proofs.Ytnlpbgljaecdmaa
open Go.RowKit
set_option maxHeartbeats 16000000
set_option maxRecDepth 100000
set_option linter.unusedSimpArgs false
set_option linter.unusedVariables false
theorem one_newI(w:World)(c1:Array Value)(T1 T:TypeId)(y:Int):∀j u,[Value.int .i64 y][j]? = some u→((w.alloc (.cells c1 T1)).alloc (.cells #[.int .i64 y] T)).cell? ((⟨w.heap.size+1,0,none⟩:Addr).add j)=some u:=fun j u hj=>by
 have:=news_of (w.alloc (.cells c1 T1)) #[.int .i64 y] T [.int .i64 y] rfl j u hj
 rwa [World.size_alloc]at this
theorem IntsAt.other{w:World}{g:Nat}{s:List Int}(h:IntsAt w g s){p:Addr}(hp:p.block≠g)(u:Value):IntsAt (w.setCell p u) g s:=fun j hj=>by
 rw[World.cell?_setCell_other w p ⟨g,j,none⟩ u (by intro e;subst e;exact hp rfl)];exact h j hj
theorem IntsAt.grow{w w':World}{g:Nat}{s:List Int}(h:IntsAt w g s)(hg:Grow w w'):IntsAt w' g s:=fun j hj=>cellGrow hg (h j hj)
theorem IntsAt.made2(w:World)(n:Nat)(T:TypeId):IntsAt ((w.alloc (.cells (madeCells #[.int .i64 0] n) T)).alloc (.cells (madeCells #[.int .i64 0] n) T)) w.heap.size (List.replicate n 0)∧IntsAt ((w.alloc (.cells (madeCells #[.int .i64 0] n) T)).alloc (.cells (madeCells #[.int .i64 0] n) T)) (w.heap.size+1) (List.replicate n 0):=by
 refine⟨(IntsAt.made w n T).grow ((Grow.refl _).alloc _ _),?_⟩
 have:=IntsAt.made (w.alloc (.cells (madeCells #[.int .i64 0] n) T)) n T
 rwa [World.size_alloc]at this
theorem passes_nil{n:Nat}:∀j,(passes n [] j).node=-1
 |0=>rfl
 |j+1=>rfl
theorem scan_facts{n:Nat}{l:List Arc}(hl:∀a∈l,arcFine n a)(h120:l.length≤120)(hn:n≤24){k j:Nat}(hk:k≤n)(hj:j<l.length) :
 (scan l ⟨(passes n l k).dist,(passes n l k).last,-1⟩ j).dist.length=n∧(scan l ⟨(passes n l k).dist,(passes n l k).last,-1⟩ j).last.length=n∧bdd 10000000000 (scan l ⟨(passes n l k).dist,(passes n l k).last,-1⟩ j).dist:=by
 have hf:=scan_fine hl (pass_start (passes_fine hl (by omega) k)) j (by omega)
 have hb:=scan_bdd hl (s:=⟨(passes n l k).dist,(passes n l k).last,-1⟩) (b:=120000000*k) (by omega) (passes_bdd hl h120 k) j (by omega)
 refine⟨hf.1,hf.2.1,fun i hi=>?_⟩
 have:=hb i hi
 omega
theorem relax_at_yes{s:RS}{k:Nat}{a:Arc}{fm tm:Nat}(h1:a.frm=fm)(h2:a.to=tm)(hf:fm<s.dist.length)(ht:tm<s.dist.length)(h:s.dist[fm]+a.cost<s.dist[tm]):relax s k a=⟨s.dist.set tm (s.dist[fm]+a.cost),s.last.set tm (k:Int),a.to⟩:=by
 have e1:s.dist.getD a.frm.toNat 0=s.dist[fm]:=by rw[h1,Int.toNat_natCast,List.getD_eq_getElem?_getD,List.getElem?_eq_getElem hf];rfl
 have e2:s.dist.getD a.to.toNat 0=s.dist[tm]:=by rw[h2,Int.toNat_natCast,List.getD_eq_getElem?_getD,List.getElem?_eq_getElem ht];rfl
 rw[relax_yes (by rw[e1,e2];exact h),e1,h2,Int.toNat_natCast]
theorem relax_at_no{s:RS}{k:Nat}{a:Arc}{fm tm:Nat}(h1:a.frm=fm)(h2:a.to=tm)(hf:fm<s.dist.length)(ht:tm<s.dist.length)(h:¬s.dist[fm]+a.cost<s.dist[tm]):relax s k a=s:=by
 have e1:s.dist.getD a.frm.toNat 0=s.dist[fm]:=by rw[h1,Int.toNat_natCast,List.getD_eq_getElem?_getD,List.getElem?_eq_getElem hf];rfl
 have e2:s.dist.getD a.to.toNat 0=s.dist[tm]:=by rw[h2,Int.toNat_natCast,List.getD_eq_getElem?_getD,List.getElem?_eq_getElem ht];rfl
 exact relax_no (by rw[e1,e2];exact h)
theorem par_at{n:Nat}{l:List Arc}{s:RS}(hs:s.fine n l.length){m:Nat}(hm:m<n):∃q:Nat,∃(h:m<s.last.length) (h2:q<l.length),s.last[m]=(q:Int)∧arcAt l s.last (m:Int)=l[q]∧par l s.last (m:Int)=l[q].frm:=by
 have hv:m<s.last.length:=by rw[hs.2.1];exact hm
 have hb:=hs.2.2.2.2 m hv
 have e:s.last.getD (m:Int).toNat 0=((s.last[m]).toNat:Int):=by rw[Int.toNat_natCast,List.getD_eq_getElem?_getD,List.getElem?_eq_getElem hv];show s.last[m]=_;omega
 have hq:(s.last[m]).toNat<l.length:=by omega
 have h3:=arcAt_of e hq
 exact⟨(s.last[m]).toNat,hv,hq,by omega,h3,by unfold par;rw[h3]⟩
theorem ringFrom_step{l:List Arc}{last:List Int}{v u:Int}{m:Nat}:ringFrom l last v (m+1) u=(arcAt l last u).id::(if par l last u=v then []else ringFrom l last v m (par l last u)):=rfl
theorem ringFrom_len{l:List Arc}{last:List Int}{v:Int}:∀(m:Nat) (u:Int),(ringFrom l last v m u).length≤m
 |0,_=>by simp[ringFrom]
 |m+1,u=>by
  have:=ringFrom_len (l:=l) (last:=last) (v:=v) m (par l last u)
  rw[ringFrom_step]
  split<;>simp<;>omega
theorem ringL_len(x:Graph)(f:List Int):(ringL x f).length≤24:=by
 unfold ringL
 split
 ·rename_i h
  unfold ringOk at h
  simp only[Bool.and_eq_true]at h
  obtain⟨_,n2,_⟩:=flowOk_facts h.1
  unfold ringIt
  dsimp only
  split
  ·simp
  ·exact Nat.le_trans (ringFrom_len _ _) (by omega)
 ·simp
theorem ringIt_no{n:Nat}{l:List Arc}(h:(passes n l n).node<0):ringIt n l=([],false):=if_pos h
theorem ringIt_yes{n:Nat}{l:List Arc}(h:¬(passes n l n).node<0):ringIt n l=(ringFrom l (passes n l n).last (iter (par l (passes n l n).last) n (passes n l n).node) n (iter (par l (passes n l n).last) n (passes n l n).node),true):=if_neg h
theorem impl_Ring_c(x:Graph)(a0:Option Addr)(c0:Nat)(f:List Int)(a1:Option Addr)(c1:Nat)(w:World)(h0:SlR 4 repEdge w 0 w.heap.size (.slice a0 x.edges.length c0) x.edges)(h1:SlR 1 repInt w 0 w.heap.size (.slice a1 f.length c1) f) :
 Calls Try.prog 23 #[.agg #[.int .i64 x.n,.slice a0 x.edges.length c0],.slice a1 f.length c1] w fun e w'=>∃a c,e=.returned (.tuple #[.slice a (ringL x f).length c,.bool (ringOk x f)])∧Grow w w'∧SlR 1 repInt w' w.heap.size w'.heap.size (.slice a (ringL x f).length c) (ringL x f):=by
 obtain⟨i0,hi0,hz0,hz1,hz2⟩:=info_parts infoInt'
 cases hok:flowOk x f
 ·have H0:=Lib.hid h0;have H1:=Lib.hid h1
  clear h0 h1
  have HB:Hid (ringOk x f=false):=by
   show _=_
   unfold ringOk;rw[hok];rfl
  have HL:Hid (ringL x f=[]):=by
   show _=_
   unfold ringL;rw[HB.out];rfl
  go_enter Try.func23,Try.ntmps23
  go_wp2_with fail
  refine(impl_FlowOk_c x _ _ f _ _ _ (H0.out.grow' repEdge_stable (Grow.below ((Grow.refl w).alloc _ _))) (H1.out.grow' repInt_stable (Grow.below ((Grow.refl w).alloc _ _)))).mono ?_
  rintro e V1 ⟨rfl,gs⟩
  have ys:=Grow.size gs
  simp only[World.size_setCell,World.size_alloc]at ys
  have B0:Box V1 (w.heap.size) [.int .i64 x.n,.slice a0 x.edges.length c0]:=Box.grow (Box.newAt (by simp) _ _) gs
  have G:Grow w V1:=Grow.trans ((Grow.refl w).alloc _ _) gs
  clear gs
  have z0:=B0.lt
  have q0_0:V1.cell? ⟨w.heap.size,0,none⟩=some (.int .i64 x.n):=B0.c 0 _ rfl
  have q0_1:V1.cell? ⟨w.heap.size,1,none⟩=some (.slice a0 x.edges.length c0):=B0.c 1 _ rfl
  have f0:=B0.f
  rw[hok]
  go_wp2_with fail
  go_ret2
  exact⟨none,0,by rw[HL.out,HB.out];rfl,G,by rw[HL.out];exact SlR.nil⟩
 obtain⟨n1,n2,g2,hlen,-,-,-⟩:=flowOk_facts hok
 obtain⟨N,hN⟩:∃N:Nat,x.n=(N:Int):=⟨x.n.toNat,by omega⟩
 obtain⟨n,es⟩:=x
 simp only at hN n1 n2 g2 h0 hlen
 subst hN
 have hf60:f.length≤60:=by omega
 clear hlen
 have HOK:=Lib.hid hok;clear hok
 have H0:=Lib.hid h0;have H1:=Lib.hid h1
 clear h0 h1
 have hmk:=fun w=>madeInts N (by omega) w
 have HRB:Hid (ringOk ⟨(N:Int),es⟩ f=(ringIt N (arcsOf ⟨(N:Int),es⟩ f)).2):=by
  show _=_
  unfold ringOk;rw[HOK.out];rfl
 have HRL:Hid ((ringIt N (arcsOf ⟨(N:Int),es⟩ f)).2=true→ringL ⟨(N:Int),es⟩ f=(ringIt N (arcsOf ⟨(N:Int),es⟩ f)).1):=fun h=>if_pos (HRB.out.trans h)
 have HRN:Hid ((ringIt N (arcsOf ⟨(N:Int),es⟩ f)).2=false→ringL ⟨(N:Int),es⟩ f=[]):=fun h=>if_neg (by rw[HRB.out,h];simp)
 go_enter Try.func23,Try.ntmps23
 go_wp2_with fail
 refine(impl_FlowOk_c ⟨(N:Int),es⟩ _ _ f _ _ _ (H0.out.grow' repEdge_stable (Grow.below ((Grow.refl w).alloc _ _))) (H1.out.grow' repInt_stable (Grow.below ((Grow.refl w).alloc _ _)))).mono ?_
 rintro e V1 ⟨rfl,gs⟩
 have ys:=Grow.size gs
 simp only[World.size_setCell,World.size_alloc]at ys
 have B0:Box V1 (w.heap.size) [.int .i64 (N:Int),.slice a0 es.length c0]:=Box.grow (Box.newAt (by simp) _ _) gs
 have G:Grow w V1:=Grow.trans ((Grow.refl w).alloc _ _) gs
 clear gs
 have z0:=B0.lt
 have q0_0:V1.cell? ⟨w.heap.size,0,none⟩=some (.int .i64 (N:Int)):=B0.c 0 _ rfl
 have q0_1:V1.cell? ⟨w.heap.size,1,none⟩=some (.slice a0 es.length c0):=B0.c 1 _ rfl
 have f0:=B0.f
 rw[HOK.out]
 go_wp2_with fail
 refine(impl_arcs_c ⟨(N:Int),es⟩ _ _ f _ _ _ (H0.out.grow' repEdge_stable (Grow.below G)) (H1.out.grow' repInt_stable (Grow.below G)) HOK.out).mono ?_
 rintro e V2 ⟨aA,cA,rfl,gs,SA⟩
 clear z0 q0_0 q0_1 f0
 have ys:=Grow.size gs
 replace B0:Box V2 (w.heap.size) [.int .i64 (N:Int),.slice a0 es.length c0]:=Box.grow B0 gs
 replace G:Grow w V2:=Grow.trans G gs
 clear gs
 --
 have z0:=B0.lt
 have q0_0:V2.cell? ⟨w.heap.size,0,none⟩=some (.int .i64 (N:Int)):=B0.c 0 _ rfl
 have q0_1:V2.cell? ⟨w.heap.size,1,none⟩=some (.slice a0 es.length c0):=B0.c 1 _ rfl
 have f0:=B0.f
 have hal:=arcsOf_len HOK.out
 have HFI:=Lib.hid (arcs_fine HOK.out)
 generalize hl:arcsOf ⟨(N:Int),es⟩ f=l at *
 clear hl
 have hgs:w.heap.size<V2.heap.size:=B0.lt
 have HSA:Hid (SlR 5 repArc V2 (V1.heap.size) V2.heap.size (.slice aA l.length cA) l):=SA
 clear SA
 have HV:=Lib.hid G;have BV:=Lib.hid B0
 go_wp2_with fail
 go_region_held3 (fun W=>W.cell? ⟨w.heap.size,0,none⟩=some (.int .i64 (N:Int)))
  (first|exact q0_0|exact cellAlloc q0_0 _|exact cellAlloc (cellAlloc q0_0 _) _)
  (first|fail)
 ·have hmade:=IntsAt.made2 V2 N 3
  obtain⟨FS,FT⟩:=hmade
  have gW:Grow V2 (((V2.alloc (.cells (madeCells #[.int .i64 0] N) 3)).alloc (.cells (madeCells #[.int .i64 0] N) 3))).drew:=by repeat (first|exact Grow.refl _|(refine Grow.alloc ?_ _ _)|(refine Grow.drew ?_))
  have hsW:(((V2.alloc (.cells (madeCells #[.int .i64 0] N) 3)).alloc (.cells (madeCells #[.int .i64 0] N) 3))).drew.heap.size=V2.heap.size+2:=by simp
  have FS:IntsAt (((V2.alloc (.cells (madeCells #[.int .i64 0] N) 3)).alloc (.cells (madeCells #[.int .i64 0] N) 3))).drew V2.heap.size (List.replicate N 0):=FS
  have FT:IntsAt (((V2.alloc (.cells (madeCells #[.int .i64 0] N) 3)).alloc (.cells (madeCells #[.int .i64 0] N) 3))).drew (V2.heap.size+1) (List.replicate N 0):=FT
  obtain⟨W,hW⟩:∃W,W=(((V2.alloc (.cells (madeCells #[.int .i64 0] N) 3)).alloc (.cells (madeCells #[.int .i64 0] N) 3))).drew:=⟨_,rfl⟩
  rw[←hW]at gW FS FT hsW ⊢
  clear hW
  clear z0 q0_0 q0_1 f0
  replace G:=G.trans gW
  replace B0:=B0.grow gW
  have SA:SlR 5 repArc W (V1.heap.size) V2.heap.size (.slice aA l.length cA) l:=HSA.out.same repArc_stable (gW.same (Nat.le_refl _))
  clear gW
  obtain⟨lB,hlB⟩:∃b,b=V2.heap.size+1:=⟨_,rfl⟩
  rw[←hlB]at FT ⊢
  obtain⟨dB,hdB⟩:∃b,b=V2.heap.size:=⟨_,rfl⟩
  rw[←hdB]at FS
  have FD:IntsAt W dB (List.replicate N 0):=FS
  have FL:IntsAt W lB (List.replicate N 0):=FT
  clear FS FT
  have hv0:V2.heap.size=dB:=hdB.symm
  (try simp only[hv0])
  clear hv0
  have hne:dB≠lB:=by omega
  have hd1:V2.heap.size≤dB:=by omega
  have hd2:dB<W.heap.size:=by omega
  have hl1:V2.heap.size≤lB:=by omega
  have hl2:lB<W.heap.size:=by omega
  clear hdB hlB hsW
  have hd0:w.heap.size<dB:=by omega
  have hl0:w.heap.size<lB:=by omega
  have z0:=B0.lt
  have q0_0:W.cell? ⟨w.heap.size,0,none⟩=some (.int .i64 (N:Int)):=B0.c 0 _ rfl
  have q0_1:W.cell? ⟨w.heap.size,1,none⟩=some (.slice a0 es.length c0):=B0.c 1 _ rfl
  have f0:=B0.f
  go_wp2_with fail
  clear z0 q0_0 q0_1 f0
  go_loopg [9,30] N (fun g nd i wr=>∃k:Nat,k+g=N∧i=.int .i64 k∧nd=.int .i64 (passes N l k).node∧IntsAt wr dB (passes N l k).dist∧IntsAt wr lB (passes N l k).last∧SlR 5 repArc wr (V1.heap.size) V2.heap.size (.slice aA l.length cA) l∧dB<wr.heap.size∧lB<wr.heap.size∧Grow w wr∧Box wr (w.heap.size) [.int .i64 (N:Int),.slice a0 es.length c0])
  case atStart=>exact⟨0,by simp,rfl,rfl,FD,FL,SA,hd2,hl2,G,B0⟩
  case round=>
   clear G B0
   obtain⟨k,hk,rfl,rfl,FD,FL,SA,hdw,hlw,G,B0⟩:=hrel
   obtain⟨R3,rfl⟩:∃V,V=wr:=⟨_,rfl⟩
   by_cases hlt:k<N
   ·have HK:=Lib.hid hk;clear hk
    have hkn:(k:Int)<(N:Int):=by omega
    have z0:=B0.lt
    have q0_0:R3.cell? ⟨w.heap.size,0,none⟩=some (.int .i64 (N:Int)):=B0.c 0 _ rfl
    have q0_1:R3.cell? ⟨w.heap.size,1,none⟩=some (.slice a0 es.length c0):=B0.c 1 _ rfl
    have f0:=B0.f
    go_wp2_with fail
    have KD:=Lib.hid FD;have KL:=Lib.hid FL;have KS:=Lib.hid SA;clear FD FL SA
    clear z0 q0_0 q0_1 f0
    go_loopg [9,34] l.length (fun g nd i wi=>∃j:Nat,j+g=l.length∧i=.int .i64 j∧nd=.int .i64 (scan l ⟨(passes N l k).dist,(passes N l k).last,-1⟩ j).node∧IntsAt wi dB (scan l ⟨(passes N l k).dist,(passes N l k).last,-1⟩ j).dist∧IntsAt wi lB (scan l ⟨(passes N l k).dist,(passes N l k).last,-1⟩ j).last∧SlR 5 repArc wi (V1.heap.size) V2.heap.size (.slice aA l.length cA) l∧dB<wi.heap.size∧lB<wi.heap.size∧Grow w wi∧Box wi (w.heap.size) [.int .i64 (N:Int),.slice a0 es.length c0])
    case atStart=>exact⟨0,by simp,rfl,rfl,KD.out,KL.out,KS.out,hdw,hlw,G,B0⟩
    case round=>
     clear G B0
     obtain⟨j,hj,rfl,rfl,FD,FL,SA,hdw,hlw,G,B0⟩:=hrel
     obtain⟨R4,rfl⟩:∃V,V=wr:=⟨_,rfl⟩
     by_cases hjt:j<l.length
     ·have HJ:=Lib.hid hj;clear hj
      have HSC:Hid (scan l ⟨(passes N l k).dist,(passes N l k).last,-1⟩ (j+1)=relax (scan l ⟨(passes N l k).dist,(passes N l k).last,-1⟩ j) j l[j]):=scan_succ hjt
      obtain⟨hsd,hsl,hbd⟩:=scan_facts HFI.out hal (by omega) (by omega:k≤N) hjt
      generalize (scan l ⟨(passes N l k).dist,(passes N l k).last,-1⟩ j)=s at *
      obtain⟨b_a,off_a,ha_a,hb1_a,hb2_a,hel_a⟩:=SA.elems j hjt
      obtain⟨ea0,ea1,ea2,ea3,ea4,-⟩:=Arc.atCell hel_a j hjt
      clear hel_a
      have KA:=Lib.hid SA;clear SA
      subst ha_a
      obtain⟨p1,p2,p3,p4,p5,p6,p7,p8,p9,p10,p11⟩:=HFI.out _ (List.getElem_mem hjt)
      generalize l[j]=a at *
      obtain⟨fm,hfm⟩:=Int.eq_ofNat_of_zero_le p3
      obtain⟨tm,htm⟩:=Int.eq_ofNat_of_zero_le p5
      have hja:(j:Int)<(l.length:Int):=by omega
      have hj120:(j:Int)≤120:=by omega
      have hfl:fm<s.dist.length:=by omega
      have htl:tm<s.dist.length:=by omega
      have htl2:tm<s.last.length:=by omega
      have x0:=FD fm hfl
      have x1:=FD tm htl
      have x2:=FL tm htl2
      have HYES:Hid (s.dist[fm]+a.cost<s.dist[tm]→relax s j a=⟨s.dist.set tm (s.dist[fm]+a.cost),s.last.set tm (j:Int),a.to⟩):=fun h=>relax_at_yes hfm htm hfl htl h
      have HNOT:Hid (¬s.dist[fm]+a.cost<s.dist[tm]→relax s j a=s):=fun h=>relax_at_no hfm htm hfl htl h
      have hb0:=hbd fm hfl
      have hb1:=hbd tm htl
      obtain⟨hb01,hb02⟩:=hb0
      obtain⟨hb11,hb12⟩:=hb1
      clear hbd
      generalize s.dist[fm]=yf at *
      generalize s.dist[tm]=yt at *
      generalize s.last[tm]=ol at *
      have KD2:=Lib.hid FD;have KL2:=Lib.hid FL;clear FD FL
      obtain⟨aid,afr,ato,arm,aco⟩:=a
      simp only at hfm htm ea0 ea1 ea2 ea3 ea4 p1 p2 p3 p4 p5 p6 p7 p8 p9 p10 p11
      subst hfm htm
      have hfn:(fm:Int)<(N:Int):=by omega
      have htn:(tm:Int)<(N:Int):=by omega
      have hfn2:fm<N:=by omega
      have htn2:tm<N:=by omega
      have KSD:=Lib.hid hsd;have KSL:=Lib.hid hsl;clear hsd hsl
      have z0:=B0.lt
      have q0_0:R4.cell? ⟨w.heap.size,0,none⟩=some (.int .i64 (N:Int)):=B0.c 0 _ rfl
      have q0_1:R4.cell? ⟨w.heap.size,1,none⟩=some (.slice a0 es.length c0):=B0.c 1 _ rfl
      have f0:=B0.f
      by_cases t:yf+aco<yt
      ·have T:decide (yf+aco<yt)=true:=by simp;omega
       have HT:=Lib.hid (HYES.out t)
       go_wp2_with fail
       have gU:Grow R4 (R4.alloc (.cells #[.int .i64 aid,.int .i64 (fm:Int),.int .i64 (tm:Int),.int .i64 arm,.int .i64 aco] 82)):=(Grow.refl _).alloc _ _
       have BU:Box (R4.alloc (.cells #[.int .i64 aid,.int .i64 (fm:Int),.int .i64 (tm:Int),.int .i64 arm,.int .i64 aco] 82)) R4.heap.size [.int .i64 aid,.int .i64 (fm:Int),.int .i64 (tm:Int),.int .i64 arm,.int .i64 aco]:=Box.new R4 _ _
       obtain⟨U,hU⟩:∃U,U=R4.alloc (.cells #[.int .i64 aid,.int .i64 (fm:Int),.int .i64 (tm:Int),.int .i64 arm,.int .i64 aco] 82):=⟨_,rfl⟩
       rw[←hU]at gU BU ⊢
       clear hU
       clear z0 q0_0 q0_1 f0
       replace G:=G.trans gU
       replace B0:=B0.grow gU
       replace x0:=cellGrow gU x0
       replace x1:=cellGrow gU x1
       replace x2:=cellGrow gU x2
       clear ea0 ea1 ea2 ea3 ea4
       have hzU:=gU.size
       have zb:=BU.lt
       have eb0:U.cell? ⟨R4.heap.size,0,none⟩=some (.int .i64 aid):=BU.c 0 _ rfl
       have eb1:U.cell? ⟨R4.heap.size,1,none⟩=some (.int .i64 (fm:Int)):=BU.c 1 _ rfl
       have eb2:U.cell? ⟨R4.heap.size,2,none⟩=some (.int .i64 (tm:Int)):=BU.c 2 _ rfl
       have eb3:U.cell? ⟨R4.heap.size,3,none⟩=some (.int .i64 arm):=BU.c 3 _ rfl
       have eb4:U.cell? ⟨R4.heap.size,4,none⟩=some (.int .i64 aco):=BU.c 4 _ rfl
       have z0:=B0.lt
       have q0_0:U.cell? ⟨w.heap.size,0,none⟩=some (.int .i64 (N:Int)):=B0.c 0 _ rfl
       have q0_1:U.cell? ⟨w.heap.size,1,none⟩=some (.slice a0 es.length c0):=B0.c 1 _ rfl
       have f0:=B0.f
       go_quiet (fail)
       go_wp2_with fail
       have gD:Grow U (U.drewN nq):=(Grow.refl U).drewN _
       obtain⟨D,hD⟩:∃D,D=U.drewN nq:=⟨_,rfl⟩
       rw[←hD]at gD ⊢
       clear hD
       clear z0 q0_0 q0_1 f0
       have KU:=Lib.hid (gU.trans gD)
       replace G:=G.trans gD
       replace B0:=B0.grow gD
       replace BU:=BU.grow gD
       replace x0:=cellGrow gD x0
       replace x1:=cellGrow gD x1
       replace x2:=cellGrow gD x2
       clear eb0 eb1 eb2 eb3 eb4 zb hzU gU gD
       have zb:=BU.lt
       have hzd:dB<D.heap.size:=lt_of_cell x0
       have hzl:lB<D.heap.size:=lt_of_cell x2
       have eb0:D.cell? ⟨R4.heap.size,0,none⟩=some (.int .i64 aid):=BU.c 0 _ rfl
       have eb1:D.cell? ⟨R4.heap.size,1,none⟩=some (.int .i64 (fm:Int)):=BU.c 1 _ rfl
       have eb2:D.cell? ⟨R4.heap.size,2,none⟩=some (.int .i64 (tm:Int)):=BU.c 2 _ rfl
       have eb3:D.cell? ⟨R4.heap.size,3,none⟩=some (.int .i64 arm):=BU.c 3 _ rfl
       have eb4:D.cell? ⟨R4.heap.size,4,none⟩=some (.int .i64 aco):=BU.c 4 _ rfl
       have z0:=B0.lt
       have q0_0:D.cell? ⟨w.heap.size,0,none⟩=some (.int .i64 (N:Int)):=B0.c 0 _ rfl
       have q0_1:D.cell? ⟨w.heap.size,1,none⟩=some (.slice a0 es.length c0):=B0.c 1 _ rfl
       have f0:=B0.f
       have hdr:dB<R4.heap.size:=hdw
       have hlr:lB<R4.heap.size:=hlw
       have fzd:∀o,D.frozen? ⟨dB,o,none⟩=false:=fun o=>G.nf dB o (by omega) (by omega)
       have fzl:∀o,D.frozen? ⟨lB,o,none⟩=false:=fun o=>G.nf lB o (by omega) (by omega)
       go_still_tail 12,(by kernel_rfl)
       have gE:Grow D D.drew:=(Grow.refl D).drew
       change wpList _ _ _ _ _ D.drew
       have m1:(D.drew.setCell ⟨dB,tm,none⟩ (.int .i64 (yf+aco))).cell? ⟨R4.heap.size,2,none⟩=some (.int .i64 (tm:Int)):=cellSet (p:=⟨dB,tm,none⟩) (cellGrow gE eb2) (by show dB≠_;omega)
       have m2:(D.drew.setCell ⟨dB,tm,none⟩ (.int .i64 (yf+aco))).cell? ⟨lB,tm,none⟩=some (.int .i64 ol):=cellSet (p:=⟨dB,tm,none⟩) (cellGrow gE x2) (by show dB≠_;omega)
       have m3:∀o,(D.drew.setCell ⟨dB,tm,none⟩ (.int .i64 (yf+aco))).frozen? ⟨lB,o,none⟩=false:=fun o=>by rw[World.frozen?_setCell];exact fzl o
       have m4:((D.drew.setCell ⟨dB,tm,none⟩ (.int .i64 (yf+aco))).setCell ⟨lB,tm,none⟩ (.int .i64 (j:Int))).cell? ⟨R4.heap.size,2,none⟩=some (.int .i64 (tm:Int)):=cellSet (p:=⟨lB,tm,none⟩) m1 (by show lB≠_;omega)
       go_wp2_with fail
       go_roundg (l.length-(j+1))
       case measure=>have:=HJ.out;omega
       case rel=>
        have gf:Grow R4 D.drew:=KU.out.drew
        refine⟨j+1,by have:=HJ.out;omega,by go_num,by rw[HSC.out,HT.out],?_,?_,?_,?_,?_,(G.drew.setCell (by show w.heap.size≤dB;omega) _).setCell (by show w.heap.size≤lB;omega) _,(B0.drew.other (by show dB≠_;omega) _).other (by show lB≠_;omega) _⟩
        ·rw[HSC.out,HT.out];exact((KD2.out.grow gf).set (by have:=KSD.out;omega) _).other (by show lB≠dB;omega) _
        ·rw[HSC.out,HT.out];exact((KL2.out.grow gf).other (by show dB≠lB;omega) _).set (by have:=KSL.out;omega) _
        ·exact KA.out.same repArc_stable (((gf.same (by omega)).setCell (p:=⟨dB,tm,none⟩) (.inr hd1) _).setCell (p:=⟨lB,tm,none⟩) (.inr hl1) _)
        ·show _<((D.setCell _ _).setCell _ _).heap.size;rw[World.size_setCell,World.size_setCell];exact hzd
        ·show _<((D.setCell _ _).setCell _ _).heap.size;rw[World.size_setCell,World.size_setCell];exact hzl
      ·have T:decide (yf+aco<yt)=false:=by simp;omega
       have HT:=Lib.hid (HNOT.out t)
       go_wp2_with fail
       have gU:Grow R4 (R4.alloc (.cells #[.int .i64 aid,.int .i64 (fm:Int),.int .i64 (tm:Int),.int .i64 arm,.int .i64 aco] 82)):=(Grow.refl _).alloc _ _
       have BU:Box (R4.alloc (.cells #[.int .i64 aid,.int .i64 (fm:Int),.int .i64 (tm:Int),.int .i64 arm,.int .i64 aco] 82)) R4.heap.size [.int .i64 aid,.int .i64 (fm:Int),.int .i64 (tm:Int),.int .i64 arm,.int .i64 aco]:=Box.new R4 _ _
       obtain⟨U,hU⟩:∃U,U=R4.alloc (.cells #[.int .i64 aid,.int .i64 (fm:Int),.int .i64 (tm:Int),.int .i64 arm,.int .i64 aco] 82):=⟨_,rfl⟩
       rw[←hU]at gU BU ⊢
       clear hU
       clear z0 q0_0 q0_1 f0
       replace G:=G.trans gU
       replace B0:=B0.grow gU
       replace x0:=cellGrow gU x0
       replace x1:=cellGrow gU x1
       replace x2:=cellGrow gU x2
       clear ea0 ea1 ea2 ea3 ea4
       have hzU:=gU.size
       have zb:=BU.lt
       have eb0:U.cell? ⟨R4.heap.size,0,none⟩=some (.int .i64 aid):=BU.c 0 _ rfl
       have eb1:U.cell? ⟨R4.heap.size,1,none⟩=some (.int .i64 (fm:Int)):=BU.c 1 _ rfl
       have eb2:U.cell? ⟨R4.heap.size,2,none⟩=some (.int .i64 (tm:Int)):=BU.c 2 _ rfl
       have eb3:U.cell? ⟨R4.heap.size,3,none⟩=some (.int .i64 arm):=BU.c 3 _ rfl
       have eb4:U.cell? ⟨R4.heap.size,4,none⟩=some (.int .i64 aco):=BU.c 4 _ rfl
       have z0:=B0.lt
       have q0_0:U.cell? ⟨w.heap.size,0,none⟩=some (.int .i64 (N:Int)):=B0.c 0 _ rfl
       have q0_1:U.cell? ⟨w.heap.size,1,none⟩=some (.slice a0 es.length c0):=B0.c 1 _ rfl
       have f0:=B0.f
       go_quiet (fail)
       go_wp2_with fail
       have gD:Grow U (U.drewN nq):=(Grow.refl U).drewN _
       obtain⟨D,hD⟩:∃D,D=U.drewN nq:=⟨_,rfl⟩
       rw[←hD]at gD ⊢
       clear hD
       clear z0 q0_0 q0_1 f0
       have KU:=Lib.hid (gU.trans gD)
       replace G:=G.trans gD
       replace B0:=B0.grow gD
       replace BU:=BU.grow gD
       replace x0:=cellGrow gD x0
       replace x1:=cellGrow gD x1
       replace x2:=cellGrow gD x2
       clear eb0 eb1 eb2 eb3 eb4 zb hzU gU gD
       have zb:=BU.lt
       have hzd:dB<D.heap.size:=lt_of_cell x0
       have hzl:lB<D.heap.size:=lt_of_cell x2
       have eb0:D.cell? ⟨R4.heap.size,0,none⟩=some (.int .i64 aid):=BU.c 0 _ rfl
       have eb1:D.cell? ⟨R4.heap.size,1,none⟩=some (.int .i64 (fm:Int)):=BU.c 1 _ rfl
       have eb2:D.cell? ⟨R4.heap.size,2,none⟩=some (.int .i64 (tm:Int)):=BU.c 2 _ rfl
       have eb3:D.cell? ⟨R4.heap.size,3,none⟩=some (.int .i64 arm):=BU.c 3 _ rfl
       have eb4:D.cell? ⟨R4.heap.size,4,none⟩=some (.int .i64 aco):=BU.c 4 _ rfl
       have z0:=B0.lt
       have q0_0:D.cell? ⟨w.heap.size,0,none⟩=some (.int .i64 (N:Int)):=B0.c 0 _ rfl
       have q0_1:D.cell? ⟨w.heap.size,1,none⟩=some (.slice a0 es.length c0):=B0.c 1 _ rfl
       have f0:=B0.f
       go_roundg (l.length-(j+1))
       case measure=>have:=HJ.out;omega
       case rel=>exact⟨j+1,by have:=HJ.out;omega,by go_num,by rw[HSC.out,HT.out],by rw[HSC.out,HT.out];exact KD2.out.grow KU.out,by rw[HSC.out,HT.out];exact KL2.out.grow KU.out,KA.out.same repArc_stable (KU.out.same (by omega)),hzd,hzl,G,B0⟩
     ·obtain rfl:j=l.length:=by omega
      clear hj hjt
      have KD2:=Lib.hid FD;have KL2:=Lib.hid FL;have KS2:=Lib.hid SA;clear FD FL SA
      have z0:=B0.lt
      have q0_0:R4.cell? ⟨w.heap.size,0,none⟩=some (.int .i64 (N:Int)):=B0.c 0 _ rfl
      have q0_1:R4.cell? ⟨w.heap.size,1,none⟩=some (.slice a0 es.length c0):=B0.c 1 _ rfl
      have f0:=B0.f
      go_wp2_with fail
      go_roundg (N-(k+1))
      case measure=>have:=HK.out;omega
      case rel=>exact⟨k+1,by have:=HK.out;omega,by go_num,rfl,KD2.out,KL2.out,KS2.out,hdw,hlw,G,B0⟩
   ·obtain rfl:N=k:=by omega
    clear hk hlt
    clear FD
    have z0:=B0.lt
    have q0_0:R3.cell? ⟨w.heap.size,0,none⟩=some (.int .i64 (N:Int)):=B0.c 0 _ rfl
    have q0_1:R3.cell? ⟨w.heap.size,1,none⟩=some (.slice a0 es.length c0):=B0.c 1 _ rfl
    have f0:=B0.f
    by_cases hnd:(passes N l N).node<0
    ·have hri:=ringIt_no hnd
     have HB:Hid (ringOk ⟨(N:Int),es⟩ f=false):=by
      show _=_
      rw[HRB.out,hri]
     have HL:Hid (ringL ⟨(N:Int),es⟩ f=[]):=HRN.out (by rw[hri])
     generalize (passes N l N).node=nd at *
     have hq:decide (nd<0)=true:=by simp;omega
     go_wp2_with fail
     go_ret2
     exact⟨none,0,by rw[HL.out,HB.out];rfl,G,by rw[HL.out];exact SlR.nil⟩
    have hri:=ringIt_yes hnd
    have HB:Hid (ringOk ⟨(N:Int),es⟩ f=true):=by
     show _=_
     rw[HRB.out,hri]
    have HL:Hid (ringL ⟨(N:Int),es⟩ f=ringFrom l (passes N l N).last (iter (par l (passes N l N).last) N (passes N l N).node) N (iter (par l (passes N l N).last) N (passes N l N).node)):=by
     show _=_
     rw[HRL.out (by rw[hri]),hri]
    clear hri
    have hl1:1≤l.length:=by
     rcases Nat.eq_zero_or_pos l.length with q|q
     ·exfalso
      have e:l=[]:=List.eq_nil_of_length_eq_zero q
      rw[e,passes_nil]at hnd
      omega
     ·omega
    have hfin:=passes_fine HFI.out hl1 N
    generalize passes N l N=s at *
    have hst:=par_stays HFI.out hfin
    have hnk:s.node<(N:Int):=hfin.2.2.1
    have hn0:0≤s.node:=by omega
    have HST:=Lib.hid hst;clear hst
    have HFIN:=Lib.hid hfin;clear hfin
    generalize s.node=nd at *
    have hq:decide (nd<0)=false:=by simp;omega
    clear hnd
    go_wp2_with fail
    clear z0 q0_0 q0_1 f0
    go_loopg [9,78] N (fun g nv i wr=>∃m:Nat,m+g=N∧i=.int .i64 m∧nv=.int .i64 (iter (par l s.last) m nd)∧IntsAt wr lB s.last∧SlR 5 repArc wr (V1.heap.size) V2.heap.size (.slice aA l.length cA) l∧Grow w wr∧Box wr (w.heap.size) [.int .i64 (N:Int),.slice a0 es.length c0])
    case atStart=>exact⟨0,by simp,rfl,rfl,FL,SA,G,B0⟩
    case round=>
     clear G B0
     obtain⟨m,hm,rfl,rfl,FL,SA,G,B0⟩:=hrel
     obtain⟨R5,rfl⟩:∃V,V=wr:=⟨_,rfl⟩
     by_cases hlt:m<N
     ·have HK:=Lib.hid hm;clear hm
      have hb:=HST.out.iter hn0 hnk m
      obtain⟨hb1,hb2⟩:=hb
      have HIT:Hid (iter (par l s.last) (m+1) nd=par l s.last (iter (par l s.last) m nd)):=rfl
      generalize iter (par l s.last) m nd=u at *
      obtain⟨un,rfl⟩:=Int.eq_ofNat_of_zero_le hb1
      obtain⟨q,hq1,hq2,hq3,hq4,hq5⟩:=par_at HFIN.out (show un<N by omega)
      have x0:=FL un hq1
      rw[hq3]at x0
      obtain⟨b_a,off_a,ha_a,hb1_a,hb2_a,hel_a⟩:=SA.elems q hq2
      obtain⟨ea0,ea1,ea2,ea3,ea4,-⟩:=Arc.atCell hel_a q hq2
      clear hel_a
      have KA:=Lib.hid SA;clear SA
      have KL2:=Lib.hid FL;clear FL
      subst ha_a
      have HQ5:=Lib.hid hq5;clear hq5 hq3 hq4
      generalize l[q]=a at *
      have hmk2:(m:Int)<(N:Int):=by omega
      have hqi:(q:Int)<(l.length:Int):=by omega
      have hq120:q<120:=by omega
      have z0:=B0.lt
      have q0_0:R5.cell? ⟨w.heap.size,0,none⟩=some (.int .i64 (N:Int)):=B0.c 0 _ rfl
      have q0_1:R5.cell? ⟨w.heap.size,1,none⟩=some (.slice a0 es.length c0):=B0.c 1 _ rfl
      have f0:=B0.f
      have hzl:lB<R5.heap.size:=lt_of_cell x0
      go_wp2_with fail
      go_roundg (N-(m+1))
      case measure=>have:=HK.out;omega
      case rel=>exact⟨m+1,by have:=HK.out;omega,by go_num,by rw[HIT.out,HQ5.out],KL2.out,KA.out,G,B0⟩
     ·obtain rfl:N=m:=by omega
      clear hm hlt
      have hb:=HST.out.iter hn0 hnk N
      obtain⟨hb1,hb2⟩:=hb
      have hcb:=comes_back HST.out hn0 hnk
      generalize iter (par l s.last) N nd=v at *
      have z0:=B0.lt
      have q0_0:R5.cell? ⟨w.heap.size,0,none⟩=some (.int .i64 (N:Int)):=B0.c 0 _ rfl
      have q0_1:R5.cell? ⟨w.heap.size,1,none⟩=some (.slice a0 es.length c0):=B0.c 1 _ rfl
      have f0:=B0.f
      go_wp2_with fail
      have HFL:=Lib.hid FL;have KS2:=Lib.hid SA;have HG0:=Lib.hid G;have HB0:=Lib.hid B0
      clear FL SA G B0 z0 q0_0 q0_1 f0
      have HCB:=Lib.hid hcb;clear hcb
      go_loopg [12,13] N (fun g vo u wr=>∃(out:List Int) (un:Int) (gg:Nat),gg=g∧u=.int .i64 un∧Grow R5 wr∧wr.ownsRow R5.heap.size 3 1 vo out.length (out.map (Value.int .i64))∧out++ringFrom l s.last v gg un=ringFrom l s.last v N v∧(∃d,1≤d∧d≤gg∧iter (par l s.last) d un=v)∧0≤un∧un<N∧out.length+gg=N∧(∀y∈out,i64 y))
      case atStart=>exact⟨[],v,N,rfl,rfl,Grow.refl _,World.ownsRow_nil _ _ _ _,rfl,HCB.out,hb1,hb2,by simp,by simp⟩
      case round=>
       obtain⟨out,un,gg,hgg,rfl,hg,hown,heq,⟨d,hd3,hd4,hd5⟩,hu1,hu2,hlen,hi64⟩:=hrel
       obtain⟨R9,rfl⟩:∃V,V=wr:=⟨_,rfl⟩
       obtain⟨un,rfl⟩:=Int.eq_ofNat_of_zero_le hu1
       obtain⟨q,hq1,hq2,hq3,hq4,hq5⟩:=par_at HFIN.out (show un<N by omega)
       have x0:=cellGrow hg (HFL.out un hq1)
       rw[hq3]at x0
       obtain⟨b_a,off_a,ha_a,hb1_a,hb2_a,hel_a⟩:=KS2.out.elems q hq2
       obtain⟨ea0,ea1,ea2,ea3,ea4,hwa⟩:=Arc.atCell hel_a q hq2
       clear hel_a
       subst ha_a
       replace ea0:=cellGrow hg ea0
       replace ea1:=cellGrow hg ea1
       replace ea2:=cellGrow hg ea2
       replace ea3:=cellGrow hg ea3
       replace ea4:=cellGrow hg ea4
       obtain⟨hwa,-⟩:=hwa
       have hst1:=HST.out (un:Int) hu1 hu2
       rcases gg with _|gg
       ·omega
       rw[ringFrom_step,hq4]at heq
       rw[hq5]at heq hst1
       have hpd:d=1→l[q].frm=v:=fun h=>by rw[←hq5,←hd5,h];rfl
       have hpd2:iter (par l s.last) (d-1) l[q].frm=v:=by
        rw[←hq5,←iter_succ',show d-1+1=d by omega];exact hd5
       have HQ5:=Lib.hid hq5;clear hq5 hq3 hq4
       obtain⟨p1,p2,p3,p4,p5,p6,p7,p8,p9,p10,p11⟩:=HFI.out _ (List.getElem_mem hq2)
       generalize l[q]=a at *
       have HEQ:=Lib.hid heq;have HOWN:=Lib.hid hown;have HGW:=Lib.hid hg;have HP2:=Lib.hid hpd2;have HPD:=Lib.hid hpd;have HI:=Lib.hid hi64;clear heq hown hpd2 hpd hi64 hg hd5
       have hqi:(q:Int)<(l.length:Int):=by omega
       have hq120:q<120:=by omega
       have hum:(un:Int)<(N:Int):=by omega
       have HGG:=Lib.hid hgg;clear hgg
       have hol:out.length≤24:=by omega
       have HLEN:=Lib.hid hlen;clear hlen
       by_cases tv:a.frm=v
       ·have T:(a.frm==v)=true:=by simpa using tv
        have HTV:=Lib.hid tv;clear tv
        go_wp2_with (at_builtin
                     go_loud (refine wpList_append_g rfl (.tmp 97) (.tmp 100) 46 rfl R5 (show Grow R5 _ by refine Grow.trans HGW.out (b:=R9) ?_;repeat (first|exact Grow.refl _|(refine Grow.alloc ?_ _ _))) 3 i0 _ 1 8 Try.underlying46 hi0 hz0 hz1 hz2 rfl (by omega) u12 out.length (out.map (Value.int .i64)) rfl (own_grow HOWN.out (show Grow R9 _ by repeat (first|exact Grow.refl _|(refine Grow.alloc ?_ _ _)))) ⟨R9.heap.size+1,0,none⟩ 1 1 [.int .i64 a.id] (by first|rfl|simp) rfl (one_newI _ _ _ _ _) (fun u hu=>by rw[List.mem_singleton.1 hu];rfl) (by simp only[maxLen];omega) (by omega) ?_)
                     intro v1 w1 hown' hg' hgb hat
                     have HOWN1:=Lib.hid hown';have HG1:=Lib.hid hg';have HGB1:=Lib.hid hgb
                     have r1:∀j u,[Value.int .i64 a.id,.int .i64 a.frm,.int .i64 a.to,.int .i64 a.room,.int .i64 a.cost][j]? = some u→w1.cell? ⟨R9.heap.size,j,none⟩=some u:=fun j u h=>cellKept HGB1.out (own_ne HOWN.out (Nat.le_refl _)) (cellAlloc (cell_new j (by simpa using h)) _)
                     have r1_0:=r1 0 _ rfl;have r1_1:=r1 1 _ rfl;have zz:R9.heap.size<w1.heap.size:=lt_of_cell r1_0
                     clear r1 hown' hg' hgb hat)
        have hown2:w1.ownsRow R5.heap.size 3 1 v1 (out++[a.id]).length ((out++[a.id]).map (Value.int .i64)):=by have:=HOWN1.out;rwa [List.map_append,List.length_append]
        have htot:out++[a.id]=ringL ⟨(N:Int),es⟩ f:=by
         have:=HEQ.out
         rw[if_pos HTV.out]at this
         rw[this];exact HL.out.symm
        have SO:=ints_own hown2 (fun y hy=>by
         rcases List.mem_append.1 hy with h|h
         ·exact HI.out y h
         ·rw[List.mem_singleton.1 h];exact hwa)
        rw[htot]at SO
        clear hown2
        have SO:=SO.stable repInt_stable (Same.refl _ _ _) (lo':=w.heap.size) (by have:=HG0.out.size;omega) (Nat.le_refl _)
        have SO':=SO
        obtain⟨aO,cO,rfl,_,_,_⟩:=SO'
        have HSO:=Lib.hid SO;clear SO
        go_ret2
        exact⟨aO,cO,by rw[HB.out];rfl,HG0.out.trans HG1.out,HSO.out⟩
       ·have T:(a.frm==v)=false:=by simpa using tv
        have HTV:=Lib.hid tv;clear tv
        go_wp2_with (at_builtin
                     go_loud (refine wpList_append_g rfl (.tmp 97) (.tmp 100) 46 rfl R5 (show Grow R5 _ by refine Grow.trans HGW.out (b:=R9) ?_;repeat (first|exact Grow.refl _|(refine Grow.alloc ?_ _ _))) 3 i0 _ 1 8 Try.underlying46 hi0 hz0 hz1 hz2 rfl (by omega) u12 out.length (out.map (Value.int .i64)) rfl (own_grow HOWN.out (show Grow R9 _ by repeat (first|exact Grow.refl _|(refine Grow.alloc ?_ _ _)))) ⟨R9.heap.size+1,0,none⟩ 1 1 [.int .i64 a.id] (by first|rfl|simp) rfl (one_newI _ _ _ _ _) (fun u hu=>by rw[List.mem_singleton.1 hu];rfl) (by simp only[maxLen];omega) (by omega) ?_)
                     intro v1 w1 hown' hg' hgb hat
                     have HOWN1:=Lib.hid hown';have HG1:=Lib.hid hg';have HGB1:=Lib.hid hgb
                     have r1:∀j u,[Value.int .i64 a.id,.int .i64 a.frm,.int .i64 a.to,.int .i64 a.room,.int .i64 a.cost][j]? = some u→w1.cell? ⟨R9.heap.size,j,none⟩=some u:=fun j u h=>cellKept HGB1.out (own_ne HOWN.out (Nat.le_refl _)) (cellAlloc (cell_new j (by simpa using h)) _)
                     have r1_0:=r1 0 _ rfl;have r1_1:=r1 1 _ rfl;have zz:R9.heap.size<w1.heap.size:=lt_of_cell r1_0
                     clear r1 hown' hg' hgb hat)
        have hown2:w1.ownsRow R5.heap.size 3 1 v1 (out++[a.id]).length ((out++[a.id]).map (Value.int .i64)):=by have:=HOWN1.out;rwa [List.map_append,List.length_append]
        have HOWN2:=Lib.hid hown2;clear hown2
        go_roundg gg
        case measure=>have:=HGG.out;omega
        case rel=>exact⟨out++[a.id],a.frm,gg,rfl,rfl,HG1.out,HOWN2.out,by have:=HEQ.out;rw[if_neg HTV.out]at this;rw[←this];simp,⟨d-1,by rcases Nat.lt_or_ge 1 d with h|h;(· omega);exact absurd (HPD.out (by omega)) HTV.out,by omega,HP2.out⟩,hst1.1,hst1.2,by have:=HLEN.out;simp;omega,fun y hy=>by
         rcases List.mem_append.1 hy with h|h
         ·exact HI.out y h
         ·rw[List.mem_singleton.1 h];exact hwa⟩
 ·have hmade:=IntsAt.made2 V2 N 3
  obtain⟨FS,FT⟩:=hmade
  have gW:Grow V2 (((V2.alloc (.cells (madeCells #[.int .i64 0] N) 3)).alloc (.cells (madeCells #[.int .i64 0] N) 3))).drew:=by repeat (first|exact Grow.refl _|(refine Grow.alloc ?_ _ _)|(refine Grow.drew ?_))
  have hsW:(((V2.alloc (.cells (madeCells #[.int .i64 0] N) 3)).alloc (.cells (madeCells #[.int .i64 0] N) 3))).drew.heap.size=V2.heap.size+2:=by simp
  have FS:IntsAt (((V2.alloc (.cells (madeCells #[.int .i64 0] N) 3)).alloc (.cells (madeCells #[.int .i64 0] N) 3))).drew V2.heap.size (List.replicate N 0):=FS
  have FT:IntsAt (((V2.alloc (.cells (madeCells #[.int .i64 0] N) 3)).alloc (.cells (madeCells #[.int .i64 0] N) 3))).drew (V2.heap.size+1) (List.replicate N 0):=FT
  obtain⟨W,hW⟩:∃W,W=(((V2.alloc (.cells (madeCells #[.int .i64 0] N) 3)).alloc (.cells (madeCells #[.int .i64 0] N) 3))).drew:=⟨_,rfl⟩
  rw[←hW]at gW FS FT hsW ⊢
  clear hW
  clear z0 q0_0 q0_1 f0
  replace G:=G.trans gW
  replace B0:=B0.grow gW
  have SA:SlR 5 repArc W (V1.heap.size) V2.heap.size (.slice aA l.length cA) l:=HSA.out.same repArc_stable (gW.same (Nat.le_refl _))
  clear gW
  obtain⟨dB,hdB⟩:∃b,b=V2.heap.size+1:=⟨_,rfl⟩
  rw[←hdB]at FT ⊢
  obtain⟨lB,hlB⟩:∃b,b=V2.heap.size:=⟨_,rfl⟩
  rw[←hlB]at FS
  have FD:IntsAt W dB (List.replicate N 0):=FT
  have FL:IntsAt W lB (List.replicate N 0):=FS
  clear FS FT
  have hv0:V2.heap.size=lB:=hlB.symm
  (try simp only[hv0])
  clear hv0
  have hne:dB≠lB:=by omega
  have hd1:V2.heap.size≤dB:=by omega
  have hd2:dB<W.heap.size:=by omega
  have hl1:V2.heap.size≤lB:=by omega
  have hl2:lB<W.heap.size:=by omega
  clear hdB hlB hsW
  have hd0:w.heap.size<dB:=by omega
  have hl0:w.heap.size<lB:=by omega
  have z0:=B0.lt
  have q0_0:W.cell? ⟨w.heap.size,0,none⟩=some (.int .i64 (N:Int)):=B0.c 0 _ rfl
  have q0_1:W.cell? ⟨w.heap.size,1,none⟩=some (.slice a0 es.length c0):=B0.c 1 _ rfl
  have f0:=B0.f
  go_wp2_with fail
  clear z0 q0_0 q0_1 f0
  go_loopg [9,30] N (fun g nd i wr=>∃k:Nat,k+g=N∧i=.int .i64 k∧nd=.int .i64 (passes N l k).node∧IntsAt wr dB (passes N l k).dist∧IntsAt wr lB (passes N l k).last∧SlR 5 repArc wr (V1.heap.size) V2.heap.size (.slice aA l.length cA) l∧dB<wr.heap.size∧lB<wr.heap.size∧Grow w wr∧Box wr (w.heap.size) [.int .i64 (N:Int),.slice a0 es.length c0])
  case atStart=>exact⟨0,by simp,rfl,rfl,FD,FL,SA,hd2,hl2,G,B0⟩
  case round=>
   clear G B0
   obtain⟨k,hk,rfl,rfl,FD,FL,SA,hdw,hlw,G,B0⟩:=hrel
   obtain⟨R6,rfl⟩:∃V,V=wr:=⟨_,rfl⟩
   by_cases hlt:k<N
   ·have HK:=Lib.hid hk;clear hk
    have hkn:(k:Int)<(N:Int):=by omega
    have z0:=B0.lt
    have q0_0:R6.cell? ⟨w.heap.size,0,none⟩=some (.int .i64 (N:Int)):=B0.c 0 _ rfl
    have q0_1:R6.cell? ⟨w.heap.size,1,none⟩=some (.slice a0 es.length c0):=B0.c 1 _ rfl
    have f0:=B0.f
    go_wp2_with fail
    have KD:=Lib.hid FD;have KL:=Lib.hid FL;have KS:=Lib.hid SA;clear FD FL SA
    clear z0 q0_0 q0_1 f0
    go_loopg [9,34] l.length (fun g nd i wi=>∃j:Nat,j+g=l.length∧i=.int .i64 j∧nd=.int .i64 (scan l ⟨(passes N l k).dist,(passes N l k).last,-1⟩ j).node∧IntsAt wi dB (scan l ⟨(passes N l k).dist,(passes N l k).last,-1⟩ j).dist∧IntsAt wi lB (scan l ⟨(passes N l k).dist,(passes N l k).last,-1⟩ j).last∧SlR 5 repArc wi (V1.heap.size) V2.heap.size (.slice aA l.length cA) l∧dB<wi.heap.size∧lB<wi.heap.size∧Grow w wi∧Box wi (w.heap.size) [.int .i64 (N:Int),.slice a0 es.length c0])
    case atStart=>exact⟨0,by simp,rfl,rfl,KD.out,KL.out,KS.out,hdw,hlw,G,B0⟩
    case round=>
     clear G B0
     obtain⟨j,hj,rfl,rfl,FD,FL,SA,hdw,hlw,G,B0⟩:=hrel
     obtain⟨R7,rfl⟩:∃V,V=wr:=⟨_,rfl⟩
     by_cases hjt:j<l.length
     ·have HJ:=Lib.hid hj;clear hj
      have HSC:Hid (scan l ⟨(passes N l k).dist,(passes N l k).last,-1⟩ (j+1)=relax (scan l ⟨(passes N l k).dist,(passes N l k).last,-1⟩ j) j l[j]):=scan_succ hjt
      obtain⟨hsd,hsl,hbd⟩:=scan_facts HFI.out hal (by omega) (by omega:k≤N) hjt
      generalize (scan l ⟨(passes N l k).dist,(passes N l k).last,-1⟩ j)=s at *
      obtain⟨b_a,off_a,ha_a,hb1_a,hb2_a,hel_a⟩:=SA.elems j hjt
      obtain⟨ea0,ea1,ea2,ea3,ea4,-⟩:=Arc.atCell hel_a j hjt
      clear hel_a
      have KA:=Lib.hid SA;clear SA
      subst ha_a
      obtain⟨p1,p2,p3,p4,p5,p6,p7,p8,p9,p10,p11⟩:=HFI.out _ (List.getElem_mem hjt)
      generalize l[j]=a at *
      obtain⟨fm,hfm⟩:=Int.eq_ofNat_of_zero_le p3
      obtain⟨tm,htm⟩:=Int.eq_ofNat_of_zero_le p5
      have hja:(j:Int)<(l.length:Int):=by omega
      have hj120:(j:Int)≤120:=by omega
      have hfl:fm<s.dist.length:=by omega
      have htl:tm<s.dist.length:=by omega
      have htl2:tm<s.last.length:=by omega
      have x0:=FD fm hfl
      have x1:=FD tm htl
      have x2:=FL tm htl2
      have HYES:Hid (s.dist[fm]+a.cost<s.dist[tm]→relax s j a=⟨s.dist.set tm (s.dist[fm]+a.cost),s.last.set tm (j:Int),a.to⟩):=fun h=>relax_at_yes hfm htm hfl htl h
      have HNOT:Hid (¬s.dist[fm]+a.cost<s.dist[tm]→relax s j a=s):=fun h=>relax_at_no hfm htm hfl htl h
      have hb0:=hbd fm hfl
      have hb1:=hbd tm htl
      obtain⟨hb01,hb02⟩:=hb0
      obtain⟨hb11,hb12⟩:=hb1
      clear hbd
      generalize s.dist[fm]=yf at *
      generalize s.dist[tm]=yt at *
      generalize s.last[tm]=ol at *
      have KD2:=Lib.hid FD;have KL2:=Lib.hid FL;clear FD FL
      obtain⟨aid,afr,ato,arm,aco⟩:=a
      simp only at hfm htm ea0 ea1 ea2 ea3 ea4 p1 p2 p3 p4 p5 p6 p7 p8 p9 p10 p11
      subst hfm htm
      have hfn:(fm:Int)<(N:Int):=by omega
      have htn:(tm:Int)<(N:Int):=by omega
      have hfn2:fm<N:=by omega
      have htn2:tm<N:=by omega
      have KSD:=Lib.hid hsd;have KSL:=Lib.hid hsl;clear hsd hsl
      have z0:=B0.lt
      have q0_0:R7.cell? ⟨w.heap.size,0,none⟩=some (.int .i64 (N:Int)):=B0.c 0 _ rfl
      have q0_1:R7.cell? ⟨w.heap.size,1,none⟩=some (.slice a0 es.length c0):=B0.c 1 _ rfl
      have f0:=B0.f
      by_cases t:yf+aco<yt
      ·have T:decide (yf+aco<yt)=true:=by simp;omega
       have HT:=Lib.hid (HYES.out t)
       go_wp2_with fail
       have gU:Grow R7 (R7.alloc (.cells #[.int .i64 aid,.int .i64 (fm:Int),.int .i64 (tm:Int),.int .i64 arm,.int .i64 aco] 82)):=(Grow.refl _).alloc _ _
       have BU:Box (R7.alloc (.cells #[.int .i64 aid,.int .i64 (fm:Int),.int .i64 (tm:Int),.int .i64 arm,.int .i64 aco] 82)) R7.heap.size [.int .i64 aid,.int .i64 (fm:Int),.int .i64 (tm:Int),.int .i64 arm,.int .i64 aco]:=Box.new R7 _ _
       obtain⟨U,hU⟩:∃U,U=R7.alloc (.cells #[.int .i64 aid,.int .i64 (fm:Int),.int .i64 (tm:Int),.int .i64 arm,.int .i64 aco] 82):=⟨_,rfl⟩
       rw[←hU]at gU BU ⊢
       clear hU
       clear z0 q0_0 q0_1 f0
       replace G:=G.trans gU
       replace B0:=B0.grow gU
       replace x0:=cellGrow gU x0
       replace x1:=cellGrow gU x1
       replace x2:=cellGrow gU x2
       clear ea0 ea1 ea2 ea3 ea4
       have hzU:=gU.size
       have zb:=BU.lt
       have eb0:U.cell? ⟨R7.heap.size,0,none⟩=some (.int .i64 aid):=BU.c 0 _ rfl
       have eb1:U.cell? ⟨R7.heap.size,1,none⟩=some (.int .i64 (fm:Int)):=BU.c 1 _ rfl
       have eb2:U.cell? ⟨R7.heap.size,2,none⟩=some (.int .i64 (tm:Int)):=BU.c 2 _ rfl
       have eb3:U.cell? ⟨R7.heap.size,3,none⟩=some (.int .i64 arm):=BU.c 3 _ rfl
       have eb4:U.cell? ⟨R7.heap.size,4,none⟩=some (.int .i64 aco):=BU.c 4 _ rfl
       have z0:=B0.lt
       have q0_0:U.cell? ⟨w.heap.size,0,none⟩=some (.int .i64 (N:Int)):=B0.c 0 _ rfl
       have q0_1:U.cell? ⟨w.heap.size,1,none⟩=some (.slice a0 es.length c0):=B0.c 1 _ rfl
       have f0:=B0.f
       go_quiet (fail)
       go_wp2_with fail
       have gD:Grow U (U.drewN nq):=(Grow.refl U).drewN _
       obtain⟨D,hD⟩:∃D,D=U.drewN nq:=⟨_,rfl⟩
       rw[←hD]at gD ⊢
       clear hD
       clear z0 q0_0 q0_1 f0
       have KU:=Lib.hid (gU.trans gD)
       replace G:=G.trans gD
       replace B0:=B0.grow gD
       replace BU:=BU.grow gD
       replace x0:=cellGrow gD x0
       replace x1:=cellGrow gD x1
       replace x2:=cellGrow gD x2
       clear eb0 eb1 eb2 eb3 eb4 zb hzU gU gD
       have zb:=BU.lt
       have hzd:dB<D.heap.size:=lt_of_cell x0
       have hzl:lB<D.heap.size:=lt_of_cell x2
       have eb0:D.cell? ⟨R7.heap.size,0,none⟩=some (.int .i64 aid):=BU.c 0 _ rfl
       have eb1:D.cell? ⟨R7.heap.size,1,none⟩=some (.int .i64 (fm:Int)):=BU.c 1 _ rfl
       have eb2:D.cell? ⟨R7.heap.size,2,none⟩=some (.int .i64 (tm:Int)):=BU.c 2 _ rfl
       have eb3:D.cell? ⟨R7.heap.size,3,none⟩=some (.int .i64 arm):=BU.c 3 _ rfl
       have eb4:D.cell? ⟨R7.heap.size,4,none⟩=some (.int .i64 aco):=BU.c 4 _ rfl
       have z0:=B0.lt
       have q0_0:D.cell? ⟨w.heap.size,0,none⟩=some (.int .i64 (N:Int)):=B0.c 0 _ rfl
       have q0_1:D.cell? ⟨w.heap.size,1,none⟩=some (.slice a0 es.length c0):=B0.c 1 _ rfl
       have f0:=B0.f
       have hdr:dB<R7.heap.size:=hdw
       have hlr:lB<R7.heap.size:=hlw
       have fzd:∀o,D.frozen? ⟨dB,o,none⟩=false:=fun o=>G.nf dB o (by omega) (by omega)
       have fzl:∀o,D.frozen? ⟨lB,o,none⟩=false:=fun o=>G.nf lB o (by omega) (by omega)
       go_still_tail 12,(by kernel_rfl)
       have gE:Grow D D.drew:=(Grow.refl D).drew
       change wpList _ _ _ _ _ D.drew
       have m1:(D.drew.setCell ⟨dB,tm,none⟩ (.int .i64 (yf+aco))).cell? ⟨R7.heap.size,2,none⟩=some (.int .i64 (tm:Int)):=cellSet (p:=⟨dB,tm,none⟩) (cellGrow gE eb2) (by show dB≠_;omega)
       have m2:(D.drew.setCell ⟨dB,tm,none⟩ (.int .i64 (yf+aco))).cell? ⟨lB,tm,none⟩=some (.int .i64 ol):=cellSet (p:=⟨dB,tm,none⟩) (cellGrow gE x2) (by show dB≠_;omega)
       have m3:∀o,(D.drew.setCell ⟨dB,tm,none⟩ (.int .i64 (yf+aco))).frozen? ⟨lB,o,none⟩=false:=fun o=>by rw[World.frozen?_setCell];exact fzl o
       have m4:((D.drew.setCell ⟨dB,tm,none⟩ (.int .i64 (yf+aco))).setCell ⟨lB,tm,none⟩ (.int .i64 (j:Int))).cell? ⟨R7.heap.size,2,none⟩=some (.int .i64 (tm:Int)):=cellSet (p:=⟨lB,tm,none⟩) m1 (by show lB≠_;omega)
       go_wp2_with fail
       go_roundg (l.length-(j+1))
       case measure=>have:=HJ.out;omega
       case rel=>
        have gf:Grow R7 D.drew:=KU.out.drew
        refine⟨j+1,by have:=HJ.out;omega,by go_num,by rw[HSC.out,HT.out],?_,?_,?_,?_,?_,(G.drew.setCell (by show w.heap.size≤dB;omega) _).setCell (by show w.heap.size≤lB;omega) _,(B0.drew.other (by show dB≠_;omega) _).other (by show lB≠_;omega) _⟩
        ·rw[HSC.out,HT.out];exact((KD2.out.grow gf).set (by have:=KSD.out;omega) _).other (by show lB≠dB;omega) _
        ·rw[HSC.out,HT.out];exact((KL2.out.grow gf).other (by show dB≠lB;omega) _).set (by have:=KSL.out;omega) _
        ·exact KA.out.same repArc_stable (((gf.same (by omega)).setCell (p:=⟨dB,tm,none⟩) (.inr hd1) _).setCell (p:=⟨lB,tm,none⟩) (.inr hl1) _)
        ·show _<((D.setCell _ _).setCell _ _).heap.size;rw[World.size_setCell,World.size_setCell];exact hzd
        ·show _<((D.setCell _ _).setCell _ _).heap.size;rw[World.size_setCell,World.size_setCell];exact hzl
      ·have T:decide (yf+aco<yt)=false:=by simp;omega
       have HT:=Lib.hid (HNOT.out t)
       go_wp2_with fail
       have gU:Grow R7 (R7.alloc (.cells #[.int .i64 aid,.int .i64 (fm:Int),.int .i64 (tm:Int),.int .i64 arm,.int .i64 aco] 82)):=(Grow.refl _).alloc _ _
       have BU:Box (R7.alloc (.cells #[.int .i64 aid,.int .i64 (fm:Int),.int .i64 (tm:Int),.int .i64 arm,.int .i64 aco] 82)) R7.heap.size [.int .i64 aid,.int .i64 (fm:Int),.int .i64 (tm:Int),.int .i64 arm,.int .i64 aco]:=Box.new R7 _ _
       obtain⟨U,hU⟩:∃U,U=R7.alloc (.cells #[.int .i64 aid,.int .i64 (fm:Int),.int .i64 (tm:Int),.int .i64 arm,.int .i64 aco] 82):=⟨_,rfl⟩
       rw[←hU]at gU BU ⊢
       clear hU
       clear z0 q0_0 q0_1 f0
       replace G:=G.trans gU
       replace B0:=B0.grow gU
       replace x0:=cellGrow gU x0
       replace x1:=cellGrow gU x1
       replace x2:=cellGrow gU x2
       clear ea0 ea1 ea2 ea3 ea4
       have hzU:=gU.size
       have zb:=BU.lt
       have eb0:U.cell? ⟨R7.heap.size,0,none⟩=some (.int .i64 aid):=BU.c 0 _ rfl
       have eb1:U.cell? ⟨R7.heap.size,1,none⟩=some (.int .i64 (fm:Int)):=BU.c 1 _ rfl
       have eb2:U.cell? ⟨R7.heap.size,2,none⟩=some (.int .i64 (tm:Int)):=BU.c 2 _ rfl
       have eb3:U.cell? ⟨R7.heap.size,3,none⟩=some (.int .i64 arm):=BU.c 3 _ rfl
       have eb4:U.cell? ⟨R7.heap.size,4,none⟩=some (.int .i64 aco):=BU.c 4 _ rfl
       have z0:=B0.lt
       have q0_0:U.cell? ⟨w.heap.size,0,none⟩=some (.int .i64 (N:Int)):=B0.c 0 _ rfl
       have q0_1:U.cell? ⟨w.heap.size,1,none⟩=some (.slice a0 es.length c0):=B0.c 1 _ rfl
       have f0:=B0.f
       go_quiet (fail)
       go_wp2_with fail
       have gD:Grow U (U.drewN nq):=(Grow.refl U).drewN _
       obtain⟨D,hD⟩:∃D,D=U.drewN nq:=⟨_,rfl⟩
       rw[←hD]at gD ⊢
       clear hD
       clear z0 q0_0 q0_1 f0
       have KU:=Lib.hid (gU.trans gD)
       replace G:=G.trans gD
       replace B0:=B0.grow gD
       replace BU:=BU.grow gD
       replace x0:=cellGrow gD x0
       replace x1:=cellGrow gD x1
       replace x2:=cellGrow gD x2
       clear eb0 eb1 eb2 eb3 eb4 zb hzU gU gD
       have zb:=BU.lt
       have hzd:dB<D.heap.size:=lt_of_cell x0
       have hzl:lB<D.heap.size:=lt_of_cell x2
       have eb0:D.cell? ⟨R7.heap.size,0,none⟩=some (.int .i64 aid):=BU.c 0 _ rfl
       have eb1:D.cell? ⟨R7.heap.size,1,none⟩=some (.int .i64 (fm:Int)):=BU.c 1 _ rfl
       have eb2:D.cell? ⟨R7.heap.size,2,none⟩=some (.int .i64 (tm:Int)):=BU.c 2 _ rfl
       have eb3:D.cell? ⟨R7.heap.size,3,none⟩=some (.int .i64 arm):=BU.c 3 _ rfl
       have eb4:D.cell? ⟨R7.heap.size,4,none⟩=some (.int .i64 aco):=BU.c 4 _ rfl
       have z0:=B0.lt
       have q0_0:D.cell? ⟨w.heap.size,0,none⟩=some (.int .i64 (N:Int)):=B0.c 0 _ rfl
       have q0_1:D.cell? ⟨w.heap.size,1,none⟩=some (.slice a0 es.length c0):=B0.c 1 _ rfl
       have f0:=B0.f
       go_roundg (l.length-(j+1))
       case measure=>have:=HJ.out;omega
       case rel=>exact⟨j+1,by have:=HJ.out;omega,by go_num,by rw[HSC.out,HT.out],by rw[HSC.out,HT.out];exact KD2.out.grow KU.out,by rw[HSC.out,HT.out];exact KL2.out.grow KU.out,KA.out.same repArc_stable (KU.out.same (by omega)),hzd,hzl,G,B0⟩
     ·obtain rfl:j=l.length:=by omega
      clear hj hjt
      have KD2:=Lib.hid FD;have KL2:=Lib.hid FL;have KS2:=Lib.hid SA;clear FD FL SA
      have z0:=B0.lt
      have q0_0:R7.cell? ⟨w.heap.size,0,none⟩=some (.int .i64 (N:Int)):=B0.c 0 _ rfl
      have q0_1:R7.cell? ⟨w.heap.size,1,none⟩=some (.slice a0 es.length c0):=B0.c 1 _ rfl
      have f0:=B0.f
      go_wp2_with fail
      go_roundg (N-(k+1))
      case measure=>have:=HK.out;omega
      case rel=>exact⟨k+1,by have:=HK.out;omega,by go_num,rfl,KD2.out,KL2.out,KS2.out,hdw,hlw,G,B0⟩
   ·obtain rfl:N=k:=by omega
    clear hk hlt
    clear FD
    have z0:=B0.lt
    have q0_0:R6.cell? ⟨w.heap.size,0,none⟩=some (.int .i64 (N:Int)):=B0.c 0 _ rfl
    have q0_1:R6.cell? ⟨w.heap.size,1,none⟩=some (.slice a0 es.length c0):=B0.c 1 _ rfl
    have f0:=B0.f
    by_cases hnd:(passes N l N).node<0
    ·have hri:=ringIt_no hnd
     have HB:Hid (ringOk ⟨(N:Int),es⟩ f=false):=by
      show _=_
      rw[HRB.out,hri]
     have HL:Hid (ringL ⟨(N:Int),es⟩ f=[]):=HRN.out (by rw[hri])
     generalize (passes N l N).node=nd at *
     have hq:decide (nd<0)=true:=by simp;omega
     go_wp2_with fail
     go_ret2
     exact⟨none,0,by rw[HL.out,HB.out];rfl,G,by rw[HL.out];exact SlR.nil⟩
    have hri:=ringIt_yes hnd
    have HB:Hid (ringOk ⟨(N:Int),es⟩ f=true):=by
     show _=_
     rw[HRB.out,hri]
    have HL:Hid (ringL ⟨(N:Int),es⟩ f=ringFrom l (passes N l N).last (iter (par l (passes N l N).last) N (passes N l N).node) N (iter (par l (passes N l N).last) N (passes N l N).node)):=by
     show _=_
     rw[HRL.out (by rw[hri]),hri]
    clear hri
    have hl1:1≤l.length:=by
     rcases Nat.eq_zero_or_pos l.length with q|q
     ·exfalso
      have e:l=[]:=List.eq_nil_of_length_eq_zero q
      rw[e,passes_nil]at hnd
      omega
     ·omega
    have hfin:=passes_fine HFI.out hl1 N
    generalize passes N l N=s at *
    have hst:=par_stays HFI.out hfin
    have hnk:s.node<(N:Int):=hfin.2.2.1
    have hn0:0≤s.node:=by omega
    have HST:=Lib.hid hst;clear hst
    have HFIN:=Lib.hid hfin;clear hfin
    generalize s.node=nd at *
    have hq:decide (nd<0)=false:=by simp;omega
    clear hnd
    go_wp2_with fail
    clear z0 q0_0 q0_1 f0
    go_loopg [9,78] N (fun g nv i wr=>∃m:Nat,m+g=N∧i=.int .i64 m∧nv=.int .i64 (iter (par l s.last) m nd)∧IntsAt wr lB s.last∧SlR 5 repArc wr (V1.heap.size) V2.heap.size (.slice aA l.length cA) l∧Grow w wr∧Box wr (w.heap.size) [.int .i64 (N:Int),.slice a0 es.length c0])
    case atStart=>exact⟨0,by simp,rfl,rfl,FL,SA,G,B0⟩
    case round=>
     clear G B0
     obtain⟨m,hm,rfl,rfl,FL,SA,G,B0⟩:=hrel
     obtain⟨R8,rfl⟩:∃V,V=wr:=⟨_,rfl⟩
     by_cases hlt:m<N
     ·have HK:=Lib.hid hm;clear hm
      have hb:=HST.out.iter hn0 hnk m
      obtain⟨hb1,hb2⟩:=hb
      have HIT:Hid (iter (par l s.last) (m+1) nd=par l s.last (iter (par l s.last) m nd)):=rfl
      generalize iter (par l s.last) m nd=u at *
      obtain⟨un,rfl⟩:=Int.eq_ofNat_of_zero_le hb1
      obtain⟨q,hq1,hq2,hq3,hq4,hq5⟩:=par_at HFIN.out (show un<N by omega)
      have x0:=FL un hq1
      rw[hq3]at x0
      obtain⟨b_a,off_a,ha_a,hb1_a,hb2_a,hel_a⟩:=SA.elems q hq2
      obtain⟨ea0,ea1,ea2,ea3,ea4,-⟩:=Arc.atCell hel_a q hq2
      clear hel_a
      have KA:=Lib.hid SA;clear SA
      have KL2:=Lib.hid FL;clear FL
      subst ha_a
      have HQ5:=Lib.hid hq5;clear hq5 hq3 hq4
      generalize l[q]=a at *
      have hmk2:(m:Int)<(N:Int):=by omega
      have hqi:(q:Int)<(l.length:Int):=by omega
      have hq120:q<120:=by omega
      have z0:=B0.lt
      have q0_0:R8.cell? ⟨w.heap.size,0,none⟩=some (.int .i64 (N:Int)):=B0.c 0 _ rfl
      have q0_1:R8.cell? ⟨w.heap.size,1,none⟩=some (.slice a0 es.length c0):=B0.c 1 _ rfl
      have f0:=B0.f
      have hzl:lB<R8.heap.size:=lt_of_cell x0
      go_wp2_with fail
      go_roundg (N-(m+1))
      case measure=>have:=HK.out;omega
      case rel=>exact⟨m+1,by have:=HK.out;omega,by go_num,by rw[HIT.out,HQ5.out],KL2.out,KA.out,G,B0⟩
     ·obtain rfl:N=m:=by omega
      clear hm hlt
      have hb:=HST.out.iter hn0 hnk N
      obtain⟨hb1,hb2⟩:=hb
      have hcb:=comes_back HST.out hn0 hnk
      generalize iter (par l s.last) N nd=v at *
      have z0:=B0.lt
      have q0_0:R8.cell? ⟨w.heap.size,0,none⟩=some (.int .i64 (N:Int)):=B0.c 0 _ rfl
      have q0_1:R8.cell? ⟨w.heap.size,1,none⟩=some (.slice a0 es.length c0):=B0.c 1 _ rfl
      have f0:=B0.f
      go_wp2_with fail
      have HFL:=Lib.hid FL;have KS2:=Lib.hid SA;have HG0:=Lib.hid G;have HB0:=Lib.hid B0
      clear FL SA G B0 z0 q0_0 q0_1 f0
      have HCB:=Lib.hid hcb;clear hcb
      go_loopg [12,13] N (fun g vo u wr=>∃(out:List Int) (un:Int) (gg:Nat),gg=g∧u=.int .i64 un∧Grow R8 wr∧wr.ownsRow R8.heap.size 3 1 vo out.length (out.map (Value.int .i64))∧out++ringFrom l s.last v gg un=ringFrom l s.last v N v∧(∃d,1≤d∧d≤gg∧iter (par l s.last) d un=v)∧0≤un∧un<N∧out.length+gg=N∧(∀y∈out,i64 y))
      case atStart=>exact⟨[],v,N,rfl,rfl,Grow.refl _,World.ownsRow_nil _ _ _ _,rfl,HCB.out,hb1,hb2,by simp,by simp⟩
      case round=>
       obtain⟨out,un,gg,hgg,rfl,hg,hown,heq,⟨d,hd3,hd4,hd5⟩,hu1,hu2,hlen,hi64⟩:=hrel
       obtain⟨R9,rfl⟩:∃V,V=wr:=⟨_,rfl⟩
       obtain⟨un,rfl⟩:=Int.eq_ofNat_of_zero_le hu1
       obtain⟨q,hq1,hq2,hq3,hq4,hq5⟩:=par_at HFIN.out (show un<N by omega)
       have x0:=cellGrow hg (HFL.out un hq1)
       rw[hq3]at x0
       obtain⟨b_a,off_a,ha_a,hb1_a,hb2_a,hel_a⟩:=KS2.out.elems q hq2
       obtain⟨ea0,ea1,ea2,ea3,ea4,hwa⟩:=Arc.atCell hel_a q hq2
       clear hel_a
       subst ha_a
       replace ea0:=cellGrow hg ea0
       replace ea1:=cellGrow hg ea1
       replace ea2:=cellGrow hg ea2
       replace ea3:=cellGrow hg ea3
       replace ea4:=cellGrow hg ea4
       obtain⟨hwa,-⟩:=hwa
       have hst1:=HST.out (un:Int) hu1 hu2
       rcases gg with _|gg
       ·omega
       rw[ringFrom_step,hq4]at heq
       rw[hq5]at heq hst1
       have hpd:d=1→l[q].frm=v:=fun h=>by rw[←hq5,←hd5,h];rfl
       have hpd2:iter (par l s.last) (d-1) l[q].frm=v:=by
        rw[←hq5,←iter_succ',show d-1+1=d by omega];exact hd5
       have HQ5:=Lib.hid hq5;clear hq5 hq3 hq4
       obtain⟨p1,p2,p3,p4,p5,p6,p7,p8,p9,p10,p11⟩:=HFI.out _ (List.getElem_mem hq2)
       generalize l[q]=a at *
       have HEQ:=Lib.hid heq;have HOWN:=Lib.hid hown;have HGW:=Lib.hid hg;have HP2:=Lib.hid hpd2;have HPD:=Lib.hid hpd;have HI:=Lib.hid hi64;clear heq hown hpd2 hpd hi64 hg hd5
       have hqi:(q:Int)<(l.length:Int):=by omega
       have hq120:q<120:=by omega
       have hum:(un:Int)<(N:Int):=by omega
       have HGG:=Lib.hid hgg;clear hgg
       have hol:out.length≤24:=by omega
       have HLEN:=Lib.hid hlen;clear hlen
       by_cases tv:a.frm=v
       ·have T:(a.frm==v)=true:=by simpa using tv
        have HTV:=Lib.hid tv;clear tv
        go_wp2_with (at_builtin
                     go_loud (refine wpList_append_g rfl (.tmp 97) (.tmp 100) 46 rfl R8 (show Grow R8 _ by refine Grow.trans HGW.out (b:=R9) ?_;repeat (first|exact Grow.refl _|(refine Grow.alloc ?_ _ _))) 3 i0 _ 1 8 Try.underlying46 hi0 hz0 hz1 hz2 rfl (by omega) u12 out.length (out.map (Value.int .i64)) rfl (own_grow HOWN.out (show Grow R9 _ by repeat (first|exact Grow.refl _|(refine Grow.alloc ?_ _ _)))) ⟨R9.heap.size+1,0,none⟩ 1 1 [.int .i64 a.id] (by first|rfl|simp) rfl (one_newI _ _ _ _ _) (fun u hu=>by rw[List.mem_singleton.1 hu];rfl) (by simp only[maxLen];omega) (by omega) ?_)
                     intro v1 w1 hown' hg' hgb hat
                     have HOWN1:=Lib.hid hown';have HG1:=Lib.hid hg';have HGB1:=Lib.hid hgb
                     have r1:∀j u,[Value.int .i64 a.id,.int .i64 a.frm,.int .i64 a.to,.int .i64 a.room,.int .i64 a.cost][j]? = some u→w1.cell? ⟨R9.heap.size,j,none⟩=some u:=fun j u h=>cellKept HGB1.out (own_ne HOWN.out (Nat.le_refl _)) (cellAlloc (cell_new j (by simpa using h)) _)
                     have r1_0:=r1 0 _ rfl;have r1_1:=r1 1 _ rfl;have zz:R9.heap.size<w1.heap.size:=lt_of_cell r1_0
                     clear r1 hown' hg' hgb hat)
        have hown2:w1.ownsRow R8.heap.size 3 1 v1 (out++[a.id]).length ((out++[a.id]).map (Value.int .i64)):=by have:=HOWN1.out;rwa [List.map_append,List.length_append]
        have htot:out++[a.id]=ringL ⟨(N:Int),es⟩ f:=by
         have:=HEQ.out
         rw[if_pos HTV.out]at this
         rw[this];exact HL.out.symm
        have SO:=ints_own hown2 (fun y hy=>by
         rcases List.mem_append.1 hy with h|h
         ·exact HI.out y h
         ·rw[List.mem_singleton.1 h];exact hwa)
        rw[htot]at SO
        clear hown2
        have SO:=SO.stable repInt_stable (Same.refl _ _ _) (lo':=w.heap.size) (by have:=HG0.out.size;omega) (Nat.le_refl _)
        have SO':=SO
        obtain⟨aO,cO,rfl,_,_,_⟩:=SO'
        have HSO:=Lib.hid SO;clear SO
        go_ret2
        exact⟨aO,cO,by rw[HB.out];rfl,HG0.out.trans HG1.out,HSO.out⟩
       ·have T:(a.frm==v)=false:=by simpa using tv
        have HTV:=Lib.hid tv;clear tv
        go_wp2_with (at_builtin
                     go_loud (refine wpList_append_g rfl (.tmp 97) (.tmp 100) 46 rfl R8 (show Grow R8 _ by refine Grow.trans HGW.out (b:=R9) ?_;repeat (first|exact Grow.refl _|(refine Grow.alloc ?_ _ _))) 3 i0 _ 1 8 Try.underlying46 hi0 hz0 hz1 hz2 rfl (by omega) u12 out.length (out.map (Value.int .i64)) rfl (own_grow HOWN.out (show Grow R9 _ by repeat (first|exact Grow.refl _|(refine Grow.alloc ?_ _ _)))) ⟨R9.heap.size+1,0,none⟩ 1 1 [.int .i64 a.id] (by first|rfl|simp) rfl (one_newI _ _ _ _ _) (fun u hu=>by rw[List.mem_singleton.1 hu];rfl) (by simp only[maxLen];omega) (by omega) ?_)
                     intro v1 w1 hown' hg' hgb hat
                     have HOWN1:=Lib.hid hown';have HG1:=Lib.hid hg';have HGB1:=Lib.hid hgb
                     have r1:∀j u,[Value.int .i64 a.id,.int .i64 a.frm,.int .i64 a.to,.int .i64 a.room,.int .i64 a.cost][j]? = some u→w1.cell? ⟨R9.heap.size,j,none⟩=some u:=fun j u h=>cellKept HGB1.out (own_ne HOWN.out (Nat.le_refl _)) (cellAlloc (cell_new j (by simpa using h)) _)
                     have r1_0:=r1 0 _ rfl;have r1_1:=r1 1 _ rfl;have zz:R9.heap.size<w1.heap.size:=lt_of_cell r1_0
                     clear r1 hown' hg' hgb hat)
        have hown2:w1.ownsRow R8.heap.size 3 1 v1 (out++[a.id]).length ((out++[a.id]).map (Value.int .i64)):=by have:=HOWN1.out;rwa [List.map_append,List.length_append]
        have HOWN2:=Lib.hid hown2;clear hown2
        go_roundg gg
        case measure=>have:=HGG.out;omega
        case rel=>exact⟨out++[a.id],a.frm,gg,rfl,rfl,HG1.out,HOWN2.out,by have:=HEQ.out;rw[if_neg HTV.out]at this;rw[←this];simp,⟨d-1,by rcases Nat.lt_or_ge 1 d with h|h;(· omega);exact absurd (HPD.out (by omega)) HTV.out,by omega,HP2.out⟩,hst1.1,hst1.2,by have:=HLEN.out;simp;omega,fun y hy=>by
         rcases List.mem_append.1 hy with h|h
         ·exact HI.out y h
         ·rw[List.mem_singleton.1 h];exact hwa⟩
theorem spec_Ring_c(x:Graph)(a0:Option Addr)(c0:Nat)(f:List Int)(a1:Option Addr)(c1:Nat)(w:World)(h0:SlR 4 repEdge w 0 w.heap.size (.slice a0 x.edges.length c0) x.edges)(h1:SlR 1 repInt w 0 w.heap.size (.slice a1 f.length c1) f) :
 Calls Try.prog 31 #[.agg #[.int .i64 x.n,.slice a0 x.edges.length c0],.slice a1 f.length c1] w fun e w'=>∃a c,e=.returned (.tuple #[.slice a (ringL x f).length c,.bool (ringOk x f)])∧Grow w w'∧SlR 1 repInt w' w.heap.size w'.heap.size (.slice a (ringL x f).length c) (ringL x f):=by
 obtain⟨i0,hi0,hz0,hz1,hz2⟩:=info_parts infoInt'
 cases hok:flowOk x f
 ·have H0:=Lib.hid h0;have H1:=Lib.hid h1
  clear h0 h1
  have HB:Hid (ringOk x f=false):=by
   show _=_
   unfold ringOk;rw[hok];rfl
  have HL:Hid (ringL x f=[]):=by
   show _=_
   unfold ringL;rw[HB.out];rfl
  go_enter Try.func31,Try.ntmps31
  go_wp2_with fail
  refine(spec_FlowOk_c x _ _ f _ _ _ (H0.out.grow' repEdge_stable (Grow.below ((Grow.refl w).alloc _ _))) (H1.out.grow' repInt_stable (Grow.below ((Grow.refl w).alloc _ _)))).mono ?_
  rintro e V1 ⟨rfl,gs⟩
  have ys:=Grow.size gs
  simp only[World.size_setCell,World.size_alloc]at ys
  have B0:Box V1 (w.heap.size) [.int .i64 x.n,.slice a0 x.edges.length c0]:=Box.grow (Box.newAt (by simp) _ _) gs
  have G:Grow w V1:=Grow.trans ((Grow.refl w).alloc _ _) gs
  clear gs
  have z0:=B0.lt
  have q0_0:V1.cell? ⟨w.heap.size,0,none⟩=some (.int .i64 x.n):=B0.c 0 _ rfl
  have q0_1:V1.cell? ⟨w.heap.size,1,none⟩=some (.slice a0 x.edges.length c0):=B0.c 1 _ rfl
  have f0:=B0.f
  rw[hok]
  go_wp2_with fail
  go_ret2
  exact⟨none,0,by rw[HL.out,HB.out];rfl,G,by rw[HL.out];exact SlR.nil⟩
 obtain⟨n1,n2,g2,hlen,-,-,-⟩:=flowOk_facts hok
 obtain⟨N,hN⟩:∃N:Nat,x.n=(N:Int):=⟨x.n.toNat,by omega⟩
 obtain⟨n,es⟩:=x
 simp only at hN n1 n2 g2 h0 hlen
 subst hN
 have hf60:f.length≤60:=by omega
 clear hlen
 have HOK:=Lib.hid hok;clear hok
 have H0:=Lib.hid h0;have H1:=Lib.hid h1
 clear h0 h1
 have hmk:=fun w=>madeInts N (by omega) w
 have HRB:Hid (ringOk ⟨(N:Int),es⟩ f=(ringIt N (arcsOf ⟨(N:Int),es⟩ f)).2):=by
  show _=_
  unfold ringOk;rw[HOK.out];rfl
 have HRL:Hid ((ringIt N (arcsOf ⟨(N:Int),es⟩ f)).2=true→ringL ⟨(N:Int),es⟩ f=(ringIt N (arcsOf ⟨(N:Int),es⟩ f)).1):=fun h=>if_pos (HRB.out.trans h)
 have HRN:Hid ((ringIt N (arcsOf ⟨(N:Int),es⟩ f)).2=false→ringL ⟨(N:Int),es⟩ f=[]):=fun h=>if_neg (by rw[HRB.out,h];simp)
 go_enter Try.func31,Try.ntmps31
 go_wp2_with fail
 refine(spec_FlowOk_c ⟨(N:Int),es⟩ _ _ f _ _ _ (H0.out.grow' repEdge_stable (Grow.below ((Grow.refl w).alloc _ _))) (H1.out.grow' repInt_stable (Grow.below ((Grow.refl w).alloc _ _)))).mono ?_
 rintro e V1 ⟨rfl,gs⟩
 have ys:=Grow.size gs
 simp only[World.size_setCell,World.size_alloc]at ys
 have B0:Box V1 (w.heap.size) [.int .i64 (N:Int),.slice a0 es.length c0]:=Box.grow (Box.newAt (by simp) _ _) gs
 have G:Grow w V1:=Grow.trans ((Grow.refl w).alloc _ _) gs
 clear gs
 have z0:=B0.lt
 have q0_0:V1.cell? ⟨w.heap.size,0,none⟩=some (.int .i64 (N:Int)):=B0.c 0 _ rfl
 have q0_1:V1.cell? ⟨w.heap.size,1,none⟩=some (.slice a0 es.length c0):=B0.c 1 _ rfl
 have f0:=B0.f
 rw[HOK.out]
 go_wp2_with fail
 refine(spec_arcs_c ⟨(N:Int),es⟩ _ _ f _ _ _ (H0.out.grow' repEdge_stable (Grow.below G)) (H1.out.grow' repInt_stable (Grow.below G)) HOK.out).mono ?_
 rintro e V2 ⟨aA,cA,rfl,gs,SA⟩
 clear z0 q0_0 q0_1 f0
 have ys:=Grow.size gs
 replace B0:Box V2 (w.heap.size) [.int .i64 (N:Int),.slice a0 es.length c0]:=Box.grow B0 gs
 replace G:Grow w V2:=Grow.trans G gs
 clear gs
 --
 have z0:=B0.lt
 have q0_0:V2.cell? ⟨w.heap.size,0,none⟩=some (.int .i64 (N:Int)):=B0.c 0 _ rfl
 have q0_1:V2.cell? ⟨w.heap.size,1,none⟩=some (.slice a0 es.length c0):=B0.c 1 _ rfl
 have f0:=B0.f
 have hal:=arcsOf_len HOK.out
 have HFI:=Lib.hid (arcs_fine HOK.out)
 generalize hl:arcsOf ⟨(N:Int),es⟩ f=l at *
 clear hl
 have hgs:w.heap.size<V2.heap.size:=B0.lt
 have HSA:Hid (SlR 5 repArc V2 (V1.heap.size) V2.heap.size (.slice aA l.length cA) l):=SA
 clear SA
 have HV:=Lib.hid G;have BV:=Lib.hid B0
 go_wp2_with fail
 have hmade:=IntsAt.made2 V2 N 3
 obtain⟨FS,FT⟩:=hmade
 have gW:Grow V2 ((V2.alloc (.cells (madeCells #[.int .i64 0] N) 3)).alloc (.cells (madeCells #[.int .i64 0] N) 3)):=by repeat (first|exact Grow.refl _|(refine Grow.alloc ?_ _ _)|(refine Grow.drew ?_))
 have hsW:((V2.alloc (.cells (madeCells #[.int .i64 0] N) 3)).alloc (.cells (madeCells #[.int .i64 0] N) 3)).heap.size=V2.heap.size+2:=by simp
 have FS:IntsAt ((V2.alloc (.cells (madeCells #[.int .i64 0] N) 3)).alloc (.cells (madeCells #[.int .i64 0] N) 3)) V2.heap.size (List.replicate N 0):=FS
 have FT:IntsAt ((V2.alloc (.cells (madeCells #[.int .i64 0] N) 3)).alloc (.cells (madeCells #[.int .i64 0] N) 3)) (V2.heap.size+1) (List.replicate N 0):=FT
 obtain⟨W,hW⟩:∃W,W=((V2.alloc (.cells (madeCells #[.int .i64 0] N) 3)).alloc (.cells (madeCells #[.int .i64 0] N) 3)):=⟨_,rfl⟩
 rw[←hW]at gW FS FT hsW ⊢
 clear hW
 clear z0 q0_0 q0_1 f0
 replace G:=G.trans gW
 replace B0:=B0.grow gW
 have SA:SlR 5 repArc W (V1.heap.size) V2.heap.size (.slice aA l.length cA) l:=HSA.out.same repArc_stable (gW.same (Nat.le_refl _))
 clear gW
 obtain⟨lB,hlB⟩:∃b,b=V2.heap.size+1:=⟨_,rfl⟩
 rw[←hlB]at FT ⊢
 obtain⟨dB,hdB⟩:∃b,b=V2.heap.size:=⟨_,rfl⟩
 rw[←hdB]at FS
 have FD:IntsAt W dB (List.replicate N 0):=FS
 have FL:IntsAt W lB (List.replicate N 0):=FT
 clear FS FT
 have hv0:V2.heap.size=dB:=hdB.symm
 (try simp only[hv0])
 clear hv0
 have hne:dB≠lB:=by omega
 have hd1:V2.heap.size≤dB:=by omega
 have hd2:dB<W.heap.size:=by omega
 have hl1:V2.heap.size≤lB:=by omega
 have hl2:lB<W.heap.size:=by omega
 clear hdB hlB hsW
 have hd0:w.heap.size<dB:=by omega
 have hl0:w.heap.size<lB:=by omega
 have z0:=B0.lt
 have q0_0:W.cell? ⟨w.heap.size,0,none⟩=some (.int .i64 (N:Int)):=B0.c 0 _ rfl
 have q0_1:W.cell? ⟨w.heap.size,1,none⟩=some (.slice a0 es.length c0):=B0.c 1 _ rfl
 have f0:=B0.f
 go_wp2_with fail
 clear z0 q0_0 q0_1 f0
 go_loopg [9,10] N (fun g nd i wr=>∃k:Nat,k+g=N∧i=.int .i64 k∧nd=.int .i64 (passes N l k).node∧IntsAt wr dB (passes N l k).dist∧IntsAt wr lB (passes N l k).last∧SlR 5 repArc wr (V1.heap.size) V2.heap.size (.slice aA l.length cA) l∧dB<wr.heap.size∧lB<wr.heap.size∧Grow w wr∧Box wr (w.heap.size) [.int .i64 (N:Int),.slice a0 es.length c0])
 case atStart=>exact⟨0,by simp,rfl,rfl,FD,FL,SA,hd2,hl2,G,B0⟩
 case round=>
  clear G B0
  obtain⟨k,hk,rfl,rfl,FD,FL,SA,hdw,hlw,G,B0⟩:=hrel
  obtain⟨R3,rfl⟩:∃V,V=wr:=⟨_,rfl⟩
  by_cases hlt:k<N
  ·have HK:=Lib.hid hk;clear hk
   have hkn:(k:Int)<(N:Int):=by omega
   have z0:=B0.lt
   have q0_0:R3.cell? ⟨w.heap.size,0,none⟩=some (.int .i64 (N:Int)):=B0.c 0 _ rfl
   have q0_1:R3.cell? ⟨w.heap.size,1,none⟩=some (.slice a0 es.length c0):=B0.c 1 _ rfl
   have f0:=B0.f
   go_wp2_with fail
   have KD:=Lib.hid FD;have KL:=Lib.hid FL;have KS:=Lib.hid SA;clear FD FL SA
   clear z0 q0_0 q0_1 f0
   go_loopg [9,37] l.length (fun g nd i wi=>∃j:Nat,j+g=l.length∧i=.int .i64 j∧nd=.int .i64 (scan l ⟨(passes N l k).dist,(passes N l k).last,-1⟩ j).node∧IntsAt wi dB (scan l ⟨(passes N l k).dist,(passes N l k).last,-1⟩ j).dist∧IntsAt wi lB (scan l ⟨(passes N l k).dist,(passes N l k).last,-1⟩ j).last∧SlR 5 repArc wi (V1.heap.size) V2.heap.size (.slice aA l.length cA) l∧dB<wi.heap.size∧lB<wi.heap.size∧Grow w wi∧Box wi (w.heap.size) [.int .i64 (N:Int),.slice a0 es.length c0])
   case atStart=>exact⟨0,by simp,rfl,rfl,KD.out,KL.out,KS.out,hdw,hlw,G,B0⟩
   case round=>
    clear G B0
    obtain⟨j,hj,rfl,rfl,FD,FL,SA,hdw,hlw,G,B0⟩:=hrel
    obtain⟨R4,rfl⟩:∃V,V=wr:=⟨_,rfl⟩
    by_cases hjt:j<l.length
    ·have HJ:=Lib.hid hj;clear hj
     have HSC:Hid (scan l ⟨(passes N l k).dist,(passes N l k).last,-1⟩ (j+1)=relax (scan l ⟨(passes N l k).dist,(passes N l k).last,-1⟩ j) j l[j]):=scan_succ hjt
     obtain⟨hsd,hsl,hbd⟩:=scan_facts HFI.out hal (by omega) (by omega:k≤N) hjt
     generalize (scan l ⟨(passes N l k).dist,(passes N l k).last,-1⟩ j)=s at *
     obtain⟨b_a,off_a,ha_a,hb1_a,hb2_a,hel_a⟩:=SA.elems j hjt
     obtain⟨ea0,ea1,ea2,ea3,ea4,-⟩:=Arc.atCell hel_a j hjt
     clear hel_a
     have KA:=Lib.hid SA;clear SA
     subst ha_a
     obtain⟨p1,p2,p3,p4,p5,p6,p7,p8,p9,p10,p11⟩:=HFI.out _ (List.getElem_mem hjt)
     generalize l[j]=a at *
     obtain⟨fm,hfm⟩:=Int.eq_ofNat_of_zero_le p3
     obtain⟨tm,htm⟩:=Int.eq_ofNat_of_zero_le p5
     have hja:(j:Int)<(l.length:Int):=by omega
     have hj120:(j:Int)≤120:=by omega
     have hfl:fm<s.dist.length:=by omega
     have htl:tm<s.dist.length:=by omega
     have htl2:tm<s.last.length:=by omega
     have x0:=FD fm hfl
     have x1:=FD tm htl
     have x2:=FL tm htl2
     have HYES:Hid (s.dist[fm]+a.cost<s.dist[tm]→relax s j a=⟨s.dist.set tm (s.dist[fm]+a.cost),s.last.set tm (j:Int),a.to⟩):=fun h=>relax_at_yes hfm htm hfl htl h
     have HNOT:Hid (¬s.dist[fm]+a.cost<s.dist[tm]→relax s j a=s):=fun h=>relax_at_no hfm htm hfl htl h
     have hb0:=hbd fm hfl
     have hb1:=hbd tm htl
     obtain⟨hb01,hb02⟩:=hb0
     obtain⟨hb11,hb12⟩:=hb1
     clear hbd
     generalize s.dist[fm]=yf at *
     generalize s.dist[tm]=yt at *
     generalize s.last[tm]=ol at *
     have KD2:=Lib.hid FD;have KL2:=Lib.hid FL;clear FD FL
     obtain⟨aid,afr,ato,arm,aco⟩:=a
     simp only at hfm htm ea0 ea1 ea2 ea3 ea4 p1 p2 p3 p4 p5 p6 p7 p8 p9 p10 p11
     subst hfm htm
     have hfn:(fm:Int)<(N:Int):=by omega
     have htn:(tm:Int)<(N:Int):=by omega
     have hfn2:fm<N:=by omega
     have htn2:tm<N:=by omega
     have KSD:=Lib.hid hsd;have KSL:=Lib.hid hsl;clear hsd hsl
     have z0:=B0.lt
     have q0_0:R4.cell? ⟨w.heap.size,0,none⟩=some (.int .i64 (N:Int)):=B0.c 0 _ rfl
     have q0_1:R4.cell? ⟨w.heap.size,1,none⟩=some (.slice a0 es.length c0):=B0.c 1 _ rfl
     have f0:=B0.f
     by_cases t:yf+aco<yt
     ·have T:decide (yf+aco<yt)=true:=by simp;omega
      have HT:=Lib.hid (HYES.out t)
      go_wp2_with fail
      have gU:Grow R4 (R4.alloc (.cells #[.int .i64 aid,.int .i64 (fm:Int),.int .i64 (tm:Int),.int .i64 arm,.int .i64 aco] 90)):=(Grow.refl _).alloc _ _
      have BU:Box (R4.alloc (.cells #[.int .i64 aid,.int .i64 (fm:Int),.int .i64 (tm:Int),.int .i64 arm,.int .i64 aco] 90)) R4.heap.size [.int .i64 aid,.int .i64 (fm:Int),.int .i64 (tm:Int),.int .i64 arm,.int .i64 aco]:=Box.new R4 _ _
      obtain⟨U,hU⟩:∃U,U=R4.alloc (.cells #[.int .i64 aid,.int .i64 (fm:Int),.int .i64 (tm:Int),.int .i64 arm,.int .i64 aco] 90):=⟨_,rfl⟩
      rw[←hU]at gU BU ⊢
      clear hU
      clear z0 q0_0 q0_1 f0
      replace G:=G.trans gU
      replace B0:=B0.grow gU
      replace x0:=cellGrow gU x0
      replace x1:=cellGrow gU x1
      replace x2:=cellGrow gU x2
      clear ea0 ea1 ea2 ea3 ea4
      have hzU:=gU.size
      have zb:=BU.lt
      have eb0:U.cell? ⟨R4.heap.size,0,none⟩=some (.int .i64 aid):=BU.c 0 _ rfl
      have eb1:U.cell? ⟨R4.heap.size,1,none⟩=some (.int .i64 (fm:Int)):=BU.c 1 _ rfl
      have eb2:U.cell? ⟨R4.heap.size,2,none⟩=some (.int .i64 (tm:Int)):=BU.c 2 _ rfl
      have eb3:U.cell? ⟨R4.heap.size,3,none⟩=some (.int .i64 arm):=BU.c 3 _ rfl
      have eb4:U.cell? ⟨R4.heap.size,4,none⟩=some (.int .i64 aco):=BU.c 4 _ rfl
      have z0:=B0.lt
      have q0_0:U.cell? ⟨w.heap.size,0,none⟩=some (.int .i64 (N:Int)):=B0.c 0 _ rfl
      have q0_1:U.cell? ⟨w.heap.size,1,none⟩=some (.slice a0 es.length c0):=B0.c 1 _ rfl
      have f0:=B0.f
      go_quiet (fail)
      go_wp2_with fail
      have gD:Grow U (U.drewN nq):=(Grow.refl U).drewN _
      obtain⟨D,hD⟩:∃D,D=U.drewN nq:=⟨_,rfl⟩
      rw[←hD]at gD ⊢
      clear hD
      clear z0 q0_0 q0_1 f0
      have KU:=Lib.hid (gU.trans gD)
      replace G:=G.trans gD
      replace B0:=B0.grow gD
      replace BU:=BU.grow gD
      replace x0:=cellGrow gD x0
      replace x1:=cellGrow gD x1
      replace x2:=cellGrow gD x2
      clear eb0 eb1 eb2 eb3 eb4 zb hzU gU gD
      have zb:=BU.lt
      have hzd:dB<D.heap.size:=lt_of_cell x0
      have hzl:lB<D.heap.size:=lt_of_cell x2
      have eb0:D.cell? ⟨R4.heap.size,0,none⟩=some (.int .i64 aid):=BU.c 0 _ rfl
      have eb1:D.cell? ⟨R4.heap.size,1,none⟩=some (.int .i64 (fm:Int)):=BU.c 1 _ rfl
      have eb2:D.cell? ⟨R4.heap.size,2,none⟩=some (.int .i64 (tm:Int)):=BU.c 2 _ rfl
      have eb3:D.cell? ⟨R4.heap.size,3,none⟩=some (.int .i64 arm):=BU.c 3 _ rfl
      have eb4:D.cell? ⟨R4.heap.size,4,none⟩=some (.int .i64 aco):=BU.c 4 _ rfl
      have z0:=B0.lt
      have q0_0:D.cell? ⟨w.heap.size,0,none⟩=some (.int .i64 (N:Int)):=B0.c 0 _ rfl
      have q0_1:D.cell? ⟨w.heap.size,1,none⟩=some (.slice a0 es.length c0):=B0.c 1 _ rfl
      have f0:=B0.f
      have hdr:dB<R4.heap.size:=hdw
      have hlr:lB<R4.heap.size:=hlw
      have fzd:∀o,D.frozen? ⟨dB,o,none⟩=false:=fun o=>G.nf dB o (by omega) (by omega)
      have fzl:∀o,D.frozen? ⟨lB,o,none⟩=false:=fun o=>G.nf lB o (by omega) (by omega)
      go_still_tail 12,(by kernel_rfl)
      have gE:Grow D D.drew:=(Grow.refl D).drew
      change wpList _ _ _ _ _ D.drew
      have m1:(D.drew.setCell ⟨dB,tm,none⟩ (.int .i64 (yf+aco))).cell? ⟨R4.heap.size,2,none⟩=some (.int .i64 (tm:Int)):=cellSet (p:=⟨dB,tm,none⟩) (cellGrow gE eb2) (by show dB≠_;omega)
      have m2:(D.drew.setCell ⟨dB,tm,none⟩ (.int .i64 (yf+aco))).cell? ⟨lB,tm,none⟩=some (.int .i64 ol):=cellSet (p:=⟨dB,tm,none⟩) (cellGrow gE x2) (by show dB≠_;omega)
      have m3:∀o,(D.drew.setCell ⟨dB,tm,none⟩ (.int .i64 (yf+aco))).frozen? ⟨lB,o,none⟩=false:=fun o=>by rw[World.frozen?_setCell];exact fzl o
      have m4:((D.drew.setCell ⟨dB,tm,none⟩ (.int .i64 (yf+aco))).setCell ⟨lB,tm,none⟩ (.int .i64 (j:Int))).cell? ⟨R4.heap.size,2,none⟩=some (.int .i64 (tm:Int)):=cellSet (p:=⟨lB,tm,none⟩) m1 (by show lB≠_;omega)
      go_wp2_with fail
      go_roundg (l.length-(j+1))
      case measure=>have:=HJ.out;omega
      case rel=>
       have gf:Grow R4 D.drew:=KU.out.drew
       refine⟨j+1,by have:=HJ.out;omega,by go_num,by rw[HSC.out,HT.out],?_,?_,?_,?_,?_,(G.drew.setCell (by show w.heap.size≤dB;omega) _).setCell (by show w.heap.size≤lB;omega) _,(B0.drew.other (by show dB≠_;omega) _).other (by show lB≠_;omega) _⟩
       ·rw[HSC.out,HT.out];exact((KD2.out.grow gf).set (by have:=KSD.out;omega) _).other (by show lB≠dB;omega) _
       ·rw[HSC.out,HT.out];exact((KL2.out.grow gf).other (by show dB≠lB;omega) _).set (by have:=KSL.out;omega) _
       ·exact KA.out.same repArc_stable (((gf.same (by omega)).setCell (p:=⟨dB,tm,none⟩) (.inr hd1) _).setCell (p:=⟨lB,tm,none⟩) (.inr hl1) _)
       ·show _<((D.setCell _ _).setCell _ _).heap.size;rw[World.size_setCell,World.size_setCell];exact hzd
       ·show _<((D.setCell _ _).setCell _ _).heap.size;rw[World.size_setCell,World.size_setCell];exact hzl
     ·have T:decide (yf+aco<yt)=false:=by simp;omega
      have HT:=Lib.hid (HNOT.out t)
      go_wp2_with fail
      have gU:Grow R4 (R4.alloc (.cells #[.int .i64 aid,.int .i64 (fm:Int),.int .i64 (tm:Int),.int .i64 arm,.int .i64 aco] 90)):=(Grow.refl _).alloc _ _
      have BU:Box (R4.alloc (.cells #[.int .i64 aid,.int .i64 (fm:Int),.int .i64 (tm:Int),.int .i64 arm,.int .i64 aco] 90)) R4.heap.size [.int .i64 aid,.int .i64 (fm:Int),.int .i64 (tm:Int),.int .i64 arm,.int .i64 aco]:=Box.new R4 _ _
      obtain⟨U,hU⟩:∃U,U=R4.alloc (.cells #[.int .i64 aid,.int .i64 (fm:Int),.int .i64 (tm:Int),.int .i64 arm,.int .i64 aco] 90):=⟨_,rfl⟩
      rw[←hU]at gU BU ⊢
      clear hU
      clear z0 q0_0 q0_1 f0
      replace G:=G.trans gU
      replace B0:=B0.grow gU
      replace x0:=cellGrow gU x0
      replace x1:=cellGrow gU x1
      replace x2:=cellGrow gU x2
      clear ea0 ea1 ea2 ea3 ea4
      have hzU:=gU.size
      have zb:=BU.lt
      have eb0:U.cell? ⟨R4.heap.size,0,none⟩=some (.int .i64 aid):=BU.c 0 _ rfl
      have eb1:U.cell? ⟨R4.heap.size,1,none⟩=some (.int .i64 (fm:Int)):=BU.c 1 _ rfl
      have eb2:U.cell? ⟨R4.heap.size,2,none⟩=some (.int .i64 (tm:Int)):=BU.c 2 _ rfl
      have eb3:U.cell? ⟨R4.heap.size,3,none⟩=some (.int .i64 arm):=BU.c 3 _ rfl
      have eb4:U.cell? ⟨R4.heap.size,4,none⟩=some (.int .i64 aco):=BU.c 4 _ rfl
      have z0:=B0.lt
      have q0_0:U.cell? ⟨w.heap.size,0,none⟩=some (.int .i64 (N:Int)):=B0.c 0 _ rfl
      have q0_1:U.cell? ⟨w.heap.size,1,none⟩=some (.slice a0 es.length c0):=B0.c 1 _ rfl
      have f0:=B0.f
      go_quiet (fail)
      go_wp2_with fail
      have gD:Grow U (U.drewN nq):=(Grow.refl U).drewN _
      obtain⟨D,hD⟩:∃D,D=U.drewN nq:=⟨_,rfl⟩
      rw[←hD]at gD ⊢
      clear hD
      clear z0 q0_0 q0_1 f0
      have KU:=Lib.hid (gU.trans gD)
      replace G:=G.trans gD
      replace B0:=B0.grow gD
      replace BU:=BU.grow gD
      replace x0:=cellGrow gD x0
      replace x1:=cellGrow gD x1
      replace x2:=cellGrow gD x2
      clear eb0 eb1 eb2 eb3 eb4 zb hzU gU gD
      have zb:=BU.lt
      have hzd:dB<D.heap.size:=lt_of_cell x0
      have hzl:lB<D.heap.size:=lt_of_cell x2
      have eb0:D.cell? ⟨R4.heap.size,0,none⟩=some (.int .i64 aid):=BU.c 0 _ rfl
      have eb1:D.cell? ⟨R4.heap.size,1,none⟩=some (.int .i64 (fm:Int)):=BU.c 1 _ rfl
      have eb2:D.cell? ⟨R4.heap.size,2,none⟩=some (.int .i64 (tm:Int)):=BU.c 2 _ rfl
      have eb3:D.cell? ⟨R4.heap.size,3,none⟩=some (.int .i64 arm):=BU.c 3 _ rfl
      have eb4:D.cell? ⟨R4.heap.size,4,none⟩=some (.int .i64 aco):=BU.c 4 _ rfl
      have z0:=B0.lt
      have q0_0:D.cell? ⟨w.heap.size,0,none⟩=some (.int .i64 (N:Int)):=B0.c 0 _ rfl
      have q0_1:D.cell? ⟨w.heap.size,1,none⟩=some (.slice a0 es.length c0):=B0.c 1 _ rfl
      have f0:=B0.f
      go_roundg (l.length-(j+1))
      case measure=>have:=HJ.out;omega
      case rel=>exact⟨j+1,by have:=HJ.out;omega,by go_num,by rw[HSC.out,HT.out],by rw[HSC.out,HT.out];exact KD2.out.grow KU.out,by rw[HSC.out,HT.out];exact KL2.out.grow KU.out,KA.out.same repArc_stable (KU.out.same (by omega)),hzd,hzl,G,B0⟩
    ·obtain rfl:j=l.length:=by omega
     clear hj hjt
     have KD2:=Lib.hid FD;have KL2:=Lib.hid FL;have KS2:=Lib.hid SA;clear FD FL SA
     have z0:=B0.lt
     have q0_0:R4.cell? ⟨w.heap.size,0,none⟩=some (.int .i64 (N:Int)):=B0.c 0 _ rfl
     have q0_1:R4.cell? ⟨w.heap.size,1,none⟩=some (.slice a0 es.length c0):=B0.c 1 _ rfl
     have f0:=B0.f
     go_wp2_with fail
     go_roundg (N-(k+1))
     case measure=>have:=HK.out;omega
     case rel=>exact⟨k+1,by have:=HK.out;omega,by go_num,rfl,KD2.out,KL2.out,KS2.out,hdw,hlw,G,B0⟩
  ·obtain rfl:N=k:=by omega
   clear hk hlt
   clear FD
   have z0:=B0.lt
   have q0_0:R3.cell? ⟨w.heap.size,0,none⟩=some (.int .i64 (N:Int)):=B0.c 0 _ rfl
   have q0_1:R3.cell? ⟨w.heap.size,1,none⟩=some (.slice a0 es.length c0):=B0.c 1 _ rfl
   have f0:=B0.f
   by_cases hnd:(passes N l N).node<0
   ·have hri:=ringIt_no hnd
    have HB:Hid (ringOk ⟨(N:Int),es⟩ f=false):=by
     show _=_
     rw[HRB.out,hri]
    have HL:Hid (ringL ⟨(N:Int),es⟩ f=[]):=HRN.out (by rw[hri])
    generalize (passes N l N).node=nd at *
    have hq:decide (nd<0)=true:=by simp;omega
    go_wp2_with fail
    go_ret2
    exact⟨none,0,by rw[HL.out,HB.out];rfl,G,by rw[HL.out];exact SlR.nil⟩
   have hri:=ringIt_yes hnd
   have HB:Hid (ringOk ⟨(N:Int),es⟩ f=true):=by
    show _=_
    rw[HRB.out,hri]
   have HL:Hid (ringL ⟨(N:Int),es⟩ f=ringFrom l (passes N l N).last (iter (par l (passes N l N).last) N (passes N l N).node) N (iter (par l (passes N l N).last) N (passes N l N).node)):=by
    show _=_
    rw[HRL.out (by rw[hri]),hri]
   clear hri
   have hl1:1≤l.length:=by
    rcases Nat.eq_zero_or_pos l.length with q|q
    ·exfalso
     have e:l=[]:=List.eq_nil_of_length_eq_zero q
     rw[e,passes_nil]at hnd
     omega
    ·omega
   have hfin:=passes_fine HFI.out hl1 N
   generalize passes N l N=s at *
   have hst:=par_stays HFI.out hfin
   have hnk:s.node<(N:Int):=hfin.2.2.1
   have hn0:0≤s.node:=by omega
   have HST:=Lib.hid hst;clear hst
   have HFIN:=Lib.hid hfin;clear hfin
   generalize s.node=nd at *
   have hq:decide (nd<0)=false:=by simp;omega
   clear hnd
   go_wp2_with fail
   clear z0 q0_0 q0_1 f0
   go_loopg [9,13] N (fun g nv i wr=>∃m:Nat,m+g=N∧i=.int .i64 m∧nv=.int .i64 (iter (par l s.last) m nd)∧IntsAt wr lB s.last∧SlR 5 repArc wr (V1.heap.size) V2.heap.size (.slice aA l.length cA) l∧Grow w wr∧Box wr (w.heap.size) [.int .i64 (N:Int),.slice a0 es.length c0])
   case atStart=>exact⟨0,by simp,rfl,rfl,FL,SA,G,B0⟩
   case round=>
    clear G B0
    obtain⟨m,hm,rfl,rfl,FL,SA,G,B0⟩:=hrel
    obtain⟨R5,rfl⟩:∃V,V=wr:=⟨_,rfl⟩
    by_cases hlt:m<N
    ·have HK:=Lib.hid hm;clear hm
     have hb:=HST.out.iter hn0 hnk m
     obtain⟨hb1,hb2⟩:=hb
     have HIT:Hid (iter (par l s.last) (m+1) nd=par l s.last (iter (par l s.last) m nd)):=rfl
     generalize iter (par l s.last) m nd=u at *
     obtain⟨un,rfl⟩:=Int.eq_ofNat_of_zero_le hb1
     obtain⟨q,hq1,hq2,hq3,hq4,hq5⟩:=par_at HFIN.out (show un<N by omega)
     have x0:=FL un hq1
     rw[hq3]at x0
     obtain⟨b_a,off_a,ha_a,hb1_a,hb2_a,hel_a⟩:=SA.elems q hq2
     obtain⟨ea0,ea1,ea2,ea3,ea4,-⟩:=Arc.atCell hel_a q hq2
     clear hel_a
     have KA:=Lib.hid SA;clear SA
     have KL2:=Lib.hid FL;clear FL
     subst ha_a
     have HQ5:=Lib.hid hq5;clear hq5 hq3 hq4
     generalize l[q]=a at *
     have hmk2:(m:Int)<(N:Int):=by omega
     have hqi:(q:Int)<(l.length:Int):=by omega
     have hq120:q<120:=by omega
     have z0:=B0.lt
     have q0_0:R5.cell? ⟨w.heap.size,0,none⟩=some (.int .i64 (N:Int)):=B0.c 0 _ rfl
     have q0_1:R5.cell? ⟨w.heap.size,1,none⟩=some (.slice a0 es.length c0):=B0.c 1 _ rfl
     have f0:=B0.f
     have hzl:lB<R5.heap.size:=lt_of_cell x0
     go_wp2_with fail
     go_roundg (N-(m+1))
     case measure=>have:=HK.out;omega
     case rel=>exact⟨m+1,by have:=HK.out;omega,by go_num,by rw[HIT.out,HQ5.out],KL2.out,KA.out,G,B0⟩
    ·obtain rfl:N=m:=by omega
     clear hm hlt
     have hb:=HST.out.iter hn0 hnk N
     obtain⟨hb1,hb2⟩:=hb
     have hcb:=comes_back HST.out hn0 hnk
     generalize iter (par l s.last) N nd=v at *
     have z0:=B0.lt
     have q0_0:R5.cell? ⟨w.heap.size,0,none⟩=some (.int .i64 (N:Int)):=B0.c 0 _ rfl
     have q0_1:R5.cell? ⟨w.heap.size,1,none⟩=some (.slice a0 es.length c0):=B0.c 1 _ rfl
     have f0:=B0.f
     have GB:=G;have BB:=B0
     go_wp2_with fail
     have HFL:=Lib.hid FL;have KS2:=Lib.hid SA;have HG0:=Lib.hid G;have HB0:=Lib.hid B0
     clear FL SA G B0 z0 q0_0 q0_1 f0
     have HCB:=Lib.hid hcb;clear hcb
     obtain⟨W5,hW5⟩:∃V,V=R5.alloc (.cells #[] 3):=⟨_,rfl⟩
     have G5:Grow R5 W5:=by rw[hW5];exact(Grow.refl _).alloc _ _
     have OWN0:W5.ownsRow R5.heap.size 3 1 (.slice (some ⟨R5.heap.size,0,none⟩) 0 0) 0 []:=by
      rw[hW5]
      have hm:=World.ownsRow_made (base:=R5.heap.size) (e:=3) (size:=1) R5 #[] 0 (Nat.le_refl _) (by simp[maxLen]) (by simp)
      simpa using hm
     rw[←hW5]
     clear hW5
     go_loopg [14,15] N (fun g vo u wr=>∃(out:List Int) (un:Int) (gg:Nat),gg=g∧u=.int .i64 un∧Grow R5 wr∧wr.ownsRow R5.heap.size 3 1 vo out.length (out.map (Value.int .i64))∧0≤un∧un<N∧(∀y∈out,i64 y)∧out.length≤N∧(((out.length=0∨un≠v)∧out++ringFrom l s.last v gg un=ringFrom l s.last v N v∧(∃d,1≤d∧d≤gg∧iter (par l s.last) d un=v)∧out.length+gg=N)∨(out.length≠0∧un=v∧out=ringFrom l s.last v N v)))
     case atStart=>exact⟨[],v,N,rfl,rfl,G5,OWN0,hb1,hb2,by simp,by simp,.inl ⟨.inl rfl,rfl,HCB.out,by simp⟩⟩
     case round=>
      obtain⟨out,un,gg,hgg,rfl,hg,hown,hu1,hu2,hi64,hol,hph⟩:=hrel
      obtain⟨R9,rfl⟩:∃V,V=wr:=⟨_,rfl⟩
      have hform:=ints_own hown hi64
      obtain⟨av,cv,rfl,_,_,_⟩:=hform
      have HOWN:=Lib.hid hown;have HGW:=Lib.hid hg;have HI:=Lib.hid hi64;have HGG:=Lib.hid hgg;clear hown hg hi64 hgg
      have hN24:out.length≤24:=by omega
      rcases hph with⟨hc,heq,⟨d,hd3,hd4,hd5⟩,hlen⟩|⟨hc,hv,heq⟩
      ·obtain⟨un,rfl⟩:=Int.eq_ofNat_of_zero_le hu1
       obtain⟨q,hq1,hq2,hq3,hq4,hq5⟩:=par_at HFIN.out (show un<N by omega)
       have X0:=HFL.out un hq1
       rw[hq3]at X0
       obtain⟨b_a,off_a,ha_a,hb1_a,hb2_a,hel_a⟩:=KS2.out.elems q hq2
       obtain⟨ea0,ea1,-,-,-,hwa⟩:=Arc.atCell hel_a q hq2
       clear hel_a
       subst ha_a
       obtain⟨hwa,-⟩:=hwa
       have hst1:=HST.out (un:Int) hu1 hu2
       rcases gg with _|gg
       ·omega
       rw[ringFrom_step,hq4]at heq
       rw[hq5]at heq hst1
       have hpd:d=1→l[q].frm=v:=fun h=>by rw[←hq5,←hd5,h];rfl
       have hpd2:iter (par l s.last) (d-1) l[q].frm=v:=by
        rw[←hq5,←iter_succ',show d-1+1=d by omega];exact hd5
       clear hq5 hq3 hq4
       generalize l[q]=a at *
       have HEQ:=Lib.hid heq;have HP2:=Lib.hid hpd2;have HPD:=Lib.hid hpd;have HLEN:=Lib.hid hlen;have HX0:=Lib.hid X0;have HEA0:=Lib.hid ea0;have HEA1:=Lib.hid ea1;clear heq hpd2 hpd hd5 hlen
       have x0:=cellGrow HGW.out X0
       have x1:=cellGrow HGW.out ea0
       clear X0 ea0 ea1
       have hqi:(q:Int)<(l.length:Int):=by omega
       have hq120:q<120:=by omega
       have hum:(un:Int)<(N:Int):=by omega
       have zl:=lt_of_cell x0
       have za:=lt_of_cell x1
       have HHC:=Lib.hid hc
       by_cases hz:out.length=0
       ·have T0:((out.length:Int)==0)=true:=by rw[beq_iff_eq];omega
        clear hc
        go_wp2_with (at_builtin
                     go_loud (refine wpList_append_g rfl (.tmp 102) (.tmp 111) 46 rfl R5 (show Grow R5 _ by refine Grow.trans HGW.out (b:=R9) ?_;repeat (first|exact Grow.refl _|(refine Grow.alloc ?_ _ _))) 3 i0 _ 1 8 Try.underlying46 hi0 hz0 hz1 hz2 rfl (by omega) (.slice av out.length cv) out.length (out.map (Value.int .i64)) rfl (own_grow HOWN.out (show Grow R9 _ by repeat (first|exact Grow.refl _|(refine Grow.alloc ?_ _ _)))) ⟨R9.heap.size,0,none⟩ 1 1 [.int .i64 a.id] rfl rfl (news_of _ _ _ _ rfl) (fun u hu=>by rw[List.mem_singleton.1 hu];rfl) (by simp only[maxLen];omega) (by omega) ?_)
                     intro v1 w1 hown' hg' hgb hat
                     have HOWN1:=Lib.hid hown';have HG1:=Lib.hid hg'
                     have r0:=cellGrow HG1.out HX0.out;have r1:=cellGrow HG1.out HEA1.out;have zl1:=lt_of_cell r0;have za1:=lt_of_cell r1
                     clear hown' hg' hgb hat)
        have hown2:w1.ownsRow R5.heap.size 3 1 v1 (out++[a.id]).length ((out++[a.id]).map (Value.int .i64)):=by have:=HOWN1.out;rwa [List.map_append,List.length_append]
        have HOWN2:=Lib.hid hown2;clear hown2
        go_roundg gg
        case measure=>have:=HGG.out;omega
        case rel=>
         refine⟨out++[a.id],a.frm,gg,rfl,rfl,HG1.out,HOWN2.out,hst1.1,hst1.2,fun y hy=>?_,by have:=HLEN.out;simp;omega,?_⟩
         ·rcases List.mem_append.1 hy with h|h
          ·exact HI.out y h
          ·rw[List.mem_singleton.1 h];exact hwa
         ·have he:=HEQ.out
          by_cases tv:a.frm=v
          ·right
           rw[if_pos tv]at he
           exact⟨by simp,tv,he⟩
          ·left
           rw[if_neg tv]at he
           exact⟨.inr tv,by rw[←he];simp,⟨d-1,by rcases Nat.lt_or_ge 1 d with h|h;(· omega);exact absurd (HPD.out (by omega)) tv,by omega,HP2.out⟩,by have:=HLEN.out;simp;omega⟩
       ·have T0:((out.length:Int)==0)=false:=by rw[beq_eq_false_iff_ne];omega
        have T1:((un:Int) != v)=true:=by
         rcases hc with h|h
         ·exact absurd h hz
         ·simpa using h
        clear hc
        go_wp2_with (at_builtin
                     go_loud (refine wpList_append_g rfl (.tmp 102) (.tmp 111) 46 rfl R5 (show Grow R5 _ by refine Grow.trans HGW.out (b:=R9) ?_;repeat (first|exact Grow.refl _|(refine Grow.alloc ?_ _ _))) 3 i0 _ 1 8 Try.underlying46 hi0 hz0 hz1 hz2 rfl (by omega) (.slice av out.length cv) out.length (out.map (Value.int .i64)) rfl (own_grow HOWN.out (show Grow R9 _ by repeat (first|exact Grow.refl _|(refine Grow.alloc ?_ _ _)))) ⟨R9.heap.size,0,none⟩ 1 1 [.int .i64 a.id] rfl rfl (news_of _ _ _ _ rfl) (fun u hu=>by rw[List.mem_singleton.1 hu];rfl) (by simp only[maxLen];omega) (by omega) ?_)
                     intro v1 w1 hown' hg' hgb hat
                     have HOWN1:=Lib.hid hown';have HG1:=Lib.hid hg'
                     have r0:=cellGrow HG1.out HX0.out;have r1:=cellGrow HG1.out HEA1.out;have zl1:=lt_of_cell r0;have za1:=lt_of_cell r1
                     clear hown' hg' hgb hat)
        have hown2:w1.ownsRow R5.heap.size 3 1 v1 (out++[a.id]).length ((out++[a.id]).map (Value.int .i64)):=by have:=HOWN1.out;rwa [List.map_append,List.length_append]
        have HOWN2:=Lib.hid hown2;clear hown2
        go_roundg gg
        case measure=>have:=HGG.out;omega
        case rel=>
         refine⟨out++[a.id],a.frm,gg,rfl,rfl,HG1.out,HOWN2.out,hst1.1,hst1.2,fun y hy=>?_,by have:=HLEN.out;simp;omega,?_⟩
         ·rcases List.mem_append.1 hy with h|h
          ·exact HI.out y h
          ·rw[List.mem_singleton.1 h];exact hwa
         ·have he:=HEQ.out
          by_cases tv:a.frm=v
          ·right
           rw[if_pos tv]at he
           exact⟨by simp,tv,he⟩
          ·left
           rw[if_neg tv]at he
           exact⟨.inr tv,by rw[←he];simp,⟨d-1,by rcases Nat.lt_or_ge 1 d with h|h;(· omega);exact absurd (HPD.out (by omega)) tv,by omega,HP2.out⟩,by have:=HLEN.out;simp;omega⟩
      ·subst hv
       have T0:((out.length:Int)==0)=false:=by rw[beq_eq_false_iff_ne];omega
       have T1:(un != un)=false:=by simp
       have htot:out=ringL ⟨(N:Int),es⟩ f:=heq.trans HL.out.symm
       have SO:=ints_own HOWN.out HI.out
       have SO:=SO.stable repInt_stable (Same.refl _ _ _) (lo':=w.heap.size) (by have:=HG0.out.size;omega) (Nat.le_refl _)
       rw[htot]at SO
       have HTOT:=Lib.hid htot;clear htot heq
       have HSO:=Lib.hid SO;clear SO
       go_wp2_with fail
       go_ret2
       exact⟨av,cv,by rw[HB.out,←HTOT.out];rfl,HG0.out.trans HGW.out,by rw[←HTOT.out];have h:=HSO.out;rwa [←HTOT.out]at h⟩
end Go.Proofs.Ytnlpbgljaecdmaa
namespace Go.Proofs.Ytnlpbgljaecdmaa
open Go.RowKit
set_option maxHeartbeats 16000000
set_option maxRecDepth 100000
set_option linter.unusedSimpArgs false
set_option linter.unusedVariables false
theorem cheapIt_end{x:Graph}{f:List Int}(m:Nat)(h:ringOk x f=false):cheapIt x m f=(true,f):=by
 cases m<;>(unfold cheapIt;rw[h];rfl)
theorem cheapIt_more{x:Graph}{f:List Int}(h:ringOk x f=true):cheapIt x 0 f=(false,[]):=by unfold cheapIt;rw[if_pos h]
theorem cheapIt_go{x:Graph}{f:List Int}(m:Nat)(h:ringOk x f=true)(h2:pushOk x f (ringL x f)=true):cheapIt x (m+1) f=cheapIt x m (pushL x f (ringL x f)):=by
 rw[cheapIt,if_pos h,if_pos h2]
theorem cheap_yes{x:Graph}{f:List Int}(hg:graphOk x=true)(h:cheapIt x 400 (List.replicate x.edges.length 0)=(true,f)):cheapOk x=true∧cheapL x=f:=by
 have h1:cheapOk x=true:=by unfold cheapOk;rw[hg,h];rfl
 exact⟨h1,by unfold cheapL;rw[if_pos h1,h]⟩
theorem cheap_no{x:Graph}(h:cheapIt x 400 (List.replicate x.edges.length 0)=(false,[])):cheapOk x=false∧cheapL x=[]:=by
 have h1:cheapOk x=false:=by unfold cheapOk;rw[h];simp
 exact⟨h1,by unfold cheapL;rw[h1];rfl⟩
theorem impl_Cheapest_c(x:Graph)(a0:Option Addr)(c0:Nat)(w:World)(h0:SlR 4 repEdge w 0 w.heap.size (.slice a0 x.edges.length c0) x.edges) :
 Calls Try.prog 11 #[.agg #[.int .i64 x.n,.slice a0 x.edges.length c0]] w fun e w'=>∃a c,e=.returned (.tuple #[.slice a (cheapL x).length c,.bool (cheapOk x)])∧Grow w w'∧SlR 1 repInt w' w.heap.size w'.heap.size (.slice a (cheapL x).length c) (cheapL x):=by
 have H0:=Lib.hid h0
 clear h0
 go_enter Try.func11,Try.ntmps11
 go_wp2_with fail
 refine(impl_GraphOk_c x _ _ _ (H0.out.grow' repEdge_stable (Grow.below ((Grow.refl w).alloc _ _)))).mono ?_
 rintro e V1 ⟨rfl,gs⟩
 have ys:=Grow.size gs
 simp only[World.size_setCell,World.size_alloc]at ys
 have B0:Box V1 (w.heap.size) [.int .i64 x.n,.slice a0 x.edges.length c0]:=Box.grow (Box.newAt (by simp) _ _) gs
 have G:Grow w V1:=Grow.trans ((Grow.refl w).alloc _ _) gs
 clear gs
 have z0:=B0.lt
 have q0_0:V1.cell? ⟨w.heap.size,0,none⟩=some (.int .i64 x.n):=B0.c 0 _ rfl
 have q0_1:V1.cell? ⟨w.heap.size,1,none⟩=some (.slice a0 x.edges.length c0):=B0.c 1 _ rfl
 have f0:=B0.f
 cases hok:graphOk x
 ·have HB:Hid (cheapOk x=false):=by
   show _=_
   unfold cheapOk;rw[hok];rfl
  have HL:Hid (cheapL x=[]):=by
   show _=_
   unfold cheapL;rw[HB.out];rfl
  go_wp2_with fail
  go_ret2
  exact⟨none,0,by rw[HL.out,HB.out];rfl,G,by rw[HL.out];exact SlR.nil⟩
 have h60:x.edges.length≤60:=by
  have h:=hok
  unfold graphOk at h
  simp only[Bool.and_eq_true,decide_eq_true_eq]at h
  exact h.1.2
 have HOK:=Lib.hid hok;clear hok
 have hmk:=fun w=>madeInts x.edges.length (by omega) w
 go_wp2_with fail
 have hint:=IntsAt.made V1 x.edges.length 3
 have gs:Grow V1 (V1.alloc (.cells (madeCells #[.int .i64 0] x.edges.length) 3)):=(Grow.refl _).alloc _ _
 have SF:SlR 1 repInt (V1.alloc (.cells (madeCells #[.int .i64 0] x.edges.length) 3)) w.heap.size (V1.alloc (.cells (madeCells #[.int .i64 0] x.edges.length) 3)).heap.size (.slice (some ⟨V1.heap.size,0,none⟩) (List.replicate x.edges.length (0:Int)).length x.edges.length) (List.replicate x.edges.length 0):=by
  have h:=hint.slr (lo:=w.heap.size) (hi:=(V1.alloc (.cells (madeCells #[.int .i64 0] x.edges.length) 3)).heap.size) (rep:=repInt) (by omega) (by simp) (by simp only[List.length_replicate,maxLen];omega) (fun i hi=>⟨rfl,by unfold i64;simp⟩)
  rwa [show (Value.slice (some ⟨V1.heap.size,0,none⟩) (List.replicate x.edges.length (0:Int)).length (List.replicate x.edges.length (0:Int)).length)=.slice (some ⟨V1.heap.size,0,none⟩) (List.replicate x.edges.length (0:Int)).length x.edges.length by simp]at h
 obtain⟨W,hW⟩:∃W,W=V1.alloc (.cells (madeCells #[.int .i64 0] x.edges.length) 3):=⟨_,rfl⟩
 rw[←hW]at gs SF ⊢
 clear hW hint
 clear z0 q0_0 q0_1 f0
 replace G:=G.trans gs
 replace B0:=B0.grow gs
 clear gs
 have hrl:(List.replicate x.edges.length (0:Int)).length=x.edges.length:=List.length_replicate
 go_loopg [4,18] 400 (fun g fv i wr=>∃(k:Nat) (f:List Int) (a:Option Addr) (c:Nat),k+g=400∧i=.int .i64 k∧fv=.slice a f.length c∧SlR 1 repInt wr w.heap.size wr.heap.size (.slice a f.length c) f∧cheapIt x g f=cheapIt x 400 (List.replicate x.edges.length 0)∧Grow w wr∧Box wr (w.heap.size) [.int .i64 x.n,.slice a0 x.edges.length c0])
 case atStart=>exact⟨0,List.replicate x.edges.length 0,some ⟨V1.heap.size,0,none⟩,x.edges.length,by simp,rfl,by rw[hrl],SF,rfl,G,B0⟩
 case round=>
  clear G B0 SF
  obtain⟨k,f,a,c,hk,rfl,rfl,SF,hit,G,B0⟩:=hrel
  obtain⟨R,rfl⟩:∃V,V=wr:=⟨_,rfl⟩
  have HIT:=Lib.hid hit;clear hit
  have HSF:=Lib.hid SF;clear SF
  by_cases hlt:k<400
  ·obtain⟨g1,hg1⟩:∃m,400-k=m+1:=⟨400-k-1,by omega⟩
   have hgk:∀g,k+g=400→g=g1+1:=fun g h=>by omega
   have e1:=hgk _ hk
   have HK:=Lib.hid hk;clear hk
   have HIT2:Hid (cheapIt x (g1+1) f=cheapIt x 400 (List.replicate x.edges.length 0)):=by have h:=HIT.out;rw[e1]at h;exact h
   clear e1 HIT
   have z0:=B0.lt
   have q0_0:R.cell? ⟨w.heap.size,0,none⟩=some (.int .i64 x.n):=B0.c 0 _ rfl
   have q0_1:R.cell? ⟨w.heap.size,1,none⟩=some (.slice a0 x.edges.length c0):=B0.c 1 _ rfl
   have f0:=B0.f
   go_wp2_with fail
   have hsz:=G.size
   refine(impl_Ring_c x _ _ f _ _ _ (H0.out.grow' repEdge_stable (Grow.below G)) (HSF.out.stable repInt_stable (Same.refl _ _ _) (Nat.zero_le _) (Nat.le_refl _))).mono ?_
   rintro e V2 ⟨aR,cR,rfl,gs,SR⟩
   have gsR:=Lib.hid gs
   clear z0 q0_0 q0_1 f0
   have ys:=Grow.size gs
   replace B0:Box V2 (w.heap.size) [.int .i64 x.n,.slice a0 x.edges.length c0]:=Box.grow B0 gs
   replace G:Grow w V2:=Grow.trans G gs
   clear gs
   --
   have z0:=B0.lt
   have q0_0:V2.cell? ⟨w.heap.size,0,none⟩=some (.int .i64 x.n):=B0.c 0 _ rfl
   have q0_1:V2.cell? ⟨w.heap.size,1,none⟩=some (.slice a0 x.edges.length c0):=B0.c 1 _ rfl
   have f0:=B0.f
   replace HSF:Hid (SlR 1 repInt V2 w.heap.size V2.heap.size (.slice a f.length c) f):=HSF.out.stable repInt_stable (gsR.out.same (Nat.le_refl _)) (Nat.le_refl _) gsR.out.size
   cases hro:ringOk x f
   ·have hcy:=cheap_yes HOK.out (HIT2.out.symm.trans (cheapIt_end _ hro))
    obtain⟨hB,hL⟩:=hcy
    have HB:=Lib.hid hB;have HL:=Lib.hid hL;clear hB hL
    go_wp2_with fail
    go_ret2
    exact⟨a,c,by rw[HL.out,HB.out];rfl,G,by rw[HL.out];exact HSF.out⟩
   have HRO:=Lib.hid hro;have HPR:=Lib.hid (push_ring hro);clear hro
   have HSR:=Lib.hid SR;clear SR
   clear z0 q0_0 q0_1 f0
   have z0:=B0.lt
   have q0_0:V2.cell? ⟨w.heap.size,0,none⟩=some (.int .i64 x.n):=B0.c 0 _ rfl
   have q0_1:V2.cell? ⟨w.heap.size,1,none⟩=some (.slice a0 x.edges.length c0):=B0.c 1 _ rfl
   have f0:=B0.f
   go_wp2_with fail
   refine(impl_Push_c x _ _ f _ _ (ringL x f) _ _ _ (H0.out.grow' repEdge_stable (Grow.below G)) (HSF.out.stable repInt_stable (Same.refl _ _ _) (Nat.zero_le _) (Nat.le_refl _)) (HSR.out.all repInt_stable (Nat.le_refl _)) (by have:=ringL_len x f;omega)).mono ?_
   rintro e V3 ⟨aP,cP,rfl,gs,SP⟩
   clear z0 q0_0 q0_1 f0
   have ys:=Grow.size gs
   replace B0:Box V3 (w.heap.size) [.int .i64 x.n,.slice a0 x.edges.length c0]:=Box.grow B0 gs
   replace G:Grow w V3:=Grow.trans G gs
   clear gs
   --
   have z0:=B0.lt
   have q0_0:V3.cell? ⟨w.heap.size,0,none⟩=some (.int .i64 x.n):=B0.c 0 _ rfl
   have q0_1:V3.cell? ⟨w.heap.size,1,none⟩=some (.slice a0 x.edges.length c0):=B0.c 1 _ rfl
   have f0:=B0.f
   rw[HPR.out]
   have hsz2:=hsz
   have HSP:=Lib.hid SP;clear SP
   go_wp2_with fail
   go_roundg g1
   case measure=>have:=hgk _ HK.out;omega
   case rel=>exact⟨k+1,pushL x f (ringL x f),aP,cP,by omega,by go_num,rfl,HSP.out.stable repInt_stable (Same.refl _ _ _) (by omega) (Nat.le_refl _),by rw[←HIT2.out];exact(cheapIt_go _ HRO.out HPR.out).symm,G,B0⟩
  ·have hgk:∀g,k+g=400→g=0:=fun g h=>by omega
   have e1:=hgk _ hk
   have HIT2:Hid (cheapIt x 0 f=cheapIt x 400 (List.replicate x.edges.length 0)):=by have h:=HIT.out;rw[e1]at h;exact h
   clear e1 HIT hk
   have z0:=B0.lt
   have q0_0:R.cell? ⟨w.heap.size,0,none⟩=some (.int .i64 x.n):=B0.c 0 _ rfl
   have q0_1:R.cell? ⟨w.heap.size,1,none⟩=some (.slice a0 x.edges.length c0):=B0.c 1 _ rfl
   have f0:=B0.f
   go_wp2_with fail
   have hsz:=G.size
   refine(impl_Ring_c x _ _ f _ _ _ (H0.out.grow' repEdge_stable (Grow.below G)) (HSF.out.stable repInt_stable (Same.refl _ _ _) (Nat.zero_le _) (Nat.le_refl _))).mono ?_
   rintro e V4 ⟨aR,cR,rfl,gs,SR⟩
   have gsR:=Lib.hid gs
   clear z0 q0_0 q0_1 f0
   have ys:=Grow.size gs
   replace B0:Box V4 (w.heap.size) [.int .i64 x.n,.slice a0 x.edges.length c0]:=Box.grow B0 gs
   replace G:Grow w V4:=Grow.trans G gs
   clear gs
   --
   have z0:=B0.lt
   have q0_0:V4.cell? ⟨w.heap.size,0,none⟩=some (.int .i64 x.n):=B0.c 0 _ rfl
   have q0_1:V4.cell? ⟨w.heap.size,1,none⟩=some (.slice a0 x.edges.length c0):=B0.c 1 _ rfl
   have f0:=B0.f
   replace HSF:Hid (SlR 1 repInt V4 w.heap.size V4.heap.size (.slice a f.length c) f):=HSF.out.stable repInt_stable (gsR.out.same (Nat.le_refl _)) (Nat.le_refl _) gsR.out.size
   cases hro:ringOk x f
   ·have hcy:=cheap_yes HOK.out (HIT2.out.symm.trans (cheapIt_end _ hro))
    obtain⟨hB,hL⟩:=hcy
    have HB:=Lib.hid hB;have HL:=Lib.hid hL;clear hB hL
    go_wp2_with fail
    go_ret2
    exact⟨a,c,by rw[HL.out,HB.out];rfl,G,by rw[HL.out];exact HSF.out⟩
   ·have hcy:=cheap_no (HIT2.out.symm.trans (cheapIt_more hro))
    obtain⟨hB,hL⟩:=hcy
    have HB:=Lib.hid hB;have HL:=Lib.hid hL;clear hB hL
    go_wp2_with fail
    go_ret2
    exact⟨none,0,by rw[HL.out,HB.out];rfl,G,by rw[HL.out];exact SlR.nil⟩
theorem spec_Cheapest_c(x:Graph)(a0:Option Addr)(c0:Nat)(w:World)(h0:SlR 4 repEdge w 0 w.heap.size (.slice a0 x.edges.length c0) x.edges) :
 Calls Try.prog 13 #[.agg #[.int .i64 x.n,.slice a0 x.edges.length c0]] w fun e w'=>∃a c,e=.returned (.tuple #[.slice a (cheapL x).length c,.bool (cheapOk x)])∧Grow w w'∧SlR 1 repInt w' w.heap.size w'.heap.size (.slice a (cheapL x).length c) (cheapL x):=by
 have H0:=Lib.hid h0
 clear h0
 go_enter Try.func13,Try.ntmps13
 go_wp2_with fail
 refine(spec_GraphOk_c x _ _ _ (H0.out.grow' repEdge_stable (Grow.below ((Grow.refl w).alloc _ _)))).mono ?_
 rintro e V1 ⟨rfl,gs⟩
 have ys:=Grow.size gs
 simp only[World.size_setCell,World.size_alloc]at ys
 have B0:Box V1 (w.heap.size) [.int .i64 x.n,.slice a0 x.edges.length c0]:=Box.grow (Box.newAt (by simp) _ _) gs
 have G:Grow w V1:=Grow.trans ((Grow.refl w).alloc _ _) gs
 clear gs
 have z0:=B0.lt
 have q0_0:V1.cell? ⟨w.heap.size,0,none⟩=some (.int .i64 x.n):=B0.c 0 _ rfl
 have q0_1:V1.cell? ⟨w.heap.size,1,none⟩=some (.slice a0 x.edges.length c0):=B0.c 1 _ rfl
 have f0:=B0.f
 cases hok:graphOk x
 ·have HB:Hid (cheapOk x=false):=by
   show _=_
   unfold cheapOk;rw[hok];rfl
  have HL:Hid (cheapL x=[]):=by
   show _=_
   unfold cheapL;rw[HB.out];rfl
  go_wp2_with fail
  go_ret2
  exact⟨none,0,by rw[HL.out,HB.out];rfl,G,by rw[HL.out];exact SlR.nil⟩
 have h60:x.edges.length≤60:=by
  have h:=hok
  unfold graphOk at h
  simp only[Bool.and_eq_true,decide_eq_true_eq]at h
  exact h.1.2
 have HOK:=Lib.hid hok;clear hok
 have hmk:=fun w=>madeInts x.edges.length (by omega) w
 go_wp2_with fail
 have hint:=IntsAt.made V1 x.edges.length 3
 have gs:Grow V1 (V1.alloc (.cells (madeCells #[.int .i64 0] x.edges.length) 3)):=(Grow.refl _).alloc _ _
 have SF:SlR 1 repInt (V1.alloc (.cells (madeCells #[.int .i64 0] x.edges.length) 3)) w.heap.size (V1.alloc (.cells (madeCells #[.int .i64 0] x.edges.length) 3)).heap.size (.slice (some ⟨V1.heap.size,0,none⟩) (List.replicate x.edges.length (0:Int)).length x.edges.length) (List.replicate x.edges.length 0):=by
  have h:=hint.slr (lo:=w.heap.size) (hi:=(V1.alloc (.cells (madeCells #[.int .i64 0] x.edges.length) 3)).heap.size) (rep:=repInt) (by omega) (by simp) (by simp only[List.length_replicate,maxLen];omega) (fun i hi=>⟨rfl,by unfold i64;simp⟩)
  rwa [show (Value.slice (some ⟨V1.heap.size,0,none⟩) (List.replicate x.edges.length (0:Int)).length (List.replicate x.edges.length (0:Int)).length)=.slice (some ⟨V1.heap.size,0,none⟩) (List.replicate x.edges.length (0:Int)).length x.edges.length by simp]at h
 obtain⟨W,hW⟩:∃W,W=V1.alloc (.cells (madeCells #[.int .i64 0] x.edges.length) 3):=⟨_,rfl⟩
 rw[←hW]at gs SF ⊢
 clear hW hint
 clear z0 q0_0 q0_1 f0
 replace G:=G.trans gs
 replace B0:=B0.grow gs
 clear gs
 have hrl:(List.replicate x.edges.length (0:Int)).length=x.edges.length:=List.length_replicate
 go_loopg [4,5] 400 (fun g fv i wr=>∃(k:Nat) (f:List Int) (a:Option Addr) (c:Nat),k+g=400∧i=.int .i64 k∧fv=.slice a f.length c∧SlR 1 repInt wr w.heap.size wr.heap.size (.slice a f.length c) f∧cheapIt x g f=cheapIt x 400 (List.replicate x.edges.length 0)∧Grow w wr∧Box wr (w.heap.size) [.int .i64 x.n,.slice a0 x.edges.length c0])
 case atStart=>exact⟨0,List.replicate x.edges.length 0,some ⟨V1.heap.size,0,none⟩,x.edges.length,by simp,rfl,by rw[hrl],SF,rfl,G,B0⟩
 case round=>
  clear G B0 SF
  obtain⟨k,f,a,c,hk,rfl,rfl,SF,hit,G,B0⟩:=hrel
  obtain⟨R,rfl⟩:∃V,V=wr:=⟨_,rfl⟩
  have HIT:=Lib.hid hit;clear hit
  have HSF:=Lib.hid SF;clear SF
  by_cases hlt:k<400
  ·obtain⟨g1,hg1⟩:∃m,400-k=m+1:=⟨400-k-1,by omega⟩
   have hgk:∀g,k+g=400→g=g1+1:=fun g h=>by omega
   have e1:=hgk _ hk
   have HK:=Lib.hid hk;clear hk
   have HIT2:Hid (cheapIt x (g1+1) f=cheapIt x 400 (List.replicate x.edges.length 0)):=by have h:=HIT.out;rw[e1]at h;exact h
   clear e1 HIT
   have z0:=B0.lt
   have q0_0:R.cell? ⟨w.heap.size,0,none⟩=some (.int .i64 x.n):=B0.c 0 _ rfl
   have q0_1:R.cell? ⟨w.heap.size,1,none⟩=some (.slice a0 x.edges.length c0):=B0.c 1 _ rfl
   have f0:=B0.f
   go_wp2_with fail
   have hsz:=G.size
   refine(spec_Ring_c x _ _ f _ _ _ (H0.out.grow' repEdge_stable (Grow.below G)) (HSF.out.stable repInt_stable (Same.refl _ _ _) (Nat.zero_le _) (Nat.le_refl _))).mono ?_
   rintro e V2 ⟨aR,cR,rfl,gs,SR⟩
   have gsR:=Lib.hid gs
   clear z0 q0_0 q0_1 f0
   have ys:=Grow.size gs
   replace B0:Box V2 (w.heap.size) [.int .i64 x.n,.slice a0 x.edges.length c0]:=Box.grow B0 gs
   replace G:Grow w V2:=Grow.trans G gs
   clear gs
   --
   have z0:=B0.lt
   have q0_0:V2.cell? ⟨w.heap.size,0,none⟩=some (.int .i64 x.n):=B0.c 0 _ rfl
   have q0_1:V2.cell? ⟨w.heap.size,1,none⟩=some (.slice a0 x.edges.length c0):=B0.c 1 _ rfl
   have f0:=B0.f
   replace HSF:Hid (SlR 1 repInt V2 w.heap.size V2.heap.size (.slice a f.length c) f):=HSF.out.stable repInt_stable (gsR.out.same (Nat.le_refl _)) (Nat.le_refl _) gsR.out.size
   cases hro:ringOk x f
   ·have hcy:=cheap_yes HOK.out (HIT2.out.symm.trans (cheapIt_end _ hro))
    obtain⟨hB,hL⟩:=hcy
    have HB:=Lib.hid hB;have HL:=Lib.hid hL;clear hB hL
    go_wp2_with fail
    go_ret2
    exact⟨a,c,by rw[HL.out,HB.out];rfl,G,by rw[HL.out];exact HSF.out⟩
   have HRO:=Lib.hid hro;have HPR:=Lib.hid (push_ring hro);clear hro
   have HSR:=Lib.hid SR;clear SR
   clear z0 q0_0 q0_1 f0
   have z0:=B0.lt
   have q0_0:V2.cell? ⟨w.heap.size,0,none⟩=some (.int .i64 x.n):=B0.c 0 _ rfl
   have q0_1:V2.cell? ⟨w.heap.size,1,none⟩=some (.slice a0 x.edges.length c0):=B0.c 1 _ rfl
   have f0:=B0.f
   go_wp2_with fail
   refine(spec_Push_c x _ _ f _ _ (ringL x f) _ _ _ (H0.out.grow' repEdge_stable (Grow.below G)) (HSF.out.stable repInt_stable (Same.refl _ _ _) (Nat.zero_le _) (Nat.le_refl _)) (HSR.out.all repInt_stable (Nat.le_refl _)) (by have:=ringL_len x f;omega)).mono ?_
   rintro e V3 ⟨aP,cP,rfl,gs,SP⟩
   clear z0 q0_0 q0_1 f0
   have ys:=Grow.size gs
   replace B0:Box V3 (w.heap.size) [.int .i64 x.n,.slice a0 x.edges.length c0]:=Box.grow B0 gs
   replace G:Grow w V3:=Grow.trans G gs
   clear gs
   --
   have z0:=B0.lt
   have q0_0:V3.cell? ⟨w.heap.size,0,none⟩=some (.int .i64 x.n):=B0.c 0 _ rfl
   have q0_1:V3.cell? ⟨w.heap.size,1,none⟩=some (.slice a0 x.edges.length c0):=B0.c 1 _ rfl
   have f0:=B0.f
   rw[HPR.out]
   have hsz2:=hsz
   have HSP:=Lib.hid SP;clear SP
   go_wp2_with fail
   go_roundg g1
   case measure=>have:=hgk _ HK.out;omega
   case rel=>exact⟨k+1,pushL x f (ringL x f),aP,cP,by omega,by go_num,rfl,HSP.out.stable repInt_stable (Same.refl _ _ _) (by omega) (Nat.le_refl _),by rw[←HIT2.out];exact(cheapIt_go _ HRO.out HPR.out).symm,G,B0⟩
  ·have hgk:∀g,k+g=400→g=0:=fun g h=>by omega
   have e1:=hgk _ hk
   have HIT2:Hid (cheapIt x 0 f=cheapIt x 400 (List.replicate x.edges.length 0)):=by have h:=HIT.out;rw[e1]at h;exact h
   clear e1 HIT hk
   have z0:=B0.lt
   have q0_0:R.cell? ⟨w.heap.size,0,none⟩=some (.int .i64 x.n):=B0.c 0 _ rfl
   have q0_1:R.cell? ⟨w.heap.size,1,none⟩=some (.slice a0 x.edges.length c0):=B0.c 1 _ rfl
   have f0:=B0.f
   go_wp2_with fail
   have hsz:=G.size
   refine(spec_Ring_c x _ _ f _ _ _ (H0.out.grow' repEdge_stable (Grow.below G)) (HSF.out.stable repInt_stable (Same.refl _ _ _) (Nat.zero_le _) (Nat.le_refl _))).mono ?_
   rintro e V4 ⟨aR,cR,rfl,gs,SR⟩
   have gsR:=Lib.hid gs
   clear z0 q0_0 q0_1 f0
   have ys:=Grow.size gs
   replace B0:Box V4 (w.heap.size) [.int .i64 x.n,.slice a0 x.edges.length c0]:=Box.grow B0 gs
   replace G:Grow w V4:=Grow.trans G gs
   clear gs
   --
   have z0:=B0.lt
   have q0_0:V4.cell? ⟨w.heap.size,0,none⟩=some (.int .i64 x.n):=B0.c 0 _ rfl
   have q0_1:V4.cell? ⟨w.heap.size,1,none⟩=some (.slice a0 x.edges.length c0):=B0.c 1 _ rfl
   have f0:=B0.f
   replace HSF:Hid (SlR 1 repInt V4 w.heap.size V4.heap.size (.slice a f.length c) f):=HSF.out.stable repInt_stable (gsR.out.same (Nat.le_refl _)) (Nat.le_refl _) gsR.out.size
   cases hro:ringOk x f
   ·have hcy:=cheap_yes HOK.out (HIT2.out.symm.trans (cheapIt_end _ hro))
    obtain⟨hB,hL⟩:=hcy
    have HB:=Lib.hid hB;have HL:=Lib.hid hL;clear hB hL
    go_wp2_with fail
    go_ret2
    exact⟨a,c,by rw[HL.out,HB.out];rfl,G,by rw[HL.out];exact HSF.out⟩
   ·have hcy:=cheap_no (HIT2.out.symm.trans (cheapIt_more hro))
    obtain⟨hB,hL⟩:=hcy
    have HB:=Lib.hid hB;have HL:=Lib.hid hL;clear hB hL
    go_wp2_with fail
    go_ret2
    exact⟨none,0,by rw[HL.out,HB.out];rfl,G,by rw[HL.out];exact SlR.nil⟩
end Go.Proofs.Ytnlpbgljaecdmaa
