/- PricesOk, of the program and of the reference. -/
import Derived.Test.YtnlpbgljaecdmaaKPick
import Derived.Test.YtnlpbgljaecdmaaKOwn
namespace Go.Proofs.Ytnlpbgljaecdmaa
open Go.RowKit
set_option maxHeartbeats 16000000
set_option maxRecDepth 100000
set_option linter.unusedSimpArgs false
set_option linter.unusedVariables false
def samePr(p q:Price):Bool:=(q.frm==p.frm)&&(q.to==p.to)
def priceAt(cs:List Chan)(l:List Price)(i:Nat):Bool:=match l[i]? with|some p=>two cs p.frm p.to&&inB p.ppm 0 1000000&&!((l.take i).any (samePr p))|none=>true
def pricesOk(x:Book)(l:List Price):Bool:=bookOk x&&decide (l.length≤20)&&(List.range l.length).all (priceAt x.chans l)
theorem range_no{n k:Nat}{p:Nat→Bool}(hk:k<n)(h:p k=false):(List.range n).all p=false:=by
 rw[List.all_eq_false];exact⟨k,by simpa using hk,by simp[h]⟩
theorem range_yes{n:Nat}{p:Nat→Bool}(h:∀j,j<n→p j=true):(List.range n).all p=true:=by
 rw[List.all_eq_true];intro j hj;exact h j (by simpa using hj)
theorem any_take_succ{α:Type}{p:α→Bool}{l:List α}{k:Nat}(hk:k<l.length):(l.take (k+1)).any p=((l.take k).any p||p l[k]):=by
 rw[List.take_succ_eq_append_getElem hk,List.any_append];simp
theorem any_hit{α:Type}{p:α→Bool}{l:List α}{j k:Nat}(hj:j<l.length)(hk:j<k)(h:p l[j]=true):(l.take k).any p=true:=by
 rw[List.any_eq_true]
 exact⟨l[j],by rw[List.mem_take_iff_getElem];exact⟨j,by omega,rfl⟩,h⟩
theorem impl_PricesOk_c(x:Book)(a0:Option Addr)(c0:Nat)(a1:Option Addr)(c1:Nat)(a2:Option Addr)(c2:Nat)(l:List Price)(a3:Option Addr)(c3:Nat)(w:World)(h0:SlR 7 repChan w 0 w.heap.size (.slice a0 x.chans.length c0) x.chans)(h1:SlR 7 repHtlc w 0 w.heap.size (.slice a1 x.htlcs.length c1) x.htlcs)(h2:SlR 5 repCircle w 0 w.heap.size (.slice a2 x.circles.length c2) x.circles)(h3:SlR 3 repPrice w 0 w.heap.size (.slice a3 l.length c3) l)(hn:x.chans.length≤1048576)(hl:l.length≤1048576) :
 Calls Try.prog 14 #[.agg #[.int .i64 x.tick,.int .i64 x.next,.int .i64 x.wallet,.slice a0 x.chans.length c0,.slice a1 x.htlcs.length c1,.slice a2 x.circles.length c2],.slice a3 l.length c3] w fun e w'=>e=.returned (.bool (pricesOk x l))∧Grow w w':=by
 have hlc:=SlR.cap h3
 have H0:=Lib.hid h0;have H1:=Lib.hid h1;have H2:=Lib.hid h2;have H3:=Lib.hid h3
 clear h0 h1 h2 h3
 have HP:Hid (pricesOk x l=(bookOk x&&decide (l.length≤20)&&(List.range l.length).all (priceAt x.chans l))):=rfl
 have HL:=Lib.hid hl
 have HLC:=Lib.hid hlc
 go_enter Try.func14,Try.ntmps14
 go_wp2_with fail
 refine(impl_BookOk_c x _ _ _ _ _ _ _ (H0.out.grow' repChan_stable (Grow.below ((Grow.refl w).alloc _ _))) (H1.out.grow' repHtlc_stable (Grow.below ((Grow.refl w).alloc _ _))) (H2.out.grow' repCircle_stable (Grow.below ((Grow.refl w).alloc _ _))) hn).mono ?_
 rintro e V1 ⟨rfl,gs⟩
 have ys:=Grow.size gs
 simp only[World.size_setCell,World.size_alloc]at ys
 have B0:Box V1 (w.heap.size) [.int .i64 x.tick,.int .i64 x.next,.int .i64 x.wallet,.slice a0 x.chans.length c0,.slice a1 x.htlcs.length c1,.slice a2 x.circles.length c2]:=Box.grow (Box.newAt (by simp) _ _) gs
 have G:Grow w V1:=Grow.trans ((Grow.refl w).alloc _ _) gs
 clear gs
 have z0:=B0.lt
 have q0_0:V1.cell? ⟨w.heap.size,0,none⟩=some (.int .i64 x.tick):=B0.c 0 _ rfl
 have q0_1:V1.cell? ⟨w.heap.size,1,none⟩=some (.int .i64 x.next):=B0.c 1 _ rfl
 have q0_2:V1.cell? ⟨w.heap.size,2,none⟩=some (.int .i64 x.wallet):=B0.c 2 _ rfl
 have q0_3:V1.cell? ⟨w.heap.size,3,none⟩=some (.slice a0 x.chans.length c0):=B0.c 3 _ rfl
 have q0_4:V1.cell? ⟨w.heap.size,4,none⟩=some (.slice a1 x.htlcs.length c1):=B0.c 4 _ rfl
 have q0_5:V1.cell? ⟨w.heap.size,5,none⟩=some (.slice a2 x.circles.length c2):=B0.c 5 _ rfl
 have f0:=B0.f
 by_cases hb:bookOk x=true
 rotate_left
 ·have HR:Hid (pricesOk x l=false):=by
   show _=_
   rw[HP.out];simp[hb]
  have hb:bookOk x=false:=by simpa using hb
  go_wp2_with fail
  all_goals
   go_ret
   exact⟨by rw[HR.out];rfl,G⟩
 by_cases h20:l.length≤20
 rotate_left
 ·have HR:Hid (pricesOk x l=false):=by
   show _=_
   rw[HP.out];simp[h20]
  have q:decide ((20:Int)<(l.length:Int))=true:=by simp;omega
  go_wp2_with fail
  all_goals
   go_ret
   exact⟨by rw[HR.out];rfl,G⟩
 have q20:decide ((20:Int)<(l.length:Int))=false:=by simp;omega
 have HHEAD:Hid (pricesOk x l=(List.range l.length).all (priceAt x.chans l)):=by
  show _=_
  rw[HP.out];simp[hb,h20]
 go_wp2_with fail
 clear z0 q0_0 q0_1 q0_2 q0_3 q0_4 q0_5 f0
 go_loopg [19] l.length (fun g i wr=>∃k:Nat,k+g=l.length∧i=.int .i64 k∧(∀j,j<k→priceAt x.chans l j=true)∧Grow w wr∧Box wr (w.heap.size) [.int .i64 x.tick,.int .i64 x.next,.int .i64 x.wallet,.slice a0 x.chans.length c0,.slice a1 x.htlcs.length c1,.slice a2 x.circles.length c2])
 case atStart=>exact⟨0,by simp,rfl,fun j h=>absurd h (by omega),G,B0⟩
 case round=>
  clear G B0
  obtain⟨k,hk,rfl,hall,G,B0⟩:=hrel
  obtain⟨R2,rfl⟩:∃V,V=wr:=⟨_,rfl⟩
  have HALL:=Lib.hid hall;clear hall
  by_cases hlt:k<l.length
  ·have HK:=Lib.hid hk;clear hk
   have HNO:Hid (priceAt x.chans l k=false→pricesOk x l=false):=fun h=>by rw[HHEAD.out];exact range_no hlt h
   have HPA:Hid (priceAt x.chans l k=(two x.chans l[k].frm l[k].to&&inB l[k].ppm 0 1000000&&!((l.take k).any (samePr l[k])))):=by
    show _=_
    unfold priceAt;rw[List.getElem?_eq_getElem hlt]
   have HTW:Hid (two x.chans l[k].frm l[k].to=(!(l[k].frm==l[k].to)&&decide (0≤chanAt x.chans l[k].frm)&&decide (0≤chanAt x.chans l[k].to))):=rfl
   have z0:=B0.lt
   have q0_0:R2.cell? ⟨w.heap.size,0,none⟩=some (.int .i64 x.tick):=B0.c 0 _ rfl
   have q0_1:R2.cell? ⟨w.heap.size,1,none⟩=some (.int .i64 x.next):=B0.c 1 _ rfl
   have q0_2:R2.cell? ⟨w.heap.size,2,none⟩=some (.int .i64 x.wallet):=B0.c 2 _ rfl
   have q0_3:R2.cell? ⟨w.heap.size,3,none⟩=some (.slice a0 x.chans.length c0):=B0.c 3 _ rfl
   have q0_4:R2.cell? ⟨w.heap.size,4,none⟩=some (.slice a1 x.htlcs.length c1):=B0.c 4 _ rfl
   have q0_5:R2.cell? ⟨w.heap.size,5,none⟩=some (.slice a2 x.circles.length c2):=B0.c 5 _ rfl
   have f0:=B0.f
   obtain⟨b_e,off_e,ha_e,hb1_e,hb2_e,hel_e⟩:=H3.out.elems k hlt
   obtain⟨ee0,ee1,ee2,-⟩:=Price.atCell (hel_e.same repPrice_stable (G.same (Nat.le_refl _)) hb1_e hb2_e) k hlt
   subst ha_e
   clear hel_e
   generalize l[k]=e at *
   by_cases t1:e.frm=e.to
   ·have T1:=Lib.hid t1
    go_wp2_with fail
    all_goals
     go_ret
     exact⟨by rw[HNO.out (by rw[HPA.out,HTW.out,T1.out];simp)];rfl,(G.alloc _ _)⟩
   have T1:=Lib.hid t1
   have qe:(e.frm==e.to)=false:=by simpa using t1
   go_wp2_with fail
   refine(impl_chanAt_c x _ _ _ _ _ _ e.frm _ (H0.out.grow' repChan_stable (Grow.below (G.alloc _ _))) hn).mono ?_
   rintro e V3 ⟨rfl,gs⟩
   clear z0 q0_0 q0_1 q0_2 q0_3 q0_4 q0_5 f0
   have ys:=Grow.size gs
   simp only[World.size_setCell,World.size_alloc]at ys
   replace B0:Box V3 (w.heap.size) [.int .i64 x.tick,.int .i64 x.next,.int .i64 x.wallet,.slice a0 x.chans.length c0,.slice a1 x.htlcs.length c1,.slice a2 x.circles.length c2]:=Box.grow (B0.alloc _ _) gs
   have B1:Box V3 (R2.heap.size) [.int .i64 e.frm,.int .i64 e.to,.int .i64 e.ppm]:=Box.grow (Box.newAt (by simp) _ _) gs
   replace G:Grow w V3:=Grow.trans (G.alloc _ _) gs
   clear gs
   have z0:=B0.lt
   have z1:=B1.lt
   have q0_0:V3.cell? ⟨w.heap.size,0,none⟩=some (.int .i64 x.tick):=B0.c 0 _ rfl
   have q0_1:V3.cell? ⟨w.heap.size,1,none⟩=some (.int .i64 x.next):=B0.c 1 _ rfl
   have q0_2:V3.cell? ⟨w.heap.size,2,none⟩=some (.int .i64 x.wallet):=B0.c 2 _ rfl
   have q0_3:V3.cell? ⟨w.heap.size,3,none⟩=some (.slice a0 x.chans.length c0):=B0.c 3 _ rfl
   have q0_4:V3.cell? ⟨w.heap.size,4,none⟩=some (.slice a1 x.htlcs.length c1):=B0.c 4 _ rfl
   have q0_5:V3.cell? ⟨w.heap.size,5,none⟩=some (.slice a2 x.circles.length c2):=B0.c 5 _ rfl
   have f0:=B0.f
   have q1_0:V3.cell? ⟨R2.heap.size,0,none⟩=some (.int .i64 e.frm):=B1.c 0 _ rfl
   have q1_1:V3.cell? ⟨R2.heap.size,1,none⟩=some (.int .i64 e.to):=B1.c 1 _ rfl
   have q1_2:V3.cell? ⟨R2.heap.size,2,none⟩=some (.int .i64 e.ppm):=B1.c 2 _ rfl
   have f1:=B1.f
   by_cases t2:0≤chanAt x.chans e.frm
   rotate_left
   ·have T2:=Lib.hid t2
    generalize chanAt x.chans e.frm=pa at *
    go_wp2_with fail
    all_goals
     go_ret
     exact⟨by rw[HNO.out (by rw[HPA.out,HTW.out,show decide (0≤pa)=false from decide_eq_false (by have:=T2.out;omega)];simp)];rfl,G⟩
   have T2:=Lib.hid t2
   generalize chanAt x.chans e.frm=pa at *
   have qa:decide (pa<0)=false:=by simp;omega
   go_wp2_with fail
   refine(impl_chanAt_c x _ _ _ _ _ _ e.to _ (H0.out.grow' repChan_stable (Grow.below G)) hn).mono ?_
   rintro e V4 ⟨rfl,gs⟩
   clear z0 z1 q0_0 q0_1 q0_2 q0_3 q0_4 q0_5 f0 q1_0 q1_1 q1_2 f1
   have ys:=Grow.size gs
   replace B0:Box V4 (w.heap.size) [.int .i64 x.tick,.int .i64 x.next,.int .i64 x.wallet,.slice a0 x.chans.length c0,.slice a1 x.htlcs.length c1,.slice a2 x.circles.length c2]:=Box.grow B0 gs
   replace B1:Box V4 (R2.heap.size) [.int .i64 e.frm,.int .i64 e.to,.int .i64 e.ppm]:=Box.grow B1 gs
   replace G:Grow w V4:=Grow.trans G gs
   clear gs
   have z0:=B0.lt
   have z1:=B1.lt
   have q0_0:V4.cell? ⟨w.heap.size,0,none⟩=some (.int .i64 x.tick):=B0.c 0 _ rfl
   have q0_1:V4.cell? ⟨w.heap.size,1,none⟩=some (.int .i64 x.next):=B0.c 1 _ rfl
   have q0_2:V4.cell? ⟨w.heap.size,2,none⟩=some (.int .i64 x.wallet):=B0.c 2 _ rfl
   have q0_3:V4.cell? ⟨w.heap.size,3,none⟩=some (.slice a0 x.chans.length c0):=B0.c 3 _ rfl
   have q0_4:V4.cell? ⟨w.heap.size,4,none⟩=some (.slice a1 x.htlcs.length c1):=B0.c 4 _ rfl
   have q0_5:V4.cell? ⟨w.heap.size,5,none⟩=some (.slice a2 x.circles.length c2):=B0.c 5 _ rfl
   have f0:=B0.f
   have q1_0:V4.cell? ⟨R2.heap.size,0,none⟩=some (.int .i64 e.frm):=B1.c 0 _ rfl
   have q1_1:V4.cell? ⟨R2.heap.size,1,none⟩=some (.int .i64 e.to):=B1.c 1 _ rfl
   have q1_2:V4.cell? ⟨R2.heap.size,2,none⟩=some (.int .i64 e.ppm):=B1.c 2 _ rfl
   have f1:=B1.f
   by_cases t3:0≤chanAt x.chans e.to
   rotate_left
   ·have T3:=Lib.hid t3
    generalize chanAt x.chans e.to=pb at *
    go_wp2_with fail
    all_goals
     go_ret
     exact⟨by rw[HNO.out (by rw[HPA.out,HTW.out,show decide (0≤pb)=false from decide_eq_false (by have:=T3.out;omega)];simp)];rfl,G⟩
   have T3:=Lib.hid t3
   generalize chanAt x.chans e.to=pb at *
   have qb:decide (pb<0)=false:=by simp;omega
   have HTW2:Hid (two x.chans e.frm e.to=true):=by
    show _=_
    rw[HTW.out];have:=T1.out;have:=T2.out;have:=T3.out;simp;omega
   cases t4:inB e.ppm 0 1000000
   ·have T4:=Lib.hid t4
    go_wp2_with (go_at_call 16;refine(in_c _ _ _ _).mono ?_;rintro e w' ⟨rfl,rfl⟩)
    all_goals
     go_ret
     exact⟨by rw[HNO.out (by rw[HPA.out,T4.out];simp)];rfl,G⟩
   have T4:=Lib.hid t4
   have hkc:(k:Int)≤(c3:Int):=by have:=HLC.out;omega
   go_wp2_with (go_at_call 16;refine(in_c _ _ _ _).mono ?_;rintro e w' ⟨rfl,rfl⟩)
   clear z0 z1 q0_0 q0_1 q0_2 q0_3 q0_4 q0_5 f0 q1_0 q1_1 q1_2 f1
   go_loopg [53] k (fun g i wi=>∃j:Nat,j+g=k∧i=.int .i64 j∧(l.take j).any (samePr e)=false∧Grow w wi∧Box wi (w.heap.size) [.int .i64 x.tick,.int .i64 x.next,.int .i64 x.wallet,.slice a0 x.chans.length c0,.slice a1 x.htlcs.length c1,.slice a2 x.circles.length c2]∧Box wi (R2.heap.size) [.int .i64 e.frm,.int .i64 e.to,.int .i64 e.ppm])
   case atStart=>exact⟨0,by simp,rfl,by simp,G,B0,B1⟩
   case round=>
    clear G B0 B1
    obtain⟨j,hj,rfl,hany,G,B0,B1⟩:=hrel
    obtain⟨R5,rfl⟩:∃V,V=wr:=⟨_,rfl⟩
    have HANY:=Lib.hid hany;clear hany
    by_cases hjt:j<k
    ·have hjl:j<l.length:=by omega
     have HJ:=Lib.hid hj;clear hj
     have HSU:Hid ((l.take (j+1)).any (samePr e)=((l.take j).any (samePr e)||samePr e l[j])):=any_take_succ hjl
     have HHI:Hid (samePr e l[j]=true→(l.take k).any (samePr e)=true):=fun h=>any_hit hjl hjt h
     have HSA:Hid (samePr e l[j]=((l[j].frm==e.frm)&&(l[j].to==e.to))):=rfl
     have z0:=B0.lt
     have z1:=B1.lt
     have q0_0:R5.cell? ⟨w.heap.size,0,none⟩=some (.int .i64 x.tick):=B0.c 0 _ rfl
     have q0_1:R5.cell? ⟨w.heap.size,1,none⟩=some (.int .i64 x.next):=B0.c 1 _ rfl
     have q0_2:R5.cell? ⟨w.heap.size,2,none⟩=some (.int .i64 x.wallet):=B0.c 2 _ rfl
     have q0_3:R5.cell? ⟨w.heap.size,3,none⟩=some (.slice a0 x.chans.length c0):=B0.c 3 _ rfl
     have q0_4:R5.cell? ⟨w.heap.size,4,none⟩=some (.slice a1 x.htlcs.length c1):=B0.c 4 _ rfl
     have q0_5:R5.cell? ⟨w.heap.size,5,none⟩=some (.slice a2 x.circles.length c2):=B0.c 5 _ rfl
     have f0:=B0.f
     have q1_0:R5.cell? ⟨R2.heap.size,0,none⟩=some (.int .i64 e.frm):=B1.c 0 _ rfl
     have q1_1:R5.cell? ⟨R2.heap.size,1,none⟩=some (.int .i64 e.to):=B1.c 1 _ rfl
     have q1_2:R5.cell? ⟨R2.heap.size,2,none⟩=some (.int .i64 e.ppm):=B1.c 2 _ rfl
     have f1:=B1.f
     obtain⟨b_f,off_f,ha_f,hb1_f,hb2_f,hel_f⟩:=H3.out.elems j hjl
     injection ha_f with ha_f
     injection ha_f with qb qo
     subst qb qo
     obtain⟨ef0,ef1,ef2,-⟩:=Price.atCell (hel_f.same repPrice_stable (G.same (Nat.le_refl _)) hb1_f hb2_f) j hjl
     clear hel_f
     generalize l[j]=f at *
     by_cases v1:f.frm=e.frm
     rotate_left
     ·have VV:=Lib.hid v1
      have q1:(f.frm==e.frm)=false:=by simpa using v1
      go_wp2_with fail
      go_roundg (k-(j+1))
      case measure=>have:=HJ.out;omega
      case rel=>exact⟨j+1,by have:=HJ.out;omega,by go_num,by rw[HSU.out,HANY.out,HSA.out];have:=VV.out;simp;omega,(G.alloc _ _),(B0.alloc _ _),(B1.alloc _ _)⟩
     have V1_:=Lib.hid v1
     have q1:(f.frm==e.frm)=true:=by simpa using v1
     by_cases v2:f.to=e.to
     rotate_left
     ·have VV:=Lib.hid v2
      have q2:(f.to==e.to)=false:=by simpa using v2
      go_wp2_with fail
      go_roundg (k-(j+1))
      case measure=>have:=HJ.out;omega
      case rel=>exact⟨j+1,by have:=HJ.out;omega,by go_num,by rw[HSU.out,HANY.out,HSA.out];have:=VV.out;simp;omega,(G.alloc _ _),(B0.alloc _ _),(B1.alloc _ _)⟩
     have V2_:=Lib.hid v2
     have q2:(f.to==e.to)=true:=by simpa using v2
     go_wp2_with fail
     go_ret
     exact⟨by rw[HNO.out (by rw[HPA.out,HHI.out (by rw[HSA.out];have:=V1_.out;have:=V2_.out;simp;omega)];simp)];rfl,(G.alloc _ _)⟩
    ·obtain rfl:j=k:=by omega
     have z0:=B0.lt
     have z1:=B1.lt
     have q0_0:R5.cell? ⟨w.heap.size,0,none⟩=some (.int .i64 x.tick):=B0.c 0 _ rfl
     have q0_1:R5.cell? ⟨w.heap.size,1,none⟩=some (.int .i64 x.next):=B0.c 1 _ rfl
     have q0_2:R5.cell? ⟨w.heap.size,2,none⟩=some (.int .i64 x.wallet):=B0.c 2 _ rfl
     have q0_3:R5.cell? ⟨w.heap.size,3,none⟩=some (.slice a0 x.chans.length c0):=B0.c 3 _ rfl
     have q0_4:R5.cell? ⟨w.heap.size,4,none⟩=some (.slice a1 x.htlcs.length c1):=B0.c 4 _ rfl
     have q0_5:R5.cell? ⟨w.heap.size,5,none⟩=some (.slice a2 x.circles.length c2):=B0.c 5 _ rfl
     have f0:=B0.f
     have q1_0:R5.cell? ⟨R2.heap.size,0,none⟩=some (.int .i64 e.frm):=B1.c 0 _ rfl
     have q1_1:R5.cell? ⟨R2.heap.size,1,none⟩=some (.int .i64 e.to):=B1.c 1 _ rfl
     have q1_2:R5.cell? ⟨R2.heap.size,2,none⟩=some (.int .i64 e.ppm):=B1.c 2 _ rfl
     have f1:=B1.f
     go_wp2_with fail
     go_roundg (l.length-(j+1))
     case measure=>have:=HK.out;omega
     case rel=>exact⟨j+1,by have:=HK.out;omega,by go_num,fun i hi=>by
      by_cases he:i=j
      ·rw[he,HPA.out,HTW2.out,T4.out,HANY.out];rfl
      ·exact HALL.out i (by omega),G,B0⟩
  ·have hr:pricesOk x l=true:=by rw[HHEAD.out];exact range_yes (fun j hj=>HALL.out j (by omega))
   have HR:=Lib.hid hr;clear hr
   go_wp2_with fail
   go_ret
   exact⟨by rw[HR.out];rfl,G⟩
theorem spec_PricesOk_c(x:Book)(a0:Option Addr)(c0:Nat)(a1:Option Addr)(c1:Nat)(a2:Option Addr)(c2:Nat)(l:List Price)(a3:Option Addr)(c3:Nat)(w:World)(h0:SlR 7 repChan w 0 w.heap.size (.slice a0 x.chans.length c0) x.chans)(h1:SlR 7 repHtlc w 0 w.heap.size (.slice a1 x.htlcs.length c1) x.htlcs)(h2:SlR 5 repCircle w 0 w.heap.size (.slice a2 x.circles.length c2) x.circles)(h3:SlR 3 repPrice w 0 w.heap.size (.slice a3 l.length c3) l)(hn:x.chans.length≤1048576)(hl:l.length≤1048576) :
 Calls Try.prog 25 #[.agg #[.int .i64 x.tick,.int .i64 x.next,.int .i64 x.wallet,.slice a0 x.chans.length c0,.slice a1 x.htlcs.length c1,.slice a2 x.circles.length c2],.slice a3 l.length c3] w fun e w'=>e=.returned (.bool (pricesOk x l))∧Grow w w':=by
 have hlc:=SlR.cap h3
 have H0:=Lib.hid h0;have H1:=Lib.hid h1;have H2:=Lib.hid h2;have H3:=Lib.hid h3
 clear h0 h1 h2 h3
 have HP:Hid (pricesOk x l=(bookOk x&&decide (l.length≤20)&&(List.range l.length).all (priceAt x.chans l))):=rfl
 have HL:=Lib.hid hl
 have HLC:=Lib.hid hlc
 go_enter Try.func25,Try.ntmps25
 go_wp2_with fail
 refine(spec_BookOk_c x _ _ _ _ _ _ _ (H0.out.grow' repChan_stable (Grow.below ((Grow.refl w).alloc _ _))) (H1.out.grow' repHtlc_stable (Grow.below ((Grow.refl w).alloc _ _))) (H2.out.grow' repCircle_stable (Grow.below ((Grow.refl w).alloc _ _))) hn).mono ?_
 rintro e V1 ⟨rfl,gs⟩
 have ys:=Grow.size gs
 simp only[World.size_setCell,World.size_alloc]at ys
 have B0:Box V1 (w.heap.size) [.int .i64 x.tick,.int .i64 x.next,.int .i64 x.wallet,.slice a0 x.chans.length c0,.slice a1 x.htlcs.length c1,.slice a2 x.circles.length c2]:=Box.grow (Box.newAt (by simp) _ _) gs
 have G:Grow w V1:=Grow.trans ((Grow.refl w).alloc _ _) gs
 clear gs
 have z0:=B0.lt
 have q0_0:V1.cell? ⟨w.heap.size,0,none⟩=some (.int .i64 x.tick):=B0.c 0 _ rfl
 have q0_1:V1.cell? ⟨w.heap.size,1,none⟩=some (.int .i64 x.next):=B0.c 1 _ rfl
 have q0_2:V1.cell? ⟨w.heap.size,2,none⟩=some (.int .i64 x.wallet):=B0.c 2 _ rfl
 have q0_3:V1.cell? ⟨w.heap.size,3,none⟩=some (.slice a0 x.chans.length c0):=B0.c 3 _ rfl
 have q0_4:V1.cell? ⟨w.heap.size,4,none⟩=some (.slice a1 x.htlcs.length c1):=B0.c 4 _ rfl
 have q0_5:V1.cell? ⟨w.heap.size,5,none⟩=some (.slice a2 x.circles.length c2):=B0.c 5 _ rfl
 have f0:=B0.f
 by_cases hb:bookOk x=true
 rotate_left
 ·have HR:Hid (pricesOk x l=false):=by
   show _=_
   rw[HP.out];simp[hb]
  have hb:bookOk x=false:=by simpa using hb
  go_wp2_with fail
  all_goals
   go_ret
   exact⟨by rw[HR.out];rfl,G⟩
 by_cases h20:l.length≤20
 rotate_left
 ·have HR:Hid (pricesOk x l=false):=by
   show _=_
   rw[HP.out];simp[h20]
  have q:decide ((20:Int)<(l.length:Int))=true:=by simp;omega
  go_wp2_with fail
  all_goals
   go_ret
   exact⟨by rw[HR.out];rfl,G⟩
 have q20:decide ((20:Int)<(l.length:Int))=false:=by simp;omega
 have HHEAD:Hid (pricesOk x l=(List.range l.length).all (priceAt x.chans l)):=by
  show _=_
  rw[HP.out];simp[hb,h20]
 go_wp2_with fail
 clear z0 q0_0 q0_1 q0_2 q0_3 q0_4 q0_5 f0
 go_loopg [18] l.length (fun g i wr=>∃k:Nat,k+g=l.length∧i=.int .i64 k∧(∀j,j<k→priceAt x.chans l j=true)∧Grow w wr∧Box wr (w.heap.size) [.int .i64 x.tick,.int .i64 x.next,.int .i64 x.wallet,.slice a0 x.chans.length c0,.slice a1 x.htlcs.length c1,.slice a2 x.circles.length c2])
 case atStart=>exact⟨0,by simp,rfl,fun j h=>absurd h (by omega),G,B0⟩
 case round=>
  clear G B0
  obtain⟨k,hk,rfl,hall,G,B0⟩:=hrel
  obtain⟨R2,rfl⟩:∃V,V=wr:=⟨_,rfl⟩
  have HALL:=Lib.hid hall;clear hall
  by_cases hlt:k<l.length
  ·have HK:=Lib.hid hk;clear hk
   have HNO:Hid (priceAt x.chans l k=false→pricesOk x l=false):=fun h=>by rw[HHEAD.out];exact range_no hlt h
   have HPA:Hid (priceAt x.chans l k=(two x.chans l[k].frm l[k].to&&inB l[k].ppm 0 1000000&&!((l.take k).any (samePr l[k])))):=by
    show _=_
    unfold priceAt;rw[List.getElem?_eq_getElem hlt]
   have HTW:Hid (two x.chans l[k].frm l[k].to=(!(l[k].frm==l[k].to)&&decide (0≤chanAt x.chans l[k].frm)&&decide (0≤chanAt x.chans l[k].to))):=rfl
   have z0:=B0.lt
   have q0_0:R2.cell? ⟨w.heap.size,0,none⟩=some (.int .i64 x.tick):=B0.c 0 _ rfl
   have q0_1:R2.cell? ⟨w.heap.size,1,none⟩=some (.int .i64 x.next):=B0.c 1 _ rfl
   have q0_2:R2.cell? ⟨w.heap.size,2,none⟩=some (.int .i64 x.wallet):=B0.c 2 _ rfl
   have q0_3:R2.cell? ⟨w.heap.size,3,none⟩=some (.slice a0 x.chans.length c0):=B0.c 3 _ rfl
   have q0_4:R2.cell? ⟨w.heap.size,4,none⟩=some (.slice a1 x.htlcs.length c1):=B0.c 4 _ rfl
   have q0_5:R2.cell? ⟨w.heap.size,5,none⟩=some (.slice a2 x.circles.length c2):=B0.c 5 _ rfl
   have f0:=B0.f
   obtain⟨b_e,off_e,ha_e,hb1_e,hb2_e,hel_e⟩:=H3.out.elems k hlt
   obtain⟨ee0,ee1,ee2,-⟩:=Price.atCell (hel_e.same repPrice_stable (G.same (Nat.le_refl _)) hb1_e hb2_e) k hlt
   subst ha_e
   clear hel_e
   generalize l[k]=e at *
   go_wp2_with fail
   refine(spec_Two_c x _ _ _ _ _ _ e.frm e.to _ (H0.out.grow' repChan_stable (Grow.below (G.alloc _ _))) hn).mono ?_
   rintro e V3 ⟨rfl,gs⟩
   clear z0 q0_0 q0_1 q0_2 q0_3 q0_4 q0_5 f0
   have ys:=Grow.size gs
   simp only[World.size_setCell,World.size_alloc]at ys
   replace B0:Box V3 (w.heap.size) [.int .i64 x.tick,.int .i64 x.next,.int .i64 x.wallet,.slice a0 x.chans.length c0,.slice a1 x.htlcs.length c1,.slice a2 x.circles.length c2]:=Box.grow (B0.alloc _ _) gs
   have B1:Box V3 (R2.heap.size) [.int .i64 e.frm,.int .i64 e.to,.int .i64 e.ppm]:=Box.grow (Box.newAt (by simp) _ _) gs
   replace G:Grow w V3:=Grow.trans (G.alloc _ _) gs
   clear gs
   have z0:=B0.lt
   have z1:=B1.lt
   have q0_0:V3.cell? ⟨w.heap.size,0,none⟩=some (.int .i64 x.tick):=B0.c 0 _ rfl
   have q0_1:V3.cell? ⟨w.heap.size,1,none⟩=some (.int .i64 x.next):=B0.c 1 _ rfl
   have q0_2:V3.cell? ⟨w.heap.size,2,none⟩=some (.int .i64 x.wallet):=B0.c 2 _ rfl
   have q0_3:V3.cell? ⟨w.heap.size,3,none⟩=some (.slice a0 x.chans.length c0):=B0.c 3 _ rfl
   have q0_4:V3.cell? ⟨w.heap.size,4,none⟩=some (.slice a1 x.htlcs.length c1):=B0.c 4 _ rfl
   have q0_5:V3.cell? ⟨w.heap.size,5,none⟩=some (.slice a2 x.circles.length c2):=B0.c 5 _ rfl
   have f0:=B0.f
   have q1_0:V3.cell? ⟨R2.heap.size,0,none⟩=some (.int .i64 e.frm):=B1.c 0 _ rfl
   have q1_1:V3.cell? ⟨R2.heap.size,1,none⟩=some (.int .i64 e.to):=B1.c 1 _ rfl
   have q1_2:V3.cell? ⟨R2.heap.size,2,none⟩=some (.int .i64 e.ppm):=B1.c 2 _ rfl
   have f1:=B1.f
   cases t1:two x.chans e.frm e.to
   ·have T1:=Lib.hid t1
    go_wp2_with fail
    all_goals
     go_ret
     exact⟨by rw[HNO.out (by rw[HPA.out,T1.out];simp)];rfl,G⟩
   have HTW2:Hid (two x.chans e.frm e.to=true):=t1
   by_cases u1:0≤e.ppm
   rotate_left
   ·have U1:=Lib.hid u1
    go_wp2_with fail
    all_goals
     go_ret
     exact⟨by rw[HNO.out (by rw[HPA.out,show inB e.ppm 0 1000000=false from inB_false.2 (by have:=U1.out;omega)];simp)];rfl,G⟩
   by_cases u2:e.ppm≤1000000
   rotate_left
   ·have U1:=Lib.hid u1;have U2:=Lib.hid u2
    go_wp2_with fail
    all_goals
     go_ret
     exact⟨by rw[HNO.out (by rw[HPA.out,show inB e.ppm 0 1000000=false from inB_false.2 (by have:=U2.out;omega)];simp)];rfl,G⟩
   have T4:Hid (inB e.ppm 0 1000000=true):=inB_true.2 ⟨u1,u2⟩
   go_wp2_with fail
   clear z0 z1 q0_0 q0_1 q0_2 q0_3 q0_4 q0_5 f0 q1_0 q1_1 q1_2 f1
   go_loopg [7] k (fun g i wi=>∃j:Nat,j+g=k∧i=.int .i64 j∧(l.take j).any (samePr e)=false∧Grow w wi∧Box wi (w.heap.size) [.int .i64 x.tick,.int .i64 x.next,.int .i64 x.wallet,.slice a0 x.chans.length c0,.slice a1 x.htlcs.length c1,.slice a2 x.circles.length c2]∧Box wi (R2.heap.size) [.int .i64 e.frm,.int .i64 e.to,.int .i64 e.ppm])
   case atStart=>exact⟨0,by simp,rfl,by simp,G,B0,B1⟩
   case round=>
    clear G B0 B1
    obtain⟨j,hj,rfl,hany,G,B0,B1⟩:=hrel
    obtain⟨R4,rfl⟩:∃V,V=wr:=⟨_,rfl⟩
    have HANY:=Lib.hid hany;clear hany
    by_cases hjt:j<k
    ·have hjl:j<l.length:=by omega
     have HJ:=Lib.hid hj;clear hj
     have HSU:Hid ((l.take (j+1)).any (samePr e)=((l.take j).any (samePr e)||samePr e l[j])):=any_take_succ hjl
     have HHI:Hid (samePr e l[j]=true→(l.take k).any (samePr e)=true):=fun h=>any_hit hjl hjt h
     have HSA:Hid (samePr e l[j]=((l[j].frm==e.frm)&&(l[j].to==e.to))):=rfl
     have z0:=B0.lt
     have z1:=B1.lt
     have q0_0:R4.cell? ⟨w.heap.size,0,none⟩=some (.int .i64 x.tick):=B0.c 0 _ rfl
     have q0_1:R4.cell? ⟨w.heap.size,1,none⟩=some (.int .i64 x.next):=B0.c 1 _ rfl
     have q0_2:R4.cell? ⟨w.heap.size,2,none⟩=some (.int .i64 x.wallet):=B0.c 2 _ rfl
     have q0_3:R4.cell? ⟨w.heap.size,3,none⟩=some (.slice a0 x.chans.length c0):=B0.c 3 _ rfl
     have q0_4:R4.cell? ⟨w.heap.size,4,none⟩=some (.slice a1 x.htlcs.length c1):=B0.c 4 _ rfl
     have q0_5:R4.cell? ⟨w.heap.size,5,none⟩=some (.slice a2 x.circles.length c2):=B0.c 5 _ rfl
     have f0:=B0.f
     have q1_0:R4.cell? ⟨R2.heap.size,0,none⟩=some (.int .i64 e.frm):=B1.c 0 _ rfl
     have q1_1:R4.cell? ⟨R2.heap.size,1,none⟩=some (.int .i64 e.to):=B1.c 1 _ rfl
     have q1_2:R4.cell? ⟨R2.heap.size,2,none⟩=some (.int .i64 e.ppm):=B1.c 2 _ rfl
     have f1:=B1.f
     obtain⟨b_f,off_f,ha_f,hb1_f,hb2_f,hel_f⟩:=H3.out.elems j hjl
     injection ha_f with ha_f
     injection ha_f with qb qo
     subst qb qo
     obtain⟨ef0,ef1,ef2,-⟩:=Price.atCell (hel_f.same repPrice_stable (G.same (Nat.le_refl _)) hb1_f hb2_f) j hjl
     clear hel_f
     generalize l[j]=f at *
     by_cases v1:f.frm=e.frm
     rotate_left
     ·have VV:=Lib.hid v1
      have q1:(f.frm==e.frm)=false:=by simpa using v1
      go_wp2_with fail
      go_quiet (fail)
      go_wp2_with fail
      go_roundg (k-(j+1))
      case measure=>have:=HJ.out;omega
      case rel=>exact⟨j+1,by have:=HJ.out;omega,by go_num,by rw[HSU.out,HANY.out,HSA.out];have:=VV.out;simp;omega,(G.drewN _),(B0.drewN _),(B1.drewN _)⟩
     have V1_:=Lib.hid v1
     have q1:(f.frm==e.frm)=true:=by simpa using v1
     by_cases v2:f.to=e.to
     rotate_left
     ·have VV:=Lib.hid v2
      have q2:(f.to==e.to)=false:=by simpa using v2
      go_wp2_with fail
      go_quiet (fail)
      go_wp2_with fail
      go_roundg (k-(j+1))
      case measure=>have:=HJ.out;omega
      case rel=>exact⟨j+1,by have:=HJ.out;omega,by go_num,by rw[HSU.out,HANY.out,HSA.out];have:=VV.out;simp;omega,(G.drewN _),(B0.drewN _),(B1.drewN _)⟩
     have V2_:=Lib.hid v2
     have q2:(f.to==e.to)=true:=by simpa using v2
     go_wp2_with fail
     go_quiet (fail)
     go_wp2_with fail
     go_ret
     exact⟨by rw[HNO.out (by rw[HPA.out,HHI.out (by rw[HSA.out];have:=V1_.out;have:=V2_.out;simp;omega)];simp)];rfl,(G.drewN _)⟩
    ·obtain rfl:j=k:=by omega
     have z0:=B0.lt
     have z1:=B1.lt
     have q0_0:R4.cell? ⟨w.heap.size,0,none⟩=some (.int .i64 x.tick):=B0.c 0 _ rfl
     have q0_1:R4.cell? ⟨w.heap.size,1,none⟩=some (.int .i64 x.next):=B0.c 1 _ rfl
     have q0_2:R4.cell? ⟨w.heap.size,2,none⟩=some (.int .i64 x.wallet):=B0.c 2 _ rfl
     have q0_3:R4.cell? ⟨w.heap.size,3,none⟩=some (.slice a0 x.chans.length c0):=B0.c 3 _ rfl
     have q0_4:R4.cell? ⟨w.heap.size,4,none⟩=some (.slice a1 x.htlcs.length c1):=B0.c 4 _ rfl
     have q0_5:R4.cell? ⟨w.heap.size,5,none⟩=some (.slice a2 x.circles.length c2):=B0.c 5 _ rfl
     have f0:=B0.f
     have q1_0:R4.cell? ⟨R2.heap.size,0,none⟩=some (.int .i64 e.frm):=B1.c 0 _ rfl
     have q1_1:R4.cell? ⟨R2.heap.size,1,none⟩=some (.int .i64 e.to):=B1.c 1 _ rfl
     have q1_2:R4.cell? ⟨R2.heap.size,2,none⟩=some (.int .i64 e.ppm):=B1.c 2 _ rfl
     have f1:=B1.f
     go_wp2_with fail
     go_roundg (l.length-(j+1))
     case measure=>have:=HK.out;omega
     case rel=>exact⟨j+1,by have:=HK.out;omega,by go_num,fun i hi=>by
      by_cases he:i=j
      ·rw[he,HPA.out,HTW2.out,T4.out,HANY.out];rfl
      ·exact HALL.out i (by omega),G,B0⟩
  ·have hr:pricesOk x l=true:=by rw[HHEAD.out];exact range_yes (fun j hj=>HALL.out j (by omega))
   have HR:=Lib.hid hr;clear hr
   go_wp2_with fail
   go_ret
   exact⟨by rw[HR.out];rfl,G⟩
end Go.Proofs.Ytnlpbgljaecdmaa
