/- Texts of the proof of FnForward, joined: EA5, EA6. -/
import Derived.Test.YtogkbcmfoalpiaaGreatJForward5
import Derived.Test.YtogkbcmfoalpiaaGreatJForward3
namespace Go.Proofs.YtogkbcmfoalpiaaGreat
open Go.RowKit
set_option maxHeartbeats 16000000
set_option maxRecDepth 100000
set_option linter.unusedSimpArgs false
set_option linter.unusedVariables false
abbrev wRead(x:Book)(l:List Line)(c:Int):AV:=.rp [.v (.int .i64 x.tick),.v (.int .i64 x.next),.v (.int .i64 x.wallet),.lst 40 7 (rowsOf encChan x.chans),.lst 68 7 (rowsOf encHtlc x.htlcs),.lst 78 5 (rowsOf encCircle x.circles),.lst 120 3 (rowsOf encLine l),.v (.int .i64 c)]
def overB(x:Book)(e:Event):Bool:=
 if x.next=1125899906842624 then true
 else if e.kind=1 then decide (1125899906842624<x.wallet+e.amt)
 else if e.kind=2 then decide (1125899906842624<e.amt+e.fee)
 else if e.kind=3∧0≤chanAt x.chans e.ch then decide (1125899906842624<x.wallet+(chanOr x.chans e.ch).loc-e.fee)
 else if e.kind=8 then decide (x.tick=1125899906842624)
 else false
def A50(n:Int):Prop:=-1125899906842624≤n∧n≤1125899906842624
structure BookSm(x:Book):Prop where
 tick:A50 x.tick
 next:A50 x.next
 wallet:A50 x.wallet
 chans:∀c∈x.chans,A50 c.loc∧A50 c.remote∧A50 c.score∧A50 c.base∧A50 c.ppm
 htlcs:∀h∈x.htlcs,A50 h.amtIn∧A50 h.amtOut∧0≤h.age∧h.age≤1125899906842624∧0≤h.amtOut
 circles:∀c∈x.circles,A50 c.amt∧A50 c.fee
 lc:x.chans.length≤20
 lh:x.htlcs.length≤60
 li:x.circles.length≤20
structure EvSm(e:Event):Prop where
 amt:A50 e.amt
 fee:A50 e.fee
theorem mem_of_get{α:Type}{l:List α}{i:Nat}{c:α}(h:l[i]? = some c):c∈l:=List.mem_of_getElem? h
theorem BookSm.hs{x:Book}(h:BookSm x):SmallH x.htlcs:=⟨h.lh,fun y hy=>⟨(h.htlcs y hy).2.2.2.2,(h.htlcs y hy).2.1.2⟩⟩
def mapTo{α:Type}(f:α→α)(k:Nat)(l:List α):List α:=(l.take k).map f++l.drop k
theorem mapTo_zero{α:Type}(f:α→α)(l:List α):mapTo f 0 l=l:=by simp[mapTo]
theorem mapTo_all{α:Type}(f:α→α)(l:List α):mapTo f l.length l=l.map f:=by simp[mapTo]
theorem mapTo_len{α:Type}(f:α→α)(k:Nat)(l:List α)(h:k≤l.length):(mapTo f k l).length=l.length:=by simp[mapTo];omega
theorem mapTo_get{α:Type}(f:α→α){k:Nat}{l:List α}(h:k<l.length):(mapTo f k l)[k]? = some l[k]:=by
 unfold mapTo
 rw[List.getElem?_append_right (by simp;omega)]
 simp only[List.length_map,List.length_take,Nat.min_eq_left (Nat.le_of_lt h),Nat.sub_self,List.getElem?_drop,Nat.add_zero]
 exact List.getElem?_eq_getElem h
theorem mapTo_set{α:Type}(f:α→α){k:Nat}{l:List α}(h:k<l.length):(mapTo f k l).set k (f l[k])=mapTo f (k+1) l:=by
 unfold mapTo
 rw[List.set_append_right _ _ (by simp;omega)]
 simp only[List.length_map,List.length_take,Nat.min_eq_left (Nat.le_of_lt h),Nat.sub_self]
 rw[List.drop_eq_getElem_cons h,List.set_cons_zero,List.take_succ_eq_append_getElem h,List.map_append,List.append_assoc]
 rfl
theorem mapTo_skip{α:Type}(f:α→α){k:Nat}{l:List α}(h:k<l.length)(hf:f l[k]=l[k]):mapTo f k l=mapTo f (k+1) l:=by
 rw[←mapTo_set f h,hf]
 obtain⟨h',e⟩:=List.getElem?_eq_some_iff.1 (mapTo_get f h)
 conv=>rhs;rw[←e]
 exact(List.set_getElem_self h').symm
theorem ins_rows{α:Type}{enc:α→List Value}{l:List α}{c:α}{k:Nat}:((((rowsOf enc l).drop 0).take (k-0))++rowsOf enc [c])++(((rowsOf enc l).drop k).take ((rowsOf enc l).length-k))=rowsOf enc (l.take k++[c]++l.drop k):=by
 rw[List.drop_zero,Nat.sub_zero,List.take_of_length_le (l:=(rowsOf enc l).drop k) (by rw[List.length_drop];exact Nat.le_refl _),rows_take,rows_drop,rowsOf_app,rowsOf_app]
theorem del_rows{α:Type}{enc:α→List Value}{l:List α}{k:Nat}:(((rowsOf enc l).drop 0).take (k-0))++(((rowsOf enc l).drop (k+1)).take ((rowsOf enc l).length-(k+1)))=rowsOf enc (l.take k++l.drop (k+1)):=by
 rw[List.drop_zero,Nat.sub_zero,List.take_of_length_le (l:=(rowsOf enc l).drop (k+1)) (by rw[List.length_drop];exact Nat.le_refl _),rows_take,rows_drop,rowsOf_app]
def ageH(h:Htlc):Htlc:={ h with age:=min (h.age+1) 1125899906842624 }
def fadeC(t:Int)(c:Chan):Chan:=if (t+1).tmod 5=0 then { c with score:=fade c.score } else c
def tickR(x:Book):WR:=⟨{ x with tick:=x.tick+1,htlcs:=x.htlcs.map ageH,chans:=x.chans.map (fadeC x.tick) },[],0⟩
def posC(l:List Chan)(ch:Int):Nat:=l.findIdx fun d=>!decide (d.id<ch)
def insC(l:List Chan)(c:Chan):List Chan:=l.take (posC l c.id)++[c]++l.drop (posC l c.id)
theorem posC_at{l:List Chan}{ch:Int}{k:Nat}(hk:k≤l.length)(h:∀j (h:j<l.length),j<k→l[j].id<ch)(h2:∀h:k<l.length,¬l[k].id<ch):posC l ch=k:=by
 unfold posC
 rcases Nat.lt_or_ge k l.length with q|q
 ·rw[List.findIdx_eq q]
  refine⟨by simpa using h2 q,fun j hj=>by have:=h j (by omega) hj;simpa using this⟩
 ·have e:k=l.length:=by omega
  subst e
  rw[List.findIdx_eq_length]
  intro x hx
  obtain⟨j,hj,rfl⟩:=List.getElem_of_mem hx
  simpa using h j hj hj
theorem id_succ{l:List Chan}{ch:Int}{k:Nat}(hk:k<l.length)(hall:∀j (h:j<l.length),j<k→l[j].id<ch)(h2:l[k].id<ch):∀j (h:j<l.length),j<k+1→l[j].id<ch:=fun j hj hlt=>by
 rcases Nat.lt_or_ge j k with q|q
 ·exact hall j hj q
 ·have e1:j=k:=by omega
  subst e1;exact h2
def openC(x:Book)(e:Event):Int:=failC (decide (x.wallet<e.amt)) (failC (decide (0≤chanAt x.chans e.ch)||decide ((20:Int)≤(x.chans.length:Int))) 0 3) 4
def openR(x:Book)(e:Event):WR:=if openC x e=0 then ⟨{ x with chans:=insC x.chans ⟨e.ch,e.amt+e.fee,e.amt,e.fee,0,0,0⟩,wallet:=x.wallet-e.amt },addL (addL [] 6 e.ch e.amt) 1 0 (-e.amt),0⟩else ⟨x,[],openC x e⟩
theorem openR_no{x:Book}{e:Event}(h:openC x e≠0):openR x e=⟨x,[],openC x e⟩:=if_neg h
theorem openR_yes{x:Book}{e:Event}(h:openC x e=0):openR x e=⟨{ x with chans:=insC x.chans ⟨e.ch,e.amt+e.fee,e.amt,e.fee,0,0,0⟩,wallet:=x.wallet-e.amt },addL (addL [] 6 e.ch e.amt) 1 0 (-e.amt),0⟩:=if_pos h
theorem rangeA_of{n:Int}(h:A50 n):rangeA n=true:=inB_true.2 h
theorem rangeA_neg{n:Int}(h:A50 n):rangeA (-n)=true:=inB_true.2 (by unfold A50 at h;omega)
theorem over_e(x:Book)(e:Event)(sm:BookSm x)(es:EvSm e):GC Tryz.prog 38 [bookV x,evV e] [] (boo (overB x e)) []:=by
 have hm:x.chans.length≤1000000000:=by have:=sm.lc;omega
 have hmh:x.htlcs.length≤1000000000:=by have:=sm.lh;omega
 have hmc:x.circles.length≤1000000000:=by have:=sm.li;omega
 refine gi 4 Tryz.func38 rfl Tryz.ntmps38 rfl ?_
 intro L O w0
 refine sL<|lst (zX 2002 Z) Z<|lst (zX 2003 Z) Z<|laZ Z<|nA<|loX (.agg [vI _ _,vI _ _,vI _ _,vL _ _ _,vL _ _ _,vL _ _ _]) ty.kd27 Z<|lf 2 ty.F29_2 Z<|loI ty.kd3 Z ?_
 rcases chan_find x.chans e.ch with⟨hi,ho⟩|⟨i,c,hi,hc,ho,hid⟩
 ·skip
  refine lst (zL Tryz.func69 (chanAt_e x _ hm) Z) Z<|laI Z<|nG<|aS<|aB<|sL<|lf 1 ty.F27_1 Z<|loI ty.kd3 Z<|lbB Z<|laB Z<|nG ?_
  refine AW.cond rfl ?_ ?_
  ·intro h1
   refine sL<|laT Z<|nG<|aR<|rB<|rT ?_
   refine eBo trivial ?_
   unfold overB
   first
   |(simp_all[←chanAt_atI];done)
   |(simp_all[←chanAt_atI];intros;omega)
  ·intro h1
   refine sL<|lf 0 ty.F29_0 Z<|loI ty.kd3 Z<|lbB Z<|laB Z<|nG ?_
   refine AW.cond rfl ?_ ?_
   ·intro h2
    refine sL<|lf 2 ty.F27_2 Z<|loI ty.kd3 Z<|lf 4 ty.F29_4 Z<|loI ty.kd3 Z ?_
    refine lhI rfl ⟨rfl,fits_i64 (by have:=sm.wallet;have:=es.amt;have:=es.fee;unfold A50 at *;unfold i64;omega)⟩<|lbB Z<|laB Z<|nG<|aR<|rB<|rT ?_
    refine eBo trivial ?_
    unfold overB
    first
    |(simp_all[←chanAt_atI];done)
    |(simp_all[←chanAt_atI];intros;omega)
   ·intro h2
    refine sL<|lf 0 ty.F29_0 Z<|loI ty.kd3 Z<|lbB Z<|laB Z<|nG ?_
    refine AW.cond rfl ?_ ?_
    ·intro h3
     refine sL<|lf 4 ty.F29_4 Z<|loI ty.kd3 Z<|lT [3,4,29] [2002,2003] ?_
     refine lf 5 ty.F29_5 Z<|loI ty.kd3 Z ?_
     refine lhI rfl ⟨rfl,fits_i64 (by have:=sm.wallet;have:=es.amt;have:=es.fee;unfold A50 at *;unfold i64;omega)⟩<|lbB Z<|laB Z<|nG<|aR<|rB<|rT ?_
     refine eBo trivial ?_
     unfold overB
     first
     |(simp_all[←chanAt_atI];done)
     |(simp_all[←chanAt_atI];intros;omega)
    ·intro h3
     refine sL<|lf 0 ty.F29_0 Z<|loI ty.kd3 Z<|lbB Z<|lmB Z ?_
     refine AL.bool (t:=38) rfl ?_ ?_
     ·intro h4
      refine lmI Z<|lbB Z<|lsB 40 false rfl (by rw[←chanAt_atI,hi];simp)<|lkZ Z<|laZ Z<|nG<|aN Z<|sL<|lf 0 ty.F29_0 Z<|loI ty.kd3 Z<|lbB Z<|laB Z<|nG ?_
      refine AW.cond rfl ?_ ?_
      ·intro h5
       refine sL<|lf 0 ty.F27_0 Z<|loI ty.kd3 Z<|lbB Z<|laB Z<|nG<|aR<|rB<|rT ?_
       refine eBo trivial ?_
       unfold overB
       first
       |(simp_all[←chanAt_atI];done)
       |(simp_all[←chanAt_atI];intros;omega)
      ·intro h5
       refine aK<|gB<|gA<|laZ Z<|nG<|aR ?_
       refine eBo trivial ?_
       unfold overB
       first
       |(simp_all[←chanAt_atI];done)
       |(simp_all[←chanAt_atI];intros;omega)
     ·intro h4
      refine lno Z<|lno Z<|lkZ Z<|laZ Z<|nG<|aN Z<|sL<|lf 0 ty.F29_0 Z<|loI ty.kd3 Z<|lbB Z<|laB Z<|nG ?_
      refine AW.cond rfl ?_ ?_
      ·intro h6
       refine sL<|lf 0 ty.F27_0 Z<|loI ty.kd3 Z<|lT [4,60] [2002,2003] ?_
       refine lbB Z<|laB Z<|nG<|aR<|rB<|rT ?_
       refine eBo trivial ?_
       unfold overB
       first
       |(simp_all[←chanAt_atI];done)
       |(simp_all[←chanAt_atI];intros;omega)
      ·intro h6
       refine aK<|gB<|gA<|laZ Z<|nG<|aR ?_
       refine eBo trivial ?_
       unfold overB
       first
       |(simp_all[←chanAt_atI];done)
       |(simp_all[←chanAt_atI];intros;omega)
 ·have hcm:=sm.chans c (mem_of_get hc)
  refine lst (zL Tryz.func69 (chanAt_e x _ hm) Z) Z<|laI Z<|nG<|aS<|aB<|sL<|lf 1 ty.F27_1 Z<|loI ty.kd3 Z<|lbB Z<|laB Z<|nG ?_
  refine AW.cond rfl ?_ ?_
  ·intro h7
   refine sL<|laT Z<|nG<|aR<|rB<|rT ?_
   refine eBo trivial ?_
   unfold overB
   first
   |(simp_all[←chanAt_atI];done)
   |(simp_all[←chanAt_atI];intros;omega)
  ·intro h7
   refine sL<|lf 0 ty.F29_0 Z<|loI ty.kd3 Z<|lbB Z<|laB Z<|nG ?_
   refine AW.cond rfl ?_ ?_
   ·intro h8
    refine sL<|lf 2 ty.F27_2 Z<|loI ty.kd3 Z<|lf 4 ty.F29_4 Z<|loI ty.kd3 Z ?_
    refine lhI rfl ⟨rfl,fits_i64 (by have:=sm.wallet;have:=es.amt;have:=es.fee;unfold A50 at *;unfold i64;omega)⟩<|lbB Z<|laB Z<|nG<|aR<|rB<|rT ?_
    refine eBo trivial ?_
    unfold overB
    first
    |(simp_all[←chanAt_atI];done)
    |(simp_all[←chanAt_atI];intros;omega)
   ·intro h8
    refine sL<|lf 0 ty.F29_0 Z<|loI ty.kd3 Z<|lbB Z<|laB Z<|nG ?_
    refine AW.cond rfl ?_ ?_
    ·intro h9
     refine sL<|lf 4 ty.F29_4 Z<|loI ty.kd3 Z<|lf 5 ty.F29_5 Z<|loI ty.kd3 Z ?_
     refine lhI rfl ⟨rfl,fits_i64 (by have:=sm.wallet;have:=es.amt;have:=es.fee;unfold A50 at *;unfold i64;omega)⟩<|lT [4,32] [2002,2003] ?_
     refine lbB Z<|laB Z<|nG<|aR<|rB<|rT ?_
     refine eBo trivial ?_
     unfold overB
     first
     |(simp_all[←chanAt_atI];done)
     |(simp_all[←chanAt_atI];intros;omega)
    ·intro h9
     refine sL<|lf 0 ty.F29_0 Z<|loI ty.kd3 Z<|lbB Z<|lmB Z ?_
     refine AL.bool (t:=38) rfl ?_ ?_
     ·intro h10
      refine lmI Z<|lbB Z<|lsB 40 true rfl (by rw[←chanAt_atI,hi];simp)<|lkT Z<|laT Z<|nG<|aY Z<|aS<|aG 13 []<|tq 0 (rf 2 ty.F27_2 rfl)<|tq 1 (roI ty.kd3 rfl)<|tq 2 (rf 3 ty.F27_3 rfl)<|tq 3 (roL ty.kd23 rfl)<|tq 4 (rmI rfl)<|tq 5 (rd (x:=.rp _) (rd_iaddr_p (i:=i) rfl ty.el23 rfl rfl ?hn1 (rows_some hc)) rfl) ?_
      case hn1=>rw[←chanAt_atI];exact hi
      refine tq 6 (rd (x:=.rp _) (zfr ty.F40_2 Z) Z)<|tq 7 (rrI ty.kd3 Z) ?_
      refine tq 8 (rhI rfl ⟨rfl,fits_i64 (by have:=hcm.1;have:=sm.wallet;have:=es.amt;have:=es.fee;unfold A50 at *;unfold i64;omega)⟩)<|yq 9 (rf 5 ty.F29_5 rfl)<|yq 10 (roI ty.kd3 rfl) ?_
      refine yq 11 (rhI rfl ⟨rfl,fits_i64 (by have:=hcm.1;have:=sm.wallet;have:=es.amt;have:=es.fee;unfold A50 at *;unfold i64;omega)⟩)<|yq 12 (rbB rfl)<|yq 13 (raB rfl)<|gD<|gT<|aR<|rB<|rT ?_
      refine eBo trivial ?_
      unfold overB
      first
      |(simp_all[←chanAt_atI];done)
      |(simp_all[←chanAt_atI];intros;omega)
     ·intro h10
      refine lno Z<|lno Z<|lkZ Z<|laZ Z<|nG<|aN Z<|sL<|lf 0 ty.F29_0 Z<|loI ty.kd3 Z<|lbB Z<|laB Z<|lT [2,4,55] [2002,2003] ?_
      refine nG ?_
      refine AW.cond rfl ?_ ?_
      ·intro h11
       refine sL<|lf 0 ty.F27_0 Z<|loI ty.kd3 Z<|lbB Z<|laB Z<|nG<|aR<|rB<|rT ?_
       refine eBo trivial ?_
       unfold overB
       first
       |(simp_all[←chanAt_atI];done)
       |(simp_all[←chanAt_atI];intros;omega)
      ·intro h11
       refine aK<|gB<|gA<|laZ Z<|nG<|aR ?_
       refine eBo trivial ?_
       unfold overB
       first
       |(simp_all[←chanAt_atI];done)
       |(simp_all[←chanAt_atI];intros;omega)
theorem allowed_e(x:Book)(l:List Line)(c:Int)(frm to:Chan)(e:Event)(sm:SmallH x.htlcs):GC Tryz.prog 100 [wRead x l c,chV frm,chV to,evV e] [] (int (roomV x.htlcs frm to e.to e.amt e.yes)) []:=by
 refine gi 8 Tryz.func100 rfl Tryz.ntmps100 rfl ?_
 intro L O w0
 refine sL<|lst (zX 2005 Z) Z<|lst (zX 2006 Z) Z<|lst (zX 2007 Z) Z<|laI Z<|nA<|laI Z<|laI Z<|laI Z<|laI Z<|nG<|aS<|sL<|lmX (.rp _) Z<|lq (rd (x:=.rp _) (rd_nilc_rp Z Z) Z)<|lq (rd (x:=.rp _) (zfr ty.F84_0 Z) Z)<|lq (rd (x:=.rp _) (zfr ty.F27_4 Z) Z)<|lrL ty.kd24 Z<|lnI ty.sl24 Z<|lmI Z<|nG<|aB ?_
 refine aW [5,6,7,8,19,20] [2005,2006,2007] (D:=Nat) (fun k=>[(9,int (tot (hFew e.to) (x.htlcs.take k))),(10,int (tot (hOut e.to) (x.htlcs.take k))),(11,int (tot (hOneF e.to) (x.htlcs.take k))),(12,int (tot (hOne e.to) (x.htlcs.take k))),(21,int (k:Int))]) (fun k=>[]) (fun k=>k≤x.htlcs.length) (fun k=>x.htlcs.length-k) (0) (Nat.zero_le _) ⟨rfl,rfl,rfl,rfl,rfl,trivial⟩ trivial ?_
 intro k hI
 have b0:=sm.1
 have b1:=sm.few e.to k
 have b2:=sm.all e.to k
 have b3:=sm.oneF e.to k
 have b4:=sm.one e.to k
 refine sL<|lbB Z<|nG<|aS ?_
 refine AW.cond rfl ?_ ?_
 ·intro h1
  refine aK<|gT<|aS<|aB<|sL ?_
  have hk:k<x.htlcs.length:=by simpa[length_rowsOf]using h1
  have b5:=sm.at hk
  refine li k ty.el24 Z (row_map hk)<|lrX (.agg [vI _ _,vI _ _,vI _ _,vI _ _,vI _ _,vB _,vI _ _]) ty.kd68 Z<|lst (zA 2014 ty.ze68 Z) Z<|lT [5,6,7,8,9,10,11,12,14,19,20,21,24] [2005,2006,2007,2014] ?_
  refine lst (zB 2014 ty.co68 ty.inf68 Z) Z<|nG<|aS<|sL<|lf 2 ty.F68_2 Z<|loI ty.kd3 Z<|lf 3 ty.F29_3 Z<|loI ty.kd3 Z<|lbB Z<|nG ?_
  refine AW.cond rfl ?_ ?_
  ·intro h2
   refine aE<|eT<|eB<|gT<|aL<|lgI Z<|lmI Z<|nG ?_
   refine⟨k+1,hk,by omega,⟨(congrArg int (tot_skip hk (by have h:=h2;simp only[Bool.not_eq_true',decide_eq_false_iff_not,decide_eq_true_eq]at h;unfold hFew;simp[h])).symm),(congrArg int (tot_skip hk (by have h:=h2;simp only[Bool.not_eq_true',decide_eq_false_iff_not,decide_eq_true_eq]at h;unfold hOut;simp[h])).symm),(congrArg int (tot_skip hk (by have h:=h2;simp only[Bool.not_eq_true',decide_eq_false_iff_not,decide_eq_true_eq]at h;unfold hOneF;simp[h])).symm),(congrArg int (tot_skip hk (by have h:=h2;simp only[Bool.not_eq_true',decide_eq_false_iff_not,decide_eq_true_eq]at h;unfold hOne;simp[h])).symm),(iq rfl),trivial⟩,trivial,rfl,rfl⟩
  ·intro h2
   refine aK<|gA<|lmI Z<|lf 4 ty.F68_4 Z<|loI ty.kd3 Z<|lgI Z<|laI Z<|nA<|lmI Z<|lgI Z<|laI Z<|nA<|lf 5 ty.F68_5 Z<|loB ty.kd4 Z<|luB Z<|nG ?_
   refine AW.cond rfl ?_ ?_
   ·intro h3
    refine sL<|lmI Z<|lf 4 ty.F68_4 Z<|loI ty.kd3 Z<|lgI Z<|laI Z<|nG<|aL<|lmI Z<|lgI Z<|laI Z<|lN<|gB<|gT<|aL<|lgI Z<|lmI Z<|nG ?_
    have he:x.htlcs[k].out=e.to:=by simpa using h2
    have hkp:x.htlcs[k].kept=false:=by simpa using h3
    refine⟨k+1,hk,by omega,⟨(Eq.trans (b:=int _) rfl (congrArg int (tot_add hk (by unfold hFew;simp[he,hkp])))),(Eq.trans (b:=int _) rfl (congrArg int (tot_add hk (by unfold hOut;simp[he,hkp])))),(Eq.trans (b:=int _) rfl (congrArg int (tot_add hk (by unfold hOneF;simp[he,hkp])))),(Eq.trans (b:=int _) rfl (congrArg int (tot_add hk (by unfold hOne;simp[he,hkp])))),(iq rfl),trivial⟩,trivial,rfl,rfl⟩
   ·intro h3
    refine aK<|gB<|gT<|aL<|lgI Z<|lT [5,6,7,8,9,10,11,12,19,20,21,45] [2005,2006,2007,2014] ?_
    refine lmI Z<|nG ?_
    have he:x.htlcs[k].out=e.to:=by simpa using h2
    have hkp:x.htlcs[k].kept=true:=by simpa using h3
    refine⟨k+1,hk,by omega,⟨(congrArg int (tot_skip hk (by unfold hFew;simp[he,hkp])).symm),(Eq.trans (b:=int _) rfl (congrArg int (tot_add hk (by unfold hOut;simp[he,hkp])))),(congrArg int (tot_skip hk (by unfold hOneF;simp[he,hkp])).symm),(Eq.trans (b:=int _) rfl (congrArg int (tot_add hk (by unfold hOne;simp[he,hkp])))),(iq rfl),trivial⟩,trivial,rfl,rfl⟩
 ·intro h1
  refine aE<|eT<|eT<|eB<|gT<|aS<|aG 14 []<|tq 0 (rf 1 ty.F40_1 Z)<|tq 1 (roI ty.kd3 Z)<|tq 2 (rmI Z)<|tq 3 (rmI Z)<|tq 4 (rmI Z)<|tq 5 (rmI Z)<|tq 6 (rf 4 ty.F29_4 Z)<|tq 7 (roI ty.kd3 Z)<|tq 8 (rf 6 ty.F40_6 Z)<|tq 9 (roI ty.kd3 Z)<|yq 10 (rf 6 ty.F29_6 Z)<|yq 11 (roB ty.kd4 Z)<|yst 12 Z (zL Tryz.func134 (standing_e _ _) Z)<|gX [8,47,48,49,50,51,53,58] [2005,2006,2007] ?_
  refine yst 13 Z (zL Tryz.func133 (allow_e _ _ _ _ _ _ _) Z)<|yq 14 (raI Z)<|gD<|gT<|aR ?_
  have hke:k=x.htlcs.length:=by have h:=h1;simp only[length_rowsOf,decide_eq_false_iff_not]at h;omega
  subst hke
  refine end_ret ?_ trivial
  refine congrArg (fun n=>some (int n)) ?_
  unfold roomV
  rw[List.take_length]
theorem tick_e(g u:Value)(x:Book)(sm:BookSm x):GC Tryz.prog 46 [.ptr 0 0 0] (wIn g u x [] 0) (.tup []) (wOut g (tickR x)):=by
 have bh:=sm.lh
 have bc:=sm.lc
 refine GC.intro (rs:=[]) Tryz.func46 rfl Tryz.ntmps46 (Nat.le_of_ble_eq_true rfl) trivial ?_
 intro L O w0
 refine AW.unpin 1 rfl ?_
 refine sL<|lmP Z<|lc Z<|lf 0 ty.F84_0 Z<|lf 0 ty.F27_0 Z<|loI ty.kd3 Z ?_
 refine lhI rfl ⟨rfl,fits_i64 (by have:=sm.tick;unfold A50 at this;unfold i64;omega)⟩<|lc Z<|lf 0 ty.F84_0 Z<|lf 0 ty.F27_0 Z<|lst (zB 0 ty.co3 ty.inf3 rfl) Z<|nG<|aS<|sL<|lmP Z<|lc Z<|lf 0 ty.F84_0 Z<|lf 4 ty.F27_4 Z<|loO ty.kd24 Z<|lnI ty.sl24 Z<|lmI Z<|nG<|aB ?_
 refine aW [0,20] [0,1,3,4] (D:=Nat) (fun k=>[(21,int (k:Int))]) (fun k=>[(2,hAr (mapTo ageH k x.htlcs))]) (fun k=>k≤x.htlcs.length) (fun k=>x.htlcs.length-k) (0) (Nat.zero_le _) ⟨rfl,trivial⟩ ⟨(congrArg hAr (mapTo_zero ageH x.htlcs).symm),trivial⟩ ?_
 intro k hI
 refine sL<|lbB Z<|nG<|aS ?_
 refine AW.cond rfl ?_ ?_
 ·intro h1
  refine aK<|gT<|aS<|aB<|sL<|lmI Z<|laI Z<|nA<|lmP Z<|lc Z<|lf 0 ty.F84_0 Z<|lf 4 ty.F27_4 Z<|loO ty.kd24 Z<|lmI Z ?_
  have hk:k<x.htlcs.length:=by simpa[length_rowsOf]using h1
  have hhm:=sm.htlcs _ (List.getElem_mem hk)
  refine lq (rj k ty.el24 rfl (by rw[length_rowsOf,mapTo_len _ _ _ (Nat.le_of_lt hk)];exact hk))<|laP Z<|nG<|aL<|lmP Z<|lmP Z<|lT [0,20,21,31,32] [0,1,2,3,4] ?_
  refine lc Z<|lf 6 ty.F68_6 Z<|lq (rd (x:=vI _ _) (rd_load_arr Z ty.kd3 Z Z Z (rows_some (mapTo_get ageH hk)) Z) Z) ?_
  refine lhI rfl ⟨rfl,fits_i64 (by have:=hhm.2.2.1;have:=hhm.2.2.2.1;unfold i64;omega)⟩<|lq (rd (x:=vI _ _) (rd_min rfl rfl) rfl)<|lc Z<|lf 6 ty.F68_6 Z<|lst (zQ 2 [.v (.int .i64 (min (x.htlcs[k].age+1) 1125899906842624))] ty.co3 ty.inf3 rfl (rows_some (mapTo_get ageH hk))) Z<|lN<|gB<|gT ?_
  refine AW.obj 2 (hAr (mapTo ageH (k+1) x.htlcs)) (Eq.trans (b:=AO.arr 68 7 ((rowsOf encHtlc (mapTo ageH k x.htlcs)).set k ((encHtlc (ageH x.htlcs[k])).map PV.v))) rfl (congrArg (AO.arr 68 7) (rows_set.trans (congrArg (rowsOf encHtlc) (mapTo_set ageH hk))))) ?_
  refine aL<|lgI Z<|lmI Z<|nG ?_
  refine⟨k+1,hk,by omega,⟨(iq rfl),trivial⟩,⟨rfl,trivial⟩,rfl,rfl⟩
 ·intro h1
  refine aE<|eT<|eT<|eB<|gA<|lmP Z<|lc Z<|lf 0 ty.F84_0 Z<|lf 3 ty.F27_3 Z<|loO ty.kd23 Z<|lnI ty.sl23 Z<|lmI Z<|nG<|aB ?_
  have hkeh:k=x.htlcs.length:=by have h:=h1;simp only[length_rowsOf,decide_eq_false_iff_not]at h;omega
  refine AW.obj 2 (hAr (x.htlcs.map ageH)) (congrArg hAr (by rw[hkeh,mapTo_all])) ?_
  refine aW [0,46] [0,2,3,4] (D:=Nat) (fun j=>[(47,int (j:Int))]) (fun j=>[(1,.arr 40 7 (rowsOf encChan (mapTo (fadeC x.tick) j x.chans)))]) (fun j=>j≤x.chans.length) (fun j=>x.chans.length-j) (0) (Nat.zero_le _) ⟨rfl,trivial⟩ ⟨(congrArg (fun l=>AO.arr 40 7 (rowsOf encChan l)) (mapTo_zero (fadeC x.tick) x.chans).symm),trivial⟩ ?_
  intro j hI
  refine sL<|lbB Z<|nG<|aS ?_
  refine AW.cond rfl ?_ ?_
  ·intro h2
   refine aK<|gT<|aS<|aB<|sL<|lmI Z<|laI Z<|nA<|lmP Z<|lc Z<|lf 0 ty.F84_0 Z<|lf 3 ty.F27_3 Z<|loO ty.kd23 Z<|lmI Z ?_
   have hj:j<x.chans.length:=by simpa[length_rowsOf]using h2
   have hcm:=sm.chans _ (List.getElem_mem hj)
   refine lq (rj j ty.el23 rfl (by rw[length_rowsOf,mapTo_len _ _ _ (Nat.le_of_lt hj)];exact hj))<|laP Z<|nA<|lmP Z<|lc Z<|lT [0,5,46,47,58] [0,1,2,3,4] ?_
   refine lf 0 ty.F84_0 Z<|lf 0 ty.F27_0 Z<|loI ty.kd3 Z ?_
   refine lhI rfl ⟨rfl,by decide⟩<|lbB Z<|nG ?_
   refine AW.cond rfl ?_ ?_
   ·intro h3
    refine aL<|lmP Z<|lmP Z<|lc Z<|lf 6 ty.F40_6 Z<|lq (rd (x:=vI _ _) (rd_load_arr Z ty.kd3 Z Z Z (rows_some (mapTo_get _ hj)) Z) Z)<|lst (zL Tryz.func104 (scFade_e _) Z) Z<|lc Z<|lf 6 ty.F40_6 Z<|lst (zQ 1 [.v (.int .i64 (fade x.chans[j].score))] ty.co3 ty.inf3 Z (rows_some (mapTo_get _ hj))) Z<|lT [0,46,47] [0,1,2,3,4] ?_
    refine lN<|gB<|gT ?_
    refine AW.obj 1 (.arr 40 7 (rowsOf encChan (mapTo (fadeC x.tick) (j+1) x.chans))) (Eq.trans (b:=AO.arr 40 7 ((rowsOf encChan (mapTo (fadeC x.tick) j x.chans)).set j ((encChan { x.chans[j]with score:=fade x.chans[j].score }).map PV.v))) rfl (congrArg (AO.arr 40 7) (rows_set.trans (congrArg (rowsOf encChan) (by rw[←mapTo_set _ hj];unfold fadeC;rw[if_pos (by simpa using h3)]))))) ?_
    refine aL<|lgI Z<|lmI Z<|nG ?_
    refine⟨j+1,hj,by omega,⟨(iq rfl),trivial⟩,⟨rfl,trivial⟩,rfl,rfl⟩
   ·intro h3
    refine aK<|gB<|gT<|aL<|lgI Z<|lmI Z<|nG ?_
    refine⟨j+1,hj,by omega,⟨(iq rfl),trivial⟩,⟨(congrArg (fun l=>AO.arr 40 7 (rowsOf encChan l)) (mapTo_skip (fadeC x.tick) hj (if_neg (by simpa using h3)))),trivial⟩,rfl,rfl⟩
  ·intro h2
   refine aE<|eT<|eT<|eB ?_
   refine end_go ?_ ⟨rfl,(congrArg (fun l=>AO.arr 40 7 (rowsOf encChan l)) (by rw[show j=x.chans.length by have h:=h2;simp only[length_rowsOf,decide_eq_false_iff_not]at h;omega,mapTo_all];rfl)),rfl,rfl,rfl,trivial⟩
   rfl
theorem open_e(g u:Value)(x:Book)(e:Event)(sm:BookSm x)(es:EvSm e):GC Tryz.prog 41 [.ptr 0 0 0,evV e] (wIn g u x [] 0) (.tup []) (wOut g (openR x e)):=by
 have hm:x.chans.length≤1000000000:=by have:=sm.lc;omega
 have hmh:x.htlcs.length≤1000000000:=by have:=sm.lh;omega
 have hmc:x.circles.length≤1000000000:=by have:=sm.li;omega
 refine GC.intro (rs:=[]) Tryz.func41 rfl Tryz.ntmps41 (Nat.le_of_ble_eq_true rfl) trivial ?_
 intro L O w0
 refine AW.unpin 1 rfl ?_
 refine sL<|lst (zX 2003 Z) Z<|nG ?_
 refine aJ [0,3] [1,2,3,4,2003] (D:=Unit) (fun jd=>[]) (fun jd=>[(0,wBox g x.tick x.next x.wallet (failC (decide (0≤chanAt x.chans e.ch)||decide ((20:Int)≤(x.chans.length:Int))) 0 3))]) (fun jd=>True) ?_ ?_
 ·refine aG 18 []<|tq 0 (rmP Z)<|tq 1 (rmP Z)<|tq 2 (rc Z)<|tq 3 (rf 0 ty.F84_0 Z)<|tq 4 (roX (.agg [vI _ _,vI _ _,vI _ _,.own _,.own _,.own _]) ty.kd27 Z)<|yq 5 (rf 2 ty.F29_2 Z)<|yq 6 (roI ty.kd3 Z)<|yst 7 Z (zL Tryz.func69 (chanAt_e x _ hm) Z)<|yq 8 (rbB Z)<|yq 9 (rmB Z) ?_
  refine AG.bool (t:=15) rfl ?_ ?_
  ·intro h1
   refine yno 10 Z<|yno 11 Z<|yno 12 Z<|yno 13 Z<|yno 14 Z<|yno 15 Z<|yno 16 Z<|yq 17 (rkT Z) ?_
   refine yl rfl (z5a Tryz.func95 (fail_e _ _ _ _ _ _ _ _ _ _ _ _ _ _ _ _ _ _ _ ) (⟨stays.box rfl,trivial⟩) rfl rfl)<|gT ?_
   refine⟨(),trivial,trivial,⟨(Eq.trans (b:=wBox g x.tick x.next x.wallet _) rfl (congrArg (wBox g x.tick x.next x.wallet) (by rw[show decide (0≤chanAt x.chans e.ch)=true from h1];simp[length_rowsOf]))),trivial⟩,rfl,rfl⟩
  ·intro h1
   refine yq 10 (rmP Z)<|yq 11 (rc Z)<|yq 12 (rf 0 ty.F84_0 Z)<|yq 13 (rf 3 ty.F27_3 Z)<|yq 14 (roO ty.kd23 Z)<|yq 15 (rnI ty.sl23 Z)<|yq 16 (rbB Z)<|yq 17 (rkB Z) ?_
   refine yl rfl (z5a Tryz.func95 (fail_e _ _ _ _ _ _ _ _ _ _ _ _ _ _ _ _ _ _ _ ) (⟨stays.box rfl,trivial⟩) rfl rfl)<|gT ?_
   refine⟨(),trivial,trivial,⟨(Eq.trans (b:=wBox g x.tick x.next x.wallet _) rfl (congrArg (wBox g x.tick x.next x.wallet) (by rw[show decide (0≤chanAt x.chans e.ch)=false from h1];simp[length_rowsOf]))),trivial⟩,rfl,rfl⟩
 ·intro jd hJ
  refine aS<|aG 9 []<|tq 0 (rmP Z)<|tq 1 (rmP Z)<|tq 2 (rc Z)<|tq 3 (rf 0 ty.F84_0 Z)<|tq 4 (rf 2 ty.F27_2 Z)<|tq 5 (roI ty.kd3 Z)<|yq 6 (rf 4 ty.F29_4 Z)<|yq 7 (roI ty.kd3 Z)<|yq 8 (rbB Z) ?_
  refine yl rfl (z5a Tryz.func95 (fail_e _ _ _ _ _ _ _ _ _ _ _ _ _ _ _ _ _ _ _ ) (⟨stays.box rfl,trivial⟩) rfl rfl)<|gT<|aS<|sL<|lmP Z<|lc Z<|lf 7 ty.F84_2 Z<|loI ty.kd3 Z<|lbB Z<|nG ?_
  refine AW.cond rfl ?_ ?_
  ·intro h2
   refine aR<|rT ?_
   have hc0:openC x e≠0:=by
    unfold openC
    simpa[length_rowsOf,←chanAt_atI]using h2
   rw[openR_no hc0]
   refine end_ret ?_ ⟨rfl,rfl,rfl,rfl,rfl,trivial⟩
   rfl
  ·intro h2
   refine aK<|gT<|aS ?_
   have hc0:openC x e=0:=by
    unfold openC
    simpa[length_rowsOf,←chanAt_atI]using h2
   refine aL<|laI Z<|nG<|aS<|aB ?_
   refine aW [0,3] [0,1,2,3,4,2003] (D:=Nat) (fun k=>[(4,int (k:Int))]) (fun k=>[]) (fun k=>k≤x.chans.length∧∀j (h:j<x.chans.length),j<k→x.chans[j].id<e.ch) (fun k=>x.chans.length-k) (0) (⟨Nat.zero_le _,fun j _ h=>absurd h (by omega)⟩) ⟨rfl,trivial⟩ trivial ?_
   intro k hI
   obtain⟨hkl,hall⟩:=hI
   refine aS<|aS<|aG 21 []<|tq 0 (rmI Z)<|yq 1 (rmP Z)<|yq 2 (rc Z)<|yq 3 (rf 0 ty.F84_0 Z)<|yq 4 (rf 3 ty.F27_3 Z)<|yq 5 (roO ty.kd23 Z)<|yq 6 (rnI ty.sl23 Z)<|yq 7 (rbB Z)<|yq 8 (rmB Z) ?_
   refine AG.bool (t:=48) rfl ?_ ?_
   ·intro h3
    refine tq 9 (rmP Z)<|tq 10 (rc Z)<|tq 11 (rf 0 ty.F84_0 Z)<|tq 12 (rf 3 ty.F27_3 Z)<|tq 13 (roO ty.kd23 Z)<|gX [0,3,4,48,53] [0,1,2,3,4,2003] ?_
    refine tq 14 (rmI rfl) ?_
    have hk:k<x.chans.length:=by simpa[length_rowsOf]using h3
    refine tq 15 (rj k ty.el23 rfl (by rw[length_rowsOf];exact hk))<|tq 16 (rf 0 ty.F40_0 rfl)<|tq 17 (rd (x:=vI _ _) (rd_load_arr rfl ty.kd3 rfl rfl rfl (row_map hk) rfl) rfl)<|yq 18 (rf 2 ty.F29_2 rfl)<|yq 19 (roI ty.kd3 rfl)<|yq 20 (rbB rfl)<|yq 21 (rkB rfl)<|gD<|gT ?_
    refine AW.cond rfl ?_ ?_
    ·intro h4
     refine aK<|gT<|aB<|aL<|lmI Z<|lgI Z<|laI Z<|lN<|gB<|gT ?_
     refine⟨k+1,⟨hk,id_succ hk hall (by simpa using h4)⟩,by omega,⟨(iq rfl),trivial⟩,trivial,rfl,rfl⟩
    ·intro h4
     refine aE<|eT<|eT<|eB<|gT<|aS ?_
     have hpos:posC x.chans e.ch=k:=posC_at hkl hall (fun hlt=>by first|(simp_all[length_rowsOf];done)|(simp_all[length_rowsOf];omega))
     refine aL<|lf 2 ty.F29_2 Z<|loI ty.kd3 Z<|lf 4 ty.F29_4 Z<|loI ty.kd3 Z<|lf 5 ty.F29_5 Z<|loI ty.kd3 Z ?_
     refine lhI rfl ⟨rfl,fits_i64 (by have:=es.amt;have:=es.fee;have:=sm.wallet;unfold A50 at *;unfold i64;omega)⟩<|lf 4 ty.F29_4 Z<|loI ty.kd3 Z<|lf 5 ty.F29_5 Z<|loI ty.kd3 Z<|lq (rd (x:=.agg [vI _ _,vI _ _,vI _ _,vI _ _,vI _ _,vI _ _,vI _ _]) (rd_build rfl ty.sa40 rfl rfl rfl) rfl)<|lst (zA 2005 ty.ze40 rfl) Z<|lT [0,3,4,5,75] [0,1,2,3,4,2003,2005] ?_
     refine lst (zB 2005 ty.co40 ty.inf40 Z) Z<|nG ?_
     refine aJ [0,3] [2,3,4,2003,2005] (D:=Unit) (fun jd=>[]) (fun jd=>[(2084,.arr 40 7 (rowsOf encChan (insC x.chans ⟨e.ch,e.amt+e.fee,e.amt,e.fee,0,0,0⟩))),(0,.box 84 (some g) [int x.tick,int x.next,int x.wallet,.own 2084,.own 2,.own 3,.own 4,int (openC x e)])]) (fun jd=>True) ?_ ?_
     ·refine aG 23 [2084]<|tq 0 (rmP Z)<|tq 1 (rmP Z)<|tq 2 (rc Z)<|tq 3 (rf 0 ty.F84_0 Z)<|tq 4 (rf 3 ty.F27_3 Z)<|tq 5 (roO ty.kd23 Z)<|tq 6 (rmI Z) ?_
      refine tq 7 (rd (x:=.sub _ _ _) (rd_slc_own (l:=0) (h:=k) rfl ty.el23 rfl rfl rfl ⟨_,rfl⟩ (by omega) (by rw[length_rowsOf];exact hkl)) rfl)<|tq 9 (roX (.agg [vI _ _,vI _ _,vI _ _,vI _ _,vI _ _,vI _ _,vI _ _]) ty.kd40 rfl)<|tq 12 (rmP rfl)<|tq 13 (rc rfl)<|tq 14 (rf 0 ty.F84_0 rfl)<|tq 15 (rf 3 ty.F27_3 rfl)<|tq 16 (roO ty.kd23 rfl)<|tq 17 (rmI rfl) ?_
      refine tq 18 (rd (x:=.sub _ _ _) (rd_slc_own (l:=k) (h:=_) rfl ty.el23 rfl rfl ⟨_,rfl⟩ rfl (by rw[length_rowsOf];exact hkl) (Nat.le_refl _)) rfl) ?_
      refine AG.two (i:=8) (j:=10) (by kernel_rfl) ?_ ?_
      ·refine AG1.st (i:=8) rfl (St.app0 2084 rfl rfl (by decide) ty.el23 ty.ze40 rfl (by decide) rfl (Src.sub rfl rfl) (by simp[rowsOf,maxLen]at *;omega) (Nat.le_trans (Nat.mul_le_mul_left _ ty.by40) (by simp[rowsOf]at *;omega))) (by decide) rfl ?_
       refine gX [0,3,76,84,85,94] [0,1,2,3,4,2003,2005,2084] ?_
       refine yst 10 rfl (zS 2086 (rowsOf encChan [⟨e.ch,e.amt+e.fee,e.amt,e.fee,0,0,0⟩]) ty.el23 ty.ze40 rfl)<|yst 11 rfl (zP 2084 ty.el23 ty.ze40 ty.by40 rfl (Src.own rfl rfl))<|yst 19 rfl (zP 2084 ty.el23 ty.ze40 ty.by40 rfl (Src.sub rfl rfl))<|yq 20 (rc rfl)<|yq 21 (rf 0 ty.F84_0 rfl)<|yq 22 (rf 3 ty.F27_3 rfl)<|yl rfl (zB 0 ty.co23 ty.inf23 rfl)<|gT ?_
       refine⟨(),trivial,trivial,⟨(congrArg (AO.arr 40 7) (ins_rows.trans (congrArg (rowsOf encChan) (by unfold insC;rw[hpos])))),rfl,trivial⟩,rfl,rfl⟩
      ·refine AG1.st (i:=10) rfl (St.bslice 2086 (rows:=rowsOf encChan [⟨e.ch,e.amt+e.fee,e.amt,e.fee,0,0,0⟩]) rfl rfl (by decide) ty.el23 ty.ze40 rfl rfl rfl rfl (by intro r hr;simp[rowsOf]at hr;subst hr;rfl) rfl (by decide) (by decide)) (by decide) rfl ?_
       refine yst 8 rfl (St.app0 2084 rfl rfl (by decide) ty.el23 ty.ze40 rfl (by decide) rfl (Src.sub rfl rfl) (by simp[rowsOf,maxLen]at *;omega) (Nat.le_trans (Nat.mul_le_mul_left _ ty.by40) (by simp[rowsOf]at *;omega)))<|yst 11 rfl (zP 2084 ty.el23 ty.ze40 ty.by40 rfl (Src.own rfl rfl))<|yst 19 rfl (zP 2084 ty.el23 ty.ze40 ty.by40 rfl (Src.sub rfl rfl))<|yq 20 (rc rfl)<|yq 21 (rf 0 ty.F84_0 rfl)<|yq 22 (rf 3 ty.F27_3 rfl)<|yl rfl (zB 0 ty.co23 ty.inf23 rfl)<|gT ?_
       refine⟨(),trivial,trivial,⟨(congrArg (AO.arr 40 7) (ins_rows.trans (congrArg (rowsOf encChan) (by unfold insC;rw[hpos])))),rfl,trivial⟩,rfl,rfl⟩
     ·intro jd hJ
      refine aS ?_
      refine AW.swap 2084 1 ?_
      refine aT [0,3] [0,1,2,3,4,2003,2005] ?_
      refine aG 11 []<|tq 0 (rmP Z)<|tq 1 (rc Z)<|tq 2 (rf 0 ty.F84_0 Z)<|tq 3 (rf 2 ty.F27_2 Z)<|tq 4 (roI ty.kd3 Z)<|yq 5 (rf 4 ty.F29_4 Z)<|yq 6 (roI ty.kd3 Z) ?_
      refine yq 7 (rhI rfl ⟨rfl,fits_i64 (by have:=es.amt;have:=es.fee;have:=sm.wallet;unfold A50 at *;unfold i64;omega)⟩)<|yq 8 (rc rfl)<|yq 9 (rf 0 ty.F84_0 rfl)<|yq 10 (rf 2 ty.F27_2 rfl)<|yl rfl (zB 0 ty.co3 ty.inf3 rfl)<|gA<|lmP Z<|lf 2 ty.F29_2 Z<|loI ty.kd3 Z<|lf 4 ty.F29_4 Z<|loI ty.kd3 rfl ?_
      refine lst (z5a Tryz.func40 (line_e _ _ _ _ _ _ _ _ _ _ _ _ _ _ ([]) 0 (LG.nil) (by decide) _ _ _ (Fresh.nil _ _) (rangeA_of es.amt)) (⟨stays.box rfl,trivial⟩) rfl rfl) Z<|lT [0,3] [0,1,2,3,4,2003,2005] ?_
      refine nG<|aL<|lmP Z<|lf 4 ty.F29_4 Z<|loI ty.kd3 Z<|lq (rd (x:=vI _ _) (rd_un rfl rfl (fits_i64 (by have:=es.amt;have:=es.fee;have:=sm.wallet;unfold A50 at *;unfold i64;omega))) rfl) ?_
      refine lst (z5a Tryz.func40 (line_e _ _ _ _ _ _ _ _ _ _ _ _ _ _ (addL [] 6 e.ch e.amt) 1 (LG.nil.add (rangeA_of es.amt)) (by decide) _ _ _ ((Fresh.nil _ _).add (.inl (by decide))) (rangeA_neg es.amt)) (⟨stays.box rfl,trivial⟩) rfl rfl) Z<|lN ?_
      rw[openR_yes hc0]
      refine end_go ?_ ⟨(Eq.trans (b:=wBox g x.tick x.next (x.wallet-e.amt) _) rfl (congrArg (wBox g x.tick x.next (x.wallet-e.amt)) hc0)),rfl,rfl,rfl,rfl,trivial⟩
      rfl
   ·intro h3
    refine tno 9 Z<|tno 10 Z<|tno 11 Z<|tno 12 Z<|tno 13 Z<|tno 14 Z<|tno 15 Z<|tno 16 Z<|tno 17 Z<|yno 18 Z<|yno 19 Z<|yno 20 Z<|yq 21 (rkZ Z)<|gD<|gT<|aN Z<|aE<|eT<|eT<|eB<|gT<|aS ?_
    have hpos:posC x.chans e.ch=k:=posC_at hkl hall (fun hlt=>by first|(simp_all[length_rowsOf];done)|(simp_all[length_rowsOf];omega))
    refine aL<|lf 2 ty.F29_2 Z<|loI ty.kd3 Z<|lf 4 ty.F29_4 Z<|loI ty.kd3 Z<|lf 5 ty.F29_5 Z<|loI ty.kd3 Z ?_
    refine lhI rfl ⟨rfl,fits_i64 (by have:=es.amt;have:=es.fee;have:=sm.wallet;unfold A50 at *;unfold i64;omega)⟩<|lf 4 ty.F29_4 Z<|loI ty.kd3 Z<|lf 5 ty.F29_5 Z<|loI ty.kd3 Z<|lq (rd (x:=.agg [vI _ _,vI _ _,vI _ _,vI _ _,vI _ _,vI _ _,vI _ _]) (rd_build rfl ty.sa40 rfl rfl rfl) rfl)<|lst (zA 2005 ty.ze40 rfl) Z<|lT [0,3,4,5,75] [0,1,2,3,4,2003,2005] ?_
    refine lst (zB 2005 ty.co40 ty.inf40 Z) Z<|nG ?_
    refine aJ [0,3] [2,3,4,2003,2005] (D:=Unit) (fun jd=>[]) (fun jd=>[(2084,.arr 40 7 (rowsOf encChan (insC x.chans ⟨e.ch,e.amt+e.fee,e.amt,e.fee,0,0,0⟩))),(0,.box 84 (some g) [int x.tick,int x.next,int x.wallet,.own 2084,.own 2,.own 3,.own 4,int (openC x e)])]) (fun jd=>True) ?_ ?_
    ·refine aG 23 [2084]<|tq 0 (rmP Z)<|tq 1 (rmP Z)<|tq 2 (rc Z)<|tq 3 (rf 0 ty.F84_0 Z)<|tq 4 (rf 3 ty.F27_3 Z)<|tq 5 (roO ty.kd23 Z)<|tq 6 (rmI Z) ?_
     refine tq 7 (rd (x:=.sub _ _ _) (rd_slc_own (l:=0) (h:=k) rfl ty.el23 rfl rfl rfl ⟨_,rfl⟩ (by omega) (by rw[length_rowsOf];exact hkl)) rfl)<|tq 9 (roX (.agg [vI _ _,vI _ _,vI _ _,vI _ _,vI _ _,vI _ _,vI _ _]) ty.kd40 rfl)<|tq 12 (rmP rfl)<|tq 13 (rc rfl)<|tq 14 (rf 0 ty.F84_0 rfl)<|tq 15 (rf 3 ty.F27_3 rfl)<|tq 16 (roO ty.kd23 rfl)<|tq 17 (rmI rfl) ?_
     refine tq 18 (rd (x:=.sub _ _ _) (rd_slc_own (l:=k) (h:=_) rfl ty.el23 rfl rfl ⟨_,rfl⟩ rfl (by rw[length_rowsOf];exact hkl) (Nat.le_refl _)) rfl) ?_
     refine AG.two (i:=8) (j:=10) (by kernel_rfl) ?_ ?_
     ·refine AG1.st (i:=8) rfl (St.app0 2084 rfl rfl (by decide) ty.el23 ty.ze40 rfl (by decide) rfl (Src.sub rfl rfl) (by simp[rowsOf,maxLen]at *;omega) (Nat.le_trans (Nat.mul_le_mul_left _ ty.by40) (by simp[rowsOf]at *;omega))) (by decide) rfl ?_
      refine gX [0,3,76,84,85,94] [0,1,2,3,4,2003,2005,2084] ?_
      refine yst 10 rfl (zS 2086 (rowsOf encChan [⟨e.ch,e.amt+e.fee,e.amt,e.fee,0,0,0⟩]) ty.el23 ty.ze40 rfl)<|yst 11 rfl (zP 2084 ty.el23 ty.ze40 ty.by40 rfl (Src.own rfl rfl))<|yst 19 rfl (zP 2084 ty.el23 ty.ze40 ty.by40 rfl (Src.sub rfl rfl))<|yq 20 (rc rfl)<|yq 21 (rf 0 ty.F84_0 rfl)<|yq 22 (rf 3 ty.F27_3 rfl)<|yl rfl (zB 0 ty.co23 ty.inf23 rfl)<|gT ?_
      refine⟨(),trivial,trivial,⟨(congrArg (AO.arr 40 7) (ins_rows.trans (congrArg (rowsOf encChan) (by unfold insC;rw[hpos])))),rfl,trivial⟩,rfl,rfl⟩
     ·refine AG1.st (i:=10) rfl (St.bslice 2086 (rows:=rowsOf encChan [⟨e.ch,e.amt+e.fee,e.amt,e.fee,0,0,0⟩]) rfl rfl (by decide) ty.el23 ty.ze40 rfl rfl rfl rfl (by intro r hr;simp[rowsOf]at hr;subst hr;rfl) rfl (by decide) (by decide)) (by decide) rfl ?_
      refine yst 8 rfl (St.app0 2084 rfl rfl (by decide) ty.el23 ty.ze40 rfl (by decide) rfl (Src.sub rfl rfl) (by simp[rowsOf,maxLen]at *;omega) (Nat.le_trans (Nat.mul_le_mul_left _ ty.by40) (by simp[rowsOf]at *;omega)))<|yst 11 rfl (zP 2084 ty.el23 ty.ze40 ty.by40 rfl (Src.own rfl rfl))<|yst 19 rfl (zP 2084 ty.el23 ty.ze40 ty.by40 rfl (Src.sub rfl rfl))<|yq 20 (rc rfl)<|yq 21 (rf 0 ty.F84_0 rfl)<|yq 22 (rf 3 ty.F27_3 rfl)<|yl rfl (zB 0 ty.co23 ty.inf23 rfl)<|gT ?_
      refine⟨(),trivial,trivial,⟨(congrArg (AO.arr 40 7) (ins_rows.trans (congrArg (rowsOf encChan) (by unfold insC;rw[hpos])))),rfl,trivial⟩,rfl,rfl⟩
    ·intro jd hJ
     refine aS ?_
     refine AW.swap 2084 1 ?_
     refine aT [0,3] [0,1,2,3,4,2003,2005] ?_
     refine aG 11 []<|tq 0 (rmP Z)<|tq 1 (rc Z)<|tq 2 (rf 0 ty.F84_0 Z)<|tq 3 (rf 2 ty.F27_2 Z)<|tq 4 (roI ty.kd3 Z)<|yq 5 (rf 4 ty.F29_4 Z)<|yq 6 (roI ty.kd3 Z) ?_
     refine yq 7 (rhI rfl ⟨rfl,fits_i64 (by have:=es.amt;have:=es.fee;have:=sm.wallet;unfold A50 at *;unfold i64;omega)⟩)<|yq 8 (rc rfl)<|yq 9 (rf 0 ty.F84_0 rfl)<|yq 10 (rf 2 ty.F27_2 rfl)<|yl rfl (zB 0 ty.co3 ty.inf3 rfl)<|gA<|lmP Z<|lf 2 ty.F29_2 Z<|loI ty.kd3 Z<|lf 4 ty.F29_4 Z<|loI ty.kd3 rfl ?_
     refine lst (z5a Tryz.func40 (line_e _ _ _ _ _ _ _ _ _ _ _ _ _ _ ([]) 0 (LG.nil) (by decide) _ _ _ (Fresh.nil _ _) (rangeA_of es.amt)) (⟨stays.box rfl,trivial⟩) rfl rfl) Z<|lT [0,3] [0,1,2,3,4,2003,2005] ?_
     refine nG<|aL<|lmP Z<|lf 4 ty.F29_4 Z<|loI ty.kd3 Z<|lq (rd (x:=vI _ _) (rd_un rfl rfl (fits_i64 (by have:=es.amt;have:=es.fee;have:=sm.wallet;unfold A50 at *;unfold i64;omega))) rfl) ?_
     refine lst (z5a Tryz.func40 (line_e _ _ _ _ _ _ _ _ _ _ _ _ _ _ (addL [] 6 e.ch e.amt) 1 (LG.nil.add (rangeA_of es.amt)) (by decide) _ _ _ ((Fresh.nil _ _).add (.inl (by decide))) (rangeA_neg es.amt)) (⟨stays.box rfl,trivial⟩) rfl rfl) Z<|lN ?_
     rw[openR_yes hc0]
     refine end_go ?_ ⟨(Eq.trans (b:=wBox g x.tick x.next (x.wallet-e.amt) _) rfl (congrArg (wBox g x.tick x.next (x.wallet-e.amt)) hc0)),rfl,rfl,rfl,rfl,trivial⟩
     rfl

structure BookFi(x:Book):Prop where
 sm:BookSm x
 ids:x.chans.Pairwise fun a b=>a.id≠b.id
 hks:x.htlcs.Pairwise fun a b=>a.key≠b.key
 iks:x.circles.Pairwise fun a b=>a.key≠b.key
 hch:∀h∈x.htlcs,0≤chanAt x.chans h.inn∧0≤chanAt x.chans h.out∧h.inn≠h.out
 ich:∀h∈x.circles,0≤chanAt x.chans h.frm∧0≤chanAt x.chans h.to∧h.frm≠h.to
def updC(l:List Chan)(ch:Int)(f:Chan→Chan):List Chan:=l.map fun c=>if c.id=ch then f c else c
def delC(l:List Chan)(ch:Int):List Chan:=l.filter fun c=>!(c.id==ch)
def delH(l:List Htlc)(key:Int):List Htlc:=l.filter fun c=>!(c.key==key)
def delI(l:List Circle)(key:Int):List Circle:=l.filter fun c=>!(c.key==key)
theorem pair_at{α:Type}{g:α→Int}{l:List α}(hnd:l.Pairwise fun a b=>g a≠g b){i j:Nat}{c d:α}(hc:l[i]? = some c)(hd:l[j]? = some d)(h:g c=g d):i=j:=by
 obtain⟨h1,rfl⟩:=List.getElem?_eq_some_iff.1 hc
 obtain⟨h2,rfl⟩:=List.getElem?_eq_some_iff.1 hd
 rcases Nat.lt_trichotomy i j with q|q|q
 ·exact absurd h (List.pairwise_iff_getElem.1 hnd i j h1 h2 q)
 ·exact q
 ·exact absurd h.symm (List.pairwise_iff_getElem.1 hnd j i h2 h1 q)
theorem set_upd{l:List Chan}(hnd:l.Pairwise fun a b=>a.id≠b.id){i:Nat}{c:Chan}(hc:l[i]? = some c)(f:Chan→Chan):l.set i (f c)=updC l c.id f:=by
 apply List.ext_getElem?
 intro j
 unfold updC
 rw[List.getElem?_map,List.getElem?_set]
 have hi:=(List.getElem?_eq_some_iff.1 hc).1
 by_cases e:i=j
 ·subst e
  rw[if_pos rfl,if_pos hi,hc]
  simp
 ·rw[if_neg e]
  cases hj:l[j]? with
  |none=>rfl
  |some d=>
   have:d.id≠c.id:=fun q=>e (pair_at (g:=fun c=>c.id) hnd hc hj q.symm)
   simp[this]
theorem upd_ids{l:List Chan}(hnd:l.Pairwise fun a b=>a.id≠b.id){ch:Int}{f:Chan→Chan}(hf:∀c,(f c).id=c.id):(updC l ch f).Pairwise fun a b=>a.id≠b.id:=by
 unfold updC
 rw[List.pairwise_map]
 refine hnd.imp fun{a b} h=>?_
 have e:∀c:Chan,(if c.id=ch then f c else c).id=c.id:=fun c=>by split<;>simp[hf]
 rw[e,e];exact h
theorem upd_get{l:List Chan}{ch:Int}{f:Chan→Chan}{j:Nat}{d:Chan}(hd:l[j]? = some d)(hne:d.id≠ch):(updC l ch f)[j]? = some d:=by
 unfold updC
 rw[List.getElem?_map,hd]
 simp[hne]
theorem set_two{l:List Chan}(hnd:l.Pairwise fun a b=>a.id≠b.id){i j:Nat}{c d:Chan}(hc:l[i]? = some c)(hd:l[j]? = some d)(hne:c.id≠d.id)(f g:Chan→Chan)(hf:∀c,(f c).id=c.id):(l.set i (f c)).set j (g d)=updC (updC l c.id f) d.id g:=by
 rw[set_upd hnd hc f]
 exact set_upd (upd_ids hnd hf) (upd_get hd (Ne.symm hne)) g
theorem set_get{α:Type}{l:List α}{i j:Nat}{d:α}(hd:l[j]? = some d)(hne:i≠j)(x:α):(l.set i x)[j]? = some d:=by rw[List.getElem?_set_ne hne];exact hd
theorem set_get_eq{α:Type}{l:List α}{i:Nat}{d:α}(hd:l[i]? = some d)(x:α):(l.set i x)[i]? = some x:=List.getElem?_set_self (List.getElem?_eq_some_iff.1 hd).1
theorem set_two'{l:List Chan}(hnd:l.Pairwise fun a b=>a.id≠b.id){i j:Nat}{c d:Chan}{a b:Int}(hc:l[i]? = some c)(hd:l[j]? = some d)(hid:c.id=a)(hjd:d.id=b)(hne:a≠b)(f g:Chan→Chan)(hf:∀c,(f c).id=c.id):(l.set i (f c)).set j (g d)=updC (updC l a f) b g:=by
 subst hid hjd
 exact set_two hnd hc hd hne f g hf
theorem idx_ne{l:List Chan}{i j:Nat}{c d:Chan}(hc:l[i]? = some c)(hd:l[j]? = some d)(hne:c.id≠d.id):i≠j:=fun e=>by
 subst e
 rw[hc]at hd
 injection hd with hd
 exact hne (by rw[hd])
theorem erase_filter{α:Type}{g:α→Int}{l:List α}(hnd:l.Pairwise fun a b=>g a≠g b):∀ {i:Nat} {c:α},l[i]? = some c→l.take i++l.drop (i+1)=l.filter fun d=>!(g d==g c):=by
 induction l with
 |nil=>intro i c h;simp at h
 |cons a l ih=>
  intro i c h
  rw[List.pairwise_cons]at hnd
  cases i with
  |zero=>
   simp at h
   subst h
   have:l.filter (fun d=>!(g d==g a))=l:=List.filter_eq_self.2 fun d hd=>by have:=hnd.1 d hd;simp;exact fun q=>this q.symm
   simp[this]
  |succ i=>
   simp at h
   have hne:g a≠g c:=hnd.1 c (mem_of_get h)
   rw[List.take_succ_cons,List.drop_succ_cons,List.filter_cons_of_pos (by simp[hne]),←ih hnd.2 h]
   rfl
def missC(l:List Chan)(ch:Int)(c:Int):Int:=if chanAt l ch=-1 then failC true c 6 else c
theorem missC_none{l:List Chan}{ch c:Int}(h:chanAt l ch=-1):missC l ch c=failC true c 6:=if_pos h
theorem missC_some{l:List Chan}{ch c:Int}{i:Nat}(h:chanAt l ch=(i:Int)):missC l ch c=c:=if_neg (by omega)
def shutC(x:Book)(e:Event):Int:=failC (decide ((chanOr x.chans e.ch).loc<e.fee)) (failC (usedB x e.ch) (missC x.chans e.ch 0) 7) 8
def shutY(x:Book)(e:Event):WR:=⟨{ x with chans:=delC x.chans e.ch,wallet:=x.wallet+((chanOr x.chans e.ch).loc-e.fee) },addL (addL (addL [] 1 0 ((chanOr x.chans e.ch).loc-e.fee)) 5 0 e.fee) 6 e.ch (-(chanOr x.chans e.ch).loc),0⟩
def shutR(x:Book)(e:Event):WR:=if shutC x e=0 then shutY x e else ⟨x,[],shutC x e⟩
theorem shutR_no{x:Book}{e:Event}(h:shutC x e≠0):shutR x e=⟨x,[],shutC x e⟩:=if_neg h
theorem shutR_yes{x:Book}{e:Event}(h:shutC x e=0):shutR x e=shutY x e:=if_pos h
def admSum(x:Book)(e:Event):Int:=addV e.amt (feeV (chanOr x.chans e.to).base (chanOr x.chans e.to).ppm e.amt)
def admBad(x:Book)(e:Event):Bool:=!feeOk (chanOr x.chans e.to).base (chanOr x.chans e.to).ppm e.amt||!addOk e.amt (feeV (chanOr x.chans e.to).base (chanOr x.chans e.to).ppm e.amt)
def admC0(x:Book)(e:Event):Int:=failC (decide ((60:Int)≤(x.htlcs.length:Int))) (missC x.chans e.to (missC x.chans e.ch (failC (knownB x e.key) 0 9))) 14
def admC1(x:Book)(e:Event):Int:=failC (decide ((chanOr x.chans e.to).loc<e.amt)) (failC (decide ((chanOr x.chans e.ch).remote<admSum x e)) (failC (admBad x e) (admC0 x e) 10) 11) 12
def admRoom(x:Book)(e:Event):Int:=roomV x.htlcs (chanOr x.chans e.ch) (chanOr x.chans e.to) e.to e.amt e.yes
def admC(x:Book)(e:Event):Int:=if admC1 x e=0 then failC (decide (admRoom x e=0)) (admC1 x e) 13 else admC1 x e
def admY(x:Book)(e:Event):WR:=⟨{ x with htlcs:=x.htlcs++[⟨e.key,e.ch,e.to,admSum x e,e.amt,decide (admRoom x e=2),0⟩],chans:=updC (updC x.chans e.ch fun c=>{ c with remote:=c.remote-admSum x e }) e.to fun c=>{ c with loc:=c.loc-e.amt } },addL (addL [] 6 e.to (-e.amt)) 8 e.to e.amt,0⟩
def admR(x:Book)(e:Event):WR:=if admC x e=0 then admY x e else ⟨x,[],admC x e⟩
theorem admR_no{x:Book}{e:Event}(h:admC x e≠0):admR x e=⟨x,[],admC x e⟩:=if_neg h
theorem admR_yes{x:Book}{e:Event}(h:admC x e=0):admR x e=admY x e:=if_pos h
theorem addV_A50(a b:Int):A50 (addV a b):=by
 rcases h:addOk a b with _|_
 ·rw[addV_no h];unfold A50;omega
 ·rw[addV_yes h]
  unfold addOk at h
  rw[Bool.and_eq_true,amtOk_true]at h
  unfold A50;omega
theorem shut_e(g u:Value)(x:Book)(e:Event)(fi:BookFi x)(es:EvSm e)(fn0:0≤e.fee):GC Tryz.prog 42 [.ptr 0 0 0,evV e] (wIn g u x [] 0) (.tup []) (wOut g (shutR x e)):=by
 have sm:=fi.sm
 have hm:x.chans.length≤1000000000:=by have:=sm.lc;omega
 have hmh:x.htlcs.length≤1000000000:=by have:=sm.lh;omega
 have hmc:x.circles.length≤1000000000:=by have:=sm.li;omega
 refine GC.intro (rs:=[]) Tryz.func42 rfl Tryz.ntmps42 (Nat.le_of_ble_eq_true rfl) trivial ?_
 intro L O w0
 refine sL<|lst (zX 2003 Z) Z<|nA<|lmP Z<|lf 2 ty.F29_2 Z<|loI ty.kd3 Z ?_
 rcases chan_find x.chans e.ch with⟨hi,ho⟩|⟨i,c,hi,hc,ho,hid⟩
 ·skip
  refine lst (zC [(0,0),(1,1),(2,2),(3,3),(4,4),(2017,2017)] [2,3,4,2017] [0,1] Tryz.func43 (ch_none _ _ x _ _ _ hm hi) (⟨stays.box rfl,stays.arr rfl,trivial⟩) rfl rfl) Z<|lc Z<|loX (.agg [vI _ _,vI _ _,vI _ _,vI _ _,vI _ _,vI _ _,vI _ _]) ty.kd40 Z<|lst (zA 2004 ty.ze40 rfl) Z<|lst (zB 2004 ty.co40 ty.inf40 rfl) Z<|nG<|aS<|aG 8 []<|tq 0 (rmP rfl)<|tq 1 (rmP rfl)<|tq 2 (rc rfl)<|tq 3 (rf 0 ty.F84_0 rfl)<|tq 4 (roX (.agg [vI _ _,vI _ _,vI _ _,.own _,.own _,.own _]) ty.kd27 rfl)<|yq 5 (rf 2 ty.F29_2 rfl)<|yq 6 (roI ty.kd3 rfl)<|yst 7 rfl (zL Tryz.func96 (used_e x _ hmh hmc) rfl)<|gX [0,3,4,12,19] [0,1,2,3,4,2003,2004,2017] ?_
  refine yl rfl (z5b Tryz.func95 (fail_e _ _ _ _ _ _ _ _ _ _ _ _ _ _ _ _ _ _ _ ) (⟨stays.box rfl,stays.arr rfl,trivial⟩) rfl rfl)<|gA<|lmP Z<|lf 5 ty.F29_5 Z<|loI ty.kd3 Z<|lf 2 ty.F40_2 Z<|loI ty.kd3 Z<|lbB rfl ?_
  refine lst (z5b Tryz.func95 (fail_e _ _ _ _ _ _ _ _ _ _ _ _ _ _ _ _ _ _ _ ) (⟨stays.box rfl,stays.arr rfl,trivial⟩) rfl rfl) Z<|nG<|aS<|sL<|lmP Z<|lc Z<|lf 7 ty.F84_2 Z<|loI ty.kd3 Z<|lbB Z<|lsB 32 true rfl (by rw[decide_eq_false (failC_keep (failC_keep (failC_set (by decide))))];rfl)<|nG ?_
  refine AW.unpin 1 rfl ?_
  refine aY Z<|aR<|rT ?_
  have hc0:shutC x e≠0:=by unfold shutC;rw[missC_none hi];exact failC_keep (failC_keep (failC_set (by decide)))
  rw[shutR_no hc0]
  refine end_ret ?_ ⟨(Eq.trans (b:=wBox g x.tick x.next x.wallet _) rfl (congrArg (wBox g x.tick x.next x.wallet) (by unfold shutC;rw[missC_none hi,ho]))),rfl,rfl,rfl,rfl,trivial⟩
  rfl
 ·have hcm:=sm.chans c (mem_of_get hc)
  refine lst (z5b Tryz.func43 (ch_some _ _ x _ _ _ hm _ _ hi hc) (⟨stays.box rfl,stays.arr rfl,trivial⟩) rfl rfl) Z<|lT [0,3,9] [0,1,2,3,4,2003] ?_
  refine lc Z<|lq (rd (x:=.agg [vI _ _,vI _ _,vI _ _,vI _ _,vI _ _,vI _ _,vI _ _]) (rd_load_arr Z ty.kd40 Z Z Z (rows_some hc) Z) Z)<|lst (zA 2004 ty.ze40 Z) Z<|lst (zB 2004 ty.co40 ty.inf40 Z) Z<|nG<|aS<|aG 8 []<|tq 0 (rmP Z)<|tq 1 (rmP Z)<|tq 2 (rc Z)<|tq 3 (rf 0 ty.F84_0 Z)<|tq 4 (roX (.agg [vI _ _,vI _ _,vI _ _,.own _,.own _,.own _]) ty.kd27 Z)<|yq 5 (rf 2 ty.F29_2 Z)<|yq 6 (roI ty.kd3 Z)<|yst 7 Z (zL Tryz.func96 (used_e x _ hmh hmc) Z) ?_
  refine yl rfl (z5b Tryz.func95 (fail_e _ _ _ _ _ _ _ _ _ _ _ _ _ _ _ _ _ _ _ ) (⟨stays.box rfl,stays.arr rfl,trivial⟩) rfl rfl)<|gA<|lmP Z<|lf 5 ty.F29_5 Z<|loI ty.kd3 Z<|lf 2 ty.F40_2 Z<|loI ty.kd3 Z<|lbB rfl ?_
  refine lst (z5b Tryz.func95 (fail_e _ _ _ _ _ _ _ _ _ _ _ _ _ _ _ _ _ _ _ ) (⟨stays.box rfl,stays.arr rfl,trivial⟩) rfl rfl) Z<|lT [0,3,4] [0,1,2,3,4,2003,2004] ?_
  refine nG<|aS<|sL<|lmP Z<|lc Z<|lf 7 ty.F84_2 Z<|loI ty.kd3 Z<|lbB Z<|nG ?_
  refine AW.unpin 1 rfl ?_
  refine AW.cond rfl ?_ ?_
  ·intro h1
   refine aR<|rT ?_
   have hc0:shutC x e≠0:=by unfold shutC;rw[missC_some hi,ho];simpa using h1
   rw[shutR_no hc0]
   refine end_ret ?_ ⟨(Eq.trans (b:=wBox g x.tick x.next x.wallet _) rfl (congrArg (wBox g x.tick x.next x.wallet) (by unfold shutC;rw[missC_some hi,ho]))),rfl,rfl,rfl,rfl,trivial⟩
   rfl
  ·intro h1
   refine aK<|gT<|aS ?_
   have hc0:shutC x e=0:=by
    unfold shutC
    rw[missC_some hi,ho]
    simpa using h1
   refine aG 7 []<|tq 0 (rmP Z)<|tq 1 (rc Z)<|tq 2 (rf 0 ty.F84_0 Z)<|tq 3 (roX (.agg [vI _ _,vI _ _,vI _ _,.own _,.own _,.own _]) ty.kd27 Z)<|yq 4 (rf 2 ty.F29_2 Z)<|yq 5 (roI ty.kd3 Z)<|yst 6 Z (zL Tryz.func69 (chanAt_e x _ hm) Z)<|gsN 39 (i:Int) Z hi<|yq 7 (raI Z)<|gD<|gT<|aS<|aG 21 [2048]<|tq 0 (rmP Z)<|tq 1 (rmP Z)<|tq 2 (rc Z)<|tq 3 (rf 0 ty.F84_0 Z)<|tq 4 (rf 3 ty.F27_3 Z)<|tq 5 (roO ty.kd23 Z)<|tq 6 (rmI Z) ?_
   have hil:=(List.getElem?_eq_some_iff.1 hc).1
   refine tq 7 (rd (x:=.sub _ _ _) (rd_slc_own (l:=0) (h:=i) rfl ty.el23 rfl rfl rfl ⟨_,rfl⟩ (by omega) (by rw[length_rowsOf];omega)) rfl)<|tq 9 (rmP rfl)<|tq 10 (rc rfl)<|tq 11 (rf 0 ty.F84_0 rfl)<|tq 12 (rf 3 ty.F27_3 rfl)<|tq 13 (roO ty.kd23 rfl)<|tq 14 (rmI rfl) ?_
   refine tq 15 (rhI rfl ⟨rfl,fits_i64 (by have:=sm.lc;have hil:=(List.getElem?_eq_some_iff.1 hc).1;unfold i64;omega)⟩)<|gsN 55 ((i+1:Nat):Int) rfl (by omega) ?_
   refine tq 16 (rd (x:=.sub _ _ _) (rd_slc_own (l:=i+1) (h:=_) rfl ty.el23 rfl rfl ⟨_,rfl⟩ rfl (by rw[length_rowsOf];omega) (Nat.le_refl _)) rfl)<|yst 8 rfl (St.app0 2048 rfl rfl (by decide) ty.el23 ty.ze40 rfl (by decide) rfl (Src.sub rfl rfl) (by simp[rowsOf,maxLen]at *;omega) (Nat.le_trans (Nat.mul_le_mul_left _ ty.by40) (by simp[rowsOf]at *;omega)))<|gX [0,3,4,40,48,56] [0,1,2,3,4,2003,2004,2048] ?_
   refine yst 17 Z (zP 2048 ty.el23 ty.ze40 ty.by40 Z (Src.sub Z Z))<|yq 18 (rc Z)<|yq 19 (rf 0 ty.F84_0 Z)<|yq 20 (rf 3 ty.F27_3 Z)<|yl Z (zB 0 ty.co23 ty.inf23 Z)<|gT ?_
   refine AW.obj 2048 (.arr 40 7 (rowsOf encChan (delC x.chans e.ch))) ((congrArg (AO.arr 40 7) (del_rows.trans (congrArg (rowsOf encChan) (by rw[erase_filter (g:=fun c=>c.id) fi.ids hc,hid];rfl))))) ?_
   refine aS ?_
   refine AW.swap 2048 1 ?_
   refine aT [0,3,4] [0,1,2,3,4,2003,2004] ?_
   refine aG 14 []<|tq 0 (rmP Z)<|tq 1 (rc Z)<|tq 2 (rf 0 ty.F84_0 Z)<|tq 3 (rf 2 ty.F27_2 Z)<|tq 4 (roI ty.kd3 Z)<|tq 5 (rf 2 ty.F40_2 Z)<|tq 6 (roI ty.kd3 Z)<|yq 7 (rf 5 ty.F29_5 Z)<|yq 8 (roI ty.kd3 Z) ?_
   refine yq 9 (rhI rfl ⟨rfl,fits_i64 (by have:=hcm.1;have:=es.amt;have:=es.fee;have:=sm.wallet;unfold A50 at *;unfold i64;omega)⟩) ?_
   refine yq 10 (rhI rfl ⟨rfl,fits_i64 (by have:=hcm.1;have:=es.amt;have:=es.fee;have:=sm.wallet;unfold A50 at *;unfold i64;omega)⟩)<|yq 11 (rc rfl)<|yq 12 (rf 0 ty.F84_0 rfl)<|yq 13 (rf 2 ty.F27_2 rfl)<|yl rfl (zB 0 ty.co3 ty.inf3 rfl)<|gA<|lmP Z<|lf 2 ty.F40_2 Z<|loI ty.kd3 Z<|lf 5 ty.F29_5 Z<|loI ty.kd3 rfl ?_
   refine lhI rfl ⟨rfl,fits_i64 (by have:=hcm.1;have:=es.amt;have:=es.fee;have:=sm.wallet;unfold A50 at *;unfold i64;omega)⟩ ?_
   have hnl:¬c.loc<e.fee∧0≤e.fee:=⟨fun q=>by
    have h:=hc0;unfold shutC at h;rw[missC_some hi,ho]at h;exact absurd h (by rw[decide_eq_true q];exact failC_set (by decide)),fn0⟩
   refine lst (z5a Tryz.func40 (line_e _ _ _ _ _ _ _ _ _ _ _ _ _ _ ([]) 0 (LG.nil) (by decide) _ _ _ (Fresh.nil _ _) (rangeA_of (by have:=hcm.1;have:=es.fee;have:=hnl;unfold A50 at *;omega))) (⟨stays.box rfl,trivial⟩) rfl rfl) Z<|lT [0,3,4] [0,1,2,3,4,2003,2004] ?_
   refine nA<|lmP Z<|lf 5 ty.F29_5 Z<|loI ty.kd3 Z ?_
   refine lst (z5a Tryz.func40 (line_e _ _ _ _ _ _ _ _ _ _ _ _ _ _ (addL [] 1 0 (c.loc-e.fee)) 1 (LG.nil.add (rangeA_of (by have:=hcm.1;have:=es.fee;have:=hnl;unfold A50 at *;omega))) (by decide) _ _ _ ((Fresh.nil _ _).add (.inl (by decide))) (rangeA_of es.fee)) (⟨stays.box rfl,trivial⟩) rfl rfl) Z<|nG<|aL<|lmP Z<|lf 2 ty.F29_2 Z<|loI ty.kd3 Z<|lf 2 ty.F40_2 Z<|loI ty.kd3 Z<|lq (rd (x:=vI _ _) (rd_un rfl rfl (fits_i64 (by have:=hcm.1;have:=es.amt;have:=es.fee;have:=sm.wallet;unfold A50 at *;unfold i64;omega))) rfl) ?_
   refine lst (z5a Tryz.func40 (line_e _ _ _ _ _ _ _ _ _ _ _ _ _ _ (addL (addL [] 1 0 (c.loc-e.fee)) 5 0 e.fee) 2 ((LG.nil.add (rangeA_of (by have:=hcm.1;have:=es.fee;have:=hnl;unfold A50 at *;omega))).add (rangeA_of es.fee)) (by decide) _ _ _ (((Fresh.nil _ _).add (.inl (by decide))).add (.inl (by decide))) (rangeA_neg hcm.1)) (⟨stays.box rfl,trivial⟩) rfl rfl) Z<|lN ?_
   rw[shutR_yes hc0]
   unfold shutY
   rw[ho]
   refine end_go ?_ ⟨(Eq.trans (b:=wBox g x.tick x.next (x.wallet+(c.loc-e.fee)) _) rfl (congrArg (wBox g x.tick x.next (x.wallet+(c.loc-e.fee))) (by have h:=hc0;unfold shutC at h;rw[missC_some hi,ho]at h;exact h))),rfl,rfl,rfl,rfl,trivial⟩
   rfl
theorem admit_e(g u:Value)(x:Book)(e:Event)(fi:BookFi x)(es:EvSm e)(hne:e.ch≠e.to):GC Tryz.prog 44 [.ptr 0 0 0,evV e] (wIn g u x [] 0) (.tup []) (wOut g (admR x e)):=by
 have sm:=fi.sm
 have hm:x.chans.length≤1000000000:=by have:=sm.lc;omega
 have hmh:x.htlcs.length≤1000000000:=by have:=sm.lh;omega
 have hmc:x.circles.length≤1000000000:=by have:=sm.li;omega
 refine GC.intro (rs:=[]) Tryz.func44 rfl Tryz.ntmps44 (Nat.le_of_ble_eq_true rfl) trivial ?_
 intro L O w0
 refine sL<|lst (zX 2003 Z) Z<|nG<|aS<|aG 8 []<|tq 0 (rmP Z)<|tq 1 (rmP Z)<|tq 2 (rc Z)<|tq 3 (rf 0 ty.F84_0 Z)<|tq 4 (roX (.agg [vI _ _,vI _ _,vI _ _,.own _,.own _,.own _]) ty.kd27 Z)<|yq 5 (rf 1 ty.F29_1 Z)<|yq 6 (roI ty.kd3 Z)<|yst 7 Z (zL Tryz.func97 (known_e x _ hmh hmc) Z) ?_
 refine yl rfl (z5b Tryz.func95 (fail_e _ _ _ _ _ _ _ _ _ _ _ _ _ _ _ _ _ _ _ ) (⟨stays.box rfl,stays.arr rfl,trivial⟩) rfl rfl)<|gA<|lmP Z<|lf 2 ty.F29_2 Z<|loI ty.kd3 rfl ?_
 rcases chan_find x.chans e.ch with⟨hi,ho⟩|⟨i,c,hi,hc,ho,hid⟩
 ·skip
  refine lst (zC [(0,0),(1,1),(2,2),(3,3),(4,4),(2017,2017)] [2,3,4,2017] [0,1] Tryz.func43 (ch_none _ _ x _ _ _ hm hi) (⟨stays.box rfl,stays.arr rfl,trivial⟩) rfl rfl) Z<|lT [0,3,23] [0,1,2,3,4,2003,2017] ?_
  refine laP Z<|nA<|lmP Z<|lf 3 ty.F29_3 Z<|loI ty.kd3 Z ?_
  rcases chan_find x.chans e.to with⟨hj,hp⟩|⟨j,d,hj,hd,hp,hjd⟩
  ·skip
   refine lst (zC [(0,0),(1,1),(2,2),(3,3),(4,4),(2017,2018)] [2,3,4,2018] [0,1] Tryz.func43 (ch_none _ _ x _ _ _ hm hj) (⟨stays.box rfl,stays.arr rfl,trivial⟩) rfl rfl) Z<|laP Z<|nA<|lmP Z<|lmP Z<|lc Z<|lf 0 ty.F84_0 Z<|lf 4 ty.F27_4 Z<|loO ty.kd24 Z<|lnI ty.sl24 Z<|lbB rfl ?_
   refine lst (z5b Tryz.func95 (fail_e _ _ _ _ _ _ _ _ _ _ _ _ _ _ _ _ _ _ _ ) (⟨stays.box rfl,stays.arr rfl,trivial⟩) rfl rfl) Z<|lT [0,3,4,5] [0,1,2,3,4,2003,2017,2018] ?_
   refine nG<|aS<|aG 15 []<|tq 0 (rmP Z)<|tq 1 (rc Z)<|tq 2 (rf 4 ty.F40_4 Z)<|tq 3 (roI ty.kd3 Z)<|tq 4 (rmP Z)<|tq 5 (rc Z)<|tq 6 (rf 5 ty.F40_5 Z)<|tq 7 (roI ty.kd3 Z)<|yq 8 (rf 4 ty.F29_4 Z)<|yq 9 (roI ty.kd3 Z)<|yst 10 Z (zL Tryz.func98 (feeUp_e _ _ _) Z)<|yq 11 (rmX (.tup [vI _ _,vB _]) Z)<|tq 12 (rxI Z)<|tq 13 (rxB Z)<|yq 14 (raI Z)<|yq 15 (raB Z)<|gD<|gA<|lf 4 ty.F29_4 Z<|loI ty.kd3 Z<|lmI Z<|lst (zL Tryz.func99 (addAmt_e _ _) Z) Z<|lT [0,3,4,5,7,55] [0,1,2,3,4,2003,2017,2018] ?_
   refine lmX (.tup [vI _ _,vB _]) Z<|lxI Z<|lxB Z<|laI Z<|laB Z<|nG ?_
   refine aJ [0,3,4,5] [1,2,3,4,2003,2017,2018] (D:=Unit) (fun jd=>[(8,int (admSum x e))]) (fun jd=>[(0,wBox g x.tick x.next x.wallet (failC (admBad x e) (admC0 x e) 10))]) (fun jd=>True) ?_ ?_
   ·refine aL<|lmP Z<|lmB Z<|luB Z<|lmB Z ?_
    refine AL.bool (t:=61) rfl ?_ ?_
    ·intro h1
     refine lno Z<|lno Z<|lkT Z ?_
     refine lst (z5b Tryz.func95 (fail_e _ _ _ _ _ _ _ _ _ _ _ _ _ _ _ _ _ _ _ ) (⟨stays.box rfl,stays.arr rfl,trivial⟩) rfl rfl) Z<|nG ?_
     refine⟨(),trivial,⟨(Eq.trans (b:=int _) rfl (congrArg int (by unfold admSum;rw[hp]))),trivial⟩,⟨(Eq.trans (b:=wBox g x.tick x.next x.wallet _) rfl (congrArg (wBox g x.tick x.next x.wallet) (by unfold admBad admC0;rw[missC_none hi,missC_none hj,hp];rw[h1,length_rowsOf];try simp))),trivial⟩,rfl,rfl⟩
    ·intro h1
     refine lmB Z<|luB Z<|lkB Z ?_
     refine lst (z5b Tryz.func95 (fail_e _ _ _ _ _ _ _ _ _ _ _ _ _ _ _ _ _ _ _ ) (⟨stays.box rfl,stays.arr rfl,trivial⟩) rfl rfl) Z<|lT [0,3,4,5,8] [0,1,2,3,4,2003,2017,2018] ?_
     refine nG ?_
     refine⟨(),trivial,⟨(Eq.trans (b:=int _) rfl (congrArg int (by unfold admSum;rw[hp]))),trivial⟩,⟨(Eq.trans (b:=wBox g x.tick x.next x.wallet _) rfl (congrArg (wBox g x.tick x.next x.wallet) (by unfold admBad admC0;rw[missC_none hi,missC_none hj,hp];rw[h1,length_rowsOf];try simp))),trivial⟩,rfl,rfl⟩
   ·intro jd hJ
    have hz:admC0 x e≠0:=by
     unfold admC0
     rw[missC_none hj,missC_none hi]
     exact failC_keep (failC_set (by decide))
    have hz1:admC1 x e≠0:=failC_keep (failC_keep (failC_keep hz))
    refine sL<|lmP Z<|lmP Z<|lc Z<|lf 3 ty.F40_3 Z<|loI ty.kd3 Z<|lmI Z<|lbB Z ?_
    refine lst (z5b Tryz.func95 (fail_e _ _ _ _ _ _ _ _ _ _ _ _ _ _ _ _ _ _ _ ) (⟨stays.box rfl,stays.arr rfl,trivial⟩) rfl rfl) Z<|nG<|aS<|aG 8 []<|tq 0 (rmP rfl)<|tq 1 (rmP rfl)<|tq 2 (rc rfl)<|tq 3 (rf 2 ty.F40_2 rfl)<|tq 4 (roI ty.kd3 rfl)<|yq 5 (rf 4 ty.F29_4 rfl)<|yq 6 (roI ty.kd3 rfl)<|yq 7 (rbB rfl) ?_
    refine yl rfl (z5b Tryz.func95 (fail_e _ _ _ _ _ _ _ _ _ _ _ _ _ _ _ _ _ _ _ ) (⟨stays.box rfl,stays.arr rfl,trivial⟩) rfl rfl)<|gT ?_
    refine AW.obj 0 (wBox g x.tick x.next x.wallet (admC1 x e)) ((Eq.trans (b:=wBox g x.tick x.next x.wallet _) rfl (congrArg (wBox g x.tick x.next x.wallet) (by unfold admC1;rw[ho,hp])))) ?_
    refine sL<|laI Z<|nG<|aS<|sL<|lmP Z<|lc Z<|lf 7 ty.F84_2 Z<|loI ty.kd3 Z<|lbB Z<|lsB 87 false rfl (decide_eq_false hz1)<|nG<|aN Z<|aK<|gT<|aS<|sL<|lmP Z<|lc Z<|lf 7 ty.F84_2 Z<|loI ty.kd3 Z<|lbB Z<|lsB 105 true rfl (by rw[decide_eq_false hz1];rfl)<|nG ?_
    refine aY rfl ?_
    refine AW.unpin 1 rfl ?_
    refine aR<|rT ?_
    have hc0:admC x e=admC1 x e:=if_neg hz1
    have hn0:admC x e≠0:=by rw[hc0];exact hz1
    rw[admR_no hn0,hc0]
    refine end_ret ?_ ⟨rfl,rfl,rfl,rfl,rfl,trivial⟩
    rfl
  ·have hdm:=sm.chans d (mem_of_get hd)
   refine lst (z5b Tryz.func43 (ch_some _ _ x _ _ _ hm _ _ hj hd) (⟨stays.box rfl,stays.arr rfl,trivial⟩) rfl rfl) Z<|lT [0,3,4,27] [0,1,2,3,4,2003,2017] ?_
   refine laP Z<|nA<|lmP Z<|lmP Z<|lc Z<|lf 0 ty.F84_0 Z<|lf 4 ty.F27_4 Z<|loO ty.kd24 Z<|lnI ty.sl24 Z<|lbB Z ?_
   refine lst (z5b Tryz.func95 (fail_e _ _ _ _ _ _ _ _ _ _ _ _ _ _ _ _ _ _ _ ) (⟨stays.box rfl,stays.arr rfl,trivial⟩) rfl rfl) Z<|nG<|aS<|aG 15 []<|tq 0 (rmP rfl)<|tq 1 (rc rfl)<|tq 2 (rf 4 ty.F40_4 rfl)<|tq 3 (rd (x:=vI _ _) (rd_load_arr rfl ty.kd3 rfl rfl rfl (rows_some hd) rfl) rfl)<|tq 4 (rmP rfl)<|tq 5 (rc rfl)<|tq 6 (rf 5 ty.F40_5 rfl)<|tq 7 (rd (x:=vI _ _) (rd_load_arr rfl ty.kd3 rfl rfl rfl (rows_some hd) rfl) rfl)<|yq 8 (rf 4 ty.F29_4 rfl)<|yq 9 (roI ty.kd3 rfl)<|yst 10 rfl (zL Tryz.func98 (feeUp_e _ _ _) rfl)<|gX [0,3,4,5,48] [0,1,2,3,4,2003,2017] ?_
   refine yq 11 (rmX (.tup [vI _ _,vB _]) Z)<|tq 12 (rxI Z)<|tq 13 (rxB Z)<|yq 14 (raI Z)<|yq 15 (raB Z)<|gD<|gA<|lf 4 ty.F29_4 Z<|loI ty.kd3 Z<|lmI Z<|lst (zL Tryz.func99 (addAmt_e _ _) Z) Z<|lmX (.tup [vI _ _,vB _]) Z<|lxI Z<|lxB Z<|laI Z<|laB Z<|nG ?_
   refine aJ [0,3,4,5] [1,2,3,4,2003,2017] (D:=Unit) (fun jd=>[(8,int (admSum x e))]) (fun jd=>[(0,wBox g x.tick x.next x.wallet (failC (admBad x e) (admC0 x e) 10))]) (fun jd=>True) ?_ ?_
   ·refine aL<|lmP Z<|lmB Z<|luB Z<|lmB Z ?_
    refine AL.bool (t:=61) rfl ?_ ?_
    ·intro h2
     refine lno Z<|lno Z<|lkT Z ?_
     refine lst (z5b Tryz.func95 (fail_e _ _ _ _ _ _ _ _ _ _ _ _ _ _ _ _ _ _ _ ) (⟨stays.box rfl,stays.arr rfl,trivial⟩) rfl rfl) Z<|lT [0,3,4,5,8] [0,1,2,3,4,2003,2017] ?_
     refine nG ?_
     refine⟨(),trivial,⟨(Eq.trans (b:=int _) rfl (congrArg int (by unfold admSum;rw[hp]))),trivial⟩,⟨(Eq.trans (b:=wBox g x.tick x.next x.wallet _) rfl (congrArg (wBox g x.tick x.next x.wallet) (by unfold admBad admC0;rw[missC_none hi,missC_some hj,hp];rw[h2,length_rowsOf];try simp))),trivial⟩,rfl,rfl⟩
    ·intro h2
     refine lmB Z<|luB Z<|lkB Z ?_
     refine lst (z5b Tryz.func95 (fail_e _ _ _ _ _ _ _ _ _ _ _ _ _ _ _ _ _ _ _ ) (⟨stays.box rfl,stays.arr rfl,trivial⟩) rfl rfl) Z<|nG ?_
     refine⟨(),trivial,⟨(Eq.trans (b:=int _) rfl (congrArg int (by unfold admSum;rw[hp]))),trivial⟩,⟨(Eq.trans (b:=wBox g x.tick x.next x.wallet _) rfl (congrArg (wBox g x.tick x.next x.wallet) (by unfold admBad admC0;rw[missC_none hi,missC_some hj,hp];rw[h2,length_rowsOf];try simp))),trivial⟩,rfl,rfl⟩
   ·intro jd hJ
    have hz:admC0 x e≠0:=by
     unfold admC0
     rw[missC_some hj,missC_none hi]
     exact failC_keep (failC_set (by decide))
    have hz1:admC1 x e≠0:=failC_keep (failC_keep (failC_keep hz))
    refine sL<|lmP Z<|lmP Z<|lc Z<|lf 3 ty.F40_3 Z<|loI ty.kd3 Z<|lmI Z<|lbB Z ?_
    refine lst (z5b Tryz.func95 (fail_e _ _ _ _ _ _ _ _ _ _ _ _ _ _ _ _ _ _ _ ) (⟨stays.box rfl,stays.arr rfl,trivial⟩) rfl rfl) Z<|nG<|aS<|aG 8 []<|tq 0 (rmP rfl)<|tq 1 (rmP rfl)<|tq 2 (rc rfl)<|tq 3 (rf 2 ty.F40_2 rfl)<|tq 4 (rd (x:=vI _ _) (rd_load_arr rfl ty.kd3 rfl rfl rfl (rows_some hd) rfl) rfl)<|yq 5 (rf 4 ty.F29_4 rfl)<|yq 6 (roI ty.kd3 rfl)<|yq 7 (rbB rfl) ?_
    refine yl rfl (z5b Tryz.func95 (fail_e _ _ _ _ _ _ _ _ _ _ _ _ _ _ _ _ _ _ _ ) (⟨stays.box rfl,stays.arr rfl,trivial⟩) rfl rfl)<|gT ?_
    refine AW.obj 0 (wBox g x.tick x.next x.wallet (admC1 x e)) ((Eq.trans (b:=wBox g x.tick x.next x.wallet _) rfl (congrArg (wBox g x.tick x.next x.wallet) (by unfold admC1;rw[ho,hp])))) ?_
    refine sL<|laI Z<|nG<|aS<|sL<|lmP Z<|lc Z<|lf 7 ty.F84_2 Z<|loI ty.kd3 Z<|lbB Z<|lsB 87 false rfl (decide_eq_false hz1)<|nG<|aN Z<|aK<|gT<|aS<|sL<|lmP Z<|lc Z<|lf 7 ty.F84_2 Z<|loI ty.kd3 Z<|lbB Z<|lsB 105 true rfl (by rw[decide_eq_false hz1];rfl)<|nG ?_
    refine aY rfl ?_
    refine AW.unpin 1 rfl ?_
    refine aR<|rT ?_
    have hc0:admC x e=admC1 x e:=if_neg hz1
    have hn0:admC x e≠0:=by rw[hc0];exact hz1
    rw[admR_no hn0,hc0]
    refine end_ret ?_ ⟨rfl,rfl,rfl,rfl,rfl,trivial⟩
    rfl
 ·have hcm:=sm.chans c (mem_of_get hc)
  refine lst (z5b Tryz.func43 (ch_some _ _ x _ _ _ hm _ _ hi hc) (⟨stays.box rfl,stays.arr rfl,trivial⟩) rfl rfl) Z<|lT [0,3,23] [0,1,2,3,4,2003] ?_
  refine laP Z<|nA<|lmP Z<|lf 3 ty.F29_3 Z<|loI ty.kd3 Z ?_
  rcases chan_find x.chans e.to with⟨hj,hp⟩|⟨j,d,hj,hd,hp,hjd⟩
  ·skip
   refine lst (zC [(0,0),(1,1),(2,2),(3,3),(4,4),(2017,2018)] [2,3,4,2018] [0,1] Tryz.func43 (ch_none _ _ x _ _ _ hm hj) (⟨stays.box rfl,stays.arr rfl,trivial⟩) rfl rfl) Z<|laP Z<|nA<|lmP Z<|lmP Z<|lc Z<|lf 0 ty.F84_0 Z<|lf 4 ty.F27_4 Z<|loO ty.kd24 Z<|lnI ty.sl24 Z<|lbB rfl ?_
   refine lst (z5b Tryz.func95 (fail_e _ _ _ _ _ _ _ _ _ _ _ _ _ _ _ _ _ _ _ ) (⟨stays.box rfl,stays.arr rfl,trivial⟩) rfl rfl) Z<|lT [0,3,4,5] [0,1,2,3,4,2003,2018] ?_
   refine nG<|aS<|aG 15 []<|tq 0 (rmP Z)<|tq 1 (rc Z)<|tq 2 (rf 4 ty.F40_4 Z)<|tq 3 (roI ty.kd3 Z)<|tq 4 (rmP Z)<|tq 5 (rc Z)<|tq 6 (rf 5 ty.F40_5 Z)<|tq 7 (roI ty.kd3 Z)<|yq 8 (rf 4 ty.F29_4 Z)<|yq 9 (roI ty.kd3 Z)<|yst 10 Z (zL Tryz.func98 (feeUp_e _ _ _) Z)<|yq 11 (rmX (.tup [vI _ _,vB _]) Z)<|tq 12 (rxI Z)<|tq 13 (rxB Z)<|yq 14 (raI Z)<|yq 15 (raB Z)<|gD<|gA<|lf 4 ty.F29_4 Z<|loI ty.kd3 Z<|lmI Z<|lst (zL Tryz.func99 (addAmt_e _ _) Z) Z<|lT [0,3,4,5,7,55] [0,1,2,3,4,2003,2018] ?_
   refine lmX (.tup [vI _ _,vB _]) Z<|lxI Z<|lxB Z<|laI Z<|laB Z<|nG ?_
   refine aJ [0,3,4,5] [1,2,3,4,2003,2018] (D:=Unit) (fun jd=>[(8,int (admSum x e))]) (fun jd=>[(0,wBox g x.tick x.next x.wallet (failC (admBad x e) (admC0 x e) 10))]) (fun jd=>True) ?_ ?_
   ·refine aL<|lmP Z<|lmB Z<|luB Z<|lmB Z ?_
    refine AL.bool (t:=61) rfl ?_ ?_
    ·intro h3
     refine lno Z<|lno Z<|lkT Z ?_
     refine lst (z5b Tryz.func95 (fail_e _ _ _ _ _ _ _ _ _ _ _ _ _ _ _ _ _ _ _ ) (⟨stays.box rfl,stays.arr rfl,trivial⟩) rfl rfl) Z<|nG ?_
     refine⟨(),trivial,⟨(Eq.trans (b:=int _) rfl (congrArg int (by unfold admSum;rw[hp]))),trivial⟩,⟨(Eq.trans (b:=wBox g x.tick x.next x.wallet _) rfl (congrArg (wBox g x.tick x.next x.wallet) (by unfold admBad admC0;rw[missC_some hi,missC_none hj,hp];rw[h3,length_rowsOf];try simp))),trivial⟩,rfl,rfl⟩
    ·intro h3
     refine lmB Z<|luB Z<|lkB Z ?_
     refine lst (z5b Tryz.func95 (fail_e _ _ _ _ _ _ _ _ _ _ _ _ _ _ _ _ _ _ _ ) (⟨stays.box rfl,stays.arr rfl,trivial⟩) rfl rfl) Z<|lT [0,3,4,5,8] [0,1,2,3,4,2003,2018] ?_
     refine nG ?_
     refine⟨(),trivial,⟨(Eq.trans (b:=int _) rfl (congrArg int (by unfold admSum;rw[hp]))),trivial⟩,⟨(Eq.trans (b:=wBox g x.tick x.next x.wallet _) rfl (congrArg (wBox g x.tick x.next x.wallet) (by unfold admBad admC0;rw[missC_some hi,missC_none hj,hp];rw[h3,length_rowsOf];try simp))),trivial⟩,rfl,rfl⟩
   ·intro jd hJ
    have hz:admC0 x e≠0:=by
     unfold admC0
     rw[missC_none hj,missC_some hi]
     exact failC_keep (failC_set (by decide))
    have hz1:admC1 x e≠0:=failC_keep (failC_keep (failC_keep hz))
    refine sL<|lmP Z<|lmP Z<|lc Z<|lf 3 ty.F40_3 Z<|lq (rd (x:=vI _ _) (rd_load_arr Z ty.kd3 Z Z Z (rows_some hc) Z) Z)<|lmI Z<|lbB Z ?_
    refine lst (z5b Tryz.func95 (fail_e _ _ _ _ _ _ _ _ _ _ _ _ _ _ _ _ _ _ _ ) (⟨stays.box rfl,stays.arr rfl,trivial⟩) rfl rfl) Z<|nG<|aS<|aG 8 []<|tq 0 (rmP rfl)<|tq 1 (rmP rfl)<|tq 2 (rc rfl)<|tq 3 (rf 2 ty.F40_2 rfl)<|tq 4 (roI ty.kd3 rfl)<|yq 5 (rf 4 ty.F29_4 rfl)<|yq 6 (roI ty.kd3 rfl)<|yq 7 (rbB rfl) ?_
    refine yl rfl (z5b Tryz.func95 (fail_e _ _ _ _ _ _ _ _ _ _ _ _ _ _ _ _ _ _ _ ) (⟨stays.box rfl,stays.arr rfl,trivial⟩) rfl rfl)<|gT ?_
    refine AW.obj 0 (wBox g x.tick x.next x.wallet (admC1 x e)) ((Eq.trans (b:=wBox g x.tick x.next x.wallet _) rfl (congrArg (wBox g x.tick x.next x.wallet) (by unfold admC1;rw[ho,hp])))) ?_
    refine sL<|laI Z<|nG<|aS<|sL<|lmP Z<|lc Z<|lf 7 ty.F84_2 Z<|loI ty.kd3 Z<|lbB Z<|lsB 87 false rfl (decide_eq_false hz1)<|nG<|aN Z<|aK<|gT<|aS<|sL<|lmP Z<|lc Z<|lf 7 ty.F84_2 Z<|loI ty.kd3 Z<|lbB Z<|lsB 105 true rfl (by rw[decide_eq_false hz1];rfl)<|nG ?_
    refine aY rfl ?_
    refine AW.unpin 1 rfl ?_
    refine aR<|rT ?_
    have hc0:admC x e=admC1 x e:=if_neg hz1
    have hn0:admC x e≠0:=by rw[hc0];exact hz1
    rw[admR_no hn0,hc0]
    refine end_ret ?_ ⟨rfl,rfl,rfl,rfl,rfl,trivial⟩
    rfl
  ·have hdm:=sm.chans d (mem_of_get hd)
   refine lst (z5b Tryz.func43 (ch_some _ _ x _ _ _ hm _ _ hj hd) (⟨stays.box rfl,stays.arr rfl,trivial⟩) rfl rfl) Z<|lT [0,3,4,27] [0,1,2,3,4,2003] ?_
   refine laP Z<|nA<|lmP Z<|lmP Z<|lc Z<|lf 0 ty.F84_0 Z<|lf 4 ty.F27_4 Z<|loO ty.kd24 Z<|lnI ty.sl24 Z<|lbB Z ?_
   refine lst (z5b Tryz.func95 (fail_e _ _ _ _ _ _ _ _ _ _ _ _ _ _ _ _ _ _ _ ) (⟨stays.box rfl,stays.arr rfl,trivial⟩) rfl rfl) Z<|nG<|aS<|aG 15 []<|tq 0 (rmP rfl)<|tq 1 (rc rfl)<|tq 2 (rf 4 ty.F40_4 rfl)<|tq 3 (rd (x:=vI _ _) (rd_load_arr rfl ty.kd3 rfl rfl rfl (rows_some hd) rfl) rfl)<|tq 4 (rmP rfl)<|tq 5 (rc rfl)<|tq 6 (rf 5 ty.F40_5 rfl)<|tq 7 (rd (x:=vI _ _) (rd_load_arr rfl ty.kd3 rfl rfl rfl (rows_some hd) rfl) rfl)<|yq 8 (rf 4 ty.F29_4 rfl)<|yq 9 (roI ty.kd3 rfl)<|yst 10 rfl (zL Tryz.func98 (feeUp_e _ _ _) rfl)<|gX [0,3,4,5,48] [0,1,2,3,4,2003] ?_
   refine yq 11 (rmX (.tup [vI _ _,vB _]) Z)<|tq 12 (rxI Z)<|tq 13 (rxB Z)<|yq 14 (raI Z)<|yq 15 (raB Z)<|gD<|gA<|lf 4 ty.F29_4 Z<|loI ty.kd3 Z<|lmI Z<|lst (zL Tryz.func99 (addAmt_e _ _) Z) Z<|lmX (.tup [vI _ _,vB _]) Z<|lxI Z<|lxB Z<|laI Z<|laB Z<|nG ?_
   refine aJ [0,3,4,5] [1,2,3,4,2003] (D:=Unit) (fun jd=>[(8,int (admSum x e))]) (fun jd=>[(0,wBox g x.tick x.next x.wallet (failC (admBad x e) (admC0 x e) 10))]) (fun jd=>True) ?_ ?_
   ·refine aL<|lmP Z<|lmB Z<|luB Z<|lmB Z ?_
    refine AL.bool (t:=61) rfl ?_ ?_
    ·intro h4
     refine lno Z<|lno Z<|lkT Z ?_
     refine lst (z5b Tryz.func95 (fail_e _ _ _ _ _ _ _ _ _ _ _ _ _ _ _ _ _ _ _ ) (⟨stays.box rfl,stays.arr rfl,trivial⟩) rfl rfl) Z<|lT [0,3,4,5,8] [0,1,2,3,4,2003] ?_
     refine nG ?_
     refine⟨(),trivial,⟨(Eq.trans (b:=int _) rfl (congrArg int (by unfold admSum;rw[hp]))),trivial⟩,⟨(Eq.trans (b:=wBox g x.tick x.next x.wallet _) rfl (congrArg (wBox g x.tick x.next x.wallet) (by unfold admBad admC0;rw[missC_some hi,missC_some hj,hp];rw[h4,length_rowsOf];try simp))),trivial⟩,rfl,rfl⟩
    ·intro h4
     refine lmB Z<|luB Z<|lkB Z ?_
     refine lst (z5b Tryz.func95 (fail_e _ _ _ _ _ _ _ _ _ _ _ _ _ _ _ _ _ _ _ ) (⟨stays.box rfl,stays.arr rfl,trivial⟩) rfl rfl) Z<|nG ?_
     refine⟨(),trivial,⟨(Eq.trans (b:=int _) rfl (congrArg int (by unfold admSum;rw[hp]))),trivial⟩,⟨(Eq.trans (b:=wBox g x.tick x.next x.wallet _) rfl (congrArg (wBox g x.tick x.next x.wallet) (by unfold admBad admC0;rw[missC_some hi,missC_some hj,hp];rw[h4,length_rowsOf];try simp))),trivial⟩,rfl,rfl⟩
   ·intro jd hJ
    refine sL<|lmP Z<|lmP Z<|lc Z<|lf 3 ty.F40_3 Z<|lq (rd (x:=vI _ _) (rd_load_arr Z ty.kd3 Z Z Z (rows_some hc) Z) Z)<|lmI Z<|lbB Z ?_
    refine lst (z5b Tryz.func95 (fail_e _ _ _ _ _ _ _ _ _ _ _ _ _ _ _ _ _ _ _ ) (⟨stays.box rfl,stays.arr rfl,trivial⟩) rfl rfl) Z<|nG<|aS<|aG 8 []<|tq 0 (rmP rfl)<|tq 1 (rmP rfl)<|tq 2 (rc rfl)<|tq 3 (rf 2 ty.F40_2 rfl)<|tq 4 (rd (x:=vI _ _) (rd_load_arr rfl ty.kd3 rfl rfl rfl (rows_some hd) rfl) rfl)<|yq 5 (rf 4 ty.F29_4 rfl)<|yq 6 (roI ty.kd3 rfl)<|yq 7 (rbB rfl) ?_
    refine yl rfl (z5b Tryz.func95 (fail_e _ _ _ _ _ _ _ _ _ _ _ _ _ _ _ _ _ _ _ ) (⟨stays.box rfl,stays.arr rfl,trivial⟩) rfl rfl)<|gT ?_
    refine AW.obj 0 (wBox g x.tick x.next x.wallet (admC1 x e)) ((Eq.trans (b:=wBox g x.tick x.next x.wallet _) rfl (congrArg (wBox g x.tick x.next x.wallet) (by unfold admC1;rw[ho,hp])))) ?_
    refine sL<|laI Z<|nG<|aS<|sL<|lmP Z<|lc Z<|lf 7 ty.F84_2 Z<|loI ty.kd3 Z<|lbB Z<|nG ?_
    refine AW.cond rfl ?_ ?_
    ·intro h5
     refine aS<|aG 9 []<|tq 0 (rmP Z)<|tq 1 (rmP Z)<|tq 2 (rc Z)<|tq 3 (rd (x:=.agg [vI _ _,vI _ _,vI _ _,vI _ _,vI _ _,vI _ _,vI _ _]) (rd_load_arr Z ty.kd40 Z Z Z (rows_some hc) Z) Z)<|tq 4 (rmP Z)<|tq 5 (rc Z)<|tq 6 (rd (x:=.agg [vI _ _,vI _ _,vI _ _,vI _ _,vI _ _,vI _ _,vI _ _]) (rd_load_arr Z ty.kd40 Z Z Z (rows_some hd) Z) Z)<|gX [0,3,4,5,8,10,88,91,94] [0,1,2,3,4,2003] ?_
     refine yq 7 (roX (.agg [vI _ _,vI _ _,vI _ _,vI _ _,vI _ _,vI _ _,vB _]) ty.kd29 rfl)<|yst 8 rfl (zL Tryz.func100 (allowed_e x _ _ c d e sm.hs) rfl)<|gsN 96 (admRoom x e) rfl (by unfold admRoom;rw[ho,hp])<|yq 9 (raI rfl)<|gD<|gT<|aL<|lmP Z<|lmI Z<|lbB rfl ?_
     refine lst (z5b Tryz.func95 (fail_e _ _ _ _ _ _ _ _ _ _ _ _ _ _ _ _ _ _ _ ) (⟨stays.box rfl,stays.arr rfl,trivial⟩) rfl rfl) Z<|nG<|aS<|sL<|lmP Z<|lc Z<|lf 7 ty.F84_2 Z<|loI ty.kd3 Z<|lbB Z<|nG ?_
     refine AW.cond rfl ?_ ?_
     ·intro h6
      refine AW.unpin 1 rfl ?_
      refine aR<|rT ?_
      have hz1:admC1 x e=0:=of_decide_eq_true h5
      have hc0:admC x e=failC (decide (admRoom x e=0)) (admC1 x e) 13:=if_pos hz1
      have hn0:admC x e≠0:=by rw[hc0];simpa using h6
      rw[admR_no hn0,hc0]
      refine end_ret ?_ ⟨rfl,rfl,rfl,rfl,rfl,trivial⟩
      rfl
     ·intro h6
      refine aK<|gT<|aS<|aG 23 [2]<|tq 0 (rmP Z)<|tq 1 (rmP Z)<|tq 2 (rc Z)<|tq 3 (rf 0 ty.F84_0 Z)<|tq 4 (rf 4 ty.F27_4 Z)<|tq 5 (roO ty.kd24 Z)<|tq 6 (rf 1 ty.F29_1 Z)<|tq 7 (roI ty.kd3 Z)<|tq 8 (rf 2 ty.F29_2 Z)<|tq 9 (roI ty.kd3 Z)<|tq 10 (rf 3 ty.F29_3 Z)<|tq 11 (roI ty.kd3 Z)<|tq 12 (rmI Z)<|tq 13 (rf 4 ty.F29_4 Z)<|tq 14 (roI ty.kd3 Z)<|yq 15 (rmI Z)<|yq 16 (rbB Z)<|yq 17 (rd (x:=.agg [vI _ _,vI _ _,vI _ _,vI _ _,vI _ _,vB _,vI _ _]) (rd_build Z ty.sa68 Z Z Z) Z)<|gX [0,3,4,5,8,106,111,123] [0,1,2,3,4,2003] ?_
      refine yst 18 rfl (zS 2124 (rowsOf encHtlc [⟨e.key,e.ch,e.to,admSum x e,e.amt,decide (admRoom x e=2),0⟩]) ty.el24 ty.ze68 rfl)<|yst 19 rfl (zP 2 ty.el24 ty.ze68 ty.by68 rfl (Src.own rfl rfl) (by have:=sm.lh;simp[rowsOf];omega))<|yq 20 (rc rfl)<|yq 21 (rf 0 ty.F84_0 rfl)<|yq 22 (rf 4 ty.F27_4 rfl)<|yl rfl (zB 0 ty.co24 ty.inf24 rfl)<|gT ?_
      refine AW.obj 2 (hAr (x.htlcs++[⟨e.key,e.ch,e.to,admSum x e,e.amt,decide (admRoom x e=2),0⟩])) ((congrArg (AO.arr 68 7) (rowsOf_app encHtlc _ [_]).symm)) ?_
      refine sL<|lmP Z<|lc Z<|lf 3 ty.F40_3 Z<|lq (rd (x:=vI _ _) (rd_load_arr Z ty.kd3 Z Z Z (rows_some hc) Z) Z)<|lmI Z ?_
      refine lhI rfl ⟨rfl,fits_i64 (by have h1:=hcm.2.1;have h2:A50 (admSum x e):=addV_A50 _ _;unfold A50 at *;unfold i64;omega)⟩<|lc Z<|lf 3 ty.F40_3 Z<|lst (zQ 1 [.v (.int .i64 (c.remote-admSum x e))] ty.co3 ty.inf3 rfl (rows_some hc)) Z<|lT [0,3,5] [0,1,2,3,4,2003,2124] ?_
      refine nG ?_
      refine AW.obj 1 (cAr u (x.chans.set i { c with remote:=c.remote-admSum x e })) (Eq.trans (b:=AO.arr ⟨40,some u⟩ 7 ((rowsOf encChan (x.chans)).set i ((encChan { c with remote:=c.remote-admSum x e }).map PV.v))) rfl (congrArg (AO.arr ⟨40,some u⟩ 7) rows_set)) ?_
      refine aS<|aG 9 []<|tq 0 (rmP rfl)<|tq 1 (rc rfl)<|tq 2 (rf 2 ty.F40_2 rfl)<|tq 3 (rd (x:=vI _ _) (rd_load_arr rfl ty.kd3 rfl rfl rfl (rows_some (set_get hd (idx_ne hc hd (by rw[hid,hjd];exact hne)) _)) rfl) rfl)<|yq 4 (rf 4 ty.F29_4 rfl)<|yq 5 (roI ty.kd3 rfl) ?_
      refine yq 6 (rhI rfl ⟨rfl,fits_i64 (by have h1:=hdm.1;have h2:=es.amt;unfold A50 at *;unfold i64;omega)⟩)<|yq 7 (rc rfl)<|yq 8 (rf 2 ty.F40_2 rfl)<|yl rfl (zQ 1 [.v (.int .i64 (d.loc-e.amt))] ty.co3 ty.inf3 rfl (rows_some (set_get hd (idx_ne hc hd (by rw[hid,hjd];exact hne)) _)))<|gT ?_
      refine AW.obj 1 (cAr u (updC (updC x.chans e.ch fun c=>{ c with remote:=c.remote-admSum x e }) e.to fun c=>{ c with loc:=c.loc-e.amt })) (Eq.trans (b:=AO.arr ⟨40,some u⟩ 7 ((rowsOf encChan (x.chans.set i { c with remote:=c.remote-admSum x e })).set j ((encChan { d with loc:=d.loc-e.amt }).map PV.v))) rfl (congrArg (AO.arr ⟨40,some u⟩ 7) (rows_set.trans (congrArg (rowsOf encChan) (set_two' fi.ids hc hd hid hjd hne (fun c=>{ c with remote:=c.remote-admSum x e }) (fun d=>{ d with loc:=d.loc-e.amt }) (fun _=>rfl)))))) ?_
      refine AW.unpin 1 rfl ?_
      refine sL<|lmP Z<|lf 3 ty.F29_3 Z<|loI ty.kd3 Z<|lf 4 ty.F29_4 Z<|loI ty.kd3 Z<|lq (rd (x:=vI _ _) (rd_un rfl rfl (fits_i64 (by have h2:=es.amt;unfold A50 at *;unfold i64;omega))) rfl) ?_
      refine lst (z5a Tryz.func40 (line_e _ _ _ _ _ _ _ _ _ _ _ _ _ _ ([]) 0 (LG.nil) (by decide) _ _ _ (Fresh.nil _ _) (rangeA_neg es.amt)) (⟨stays.box rfl,trivial⟩) rfl rfl) Z<|lT [0,3] [0,1,2,3,4,2003,2124] ?_
      refine nG<|aL<|lmP Z<|lf 3 ty.F29_3 Z<|loI ty.kd3 Z<|lf 4 ty.F29_4 Z<|loI ty.kd3 Z ?_
      refine lst (z5a Tryz.func40 (line_e _ _ _ _ _ _ _ _ _ _ _ _ _ _ (addL [] 6 e.to (-e.amt)) 1 (LG.nil.add (rangeA_neg es.amt)) (by decide) _ _ _ ((Fresh.nil _ _).add (.inl (by decide))) (rangeA_of es.amt)) (⟨stays.box rfl,trivial⟩) rfl rfl) Z<|lN ?_
      have hz1:admC1 x e=0:=of_decide_eq_true h5
      have hc0:admC x e=failC (decide (admRoom x e=0)) (admC1 x e) 13:=if_pos hz1
      have hy0:admC x e=0:=by rw[hc0];simpa using h6
      rw[admR_yes hy0]
      unfold admY
      refine end_go ?_ ⟨(Eq.trans (b:=wBox g x.tick x.next x.wallet _) rfl (congrArg (wBox g x.tick x.next x.wallet) (by rw[←hc0];exact hy0))),rfl,rfl,rfl,rfl,trivial⟩
      rfl
    ·intro h5
     refine aK<|gT<|aS<|sL<|lmP Z<|lc Z<|lf 7 ty.F84_2 Z<|loI ty.kd3 Z<|lbB Z<|lsB 105 true rfl (by rw[h5];rfl)<|nG<|aY rfl ?_
     refine AW.unpin 1 rfl ?_
     refine aR<|rT ?_
     have hz1:admC1 x e≠0:=of_decide_eq_false h5
     have hc0:admC x e=admC1 x e:=if_neg hz1
     have hn0:admC x e≠0:=by rw[hc0];exact hz1
     rw[admR_no hn0,hc0]
     refine end_ret ?_ ⟨rfl,rfl,rfl,rfl,rfl,trivial⟩
     rfl
end Go.Proofs.YtogkbcmfoalpiaaGreat

