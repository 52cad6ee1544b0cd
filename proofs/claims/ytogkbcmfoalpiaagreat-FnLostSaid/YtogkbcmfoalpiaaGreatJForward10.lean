/- Texts of the proof of FnForward, joined: ES5, Appl, Wr, App2, All, E21, E22, E23, AllN. -/
import Derived.Test.YtogkbcmfoalpiaaGreatJForward9
import Derived.Test.YtogkbcmfoalpiaaGreatJForward4
namespace Go.Proofs.YtogkbcmfoalpiaaGreat
open Go.RowKit
set_option maxHeartbeats 16000000
set_option maxRecDepth 100000
set_option linter.unusedSimpArgs false
set_option linter.unusedVariables false
theorem addOk_over{a b:Int}(ha:0≤a∧a≤1125899906842624)(hb:0≤b∧b≤1125899906842624):addOk a b=!decide (1125899906842624<a+b):=by
 unfold addOk
 rw[amtOk_true.2 ha,amtOk_true.2 hb,Bool.true_and,Bool.true_and]
 refine Bool.eq_iff_iff.2 ?_
 rw[amtOk_true]
 simp
 omega
theorem keys_nz{x:Book}(h:bookOk x=true):(∀h∈x.htlcs,h.key≠0)∧∀h∈x.circles,h.key≠0:=by
 obtain⟨_,_,_,_,h5,_⟩:=bookOk_parts h
 have hk:=(parts_all h5).2.2.2.2
 have key:∀n∈keysOf x,n≠0:=fun n hn=>by
  obtain⟨j,hj,rfl⟩:=List.getElem_of_mem hn
  have:=List.all_eq_true.1 hk j (by simpa using hj)
  unfold keyAt at this
  simp only[Bool.and_eq_true]at this
  intro q
  have h1:=this.1
  simp[hj,q,keyOk,inB]at h1
 unfold keysOf at key
 exact⟨fun y hy=>key _ (List.mem_append_left _ (List.mem_map_of_mem hy)),fun y hy=>key _ (List.mem_append_right _ (List.mem_map_of_mem hy))⟩
theorem over_1{x:Book}{e:Event}(hn:x.next≠1125899906842624)(hk:e.kind=1):overB x e=decide (1125899906842624<x.wallet+e.amt):=by unfold overB;rw[if_neg hn,if_pos hk]
theorem over_2{x:Book}{e:Event}(hn:x.next≠1125899906842624)(hk:e.kind=2):overB x e=decide (1125899906842624<e.amt+e.fee):=by unfold overB;simp[hn,hk]
theorem over_3n{x:Book}{e:Event}(hn:x.next≠1125899906842624)(hk:e.kind=3)(hc:chanAt x.chans e.ch=-1):overB x e=false:=by unfold overB;simp[hn,hk,hc]
theorem over_3s{x:Book}{e:Event}{i:Nat}{c:Chan}(hn:x.next≠1125899906842624)(hk:e.kind=3)(hc:chanAt x.chans e.ch=(i:Int))(ho:chanOr x.chans e.ch=c):overB x e=decide (1125899906842624<x.wallet+c.loc-e.fee):=by unfold overB;simp[hn,hk,hc,ho]
theorem over_8{x:Book}{e:Event}(hn:x.next≠1125899906842624)(hk:e.kind=8):overB x e=decide (x.tick=1125899906842624):=by unfold overB;simp[hn,hk]
theorem over_o{x:Book}{e:Event}(hn:x.next≠1125899906842624)(h1:¬e.kind=1)(h2:¬e.kind=2)(h3:¬e.kind=3)(h8:¬e.kind=8):overB x e=false:=by unfold overB;simp[hn,h1,h2,h3,h8]
def spR(x:Book)(e:Event):WR:=if overB x e=true then ⟨x,[],2⟩else workR x e
theorem spR_over{x:Book}{e:Event}(h:overB x e=true):(⟨x,[],2⟩:WR)=spR x e:=by unfold spR;rw[if_pos h]
theorem spR_work{x:Book}{e:Event}(h:overB x e=false):workR x e=spR x e:=by unfold spR;rw[if_neg (by simp[h])]
theorem spR_next(x:Book)(e:Event):(spR x e).b.next=x.next:=by unfold spR;split<;>first|rfl|exact workR_next x e
theorem applyC_sp{x:Book}{e:Event}(h:(bookOk x&&eventOk e)=true):applyC x e=(spR x e).c:=by
 unfold applyC spR
 rw[if_pos h]
 split<;>rfl
theorem spR_c{x:Book}{e:Event}(h:(spR x e).c=0):overB x e=false∧spR x e=workR x e:=by
 unfold spR at *
 split at h
 ·exact absurd h (by show ¬((2:Int)=0);decide)
 ·rename_i q
  exact⟨by simpa using q,if_neg q⟩
theorem sp_next{x:Book}{e:Event}(h:x.next=1125899906842624):overB x e=true:=by unfold overB;rw[if_pos h]
theorem sopen2_e(g:Value)(x:Book)(e:Event)(hsum:addOk e.amt e.fee=false):GC Tryz.prog 54 [.ptr 0 0 0,evV e] (sIn g x [] 0) (.tup []) (sIn g x [] 2):=by
 refine GC.intro (rs:=[]) Tryz.func54 rfl Tryz.ntmps54 (Nat.le_of_ble_eq_true rfl) trivial ?_
 intro L O w0
 refine sL<|lst (zX 2003 Z) Z<|nA<|lf 4 ty.F29_4 Z<|loI ty.kd3 Z<|lf 5 ty.F29_5 Z<|loI ty.kd3 Z<|lst (zL Tryz.func52 (saddAmt_e _ _) Z) Z<|lmX (.tup [vI _ _,vB _]) Z<|lxI Z<|lxB Z<|lsB 18 false Z hsum<|laI Z<|laZ Z<|nG<|aS<|aS<|aF [3,23,35]<|pq 0 (qmP Z)<|vq 1 (rmZ Z)<|vq 2 (ruT Z) ?_
 refine vst 3 rfl (z5a Tryz.func51 (scode_e _ _ _ _ _ _ _ _ _ _ _ _ _ _ _ _ _ _ _ ) (⟨stays.box (Eq.refl 8),trivial⟩) rfl rfl) (.inl rfl)<|fsB 22 true rfl (by simp[failC])<|fT [0,3,4,22] [0,1,2,3,4,2003] ?_
 refine vq 4 (rmT Z)<|pno 5 Z<|pno 6 Z<|pno 7 Z<|pno 8 Z<|pno 9 Z<|vno 10 Z<|vno 11 Z<|vno 12 Z<|vno 13 Z<|vno 14 Z<|vno 15 Z<|vno 16 Z<|vno 17 Z<|vno 18 Z<|vno 19 Z<|vno 20 Z<|vno 21 Z<|vno 22 Z<|vno 23 Z<|vq 24 (rkT Z)<|vq 25 (rmT Z)<|pno 26 Z<|pno 27 Z<|pno 28 Z<|pno 29 Z<|pno 30 Z<|pno 31 Z<|vno 32 Z<|vno 33 Z ?_
 refine vno 34 Z<|vno 35 Z<|vq 36 (rkT Z)<|fD<|gT<|aY Z<|aR<|rT ?_
 refine end_ret ?_ ⟨rfl,rfl,rfl,rfl,rfl,trivial⟩
 rfl
theorem stick2_e(g:Value)(x:Book)(ht:x.tick=1125899906842624):GC Tryz.prog 59 [.ptr 0 0 0] (sIn g x [] 0) (.tup []) (sIn g x [] 2):=by
 refine GC.intro (rs:=[]) Tryz.func59 rfl Tryz.ntmps59 (Nat.le_of_ble_eq_true rfl) trivial ?_
 intro L O w0
 refine aS<|sL<|lmP Z<|lmP Z<|lc Z<|lf 0 ty.F91_0 Z<|lf 0 ty.F27_0 Z<|loI ty.kd3 Z<|lbB Z<|lsB 10 true rfl (by simpa using ht) ?_
 refine lst (z5a Tryz.func51 (scode_e _ _ _ _ _ _ _ _ _ _ _ _ _ _ _ _ _ _ _ ) (⟨stays.box (Eq.refl 8),trivial⟩) rfl rfl) Z<|lsB 11 true rfl (by rfl)<|nG<|aY Z<|aR<|rT ?_
 refine end_ret ?_ ⟨rfl,rfl,rfl,rfl,rfl,trivial⟩
 rfl
theorem sapply_e(x:Book)(e:Event)(hw:BookWf x):GX Tryz.prog 10 [bookV x,evV e] [] (appR x e):=by
 refine GX.intro (rs:=[.cell 4 27 (some 6),.cell 5 34 (some 2),.tmp 6]) Tryz.func10 rfl Tryz.ntmps10 (Nat.le_of_ble_eq_true rfl) ⟨rfl,rfl,ty.kd27,rfl,rfl,ty.kd34,rfl,trivial⟩ ?_
 intro L O w0
 refine sL<|lst (zX 2002 Z) Z<|lst (zX 2003 Z) Z<|lst (zA 2004 ty.ze27 Z) Z<|lst (zA 2005 ty.ze34 Z) Z<|laI Z<|nG<|aS<|sL<|loX (.agg [vI _ _,vI _ _,vI _ _,vL _ _ _,vL _ _ _,vL _ _ _]) ty.kd27 Z<|lst (zL Tryz.func22 (spec_BookOk_e x hw) Z) Z<|luB Z<|lmB Z ?_
 refine AL.bool (t:=16) rfl ?_ ?_
 ·intro h1
  refine lno Z<|lno Z<|lno Z<|lkT Z<|nG<|aY Z<|sL<|lq (rd (x:=.agg [vI _ _,vI _ _,vI _ _,vV _,vV _,vV _]) (rd_build Z ty.sa27 Z Z Z) Z)<|lq (rd (x:=.agg [vI _ _,vV _]) (rd_build Z ty.sa34 Z Z Z) Z)<|lst (zB 2004 ty.co27 ty.inf27 Z) Z<|lst (zB 2005 ty.co34 ty.inf34 Z) Z<|lT [2,3,4,5,6] [2002,2003,2004,2005] ?_
  refine laI Z<|nG<|aR<|rT ?_
  have hbe:(bookOk x&&eventOk e)=false:=by simp_all
  have hc1:=applyC_bad hbe
  refine end_xret (.tup [zBookV,zPostV,int 1]) [] ?_ rfl trivial
  exact .inl ⟨by rw[hc1];decide,by rw[hc1],rfl⟩
 ·intro h1
  refine loX (.agg [vI _ _,vI _ _,vI _ _,vI _ _,vI _ _,vI _ _,vB _]) ty.kd29 Z<|lst (zL Tryz.func49 (seventOk_e e) Z) Z<|luB Z<|lkB Z<|nG ?_
  refine AW.cond rfl ?_ ?_
  ·intro h2
   refine sL<|lq (rd (x:=.agg [vI _ _,vI _ _,vI _ _,vV _,vV _,vV _]) (rd_build Z ty.sa27 Z Z Z) Z)<|lq (rd (x:=.agg [vI _ _,vV _]) (rd_build Z ty.sa34 Z Z Z) Z)<|lst (zB 2004 ty.co27 ty.inf27 Z) Z<|lst (zB 2005 ty.co34 ty.inf34 Z) Z<|laI Z<|nG<|aR<|rT ?_
   have hbe:(bookOk x&&eventOk e)=false:=by simp_all
   have hc1:=applyC_bad hbe
   refine end_xret (.tup [zBookV,zPostV,int 1]) [] ?_ rfl trivial
   exact .inl ⟨by rw[hc1];decide,by rw[hc1],rfl⟩
  ·intro h2
   refine aK<|gA ?_
   have hbe:(bookOk x&&eventOk e)=true:=by simp_all
   have hbk:bookOk x=true:=by simp_all
   have hev:eventOk e=true:=by simp_all
   have fi:=bookOk_fi hbk
   have sm:=fi.sm
   obtain⟨es,an0,fn0⟩:=evSm_of hev
   have hm:x.chans.length≤1000000000:=by have:=sm.lc;omega
   obtain⟨h_t,h_w,h_n,h_len,h_pt,h_ch⟩:=bookOk_parts hbk
   have hnx:=inB_true.1 h_n
   have hwl:=amtOk_true.1 h_w
   have hcs:=applyC_sp hbe
   have hkk:=ev_kind hev
   have hea:=evAmt hev
   refine loX (.agg [vI _ _,vI _ _,vI _ _,vL _ _ _,vL _ _ _,vL _ _ _]) ty.kd27 Z<|lst (zC [(2003,1),(2008,2),(2013,3)] [1,2,3] [] Tryz.func50 (scopy_e x (by have:=sm.lc;have:=sm.lh;have:=sm.li;omega)) (trivial) rfl rfl) Z<|lq (rd (x:=.agg [vI _ _,vI _ _,vI _ _,.own _,.own _,.own _,vV _,vI _ _]) (rd_build rfl ty.sa91 rfl rfl rfl) rfl)<|lst (zX 0 rfl) Z<|lT [2,3,4,5,6,26] [0,1,2,3,2002,2003,2004,2005] ?_
   refine laP Z<|nG ?_
   refine AW.adoptB 4 0 6 120 3 rfl (by decide) rfl ?_
   refine AW.pinB 0 rfl ?_
   intro gw
   refine AW.obj 4 (lAr []) rfl ?_
   refine sL<|lmP Z<|lf 1 ty.F27_1 Z<|loI ty.kd3 Z<|lbB Z ?_
   refine lst (z5a Tryz.func51 (scode_e _ _ _ _ _ _ _ _ _ _ _ _ _ _ _ _ _ _ _ ) (⟨stays.box (Eq.refl 8),trivial⟩) rfl rfl) Z<|nG ?_
   refine aJ [4,5,6,7] [2002,2003,2004,2005] (D:=Unit) (fun jd=>[]) (fun jd=>[(0,sBox gw (spR x e).b.tick (spR x e).b.next (spR x e).b.wallet (spR x e).c),(1,.arr 40 7 (rowsOf encChan (spR x e).b.chans)),(2,hAr (spR x e).b.htlcs),(3,iAr (spR x e).b.circles),(4,lAr (spR x e).l)]) (fun jd=>True) ?_ ?_
   ·refine sL<|lmP Z<|lc Z<|lf 7 ty.F91_2 Z<|loI ty.kd3 Z<|lbB Z<|nG ?_
    refine AW.cond rfl ?_ ?_
    ·intro h3
     refine aS ?_
     have hnn:x.next≠1125899906842624:=fun q=>by
      have h:=h3
      rw[decide_eq_true q]at h
      simp[failC]at h
     refine AW.obj 0 (sBox gw x.tick x.next x.wallet 0) (Eq.trans (b:=sBox gw x.tick x.next x.wallet _) rfl (congrArg (sBox gw x.tick x.next x.wallet) (by rw[decide_eq_false hnn];rfl))) ?_
     refine aL<|lf 0 ty.F29_0 Z<|loI ty.kd3 Z<|nG<|aB<|sL<|lbB Z<|laB Z<|nG ?_
     refine AW.cond rfl ?_ ?_
     ·intro h4
      refine sL<|lf 2 ty.F27_2 Z<|loI ty.kd3 Z<|lf 4 ty.F29_4 Z<|loI ty.kd3 Z<|lst (zL Tryz.func52 (saddAmt_e _ _) Z) Z<|lT [3,4,5,6,7,46] [0,1,2,3,4,2002,2003,2004,2005] ?_
      refine lmX (.tup [vI _ _,vB _]) Z<|lxI Z<|lxB Z<|laI Z<|laB Z<|nA<|lmP Z<|lmB Z<|luB Z ?_
      refine lst (z5a Tryz.func51 (scode_e _ _ _ _ _ _ _ _ _ _ _ _ _ _ _ _ _ _ _ ) (⟨stays.box (Eq.refl 8),trivial⟩) rfl rfl) Z<|luB Z<|nG ?_
      refine AW.cond rfl ?_ ?_
      ·intro h5
       refine aS ?_
       have haO:addOk x.wallet e.amt=true:=by
        have h:=h5
        rcases q:addOk x.wallet e.amt with _|_
        ·rw[q]at h;simp[failC]at h
        ·rfl
       refine aL<|lmP Z<|lmI Z<|lsN 55 (x.wallet+e.amt) Z (addV_yes haO)<|lc Z<|lf 0 ty.F91_0 Z<|lf 2 ty.F27_2 Z<|lst (zB 0 ty.co3 ty.inf3 Z) Z<|lT [3,4,5,6,7] [0,1,2,3,4,2002,2003,2004,2005] ?_
       refine nA<|lmP Z<|lf 4 ty.F29_4 Z<|loI ty.kd3 Z ?_
       refine lst (z5a Tryz.func53 (sline_e _ _ _ _ _ _ _ _ _ _ _ _ _ _ ([]) 0 (LG.nil) (by decide) _ _ _ (Fresh.nil _ _) (rangeA_of es.amt)) (⟨stays.box (Eq.refl 8),trivial⟩) rfl rfl) Z<|nG<|aL<|lmP Z<|lf 4 ty.F29_4 Z<|loI ty.kd3 Z<|lq (rd (x:=vI _ _) (rd_un rfl rfl (fits_i64 (by have:=es.amt;unfold A50 at *;unfold i64;omega))) rfl) ?_
       refine lst (z5a Tryz.func53 (sline_e _ _ _ _ _ _ _ _ _ _ _ _ _ _ (addL [] 1 0 e.amt) 1 (LG.nil.add (rangeA_of es.amt)) (by decide) _ _ _ ((Fresh.nil _ _).add (.inl (by decide))) (rangeA_neg es.amt)) (⟨stays.box (Eq.refl 8),trivial⟩) rfl rfl) Z<|lN<|gB<|gT ?_
       have hkd:e.kind=1:=by simpa using h4
       have hov:overB x e=false:=by
        have h:=h5
        rw[over_1 hnn hkd]
        rw[addOk_over hwl ⟨an0,(amtOk_true.1 hea.1).2⟩]at h
        rcases q:decide (1125899906842624<x.wallet+e.amt)with _|_
        ·(rw[q]at h)<;>first|rfl|(simp[failC]at h)
        ·(rw[q]at h)<;>first|rfl|(simp[failC]at h)
       have hw:depR x e=spR x e:=(wk1 hkd).trans (spR_work hov)
       refine⟨(),trivial,trivial,⟨(Eq.trans (b:=sBox gw x.tick x.next (x.wallet+e.amt) 0) (Eq.trans (b:=sBox gw x.tick x.next (x.wallet+e.amt) _) rfl (congrArg (sBox gw x.tick x.next (x.wallet+e.amt)) (by rw[show addOk x.wallet e.amt=true by rw[addOk_over hwl ⟨an0,(amtOk_true.1 hea.1).2⟩,←over_1 hnn hkd,hov];rfl];rfl))) (congrArg (fun r:WR=>sBox gw r.b.tick r.b.next r.b.wallet r.c) hw)),(congrArg (fun r:WR=>AO.arr 40 7 (rowsOf encChan r.b.chans)) hw),(congrArg (fun r:WR=>hAr r.b.htlcs) hw),(congrArg (fun r:WR=>iAr r.b.circles) hw),(congrArg (fun r:WR=>lAr r.l) hw),trivial⟩,rfl,rfl⟩
      ·intro h5
       refine aK<|gB<|gT ?_
       have hkd:e.kind=1:=by simpa using h4
       have hov:overB x e=true:=by
        have h:=h5
        rw[over_1 hnn hkd]
        rw[addOk_over hwl ⟨an0,(amtOk_true.1 hea.1).2⟩]at h
        rcases q:decide (1125899906842624<x.wallet+e.amt)with _|_
        ·(rw[q]at h)<;>first|rfl|(simp[failC]at h)
        ·(rw[q]at h)<;>first|rfl|(simp[failC]at h)
       have hw:(⟨x,[],2⟩:WR)=spR x e:=spR_over hov
       refine⟨(),trivial,trivial,⟨(Eq.trans (b:=sBox gw x.tick x.next x.wallet 2) (Eq.trans (b:=sBox gw x.tick x.next x.wallet _) rfl (congrArg (sBox gw x.tick x.next x.wallet) (by first|rfl|(rw[show addOk x.wallet e.amt=false by rw[addOk_over hwl ⟨an0,(amtOk_true.1 hea.1).2⟩,←over_1 hnn hkd,hov];rfl];rfl)))) (congrArg (fun r:WR=>sBox gw r.b.tick r.b.next r.b.wallet r.c) hw)),(congrArg (fun r:WR=>AO.arr 40 7 (rowsOf encChan r.b.chans)) hw),(congrArg (fun r:WR=>hAr r.b.htlcs) hw),(congrArg (fun r:WR=>iAr r.b.circles) hw),(congrArg (fun r:WR=>lAr r.l) hw),trivial⟩,rfl,rfl⟩
     ·intro h4
      refine sL<|lbB Z<|laB Z<|nG ?_
      refine AW.cond rfl ?_ ?_
      ·intro h6
       refine aL<|lmP Z ?_
       rcases hsum:addOk e.amt e.fee with _|_
       ·skip
        refine loX (.agg [vI _ _,vI _ _,vI _ _,vI _ _,vI _ _,vI _ _,vB _]) ty.kd29 rfl ?_
        refine lst (z5a Tryz.func54 (sopen2_e _ x e hsum) (⟨stays.box (Eq.refl 8),trivial⟩) rfl rfl) Z<|lT [4,5,6,7] [0,1,2,3,4,2002,2003,2004,2005] ?_
        refine lN<|gB<|gT ?_
        have hkd:e.kind=2:=by simpa using h6
        have hov:overB x e=true:=by
         rw[over_2 hnn hkd]
         rw[addOk_over ⟨an0,(amtOk_true.1 hea.1).2⟩ ⟨fn0,(amtOk_true.1 hea.2).2⟩]at hsum
         simpa using hsum
        have hw:(⟨x,[],2⟩:WR)=spR x e:=spR_over hov
        refine⟨(),trivial,trivial,⟨(Eq.trans (b:=sBox gw x.tick x.next x.wallet 2) rfl (congrArg (fun r:WR=>sBox gw r.b.tick r.b.next r.b.wallet r.c) hw)),(congrArg (fun r:WR=>AO.arr 40 7 (rowsOf encChan r.b.chans)) hw),(congrArg (fun r:WR=>hAr r.b.htlcs) hw),(congrArg (fun r:WR=>iAr r.b.circles) hw),(congrArg (fun r:WR=>lAr r.l) hw),trivial⟩,rfl,rfl⟩
       ·skip
        refine loX (.agg [vI _ _,vI _ _,vI _ _,vI _ _,vI _ _,vI _ _,vB _]) ty.kd29 rfl ?_
        refine lst (z5a Tryz.func54 (sopen_e _ x e sm es hsum) (⟨stays.box (Eq.refl 8),trivial⟩) rfl rfl) Z<|lN<|gB<|gT ?_
        have hkd:e.kind=2:=by simpa using h6
        have hov:overB x e=false:=by
         rw[over_2 hnn hkd]
         rw[addOk_over ⟨an0,(amtOk_true.1 hea.1).2⟩ ⟨fn0,(amtOk_true.1 hea.2).2⟩]at hsum
         simpa using hsum
        have hw:openR x e=spR x e:=(wk2 hkd).trans (spR_work hov)
        refine⟨(),trivial,trivial,⟨(congrArg (fun r:WR=>sBox gw r.b.tick r.b.next r.b.wallet r.c) hw),(congrArg (fun r:WR=>AO.arr 40 7 (rowsOf encChan r.b.chans)) hw),(congrArg (fun r:WR=>hAr r.b.htlcs) hw),(congrArg (fun r:WR=>iAr r.b.circles) hw),(congrArg (fun r:WR=>lAr r.l) hw),trivial⟩,rfl,rfl⟩
      ·intro h6
       refine sL<|lbB Z<|laB Z<|nG ?_
       refine AW.cond rfl ?_ ?_
       ·intro h7
        refine sL<|loX (.agg [vI _ _,vI _ _,vI _ _,vL _ _ _,vL _ _ _,vL _ _ _]) ty.kd27 Z<|lf 2 ty.F29_2 Z<|loI ty.kd3 Z ?_
        rcases chan_find x.chans e.ch with⟨hi,ho⟩|⟨i,c,hi,hc,ho,hid⟩
        ·skip
         refine lst (zL Tryz.func55 (sAt_e x _ hm) rfl) Z<|laI Z<|nG<|aS<|sL<|lmI Z<|lbB Z<|lsB 80 false rfl (by rw[show atI (fun c=>c.id==e.ch) x.chans=_ from hi];simp)<|nG<|aN Z<|aK<|gA<|lmP Z<|lc Z<|lf 7 ty.F91_2 Z<|loI ty.kd3 Z<|lbB Z<|lsB 100 true rfl (by rfl)<|nG<|aY Z<|aL<|lmP Z<|loX (.agg [vI _ _,vI _ _,vI _ _,vI _ _,vI _ _,vI _ _,vB _]) ty.kd29 rfl ?_
         refine lst (z5a Tryz.func56 (sshut_e _ x e fi es fn0) (⟨stays.box (Eq.refl 8),trivial⟩) rfl rfl) Z<|lT [4,5,6,7] [0,1,2,3,4,2002,2003,2004,2005] ?_
         refine lN<|gB<|gT ?_
         have hkd:e.kind=3:=by simpa using h7
         have hov:overB x e=false:=over_3n hnn hkd hi
         have hw:shutR x e=spR x e:=(wk3 hkd).trans (spR_work hov)
         refine⟨(),trivial,trivial,⟨(congrArg (fun r:WR=>sBox gw r.b.tick r.b.next r.b.wallet r.c) hw),(congrArg (fun r:WR=>AO.arr 40 7 (rowsOf encChan r.b.chans)) hw),(congrArg (fun r:WR=>hAr r.b.htlcs) hw),(congrArg (fun r:WR=>iAr r.b.circles) hw),(congrArg (fun r:WR=>lAr r.l) hw),trivial⟩,rfl,rfl⟩
        ·have hcm:=sm.chans c (mem_of_get hc)
         refine lst (zL Tryz.func55 (sAt_e x _ hm) rfl) Z<|laI Z<|nG<|aS<|sL<|lmI Z<|lbB Z<|lsB 80 true rfl (by rw[show atI (fun c=>c.id==e.ch) x.chans=_ from hi];simp)<|nG<|aY Z<|aF [14]<|pq 0 (qmP rfl)<|pq 1 (qf 2 ty.F27_2 rfl)<|sq 2 (roI ty.kd3 rfl)<|pq 3 (qf 3 ty.F27_3 rfl)<|sq 4 (roL ty.kd23 rfl)<|pq 5 (qmX (vI _ _) rfl)<|sq 6 (rd (x:=.rp _) (rd_iaddr_p (i:=i) rfl ty.el23 rfl rfl ?hn1 (rows_some hc)) rfl) ?_
         case hn1=>rw[←chanAt_atI];exact hi
         refine pq 7 (qd (x:=.rp _) (zpfr ty.F40_2 Z) Z)<|sq 8 (rrI ty.kd3 Z) ?_
         refine sq 9 (rhI rfl ⟨rfl,fits_i64 (by have:=hcm.1;have:=es.amt;have:=es.fee;have:=sm.wallet;unfold A50 at *;unfold i64;omega)⟩)<|vq 10 (rf 5 ty.F29_5 rfl)<|vq 11 (roI ty.kd3 rfl) ?_
         refine vq 12 (rhI rfl ⟨rfl,fits_i64 (by have:=hcm.1;have:=es.amt;have:=es.fee;have:=sm.wallet;unfold A50 at *;unfold i64;omega)⟩)<|vq 13 (rbB rfl) ?_
         refine vst 14 rfl (z5a Tryz.func51 (scode_e _ _ _ _ _ _ _ _ _ _ _ _ _ _ _ _ _ _ _ ) (⟨stays.box (Eq.refl 8),trivial⟩) rfl rfl) (.inl rfl)<|fT [3,4,5,6,7] [0,1,2,3,4,2002,2003,2004,2005] ?_
         refine fD<|gA<|lmP Z<|lc Z<|lf 7 ty.F91_2 Z<|loI ty.kd3 Z<|lbB Z<|nG ?_
         refine AW.cond rfl ?_ ?_
         ·intro h8
          refine AW.obj 0 (sBox gw x.tick x.next x.wallet 0) (Eq.trans (b:=sBox gw x.tick x.next x.wallet _) rfl (congrArg (sBox gw x.tick x.next x.wallet) (by have h:=h8;simp only[decide_eq_true_eq]at h;exact h))) ?_
          refine aL<|lmP Z<|loX (.agg [vI _ _,vI _ _,vI _ _,vI _ _,vI _ _,vI _ _,vB _]) ty.kd29 Z ?_
          refine lst (z5a Tryz.func56 (sshut_e _ x e fi es fn0) (⟨stays.box (Eq.refl 8),trivial⟩) rfl rfl) Z<|lN<|gB<|gT ?_
          have hkd:e.kind=3:=by simpa using h7
          have hov:overB x e=false:=by
           have h:=h8
           rw[over_3s hnn hkd hi ho]
           rcases q:decide (1125899906842624<x.wallet+c.loc-e.fee)with _|_
           ·(rw[q]at h)<;>first|rfl|(simp[failC]at h)
           ·(rw[q]at h)<;>first|rfl|(simp[failC]at h)
          have hw:shutR x e=spR x e:=(wk3 hkd).trans (spR_work hov)
          refine⟨(),trivial,trivial,⟨(congrArg (fun r:WR=>sBox gw r.b.tick r.b.next r.b.wallet r.c) hw),(congrArg (fun r:WR=>AO.arr 40 7 (rowsOf encChan r.b.chans)) hw),(congrArg (fun r:WR=>hAr r.b.htlcs) hw),(congrArg (fun r:WR=>iAr r.b.circles) hw),(congrArg (fun r:WR=>lAr r.l) hw),trivial⟩,rfl,rfl⟩
         ·intro h8
          refine aK<|gB<|gT ?_
          have hkd:e.kind=3:=by simpa using h7
          have hov:overB x e=true:=by
           have h:=h8
           rw[over_3s hnn hkd hi ho]
           rcases q:decide (1125899906842624<x.wallet+c.loc-e.fee)with _|_
           ·(rw[q]at h)<;>first|rfl|(simp[failC]at h)
           ·(rw[q]at h)<;>first|rfl|(simp[failC]at h)
          have hw:(⟨x,[],2⟩:WR)=spR x e:=spR_over hov
          refine⟨(),trivial,trivial,⟨(Eq.trans (b:=sBox gw x.tick x.next x.wallet 2) (Eq.trans (b:=sBox gw x.tick x.next x.wallet _) rfl (congrArg (sBox gw x.tick x.next x.wallet) (by rw[←over_3s hnn hkd hi ho,hov];rfl))) (congrArg (fun r:WR=>sBox gw r.b.tick r.b.next r.b.wallet r.c) hw)),(congrArg (fun r:WR=>AO.arr 40 7 (rowsOf encChan r.b.chans)) hw),(congrArg (fun r:WR=>hAr r.b.htlcs) hw),(congrArg (fun r:WR=>iAr r.b.circles) hw),(congrArg (fun r:WR=>lAr r.l) hw),trivial⟩,rfl,rfl⟩
       ·intro h7
        refine sL<|lbB Z<|laB Z<|nG ?_
        refine AW.cond rfl ?_ ?_
        ·intro h9
         refine sL<|loX (.agg [vI _ _,vI _ _,vI _ _,vL _ _ _,vL _ _ _,vL _ _ _]) ty.kd27 Z<|lf 2 ty.F29_2 Z<|loI ty.kd3 Z ?_
         rcases chan_find x.chans e.ch with⟨hi,ho⟩|⟨i,c,hi,hc,ho,hid⟩
         ·skip
          refine lst (zL Tryz.func55 (sAt_e x _ hm) Z) Z<|lT [3,4,5,6,7,109] [0,1,2,3,4,2002,2003,2004,2005] ?_
          refine laI Z<|nA<|lmP Z<|lmI Z<|lbB Z<|lsB 112 true rfl (by rw[show atI (fun c=>c.id==e.ch) x.chans=_ from hi];simp) ?_
          refine lst (z5a Tryz.func51 (scode_e _ _ _ _ _ _ _ _ _ _ _ _ _ _ _ _ _ _ _ ) (⟨stays.box (Eq.refl 8),trivial⟩) rfl rfl) Z<|lsB 113 true rfl (by rfl)<|luZ Z<|nG<|aN Z<|aK<|gB<|gT ?_
          have hkd:e.kind=4:=by simpa using h9
          have hov:overB x e=false:=over_o hnn (by omega) (by omega) (by omega) (by omega)
          have hw:priR x e=spR x e:=(wk4 hkd).trans (spR_work hov)
          rw[priR_no hi]at hw
          refine⟨(),trivial,trivial,⟨(congrArg (fun r:WR=>sBox gw r.b.tick r.b.next r.b.wallet r.c) hw),(congrArg (fun r:WR=>AO.arr 40 7 (rowsOf encChan r.b.chans)) hw),(congrArg (fun r:WR=>hAr r.b.htlcs) hw),(congrArg (fun r:WR=>iAr r.b.circles) hw),(congrArg (fun r:WR=>lAr r.l) hw),trivial⟩,rfl,rfl⟩
         ·have hcm:=sm.chans c (mem_of_get hc)
          refine lst (zL Tryz.func55 (sAt_e x _ hm) rfl) Z<|laI Z<|nA<|lmP Z<|lmI Z<|lbB Z<|lsB 112 false rfl (by rw[show atI (fun c=>c.id==e.ch) x.chans=_ from hi];simp) ?_
          refine lst (z5a Tryz.func51 (scode_e _ _ _ _ _ _ _ _ _ _ _ _ _ _ _ _ _ _ _ ) (⟨stays.box (Eq.refl 8),trivial⟩) rfl rfl) Z<|lsB 113 false rfl (by rfl)<|luT Z<|nG<|aY Z<|aS<|aF [10]<|pq 0 (qmP rfl)<|pq 1 (qc rfl)<|pq 2 (qf 0 ty.F91_0 rfl)<|pq 3 (qf 3 ty.F27_3 rfl)<|sq 4 (roO ty.kd23 rfl)<|pq 5 (qmX (vI _ _) rfl)<|vq 6 (rf 4 ty.F29_4 rfl)<|vq 7 (roI ty.kd3 rfl)<|vq 8 (rd (x:=.ptr 1 _ 0) (rd_iaddr_own (i:=i) rfl ty.el23 rfl rfl rfl ?hn2 (by rw[length_rowsOf];exact(List.getElem?_eq_some_iff.1 hc).1)) rfl) ?_
          case hn2=>rw[←chanAt_atI];exact hi
          refine vq 9 (rf 4 ty.F40_4 Z)<|vst 10 Z (zQ 1 [.v (.int .i64 e.amt)] ty.co3 ty.inf3 Z (rows_some hc)) (.inl Z)<|fT [3,4,5,6,7,11] [0,1,2,3,4,2002,2003,2004,2005] ?_
          refine fD<|gT ?_
          refine AW.obj 1 (AO.arr 40 7 (rowsOf encChan (x.chans.set i { c with base:=e.amt }))) (Eq.trans (b:=AO.arr 40 7 ((rowsOf encChan (x.chans)).set i ((encChan { c with base:=e.amt }).map PV.v))) rfl (congrArg (AO.arr 40 7) (rows_set))) ?_
          refine aF [10]<|pq 0 (qmP rfl)<|pq 1 (qc rfl)<|pq 2 (qf 0 ty.F91_0 rfl)<|pq 3 (qf 3 ty.F27_3 rfl)<|sq 4 (roO ty.kd23 rfl)<|pq 5 (qmX (vI _ _) rfl)<|vq 6 (rf 5 ty.F29_5 rfl)<|vq 7 (roI ty.kd3 rfl)<|vq 8 (rd (x:=.ptr 1 _ 0) (rd_iaddr_own (i:=i) rfl ty.el23 rfl rfl rfl ?hn3 (by rw[length_rowsOf,List.length_set];exact(List.getElem?_eq_some_iff.1 hc).1)) rfl) ?_
          case hn3=>rw[←chanAt_atI];exact hi
          refine vq 9 (rf 5 ty.F40_5 Z)<|vst 10 Z (zQ 1 [.v (.int .i64 e.fee)] ty.co3 ty.inf3 Z (rows_some (set_get_eq hc { c with base:=e.amt }))) (.inl Z)<|fD<|gB<|gT ?_
          have hkd:e.kind=4:=by simpa using h9
          have hov:overB x e=false:=over_o hnn (by omega) (by omega) (by omega) (by omega)
          have hw:priR x e=spR x e:=(wk4 hkd).trans (spR_work hov)
          rw[priR_yes hi]at hw
          refine⟨(),trivial,trivial,⟨(congrArg (fun r:WR=>sBox gw r.b.tick r.b.next r.b.wallet r.c) hw),(Eq.trans (Eq.trans (b:=AO.arr 40 7 ((rowsOf encChan (x.chans.set i { c with base:=e.amt })).set i ((encChan { c with base:=e.amt,ppm:=e.fee }).map PV.v))) rfl (congrArg (AO.arr 40 7) (rows_set.trans (congrArg (rowsOf encChan) (by rw[List.set_set,set_upd fi.ids hc (fun c=>{ c with base:=e.amt,ppm:=e.fee }),hid]))))) (congrArg (fun r:WR=>AO.arr 40 7 (rowsOf encChan r.b.chans)) hw)),(congrArg (fun r:WR=>hAr r.b.htlcs) hw),(congrArg (fun r:WR=>iAr r.b.circles) hw),(congrArg (fun r:WR=>lAr r.l) hw),trivial⟩,rfl,rfl⟩
        ·intro h9
         refine sL<|lbB Z<|laB Z<|nG ?_
         refine AW.cond rfl ?_ ?_
         ·intro h10
          refine aL<|lmP Z<|loX (.agg [vI _ _,vI _ _,vI _ _,vI _ _,vI _ _,vI _ _,vB _]) ty.kd29 Z ?_
          refine lst (z5a Tryz.func57 (sadm_e _ x e fi es (ev_ne hev (.inl (by simpa using h10)))) (⟨stays.box (Eq.refl 8),trivial⟩) rfl rfl) Z<|lT [4,5,6,7] [0,1,2,3,4,2002,2003,2004,2005] ?_
          refine lN<|gB<|gT ?_
          have hkd:e.kind=5:=by simpa using h10
          have hov:overB x e=false:=over_o hnn (by omega) (by omega) (by omega) (by omega)
          have hw:admR x e=spR x e:=(wk5 hkd).trans (spR_work hov)
          refine⟨(),trivial,trivial,⟨(congrArg (fun r:WR=>sBox gw r.b.tick r.b.next r.b.wallet r.c) hw),(congrArg (fun r:WR=>AO.arr 40 7 (rowsOf encChan r.b.chans)) hw),(congrArg (fun r:WR=>hAr r.b.htlcs) hw),(congrArg (fun r:WR=>iAr r.b.circles) hw),(congrArg (fun r:WR=>lAr r.l) hw),trivial⟩,rfl,rfl⟩
         ·intro h10
          refine aS<|sL<|lbB Z<|laB Z<|nG ?_
          refine AW.cond rfl ?_ ?_
          ·intro h11
           refine asB 140 true Z h11<|aK<|gT<|aY Z<|aL<|lmP Z<|lf 1 ty.F29_1 Z<|loI ty.kd3 Z<|lf 0 ty.F29_0 Z<|loI ty.kd3 Z<|lbB Z ?_
           refine lst (z5a Tryz.func58 (sset_e _ x _ _ fi (keys_nz hbk).1 (amts_of hbk).1) (⟨stays.box (Eq.refl 8),trivial⟩) rfl rfl) Z<|lN<|gB<|gT ?_
           have hkd:e.kind=6:=by simpa using h11
           have hov:overB x e=false:=over_o hnn (by omega) (by omega) (by omega) (by omega)
           have hw:setR x e=spR x e:=(wk6 (.inl hkd)).trans (spR_work hov)
           rw[←setK_eq]at hw
           refine⟨(),trivial,trivial,⟨(congrArg (fun r:WR=>sBox gw r.b.tick r.b.next r.b.wallet r.c) hw),(congrArg (fun r:WR=>AO.arr 40 7 (rowsOf encChan r.b.chans)) hw),(congrArg (fun r:WR=>hAr r.b.htlcs) hw),(congrArg (fun r:WR=>iAr r.b.circles) hw),(congrArg (fun r:WR=>lAr r.l) hw),trivial⟩,rfl,rfl⟩
          ·intro h11
           refine asB 140 false Z h11<|aL<|lbB Z<|laB Z<|nG ?_
           refine AW.cond rfl ?_ ?_
           ·intro h12
            refine aL<|lmP Z<|lf 1 ty.F29_1 Z<|loI ty.kd3 Z<|lf 0 ty.F29_0 Z<|loI ty.kd3 Z<|lbB Z ?_
            refine lst (z5a Tryz.func58 (sset_e _ x _ _ fi (keys_nz hbk).1 (amts_of hbk).1) (⟨stays.box (Eq.refl 8),trivial⟩) rfl rfl) Z<|lT [4,5,6,7] [0,1,2,3,4,2002,2003,2004,2005] ?_
            refine lN<|gB<|gT ?_
            have hkd:e.kind=7:=by simpa using h12
            have hov:overB x e=false:=over_o hnn (by omega) (by omega) (by omega) (by omega)
            have hw:setR x e=spR x e:=(wk6 (.inr hkd)).trans (spR_work hov)
            rw[←setK_eq]at hw
            refine⟨(),trivial,trivial,⟨(congrArg (fun r:WR=>sBox gw r.b.tick r.b.next r.b.wallet r.c) hw),(congrArg (fun r:WR=>AO.arr 40 7 (rowsOf encChan r.b.chans)) hw),(congrArg (fun r:WR=>hAr r.b.htlcs) hw),(congrArg (fun r:WR=>iAr r.b.circles) hw),(congrArg (fun r:WR=>lAr r.l) hw),trivial⟩,rfl,rfl⟩
           ·intro h12
            refine sL<|lbB Z<|laB Z<|nG ?_
            refine AW.cond rfl ?_ ?_
            ·intro h13
             refine aL<|lmP Z ?_
             rcases Classical.em (x.tick=1125899906842624)with htk|htk
             ·skip
              refine lst (z5a Tryz.func59 (stick2_e _ x htk) (⟨stays.box (Eq.refl 8),trivial⟩) rfl rfl) Z<|lN<|gB<|gT ?_
              have hkd:e.kind=8:=by simpa using h13
              have hov:overB x e=true:=by rw[over_8 hnn hkd];simpa using htk
              have hw:(⟨x,[],2⟩:WR)=spR x e:=spR_over hov
              refine⟨(),trivial,trivial,⟨(Eq.trans (b:=sBox gw x.tick x.next x.wallet 2) rfl (congrArg (fun r:WR=>sBox gw r.b.tick r.b.next r.b.wallet r.c) hw)),(congrArg (fun r:WR=>AO.arr 40 7 (rowsOf encChan r.b.chans)) hw),(congrArg (fun r:WR=>hAr r.b.htlcs) hw),(congrArg (fun r:WR=>iAr r.b.circles) hw),(congrArg (fun r:WR=>lAr r.l) hw),trivial⟩,rfl,rfl⟩
             ·skip
              refine lst (z5a Tryz.func59 (stick_e _ x sm htk) (⟨stays.box (Eq.refl 8),trivial⟩) rfl rfl) Z<|lN<|gB<|gT ?_
              have hkd:e.kind=8:=by simpa using h13
              have hov:overB x e=false:=by rw[over_8 hnn hkd];simpa using htk
              have hw:tickR x=spR x e:=(wk8 hkd).trans (spR_work hov)
              refine⟨(),trivial,trivial,⟨(congrArg (fun r:WR=>sBox gw r.b.tick r.b.next r.b.wallet r.c) hw),(congrArg (fun r:WR=>AO.arr 40 7 (rowsOf encChan r.b.chans)) hw),(congrArg (fun r:WR=>hAr r.b.htlcs) hw),(congrArg (fun r:WR=>iAr r.b.circles) hw),(congrArg (fun r:WR=>lAr r.l) hw),trivial⟩,rfl,rfl⟩
            ·intro h13
             refine sL<|lbB Z<|laB Z<|nG ?_
             refine AW.cond rfl ?_ ?_
             ·intro h14
              refine aL<|lmP Z<|loX (.agg [vI _ _,vI _ _,vI _ _,vI _ _,vI _ _,vI _ _,vB _]) ty.kd29 Z ?_
              refine lst (z5a Tryz.func60 (slau_e _ x e fi es (ev_ne hev (.inr (by simpa using h14)))) (⟨stays.box (Eq.refl 8),trivial⟩) rfl rfl) Z<|lN<|gB<|gT ?_
              have hkd:e.kind=9:=by simpa using h14
              have hov:overB x e=false:=over_o hnn (by omega) (by omega) (by omega) (by omega)
              have hw:lauR x e=spR x e:=(wk9 hkd).trans (spR_work hov)
              refine⟨(),trivial,trivial,⟨(congrArg (fun r:WR=>sBox gw r.b.tick r.b.next r.b.wallet r.c) hw),(congrArg (fun r:WR=>AO.arr 40 7 (rowsOf encChan r.b.chans)) hw),(congrArg (fun r:WR=>hAr r.b.htlcs) hw),(congrArg (fun r:WR=>iAr r.b.circles) hw),(congrArg (fun r:WR=>lAr r.l) hw),trivial⟩,rfl,rfl⟩
             ·intro h14
              refine aS<|sL<|lbB Z<|laB Z<|nG ?_
              refine AW.cond rfl ?_ ?_
              ·intro h15
               refine asB 159 true Z h15<|aK<|gT<|aY Z<|aL<|lmP Z<|lf 1 ty.F29_1 Z<|loI ty.kd3 Z<|lf 0 ty.F29_0 Z<|loI ty.kd3 Z<|lbB Z ?_
               refine lst (z5a Tryz.func61 (sland_e _ x _ _ fi (keys_nz hbk).2 (circle_fits hbk)) (⟨stays.box (Eq.refl 8),trivial⟩) rfl rfl) Z<|lT [4,5,6,7] [0,1,2,3,4,2002,2003,2004,2005] ?_
               refine lN<|gB<|gT ?_
               have hkd:e.kind=10:=by simpa using h15
               have hov:overB x e=false:=over_o hnn (by omega) (by omega) (by omega) (by omega)
               have hw:landR x e=spR x e:=(wk10 (by omega)).trans (spR_work hov)
               rw[←landK_eq]at hw
               refine⟨(),trivial,trivial,⟨(congrArg (fun r:WR=>sBox gw r.b.tick r.b.next r.b.wallet r.c) hw),(congrArg (fun r:WR=>AO.arr 40 7 (rowsOf encChan r.b.chans)) hw),(congrArg (fun r:WR=>hAr r.b.htlcs) hw),(congrArg (fun r:WR=>iAr r.b.circles) hw),(congrArg (fun r:WR=>lAr r.l) hw),trivial⟩,rfl,rfl⟩
              ·intro h15
               refine asB 159 false Z h15<|aL<|lbB Z<|laB Z<|nG ?_
               refine AW.cond rfl ?_ ?_
               ·intro h16
                refine aL<|lmP Z<|lf 1 ty.F29_1 Z<|loI ty.kd3 Z<|lf 0 ty.F29_0 Z<|loI ty.kd3 Z<|lbB Z ?_
                refine lst (z5a Tryz.func61 (sland_e _ x _ _ fi (keys_nz hbk).2 (circle_fits hbk)) (⟨stays.box (Eq.refl 8),trivial⟩) rfl rfl) Z<|lN<|gB<|gT ?_
                have hkd:e.kind=11:=by simpa using h16
                have hov:overB x e=false:=over_o hnn (by omega) (by omega) (by omega) (by omega)
                have hw:landR x e=spR x e:=(wk10 (by omega)).trans (spR_work hov)
                rw[←landK_eq]at hw
                refine⟨(),trivial,trivial,⟨(congrArg (fun r:WR=>sBox gw r.b.tick r.b.next r.b.wallet r.c) hw),(congrArg (fun r:WR=>AO.arr 40 7 (rowsOf encChan r.b.chans)) hw),(congrArg (fun r:WR=>hAr r.b.htlcs) hw),(congrArg (fun r:WR=>iAr r.b.circles) hw),(congrArg (fun r:WR=>lAr r.l) hw),trivial⟩,rfl,rfl⟩
               ·intro h16
                refine aK<|gB<|gT ?_
                exfalso
                have q1:¬e.kind=1:=by simpa using h4
                have q2:¬e.kind=2:=by simpa using h6
                have q3:¬e.kind=3:=by simpa using h7
                have q4:¬e.kind=4:=by simpa using h9
                have q5:¬e.kind=5:=by simpa using h10
                have q6:¬e.kind=6:=by simpa using h11
                have q7:¬e.kind=7:=by simpa using h12
                have q8:¬e.kind=8:=by simpa using h13
                have q9:¬e.kind=9:=by simpa using h14
                have q10:¬e.kind=10:=by simpa using h15
                have q11:¬e.kind=11:=by simpa using h16
                omega
    ·intro h3
     refine aK<|gT ?_
     have hov:overB x e=true:=sp_next (by
      have h:=h3
      rcases Classical.em (x.next=1125899906842624)with q|q
      ·exact q
      ·rw[decide_eq_false q]at h
       simp[failC]at h)
     have hw:(⟨x,[],2⟩:WR)=spR x e:=spR_over hov
     refine⟨(),trivial,trivial,⟨(Eq.trans (b:=sBox gw x.tick x.next x.wallet _) rfl ((congrArg (sBox gw x.tick x.next x.wallet) (show _=(2:Int) by first|rfl|(have h:=h3;rcases q:decide (x.next=1125899906842624)with _|_;(rw[q]at h;simp[failC]at h);rfl))).trans (congrArg (fun r:WR=>sBox gw r.b.tick r.b.next r.b.wallet r.c) hw))),(congrArg (fun r:WR=>AO.arr 40 7 (rowsOf encChan r.b.chans)) hw),(congrArg (fun r:WR=>hAr r.b.htlcs) hw),(congrArg (fun r:WR=>iAr r.b.circles) hw),(congrArg (fun r:WR=>lAr r.l) hw),trivial⟩,rfl,rfl⟩
   ·intro jd hJ
    refine aS<|sL<|lmP Z<|lc Z<|lf 7 ty.F91_2 Z<|loI ty.kd3 Z<|lbB Z<|nG ?_
    refine AW.cond rfl ?_ ?_
    ·intro h17
     refine aS<|aG 8 [2004,2005]<|tq 0 (rd (x:=.agg [vI _ _,vI _ _,vI _ _,vV _,vV _,vV _]) (rd_build Z ty.sa27 Z Z Z) Z)<|tq 1 (rd (x:=.agg [vI _ _,vV _]) (rd_build Z ty.sa34 Z Z Z) Z)<|tq 2 (rmP Z)<|tq 3 (rc Z)<|tq 4 (rf 7 ty.F91_2 Z)<|tq 5 (roI ty.kd3 Z)<|yst 6 Z (zB 2004 ty.co27 ty.inf27 Z)<|yst 7 Z (zB 2005 ty.co34 ty.inf34 Z)<|yq 8 (raI Z)<|gD<|gT<|aR<|rT ?_
     refine end_xret (.tup [zBookV,zPostV,int (spR x e).c]) [] ?_ rfl trivial
     exact .inl ⟨by rw[hcs];simpa using h17,by rw[hcs],rfl⟩
    ·intro h17
     refine aK<|gT<|aS<|sL<|lmP Z<|lc Z<|lf 6 ty.F91_1 Z<|loO ty.kd32 Z<|lnI ty.sl32 Z<|lbB Z<|nG ?_
     refine AW.cond rfl ?_ ?_
     ·intro h18
      refine sL<|lmP Z<|lc Z<|lf 0 ty.F91_0 Z<|loX (.agg [vI _ _,vI _ _,vI _ _,.own _,.own _,.own _]) ty.kd27 Z<|lq (rd (x:=.agg [vI _ _,vV _]) (rd_build Z ty.sa34 Z Z Z) Z)<|lst (zB 2004 ty.co27 ty.inf27 Z) Z<|lT [4,5,6,7,190] [0,1,2,3,4,2002,2003,2004,2005] ?_
      refine lst (zB 2005 ty.co34 ty.inf34 Z) Z<|laI Z<|nG<|aR<|rT ?_
      have hc0:(spR x e).c=0:=by simpa using h17
      obtain⟨hov,hsp⟩:=spR_c hc0
      have hl0:(spR x e).l=[]:=List.length_eq_zero_iff.1 (by have h:=h18;simp only[length_rowsOf,decide_eq_true_eq]at h;omega)
      refine end_xret (.tup [ownB (spR x e).b.tick (spR x e).b.next (spR x e).b.wallet,zPostV,int 0]) (ob3 (spR x e).b) ?_ rfl ⟨rfl,rfl,rfl,trivial⟩
      rw[hsp]at hl0 ⊢;exact .inr (.inl ⟨by rw[hcs];exact hc0,hl0,rfl,rfl⟩)
     ·intro h18
      refine aK<|gT<|aS<|aF [11]<|pq 0 (qmP Z)<|pq 1 (qc Z)<|pq 2 (qf 0 ty.F91_0 Z)<|pq 3 (qf 1 ty.F27_1 Z)<|sq 4 (roI ty.kd3 Z)<|pq 5 (qmP Z)<|pq 6 (qc Z)<|pq 7 (qf 6 ty.F91_1 Z)<|sq 8 (roO ty.kd32 Z)<|sq 9 (rd (x:=.agg [vI _ _,.own _]) (rd_build Z ty.sa34 Z Z Z) Z)<|vst 10 Z (zA 2012 ty.ze34 Z) (.inr Z)<|vst 11 Z (zB 2012 ty.co34 ty.inf34 Z) (.inl Z)<|fT [4,5,6,7,12] [0,1,2,3,4,2002,2003,2004,2005,2012] ?_
      refine fD<|gA<|lmP Z<|lc Z<|lf 0 ty.F91_0 Z<|lf 1 ty.F27_1 Z<|loI ty.kd3 Z ?_
      refine lhI rfl ⟨rfl,fits_i64 (by rw[spR_next];unfold i64;omega)⟩<|lc Z<|lf 0 ty.F91_0 Z<|lf 1 ty.F27_1 Z<|lst (zB 0 ty.co3 ty.inf3 rfl) Z<|nG<|aS<|aG 7 [2004,2005]<|tq 0 (rmP rfl)<|tq 1 (rc rfl)<|tq 2 (rf 0 ty.F91_0 rfl)<|tq 3 (roX (.agg [vI _ _,vI _ _,vI _ _,.own _,.own _,.own _]) ty.kd27 rfl)<|tq 4 (roX (.agg [vI _ _,.own _]) ty.kd34 rfl)<|yst 5 rfl (zB 2004 ty.co27 ty.inf27 rfl)<|gX [4,5,6,214] [0,1,2,3,4,2002,2003,2004,2005,2012] ?_
      refine yst 6 Z (zB 2005 ty.co34 ty.inf34 Z)<|yq 7 (raI Z)<|gD<|gT<|aR ?_
      have hc0:(spR x e).c=0:=by simpa using h17
      obtain⟨hov,hsp⟩:=spR_c hc0
      have hl0:(spR x e).l≠[]:=fun q=>by
       have h:=h18
       rw[q]at h
       simp[rowsOf]at h
      refine end_xret (.tup [ownB (spR x e).b.tick ((spR x e).b.next+1) (spR x e).b.wallet,.agg [int (spR x e).b.next,.own 4],int 0]) (ob4 (spR x e).b (spR x e).l) ?_ rfl ⟨rfl,rfl,rfl,rfl,trivial⟩
      rw[hsp]at hl0 ⊢;exact .inr (.inr ⟨by rw[hcs];exact hc0,hl0,by rw[workR_next],rfl⟩)

theorem SlR.each{α:Type}{sz:Nat}{rep:World→Nat→Nat→List Value→α→Prop}{w:World}{lo hi:Nat}{v:Value}{xs:List α}{p:α→Prop}(h:SlR sz rep w lo hi v xs)(hp:∀lo hi cs x,rep w lo hi cs x→p x):∀x∈xs,p x:=by
 obtain⟨a,cap,rfl,c1,c2,hsl⟩:=h
 intro x hx
 rcases hsl with hz|⟨b,off,rfl,b1,b2,hel⟩
 ·subst hz;simp at hx
 ·obtain⟨i,hi,rfl⟩:=List.getElem_of_mem hx
  obtain⟨cs,h1,_⟩:=hel i hi
  exact hp _ _ _ _ h1
theorem BookWf.of{x:Book}{w:World}{v0 v1 v2:Value}(h0:SlR 7 repChan w 0 w.heap.size v0 x.chans)(h1:SlR 7 repHtlc w 0 w.heap.size v1 x.htlcs)(h2:SlR 5 repCircle w 0 w.heap.size v2 x.circles)(hn:x.chans.length≤1048576):BookWf x:=
 ⟨h0.each fun _ _ _ _ h=>h.2,h1.each fun _ _ _ _ h=>h.2,h2.each fun _ _ _ _ h=>h.2,hn⟩
def Spot(S E lo hi:Nat)(f:List Nat):Prop:=S≤lo∧lo≤hi∧hi≤E∧((lo=E∧hi=E)∨(hi=lo+1∧lo∈f))
theorem Spot.none(S E:Nat)(h:S≤E):Spot S E E E []:=⟨h,Nat.le_refl _,Nat.le_refl _,.inl ⟨rfl,rfl⟩⟩
theorem Spot.apart{S E lo hi lo' hi':Nat}{f f':List Nat}(h:Spot S E lo hi f)(h':Spot S E lo' hi' f')(hd:∀b∈f,b ∉ f'):hi≤lo'∨hi'≤lo:=by
 obtain⟨h1,h2,h3,h4⟩:=h
 obtain⟨k1,k2,k3,k4⟩:=h'
 rcases h4 with q|⟨q,qm⟩<;>rcases k4 with r|⟨r,rm⟩
 ·omega
 ·omega
 ·omega
 ·have:lo≠lo':=fun e=>hd lo qm (e▸rm)
  omega
theorem OB.slr{L:Nat→Prop}{ρ:Nat→Value}{H:Nat→AO}{α:Type}{enc:α→List Value}{sz:Nat}{rep:World→Nat→Nat→List Value→α→Prop}{w:World}{v:Value}{f:List Nat}{xs:List α}{e:Pin}{S:Nat}(h:OB L ρ H w v f (.arr e sz (rowsOf enc xs)))(hs:∀x,(enc x).length=sz)(hrep:∀x∈xs,rep w 0 w.heap.size (enc x) x)(hfl:∀lo hi lo' hi' cs x,rep w lo hi cs x→rep w lo' hi' cs x)(hS:S≤w.heap.size)(hf:∀b∈f,S≤b) :
 ∃a c lo hi,v=.slice a xs.length c∧SlR sz rep w lo hi (.slice a xs.length c) xs∧Spot S w.heap.size lo hi f:=by
 have h1:=(h.reads).slr hs hrep
 have hv:f=v.ownBlock.toList:=by obtain⟨_,_,_,_,_,q,_⟩:=h;exact q
 have hlt:=h.lt
 obtain⟨a,c,rfl,c1,c2,hsl⟩:=h1
 rcases hsl with hz|⟨b,off,rfl,b1,b2,hel⟩
 ·exact⟨a,c,w.heap.size,w.heap.size,rfl,⟨a,c,rfl,c1,c2,.inl hz⟩,hS,Nat.le_refl _,Nat.le_refl _,.inl ⟨rfl,rfl⟩⟩
 ·have hb:b∈f:=by rw[hv];simp[Value.ownBlock]
  exact⟨_,c,b,b+1,rfl,⟨_,c,rfl,c1,c2,.inr ⟨b,off,rfl,Nat.le_refl _,Nat.lt_succ_self _,fun i hi=>let ⟨cs,q1,q2⟩:=hel i hi;⟨cs,hfl _ _ _ _ _ _ q1,q2⟩⟩⟩,hf b hb,Nat.le_succ _,b2,.inr ⟨rfl,hb⟩⟩
def zeroBook:Book:=⟨0,0,0,[],[],[]⟩
def appB(x:Book)(e:Event):Book:=if applyC x e=0 then (if (workR x e).l=[]then (workR x e).b else { (workR x e).b with next:=(workR x e).b.next+1 })else zeroBook
def appP(x:Book)(e:Event):Posting:=if applyC x e=0 then (if (workR x e).l=[]then ⟨0,[]⟩else ⟨x.next,(workR x e).l⟩)else ⟨0,[]⟩
theorem appB_no{x:Book}{e:Event}(h:applyC x e≠0):appB x e=zeroBook∧appP x e=⟨0,[]⟩:=by unfold appB appP;rw[if_neg h,if_neg h];exact⟨rfl,rfl⟩
theorem appB_nil{x:Book}{e:Event}(h:applyC x e=0)(h2:(workR x e).l=[]):appB x e=(workR x e).b∧appP x e=⟨0,[]⟩:=by unfold appB appP;rw[if_pos h,if_pos h,if_pos h2,if_pos h2];exact⟨rfl,rfl⟩
theorem appB_yes{x:Book}{e:Event}(h:applyC x e=0)(h2:(workR x e).l≠[]):appB x e={ (workR x e).b with next:=(workR x e).b.next+1 }∧appP x e=⟨x.next,(workR x e).l⟩:=by unfold appB appP;rw[if_pos h,if_pos h,if_neg h2,if_neg h2];exact⟨rfl,rfl⟩
structure WrWf(r:WR):Prop where
 chans:∀c∈r.b.chans,wfChan c
 htlcs:∀c∈r.b.htlcs,wfHtlc c
 circles:∀c∈r.b.circles,wfCircle c
 lines:∀l∈r.l,wfLine l
 lc:r.b.chans.length≤100000
 lh:r.b.htlcs.length≤100000
 li:r.b.circles.length≤100000
 ll:r.l.length≤100000
theorem rv_agg{L:Nat→Prop}{ρ:Nat→Value}{H:Nat→AO}{w:World}{l:List AV}{c:Value}(h:RV L ρ H w (.agg l) c):∃cs,c=.agg cs.toArray∧RVL L ρ H w l cs:=by rw[RV]at h;exact h
theorem rv_tup{L:Nat→Prop}{ρ:Nat→Value}{H:Nat→AO}{w:World}{l:List AV}{c:Value}(h:RV L ρ H w (.tup l) c):∃cs,c=.tuple cs.toArray∧RVL L ρ H w l cs:=by rw[RV]at h;exact h
theorem rv_own{L:Nat→Prop}{ρ:Nat→Value}{H:Nat→AO}{w:World}{id:Nat}{c:Value}(h:RV L ρ H w (.own id) c)(hh:(H id).here=true):c=ρ id:=by rw[RV]at h;exact h.2 hh

def chB(n:Int)(c:Chan):Prop:=(i64 c.id∧i64 c.size)∧(-n≤c.loc∧c.loc≤n)∧(-n≤c.remote∧c.remote≤n)∧(-n≤c.base∧c.base≤n)∧(-n≤c.ppm∧c.ppm≤n)∧(-n≤c.score∧c.score≤n)
theorem chB.wf{n:Int}{c:Chan}(h:chB n c)(hn:n≤9007199254740992):wfChan c:=by
 obtain⟨⟨h1,h2⟩,h3,h4,h5,h6,h7⟩:=h
 unfold wfChan
 refine⟨h1,h2,?_,?_,?_,?_,?_⟩<;>unfold i64<;>omega
theorem chB.put{n m:Int}{c c':Chan}(h:chB n c)(h1:c'.id=c.id)(h2:c'.size=c.size)(h3:(-m≤c'.loc∧c'.loc≤m)∧(-m≤c'.remote∧c'.remote≤m)∧(-m≤c'.base∧c'.base≤m)∧(-m≤c'.ppm∧c'.ppm≤m)∧(-m≤c'.score∧c'.score≤m)):chB m c':=⟨⟨h1▸h.1.1,h2▸h.1.2⟩,h3⟩
theorem chB.mono{n m:Int}{c:Chan}(h:chB n c)(hn:n≤m):chB m c:=by
 refine h.put rfl rfl ?_
 have:=h.2
 omega
theorem scoreUp_le(n:Int):-100≤scoreUp n∧scoreUp n≤100:=by unfold scoreUp;split<;>omega
theorem scoreDown_le(n:Int):-100≤scoreDown n∧scoreDown n≤100:=by unfold scoreDown;split<;>omega
theorem fade_le(n:Int):-100≤fade n∧fade n≤100:=by unfold fade;repeat' split<;>omega
theorem upd_all{p q:Chan→Prop}{l:List Chan}{a:Int}{f:Chan→Chan}(h:∀c∈l,p c)(hf:∀c,p c→q (f c))(hq:∀c,p c→q c):∀c∈updC l a f,q c:=fun c hc=>by
 unfold updC at hc
 obtain⟨d,hd,rfl⟩:=List.mem_map.1 hc
 split
 ·exact hf d (h d hd)
 ·exact hq d (h d hd)
theorem upd_len{l:List Chan}{a:Int}{f:Chan→Chan}:(updC l a f).length=l.length:=List.length_map _
theorem lines_add{l:List Line}{k c n:Int}(h:∀y∈l,wfLine y)(hk:i64 k)(hc:i64 c)(hn:i64 n):∀y∈addL l k c n,wfLine y:=fun y hy=>by
 rcases mem_addL hy with q|⟨q1,q2,q3⟩
 ·exact h y q
 ·unfold wfLine
  rw[q1,q2,q3]
  exact⟨hk,hc,hn⟩
theorem addL_len(l:List Line)(k c n:Int):(addL l k c n).length≤l.length+1:=by
 unfold addL
 split
 ·omega
 ·rw[insL_length];omega
theorem nil_lines:∀y∈([]:List Line),wfLine y:=by simp
theorem mem_insC{l:List Chan}{c d:Chan}(h:d∈insC l c):d∈l∨d=c:=by
 unfold insC at h
 simp only[List.mem_append,List.mem_singleton]at h
 rcases h with(h|h)|h
 ·exact .inl (List.mem_of_mem_take h)
 ·exact .inr h
 ·exact .inl (List.mem_of_mem_drop h)
theorem insC_len(l:List Chan)(c:Chan):(insC l c).length=l.length+1:=by
 unfold insC
 simp only[List.length_append,List.length_take,List.length_drop,List.length_singleton]
 have:posC l c.id≤l.length:=List.findIdx_le_length
 omega
theorem WrWf.same{x:Book}(hw:BookWf x)(sm:BookSm x)(c:Int):WrWf ⟨x,[],c⟩:=⟨hw.chans,hw.htlcs,hw.circles,nil_lines,by have:=sm.lc;show x.chans.length≤_;omega,by have:=sm.lh;show x.htlcs.length≤_;omega,by have:=sm.li;show x.circles.length≤_;omega,by simp⟩
theorem chB.of{x:Book}(hw:BookWf x)(sm:BookSm x):∀c∈x.chans,chB 1125899906842624 c:=fun c hc=>by
 have h1:=hw.chans c hc
 have h2:=sm.chans c hc
 unfold wfChan at h1
 unfold A50 at h2
 exact⟨⟨h1.1,h1.2.1⟩,h2.1,h2.2.1,h2.2.2.2.1,h2.2.2.2.2,h2.2.2.1⟩
theorem upd_one{x:Book}{a n:Int}{f:Chan→Chan}(hw:BookWf x)(sm:BookSm x)(hf:∀c,chB 1125899906842624 c→chB 4503599627370496 (f c)):∀c∈updC x.chans a f,wfChan c:=fun c hc=>
 (upd_all (q:=chB 4503599627370496) (chB.of hw sm) hf (fun c h=>h.mono (by omega)) c hc).wf (by omega)
theorem upd_both{x:Book}{a b:Int}{f g:Chan→Chan}(hw:BookWf x)(sm:BookSm x)(hf:∀c,chB 1125899906842624 c→chB 4503599627370496 (f c))(hg:∀c,chB 4503599627370496 c→chB 9007199254740992 (g c)):∀c∈updC (updC x.chans a f) b g,wfChan c:=fun c hc=>
 (upd_all (q:=chB 9007199254740992) (upd_all (q:=chB 4503599627370496) (chB.of hw sm) hf (fun c h=>h.mono (by omega))) hg (fun c h=>h.mono (by omega)) c hc).wf (by omega)
theorem i64_50{n:Int}(h:A50 n):i64 n:=by unfold A50 at h;unfold i64;omega
theorem wr_dep{x:Book}{e:Event}(hw:BookWf x)(sm:BookSm x)(es:EvSm e):WrWf (depR x e):=by
 have h:=WrWf.same hw sm 0
 refine⟨h.chans,h.htlcs,h.circles,lines_add (lines_add nil_lines (by (unfold i64;first|omega|(dsimp only;omega))) (by (unfold i64;first|omega|(dsimp only;omega))) (i64_50 es.amt)) (by (unfold i64;first|omega|(dsimp only;omega))) (by (unfold i64;first|omega|(dsimp only;omega))) (by have:=es.amt;unfold A50 at this;unfold i64;omega),h.lc,h.lh,h.li,?_⟩
 have h1:=addL_len (addL [] 1 0 e.amt) 2 0 (-e.amt)
 have h2:=addL_len [] 1 0 e.amt
 show (addL (addL [] 1 0 e.amt) 2 0 (-e.amt)).length≤_
 simp at h2
 omega
theorem two_len(a b c d f g:Int):(addL (addL [] a b c) d f g).length≤100000:=by
 have h1:=addL_len (addL [] a b c) d f g
 have h2:=addL_len [] a b c
 simp at h2
 omega
theorem three_len(a b c d f g h i j:Int):(addL (addL (addL [] a b c) d f g) h i j).length≤100000:=by
 have h0:=addL_len (addL (addL [] a b c) d f g) h i j
 have h1:=addL_len (addL [] a b c) d f g
 have h2:=addL_len [] a b c
 simp at h2
 omega
theorem wr_open{x:Book}{e:Event}(hw:BookWf x)(sm:BookSm x)(es:EvSm e)(we:wfEvent e):WrWf (openR x e):=by
 have h:=WrWf.same hw sm 0
 have ha:=es.amt
 have hf:=es.fee
 by_cases q:openC x e=0
 ·rw[openR_yes q]
  refine⟨fun c hc=>?_,h.htlcs,h.circles,lines_add (lines_add nil_lines (by (unfold i64;first|omega|(dsimp only;omega))) we.2.2.1 (i64_50 ha)) (by (unfold i64;first|omega|(dsimp only;omega))) (by (unfold i64;first|omega|(dsimp only;omega))) (by unfold A50 at ha;unfold i64;omega),?_,h.lh,h.li,two_len _ _ _ _ _ _⟩
  ·rcases mem_insC hc with hc|rfl
   ·exact h.chans c hc
   ·unfold A50 at ha hf
    unfold wfChan
    refine⟨we.2.2.1,?_,?_,?_,by (unfold i64;first|omega|(dsimp only;omega)),by (unfold i64;first|omega|(dsimp only;omega)),by (unfold i64;first|omega|(dsimp only;omega))⟩<;>unfold i64<;>dsimp only<;>omega
  ·show (insC x.chans _).length≤_
   rw[insC_len]
   have:=sm.lc
   omega
 ·rw[openR_no q];exact WrWf.same hw sm _
theorem chanOr_A50{x:Book}(sm:BookSm x)(ch:Int):A50 (chanOr x.chans ch).loc∧A50 (chanOr x.chans ch).remote:=by
 rcases chan_find x.chans ch with⟨_,q⟩|⟨i,c,_,q1,q2,_⟩
 ·rw[q];unfold zeroChan A50;simp
 ·rw[q2]
  have:=sm.chans c (mem_of_get q1)
  exact⟨this.1,this.2.1⟩
theorem wr_shut{x:Book}{e:Event}(hw:BookWf x)(sm:BookSm x)(es:EvSm e)(we:wfEvent e):WrWf (shutR x e):=by
 have h:=WrWf.same hw sm 0
 have hf:=es.fee
 have hl:=(chanOr_A50 sm e.ch).1
 by_cases q:shutC x e=0
 ·rw[shutR_yes q]
  unfold shutY
  refine⟨fun c hc=>h.chans c ((List.mem_filter.1 hc).1),h.htlcs,h.circles,lines_add (lines_add (lines_add nil_lines (by (unfold i64;first|omega|(dsimp only;omega))) (by (unfold i64;first|omega|(dsimp only;omega))) ?_) (by (unfold i64;first|omega|(dsimp only;omega))) (by (unfold i64;first|omega|(dsimp only;omega))) (i64_50 hf)) (by (unfold i64;first|omega|(dsimp only;omega))) we.2.2.1 ?_,?_,h.lh,h.li,three_len _ _ _ _ _ _ _ _ _⟩
  ·unfold A50 at hf hl;unfold i64;omega
  ·unfold A50 at hf hl;unfold i64;omega
  ·have h1:(delC x.chans e.ch).length≤x.chans.length:=List.length_filter_le _ _
   have:=sm.lc
   show (delC x.chans e.ch).length≤_
   omega
 ·rw[shutR_no q];exact WrWf.same hw sm _
theorem len_upd1{x:Book}(sm:BookSm x){a:Int}{f:Chan→Chan}:(updC x.chans a f).length≤100000:=by rw[upd_len];have:=sm.lc;omega
theorem len_upd2{x:Book}(sm:BookSm x){a b:Int}{f g:Chan→Chan}:(updC (updC x.chans a f) b g).length≤100000:=by rw[upd_len,upd_len];have:=sm.lc;omega
theorem wr_pri{x:Book}{e:Event}(hw:BookWf x)(sm:BookSm x)(es:EvSm e):WrWf (priR x e):=by
 have h:=WrWf.same hw sm 0
 have ha:=es.amt
 have hf:=es.fee
 unfold A50 at ha hf
 unfold priR
 split
 ·exact WrWf.same hw sm _
 ·refine⟨upd_one (n:=0) hw sm (fun c hc=>?_),h.htlcs,h.circles,nil_lines,len_upd1 sm,h.lh,h.li,h.ll⟩
  refine chB.put hc rfl rfl ?_
  have:=hc.2
  dsimp only at *
  omega
theorem wr_adm{x:Book}{e:Event}(hw:BookWf x)(sm:BookSm x)(es:EvSm e)(we:wfEvent e):WrWf (admR x e):=by
 have h:=WrWf.same hw sm 0
 have ha:=es.amt
 have hs:A50 (admSum x e):=addV_A50 _ _
 unfold A50 at ha hs
 by_cases q:admC x e=0
 ·rw[admR_yes q]
  unfold admY
  refine⟨upd_both hw sm (fun c hc=>?_) (fun c hc=>?_),fun c hc=>?_,h.circles,lines_add (lines_add nil_lines (by (unfold i64;first|omega|(dsimp only;omega))) we.2.2.2.1 ?_) (by (unfold i64;first|omega|(dsimp only;omega))) we.2.2.2.1 (i64_50 es.amt),len_upd2 sm,?_,h.li,two_len _ _ _ _ _ _⟩
  ·refine chB.put hc rfl rfl ?_;have:=hc.2;dsimp only at *;omega
  ·refine chB.put hc rfl rfl ?_;have:=hc.2;dsimp only at *;omega
  ·rcases List.mem_append.1 hc with hc|hc
   ·exact h.htlcs c hc
   ·rw[List.mem_singleton]at hc
    subst hc
    unfold wfHtlc
    refine⟨we.2.1,we.2.2.1,we.2.2.2.1,?_,?_,by (unfold i64;first|omega|(dsimp only;omega))⟩<;>unfold i64<;>dsimp only<;>omega
  ·unfold i64;omega
  ·have:=sm.lh
   simp
   omega
 ·rw[admR_no q];exact WrWf.same hw sm _
theorem wr_set{x:Book}{e:Event}(hw:BookWf x)(sm:BookSm x):WrWf (setR x e):=by
 have h:=WrWf.same hw sm 0
 unfold setR
 split
 ·rename_i y hy
  have hm:=List.mem_of_find?_eq_some hy
  have w1:=hw.htlcs y hm
  have s1:=sm.htlcs y hm
  unfold wfHtlc at w1
  have hdl:(delH x.htlcs y.key).length≤100000:=by
   have h1:(delH x.htlcs y.key).length≤x.htlcs.length:=List.length_filter_le _ _
   have:=sm.lh
   omega
  have hdm:∀c∈delH x.htlcs y.key,wfHtlc c:=fun c hc=>h.htlcs c ((List.mem_filter.1 hc).1)
  unfold A50 at s1
  unfold setY
  split
  ·refine⟨upd_both hw sm (fun c hc=>?_) (fun c hc=>?_),hdm,h.circles,lines_add (lines_add (lines_add nil_lines (by (unfold i64;first|omega|(dsimp only;omega))) (by (unfold i64;first|omega|(dsimp only;omega))) ?_) (by (unfold i64;first|omega|(dsimp only;omega))) w1.2.1 w1.2.2.2.1) (by (unfold i64;first|omega|(dsimp only;omega))) w1.2.2.1 ?_,len_upd2 sm,hdl,h.li,three_len _ _ _ _ _ _ _ _ _⟩
   ·have:=scoreUp_le c.score;refine chB.put hc rfl rfl ?_;have:=hc.2;dsimp only at *;omega
   ·refine chB.put hc rfl rfl ?_;have:=hc.2;dsimp only at *;omega
   ·unfold i64;omega
   ·unfold i64;omega
  ·refine⟨upd_both hw sm (fun c hc=>?_) (fun c hc=>?_),hdm,h.circles,lines_add (lines_add nil_lines (by (unfold i64;first|omega|(dsimp only;omega))) w1.2.2.1 ?_) (by (unfold i64;first|omega|(dsimp only;omega))) w1.2.2.1 ?_,len_upd2 sm,hdl,h.li,two_len _ _ _ _ _ _⟩
   ·have:=scoreDown_le c.score;refine chB.put hc rfl rfl ?_;have:=hc.2;dsimp only at *;omega
   ·refine chB.put hc rfl rfl ?_;have:=hc.2;dsimp only at *;omega
   ·unfold i64;omega
   ·unfold i64;omega
 ·exact WrWf.same hw sm _
theorem wr_tick{x:Book}(hw:BookWf x)(sm:BookSm x):WrWf (tickR x):=by
 have h:=WrWf.same hw sm 0
 refine⟨fun c hc=>?_,fun c hc=>?_,h.circles,nil_lines,?_,?_,h.li,h.ll⟩
 ·obtain⟨d,hd,rfl⟩:=List.mem_map.1 hc
  unfold fadeC
  split
  ·have h1:=h.chans d hd
   have h2:=fade_le d.score
   unfold wfChan at *
   refine⟨h1.1,h1.2.1,h1.2.2.1,h1.2.2.2.1,h1.2.2.2.2.1,h1.2.2.2.2.2.1,?_⟩
   unfold i64;dsimp only;omega
  ·exact h.chans d hd
 ·obtain⟨d,hd,rfl⟩:=List.mem_map.1 hc
  have h1:=h.htlcs d hd
  have h2:=sm.htlcs d hd
  unfold wfHtlc ageH at *
  refine⟨h1.1,h1.2.1,h1.2.2.1,h1.2.2.2.1,h1.2.2.2.2.1,?_⟩
  unfold i64;dsimp only;omega
 ·show (x.chans.map _).length≤_
  rw[List.length_map];exact h.lc
 ·show (x.htlcs.map _).length≤_
  rw[List.length_map];exact h.lh
theorem wr_lau{x:Book}{e:Event}(hw:BookWf x)(sm:BookSm x)(es:EvSm e)(we:wfEvent e):WrWf (lauR x e):=by
 have h:=WrWf.same hw sm 0
 have ha:=es.amt
 have hf:=es.fee
 have hs:A50 (addV e.amt e.fee):=addV_A50 _ _
 unfold A50 at ha hs hf
 by_cases q:lauC x e=0
 ·rw[lauR_yes q]
  unfold lauY
  refine⟨upd_both hw sm (fun c hc=>?_) (fun c hc=>?_),h.htlcs,fun c hc=>?_,lines_add (lines_add nil_lines (by (unfold i64;first|omega|(dsimp only;omega))) we.2.2.1 ?_) (by (unfold i64;first|omega|(dsimp only;omega))) we.2.2.1 ?_,len_upd2 sm,h.lh,?_,two_len _ _ _ _ _ _⟩
  ·refine chB.put hc rfl rfl ?_;have:=hc.2;dsimp only at *;omega
  ·refine chB.put hc rfl rfl ?_;have:=hc.2;dsimp only at *;omega
  ·rcases List.mem_append.1 hc with hc|hc
   ·exact h.circles c hc
   ·rw[List.mem_singleton]at hc
    subst hc
    unfold wfCircle
    refine⟨we.2.1,we.2.2.1,we.2.2.2.1,?_,?_⟩<;>unfold i64<;>dsimp only<;>omega
  ·unfold i64;omega
  ·unfold i64;omega
  ·have:=sm.li
   simp
   omega
 ·rw[lauR_no q];exact WrWf.same hw sm _
theorem wr_land{x:Book}{e:Event}(hw:BookWf x)(sm:BookSm x):WrWf (landR x e):=by
 have h:=WrWf.same hw sm 0
 unfold landR
 split
 ·rename_i y hy
  have hm:=List.mem_of_find?_eq_some hy
  have w1:=hw.circles y hm
  have s1:=sm.circles y hm
  unfold wfCircle at w1
  have hdl:(delI x.circles y.key).length≤100000:=by
   have h1:(delI x.circles y.key).length≤x.circles.length:=List.length_filter_le _ _
   have:=sm.li
   omega
  have hdm:∀c∈delI x.circles y.key,wfCircle c:=fun c hc=>h.circles c ((List.mem_filter.1 hc).1)
  unfold A50 at s1
  unfold landY
  split
  ·refine⟨upd_both hw sm (fun c hc=>?_) (fun c hc=>?_),h.htlcs,hdm,lines_add (lines_add (lines_add nil_lines (by (unfold i64;first|omega|(dsimp only;omega))) (by (unfold i64;first|omega|(dsimp only;omega))) w1.2.2.2.2) (by (unfold i64;first|omega|(dsimp only;omega))) w1.2.2.1 w1.2.2.2.1) (by (unfold i64;first|omega|(dsimp only;omega))) w1.2.1 ?_,len_upd2 sm,h.lh,hdl,three_len _ _ _ _ _ _ _ _ _⟩
   ·refine chB.put hc rfl rfl ?_;have:=hc.2;dsimp only at *;omega
   ·refine chB.put hc rfl rfl ?_;have:=hc.2;dsimp only at *;omega
   ·unfold i64;omega
  ·refine⟨upd_both hw sm (fun c hc=>?_) (fun c hc=>?_),h.htlcs,hdm,lines_add (lines_add nil_lines (by (unfold i64;first|omega|(dsimp only;omega))) w1.2.1 ?_) (by (unfold i64;first|omega|(dsimp only;omega))) w1.2.1 ?_,len_upd2 sm,h.lh,hdl,two_len _ _ _ _ _ _⟩
   ·refine chB.put hc rfl rfl ?_;have:=hc.2;dsimp only at *;omega
   ·refine chB.put hc rfl rfl ?_;have:=hc.2;dsimp only at *;omega
   ·unfold i64;omega
   ·unfold i64;omega
 ·exact WrWf.same hw sm _
theorem wr_work{x:Book}{e:Event}(hw:BookWf x)(sm:BookSm x)(es:EvSm e)(we:wfEvent e):WrWf (workR x e):=by
 unfold workR
 repeat' split
 ·exact wr_dep hw sm es
 ·exact wr_open hw sm es we
 ·exact wr_shut hw sm es we
 ·exact wr_pri hw sm es
 ·exact wr_adm hw sm es we
 ·exact wr_set hw sm
 ·exact wr_tick hw sm
 ·exact wr_lau hw sm es we
 ·exact wr_land hw sm
theorem applyC_ok{x:Book}{e:Event}(h:applyC x e=0):bookOk x=true∧eventOk e=true∧overB x e=false:=by
 unfold applyC at h
 split at h
 ·rename_i q
  rw[Bool.and_eq_true]at q
  split at h
  ·omega
  ·rename_i r
   exact⟨q.1,q.2,by simpa using r⟩
 ·omega
theorem wr_apply{x:Book}{e:Event}(hw:BookWf x)(we:wfEvent e)(h:applyC x e=0):WrWf (workR x e):=by
 obtain⟨h1,h2,_⟩:=applyC_ok h
 exact wr_work hw (bookOk_fi h1).sm (evSm_of h2).1 we

abbrev appAV(x:Book)(e:Event):AV:=.tup [.agg [int (appB x e).tick,int (appB x e).next,int (appB x e).wallet,.own 11,.own 12,.own 13],.agg [int (appP x e).id,.own 14],int (applyC x e)]
abbrev appOb(x:Book)(e:Event):List (Nat×AO):=[(11,.arr 40 7 (rowsOf encChan (appB x e).chans)),(12,hAr (appB x e).htlcs),(13,iAr (appB x e).circles),(14,lAr (appP x e).lines)]
def OBF(w:World)(v:Value)(f:List Nat)(o:AO):Prop:=∀(L:Nat→Prop) (ρ:Nat→Value) (H:Nat→AO),OB L ρ H w v f o
theorem OBF.of{L:Nat→Prop}{ρ:Nat→Value}{H:Nat→AO}{w:World}{v:Value}{f:List Nat}{α:Type}{enc:α→List Value}{e:TypeId}{sz:Nat}{l:List α}(h:OB L ρ H w v f (.arr ⟨e,none⟩ sz (rowsOf enc l))):OBF w v f (.arr ⟨e,none⟩ sz (rowsOf enc l)):=fun L' ρ' H'=>by
 obtain⟨xs,fr,k1,k2,k3,k4,k5⟩:=h
 have hfr:=k1.flat_fp flat_rowsOf
 subst hfr
 exact⟨xs,[],k1,by simp,k3,k4,k5⟩
theorem OBF.nil{w:World}{e:TypeId}{sz:Nat}:OBF w (.slice none 0 0) [] (.arr ⟨e,none⟩ sz []):=fun L ρ H=>⟨[],[],by simp[RWR],by simp,World.ownsRow_nil _ _ _ _,rfl,fun u hu=>by cases hu⟩
theorem rv_own1{L:Nat→Prop}{ρ:Nat→Value}{H:Nat→AO}{w:World}{id:Nat}{c:Value}(h:RV L ρ H w (.own id) c):c.oneCell'=true:=by rw[RV]at h;exact h.1
theorem rv_own_mk{L:Nat→Prop}{ρ:Nat→Value}{H:Nat→AO}{w:World}{id:Nat}{c:Value}(h:c.oneCell'=true)(h2:c=ρ id):RV L ρ H w (.own id) c:=by rw[RV];exact⟨h,fun _=>h2⟩
theorem app_key{x:Book}{e:Event}{L:Nat→Prop}{w':World}{y:AV}{ob1:List (Nat×AO)}{v:Value}{ρ':Nat→Value}{fp':Nat→List Nat}(hR:appR x e y ob1)(g2:RV L ρ' (ofO ob1) w' y v)(g3:∀i,OB L ρ' (ofO ob1) w' (ρ' i) (fp' i) (ofO ob1 i)) :
 ∃v1 v2 v3 v4:Value,∃k1 k2 k3 k4:Bool,v=.tuple #[.agg #[.int .i64 (appB x e).tick,.int .i64 (appB x e).next,.int .i64 (appB x e).wallet,v1,v2,v3],.agg #[.int .i64 (appP x e).id,v4],.int .i64 (applyC x e)]∧(v1.oneCell'=true∧v2.oneCell'=true∧v3.oneCell'=true∧v4.oneCell'=true)∧
  OBF w' v1 (if k1 then fp' 1 else []) (.arr 40 7 (rowsOf encChan (appB x e).chans))∧OBF w' v2 (if k2 then fp' 2 else []) (hAr (appB x e).htlcs)∧OBF w' v3 (if k3 then fp' 3 else []) (iAr (appB x e).circles)∧OBF w' v4 (if k4 then fp' 4 else []) (lAr (appP x e).lines):=by
 rcases hR with⟨h0,rfl,rfl⟩|⟨h0,hl,rfl,rfl⟩|⟨h0,hl,rfl,rfl⟩
 ·obtain⟨e1,e2⟩:=appB_no h0
  obtain⟨cs,rfl,g⟩:=rv_tup g2
  simp only[RVL]at g
  obtain⟨v1,_,rfl,k1,v2,_,rfl,k2,v3,_,rfl,k3,rfl⟩:=g
  obtain⟨cs,rfl,g⟩:=rv_agg k1
  simp only[RVL]at g
  obtain⟨u1,_,rfl,j1,u2,_,rfl,j2,u3,_,rfl,j3,u4,_,rfl,j4,u5,_,rfl,j5,u6,_,rfl,j6,rfl⟩:=g
  obtain⟨cs,rfl,g⟩:=rv_agg k2
  simp only[RVL]at g
  obtain⟨t1,_,rfl,i1,t2,_,rfl,i2,rfl⟩:=g
  rw[j1.v_eq,j2.v_eq,j3.v_eq,j4.v_eq,j5.v_eq,j6.v_eq,i1.v_eq,i2.v_eq,k3.v_eq]
  refine⟨_,_,_,_,false,false,false,false,by rw[e1,e2];rfl,⟨rfl,rfl,rfl,rfl⟩,?_⟩
  rw[e1,e2]
  exact⟨OBF.nil,OBF.nil,OBF.nil,OBF.nil⟩
 ·obtain⟨e1,e2⟩:=appB_nil h0 hl
  obtain⟨cs,rfl,g⟩:=rv_tup g2
  simp only[RVL]at g
  obtain⟨v1,_,rfl,k1,v2,_,rfl,k2,v3,_,rfl,k3,rfl⟩:=g
  obtain⟨cs,rfl,g⟩:=rv_agg k1
  simp only[RVL]at g
  obtain⟨u1,_,rfl,j1,u2,_,rfl,j2,u3,_,rfl,j3,u4,_,rfl,j4,u5,_,rfl,j5,u6,_,rfl,j6,rfl⟩:=g
  obtain⟨cs,rfl,g⟩:=rv_agg k2
  simp only[RVL]at g
  obtain⟨t1,_,rfl,i1,t2,_,rfl,i2,rfl⟩:=g
  rw[j1.v_eq,j2.v_eq,j3.v_eq,i1.v_eq,i2.v_eq,k3.v_eq]
  refine⟨_,_,_,_,true,true,true,false,by rw[e1,e2,h0],⟨rv_own1 j4,rv_own1 j5,rv_own1 j6,rfl⟩,?_⟩
  rw[e1,e2,rv_own j4 rfl,rv_own j5 rfl,rv_own j6 rfl]
  exact⟨OBF.of (g3 1),OBF.of (g3 2),OBF.of (g3 3),OBF.nil⟩
 ·obtain⟨e1,e2⟩:=appB_yes h0 hl
  obtain⟨cs,rfl,g⟩:=rv_tup g2
  simp only[RVL]at g
  obtain⟨v1,_,rfl,k1,v2,_,rfl,k2,v3,_,rfl,k3,rfl⟩:=g
  obtain⟨cs,rfl,g⟩:=rv_agg k1
  simp only[RVL]at g
  obtain⟨u1,_,rfl,j1,u2,_,rfl,j2,u3,_,rfl,j3,u4,_,rfl,j4,u5,_,rfl,j5,u6,_,rfl,j6,rfl⟩:=g
  obtain⟨cs,rfl,g⟩:=rv_agg k2
  simp only[RVL]at g
  obtain⟨t1,_,rfl,i1,t2,_,rfl,i2,rfl⟩:=g
  rw[j1.v_eq,j2.v_eq,j3.v_eq,i1.v_eq,k3.v_eq]
  refine⟨_,_,_,_,true,true,true,true,by rw[e1,e2,h0],⟨rv_own1 j4,rv_own1 j5,rv_own1 j6,rv_own1 i2⟩,?_⟩
  rw[e1,e2,rv_own j4 rfl,rv_own j5 rfl,rv_own j6 rfl,rv_own i2 rfl]
  exact⟨OBF.of (g3 1),OBF.of (g3 2),OBF.of (g3 3),OBF.of (g3 4)⟩
theorem app_gc{f:FuncId}{x:Book}{e:Event}(hc:GX Tryz.prog f [bookV x,evV e] [] (appR x e)):GC Tryz.prog f [bookV x,evV e] [] (appAV x e) (appOb x e):=by
 intro L w cs ρ fp hL hargs hob hdj hLf
 refine Calls.mono (hc L w cs ρ fp hL hargs hob hdj hLf) ?_
 rintro r w' ⟨y,ob1,hR,v,ρ',fp',rfl,g1,g2,g3,g4,g5⟩
 obtain⟨v1,v2,v3,v4,k1,k2,k3,k4,rfl,⟨o1,o2,o3,o4⟩,b1,b2,b3,b4⟩:=app_key hR g2 g3
 have hsub:∀(k:Bool) i,∀b∈(if k then fp' i else []),b∈fp' i:=fun k i b hb=>by cases k<;>simp_all
 refine⟨_,_,⟨rfl,rfl⟩,_,(fun i=>if i=11 then v1 else if i=12 then v2 else if i=13 then v3 else if i=14 then v4 else undef),(fun i=>if i=11 then (if k1 then fp' 1 else [])else if i=12 then (if k2 then fp' 2 else [])else if i=13 then (if k3 then fp' 3 else [])else if i=14 then (if k4 then fp' 4 else [])else []),rfl,g1,?_,fun i=>?_,fun i j hij b hb hb'=>?_,fun i b hb=>?_⟩
 ·rw[RV]
  refine⟨[_,_,_],rfl,?_⟩
  simp only[RVL]
  refine⟨_,_,rfl,?_,_,_,rfl,?_,_,_,rfl,RV.v_mk rfl,rfl⟩
  ·rw[RV]
   refine⟨[_,_,_,_,_,_],rfl,?_⟩
   simp only[RVL]
   exact⟨_,_,rfl,RV.v_mk rfl,_,_,rfl,RV.v_mk rfl,_,_,rfl,RV.v_mk rfl,_,_,rfl,rv_own_mk o1 rfl,_,_,rfl,rv_own_mk o2 rfl,_,_,rfl,rv_own_mk o3 rfl,rfl⟩
  ·rw[RV]
   refine⟨[_,_],rfl,?_⟩
   simp only[RVL]
   exact⟨_,_,rfl,RV.v_mk rfl,_,_,rfl,rv_own_mk o4 rfl,rfl⟩
 ·by_cases h1:i=11
  ·subst h1;exact b1 _ _ _
  by_cases h2:i=12
  ·subst h2;exact b2 _ _ _
  by_cases h3:i=13
  ·subst h3;exact b3 _ _ _
  by_cases h4:i=14
  ·subst h4;exact b4 _ _ _
  simp only[if_neg h1,if_neg h2,if_neg h3,if_neg h4,ofO]
  rfl
 ·have key:∀i b,b∈(if i=11 then (if k1 then fp' 1 else [])else if i=12 then (if k2 then fp' 2 else [])else if i=13 then (if k3 then fp' 3 else [])else if i=14 then (if k4 then fp' 4 else [])else [])→11≤i∧b∈fp' (i-10):=fun i b hb=>by
   split at hb
   ·rename_i q;subst q;exact⟨by omega,hsub _ _ b hb⟩
   split at hb
   ·rename_i q;subst q;exact⟨by omega,hsub _ _ b hb⟩
   split at hb
   ·rename_i q;subst q;exact⟨by omega,hsub _ _ b hb⟩
   split at hb
   ·rename_i q;subst q;exact⟨by omega,hsub _ _ b hb⟩
   ·cases hb
  obtain⟨p1,p2⟩:=key i b hb
  obtain⟨p3,p4⟩:=key j b hb'
  exact g4 (i-10) (j-10) (by omega) b p2 p4
 ·have key:∀i b,b∈(if i=11 then (if k1 then fp' 1 else [])else if i=12 then (if k2 then fp' 2 else [])else if i=13 then (if k3 then fp' 3 else [])else if i=14 then (if k4 then fp' 4 else [])else [])→∃j,b∈fp' j:=fun i b hb=>by
   split at hb
   ·exact⟨1,hsub _ _ b hb⟩
   split at hb
   ·exact⟨2,hsub _ _ b hb⟩
   split at hb
   ·exact⟨3,hsub _ _ b hb⟩
   split at hb
   ·exact⟨4,hsub _ _ b hb⟩
   ·cases hb
  obtain⟨j,hj⟩:=key i b hb
  exact g5 j b hj
theorem apply_g(x:Book)(e:Event)(hw:BookWf x):GC Tryz.prog 9 [bookV x,evV e] [] (appAV x e) (appOb x e):=app_gc (apply_e x e hw)
theorem sapply_g(x:Book)(e:Event)(hw:BookWf x):GC Tryz.prog 10 [bookV x,evV e] [] (appAV x e) (appOb x e):=app_gc (sapply_e x e hw)
abbrev ownBk(x:Book):AV:=.agg [int x.tick,int x.next,int x.wallet,.own 1,.own 2,.own 3]
abbrev obBk(u1 u2 u3:Value)(x:Book):List (Nat×AO):=[(1,.arr ⟨40,some u1⟩ 7 (rowsOf encChan x.chans)),(2,.arr ⟨68,some u2⟩ 7 (rowsOf encHtlc x.htlcs)),(3,.arr ⟨78,some u3⟩ 5 (rowsOf encCircle x.circles))]
theorem appFlat(x:Book)(e:Event):∀p∈appOb x e,flatO p.2:=fun p hp=>by
 simp only[appOb,List.mem_cons,List.not_mem_nil,or_false]at hp
 rcases hp with rfl|rfl|rfl|rfl<;>exact⟨rfl,flat_rowsOf⟩
theorem lentBk{f:FuncId}{u1 u2 u3:Value}{x:Book}{e:Event}(hc:GC Tryz.prog f [bookV x,evV e] [] (appAV x e) (appOb x e)):GC Tryz.prog f [ownBk x,evV e] (obBk u1 u2 u3 x) (appAV x e) (appOb x e++obBk u1 u2 u3 x):=
 hc.lent rfl rfl (by intro id hid;simp[ownN,ownNL]at hid;rcases hid with rfl|rfl|rfl|rfl<;>rfl) (by intro p hp;simp[obBk]at hp;rcases hp with rfl|rfl|rfl<;>rfl) (appFlat x e) (by intro p hp;simp[obBk]at hp;rcases hp with rfl|rfl|rfl<;>rfl)

structure AllS where
 now:Book
 codes:List Int
 ps:List Posting
def allF(s:AllS)(e:Event):AllS:=⟨if applyC s.now e=0 then appB s.now e else s.now,s.codes++[applyC s.now e],if applyC s.now e=0∧(appP s.now e).lines≠[]then s.ps++[appP s.now e]else s.ps⟩
def allS(x:Book)(es:List Event):AllS:=es.foldl allF ⟨x,[],[]⟩
theorem allS_nil(x:Book):allS x []=⟨x,[],[]⟩:=rfl
theorem allS_succ{x:Book}{es:List Event}{k:Nat}(h:k<es.length):allS x (es.take (k+1))=allF (allS x (es.take k)) es[k]:=by
 unfold allS
 rw[List.take_succ_eq_append_getElem h,List.foldl_append]
 rfl
theorem appB_wf{x:Book}{e:Event}(hw:BookWf x)(we:wfEvent e):BookWf (appB x e):=by
 by_cases q:applyC x e=0
 ·have w:=wr_apply hw we q
  have hl:=w.lc
  by_cases r:(workR x e).l=[]
  ·rw[(appB_nil q r).1]
   exact⟨w.chans,w.htlcs,w.circles,by omega⟩
  ·rw[(appB_yes q r).1]
   exact⟨w.chans,w.htlcs,w.circles,by show (workR x e).b.chans.length≤_;omega⟩
 ·rw[(appB_no q).1]
  unfold zeroBook
  exact⟨by simp,by simp,by simp,by simp⟩
theorem allF_wf{s:AllS}{e:Event}(hw:BookWf s.now)(we:wfEvent e):BookWf (allF s e).now:=by
 unfold allF
 dsimp only
 split
 ·exact appB_wf hw we
 ·exact hw
theorem allS_wf{x:Book}{es:List Event}(hw:BookWf x)(we:∀e∈es,wfEvent e):∀k,k≤es.length→BookWf (allS x (es.take k)).now
 |0,_=>by rw[List.take_zero];exact hw
 |k+1,h=>by
  rw[allS_succ (by omega)]
  exact allF_wf (allS_wf hw we k (by omega)) (we _ (List.getElem_mem _))
theorem allS_codes{x:Book}{es:List Event}:∀k,k≤es.length→(allS x (es.take k)).codes.length=k
 |0,_=>by rw[List.take_zero];rfl
 |k+1,h=>by
  rw[allS_succ (by omega)]
  have:=allS_codes (x:=x) k (by omega:k≤es.length)
  unfold allF
  simp
  exact this
theorem allS_ps{x:Book}{es:List Event}:∀k,k≤es.length→(allS x (es.take k)).ps.length≤k
 |0,_=>by rw[List.take_zero];exact Nat.le_refl _
 |k+1,h=>by
  rw[allS_succ (by omega)]
  have:=allS_ps (x:=x) k (by omega:k≤es.length)
  unfold allF
  dsimp only
  split
  ·simp;omega
  ·omega
def rowsP(ps:List Posting):List (List PV):=ps.map fun p=>[.v (.int .i64 p.id),.lst 120 3 (rowsOf encLine p.lines)]
theorem rowsP_len(l:List Posting):(rowsP l).length=l.length:=List.length_map _
theorem appP_id{x:Book}{e:Event}(hb:applyC x e=0):decide (0<(appP x e).id)=!decide ((appP x e).lines=[]):=by
 obtain⟨h1,h2,h3⟩:=applyC_ok hb
 have hn:=(bookOk_parts h1).2.2.1
 have:=inB_true.1 hn
 by_cases r:(workR x e).l=[]
 ·rw[(appB_nil hb r).2];simp
 ·rw[(appB_yes hb r).2]
  simp[r]
  omega
theorem allF_ok{s:AllS}{e:Event}(h:applyC s.now e=0):(allF s e).now=appB s.now e:=if_pos h
theorem allF_no{s:AllS}{e:Event}(h:applyC s.now e≠0):(allF s e).now=s.now:=if_neg h
theorem allF_ps{s:AllS}{e:Event}(h:applyC s.now e=0)(h2:(appP s.now e).lines≠[]):(allF s e).ps=s.ps++[appP s.now e]:=if_pos ⟨h,h2⟩
theorem allF_ps1{s:AllS}{e:Event}(h:applyC s.now e≠0):(allF s e).ps=s.ps:=if_neg fun q=>h q.1
theorem allF_ps2{s:AllS}{e:Event}(h2:(appP s.now e).lines=[]):(allF s e).ps=s.ps:=if_neg fun q=>q.2 h2

def rowO:AO→Bool
 |.arr _ _ _=>true
 |.gone=>true
 |_=>false
def rowF(F:List AO):Prop:=∀o∈F,rowO o=true
def tl(h:Nat→AO)(F:List AO):Nat→AO:=fun i=>bif Nat.blt i 1000000 then h i else (F[i-1000000]?).getD .gone
def Tl(H:Nat→AO)(F:List AO):Prop:=(∀i,H (1000000+i)=(F[i]?).getD .gone)∧rowF F
theorem rowO.kil{k:Nat→Bool}{o:AO}(h:rowO o=true):o.kil k=o:=by cases o<;>first|rfl|cases h
theorem rowO.ren{r:List (Nat×Nat)}{o:AO}(h:rowO o=true):o.ren r=o:=by cases o<;>first|rfl|cases h
theorem rowO.frz{id:Nat}{y:PV}{o:AO}(h:rowO o=true):o.frz id y=o:=by cases o<;>first|rfl|cases h
theorem rowF.nil:rowF []:=fun _ h=>by cases h
theorem rowF.at{F:List AO}(h:rowF F)(i:Nat):rowO ((F[i]?).getD .gone)=true:=by
 cases e:F[i]? with
 |none=>rfl
 |some o=>exact h o (List.mem_of_getElem? e)
theorem tl_lo{h:Nat→AO}{F:List AO}{i:Nat}(hi:i<1000000):tl h F i=h i:=by
 unfold tl
 rw[show Nat.blt i 1000000=true from Nat.ble_eq_true_of_le hi]
 rfl
theorem tl_hi{h:Nat→AO}{F:List AO}{i:Nat}:tl h F (1000000+i)=(F[i]?).getD .gone:=by
 unfold tl
 rw[show Nat.blt (1000000+i) 1000000=false from by
  cases e:Nat.blt (1000000+i) 1000000 with
  |false=>rfl
  |true=>have:1000000+i<1000000:=Nat.le_of_ble_eq_true e;omega]
 simp
theorem lo_or_hi(j:Nat):j<1000000∨∃i,j=1000000+i:=by
 rcases Nat.lt_or_ge j 1000000 with h|h
 ·exact .inl h
 ·exact .inr ⟨j-1000000,by omega⟩
theorem Tl.tl{h:Nat→AO}{F:List AO}(hF:rowF F):Tl (tl h F) F:=⟨fun _=>tl_hi,hF⟩
theorem Tl.upd{H:Nat→AO}{F:List AO}{i:Nat}{o:AO}(hi:Nat.blt i 1000000=true)(h:Tl H F):Tl (upd H i o) F:=⟨fun j=>by
 have:i<1000000:=Nat.le_of_ble_eq_true hi
 rw[upd_ne _ _ (by omega)];exact h.1 j,h.2⟩
theorem Tl.kil{H:Nat→AO}{F:List AO}{k:Nat→Bool}(h:Tl H F):Tl (fun j=>(H j).kil k) F:=⟨fun j=>by
 show (H (1000000+j)).kil k=_
 rw[h.1 j];exact rowO.kil (rowF.at h.2 j),h.2⟩
theorem Tl.frz{H:Nat→AO}{F:List AO}{id:Nat}{y:PV}(hi:Nat.blt id 1000000=true)(h:Tl H F):Tl (frzH id y H) F:=Tl.upd hi ⟨fun j=>by
 show (H (1000000+j)).frz id y=_
 rw[h.1 j];exact rowO.frz (rowF.at h.2 j),h.2⟩
theorem Tl.swap{H:Nat→AO}{F:List AO}{a b:Nat}(hi:(Nat.blt a 1000000&&Nat.blt b 1000000)=true)(h:Tl H F):Tl (fun j=>(H (swp a b j)).per a b) F:=⟨fun j=>by
 rw[Bool.and_eq_true]at hi
 have h1:a<1000000:=Nat.le_of_ble_eq_true hi.1
 have h2:b<1000000:=Nat.le_of_ble_eq_true hi.2
 have e:swp a b (1000000+j)=1000000+j:=by unfold swp;rw[if_neg (by omega),if_neg (by omega)]
 show (H (swp a b (1000000+j))).per a b=_
 rw[e,h.1 j]
 have:=rowF.at h.2 j
 cases hq:(F[j]?).getD .gone with
 |box T p cells=>rw[hq]at this;cases this
 |_=>rfl,h.2⟩
theorem Tl.eq{H:Nat→AO}{F:List AO}(h:Tl H F):H=Proofs.YtogkbcmfoalpiaaGreat.tl H F:=funext fun j=>by
 rcases lo_or_hi j with q|⟨i,rfl⟩
 ·rw[tl_lo q]
 ·rw[tl_hi];exact h.1 i
theorem rn_none{r:List (Nat×Nat)}{i:Nat}(h:∀p∈r,p.1≠i):rn r i=none:=by
 induction r with
 |nil=>rfl
 |cons p r ih=>
  obtain⟨a,b⟩:=p
  unfold rn
  rw[if_neg (fun q=>h (a,b) (by simp) q.symm)]
  exact ih (fun p hp=>h p (by simp[hp]))
def smallR(r:List (Nat×Nat)):Bool:=r.all fun p=>Nat.blt p.1 1000000&&Nat.blt p.2 1000000
theorem smallR.at{r:List (Nat×Nat)}(h:smallR r=true):∀p∈r,p.1<1000000∧p.2<1000000:=fun p hp=>by
 have:=List.all_eq_true.1 h p hp
 rw[Bool.and_eq_true]at this
 exact⟨Nat.le_of_ble_eq_true this.1,Nat.le_of_ble_eq_true this.2⟩
theorem smallR.hi{r:List (Nat×Nat)}(h:smallR r=true)(i:Nat):rn (sw r) (1000000+i)=none:=rn_none fun p hp=>by
 unfold sw at hp
 obtain⟨q,hq,rfl⟩:=List.mem_map.1 hp
 have:=(smallR.at h q hq).2
 show q.2≠_
 omega
theorem smallR.hi'{r:List (Nat×Nat)}(h:smallR r=true)(i:Nat):rn r (1000000+i)=none:=rn_none fun p hp=>by
 have:=(smallR.at h p hp).1
 omega
theorem Tl.call{H:Nat→AO}{F:List AO}{r:List (Nat×Nat)}{k:Nat→Bool}{ob1:List (Nat×AO)}(hr:smallR r=true)(h:Tl H F):Tl (callH r k ob1 H) F:=⟨fun j=>by
 unfold callH
 rw[smallR.hi hr j]
 show (H (1000000+j)).kil k=_
 rw[h.1 j];exact rowO.kil (rowF.at h.2 j),h.2⟩
def famL(n:Nat):List AO→List (Nat×AO)
 |[]=>[]
 |o::l=>(n,o)::famL (n+1) l
theorem famL_at:∀(F:List AO) (n i:Nat),ofO (famL n F) i=if n≤i then (F[i-n]?).getD .gone else .gone
 |[],n,i=>by simp[famL,ofO]
 |o::F,n,i=>by
  show (if i=n then o else ofO (famL (n+1) F) i)=_
  rw[famL_at F]
  by_cases e:i=n
  ·subst e;simp
  ·rw[if_neg e]
   by_cases h:n≤i
   ·rw[if_pos (by omega),if_pos h,show i-n=(i-(n+1))+1 by omega]
    simp
   ·rw[if_neg (by omega),if_neg h]
def smallO(l:List (Nat×AO)):Bool:=l.all fun p=>Nat.blt p.1 1000000
theorem ofO_hi:∀ {l:List (Nat×AO)} {m:List (Nat×AO)} {i:Nat},smallO l=true→ofO (l++m) (1000000+i)=ofO m (1000000+i)
 |[],m,i,_=>rfl
 |(a,o)::l,m,i,h=>by
  have h1:=List.all_eq_true.1 h (a,o) (by simp)
  have h2:a<1000000:=Nat.le_of_ble_eq_true h1
  show (if 1000000+i=a then o else ofO (l++m) (1000000+i))=_
  rw[if_neg (by omega)]
  exact ofO_hi (by unfold smallO at *;rw[List.all_cons,Bool.and_eq_true]at h;exact h.2)
theorem ofO_lo:∀ {l:List (Nat×AO)} {F:List AO} {i:Nat},i<1000000→ofO (l++famL 1000000 F) i=ofO l i
 |[],F,i,h=>by
  show ofO (famL 1000000 F) i=_
  rw[famL_at,if_neg (by omega)]
  rfl
 |(a,o)::l,F,i,h=>by
  show (if i=a then o else ofO (l++famL 1000000 F) i)=if i=a then o else ofO l i
  rw[ofO_lo h]
theorem ofO_fam{l:List (Nat×AO)}{F:List AO}(h:smallO l=true):ofO (l++famL 1000000 F)=tl (ofO l) F:=funext fun j=>by
 rcases lo_or_hi j with q|⟨i,rfl⟩
 ·rw[tl_lo q,ofO_lo q]
 ·rw[tl_hi,ofO_hi h,famL_at,if_pos (by omega)]
  simp
theorem allO_app:∀ {l m:List (Nat×AO)} {H:Nat→AO},allO l H→allO m H→allO (l++m) H
 |[],m,H,_,h=>h
 |(a,o)::l,m,H,h1,h=>⟨h1.1,allO_app h1.2 h⟩
theorem allO_fam:∀ {F:List AO} {n:Nat} {H:Nat→AO},(∀i,i<F.length→H (n+i)=(F[i]?).getD .gone)→allO (famL n F) H
 |[],n,H,_=>trivial
 |o::F,n,H,h=>⟨by have:=h 0 (by simp);simpa using this,allO_fam fun i hi=>by
  have:=h (i+1) (by simp;omega)
  rw[show n+1+i=n+(i+1) by omega];simpa using this⟩
theorem Tl.all{H:Nat→AO}{F:List AO}(h:Tl H F):allO (famL 1000000 F) H:=allO_fam fun i _=>h.1 i
theorem Tl.list{l:List (Nat×AO)}(h:smallO l=true):Tl (ofO l) []:=⟨fun i=>by have:=ofO_hi (m:=[]) (i:=i) h;rw[List.append_nil]at this;rw[this];rfl,rowF.nil⟩
section
variable {P:Program}{L O:Nat→Prop}{w0:World}{N:Nat}{τ τ':Nat→AV}{H H':Nat→AO}{Q:AQ}{c:Code}{ops:Array Oper}{l:List Oper}{F:List AO}
theorem tl_weak{h:Nat→AO}(hT:Tl H F)(hh:∀id,h id=.gone∨h id=H id):∀id,tl h F id=.gone∨tl h F id=H id:=fun id=>by
 rcases lo_or_hi id with q|⟨i,rfl⟩
 ·rw[tl_lo q];exact hh id
 ·rw[tl_hi];exact .inr (hT.1 i).symm
theorem aTt(F:List AO)(k i:List Nat){v:List AV}{b:List AO}(h:AW P L O w0 N c (of2 .bad k v) (tl (of2 .gone i b) F) Q)(h1:at2 τ k=v:=by exact nz)(h2:at2 H i=b:=by exact nz)(hT:Tl H F:=by repeat (first|exact Tl.list rfl|exact Tl.tl (by first|assumption|exact rowF.nil)|refine Tl.frz rfl ?_|refine Tl.upd rfl ?_|refine Tl.kil ?_|refine Tl.call rfl ?_|refine Tl.swap rfl ?_)):AW P L O w0 N c τ H Q:=AW.weak (at2.weak h1) (tl_weak hT (at2.weak h2)) h
theorem lTt(F:List AO)(k i:List Nat){v:List AV}{b:List AO}(h:AL P L O w0 N ops l (of2 .bad k v) (tl (of2 .gone i b) F) Q)(h1:at2 τ k=v:=by exact nz)(h2:at2 H i=b:=by exact nz)(hT:Tl H F:=by repeat (first|exact Tl.list rfl|exact Tl.tl (by first|assumption|exact rowF.nil)|refine Tl.frz rfl ?_|refine Tl.upd rfl ?_|refine Tl.kil ?_|refine Tl.call rfl ?_|refine Tl.swap rfl ?_)):AL P L O w0 N ops l τ H Q:=AL.weak (at2.weak h1) (tl_weak hT (at2.weak h2)) h
theorem AW.loopT{D:Type}(K:List (Nat×AV))(KO:List (Nat×AO))(T:D→List (Nat×AV))(B:D→List (Nat×AO))(F:D→List AO)(I:D→Prop)(μ:D→Nat)(d:D)(h0:I d)(h1:allT (T d) τ)(h2:allO (B d) H)(h3:allT K τ)(h4:allO KO H)(h5:Tl H (F d))
 (round:∀d,I d→AW P L O w0 N c (ofT (T d++K)) (tl (ofO (B d++KO)) (F d)) (Q.andThen fun τ H=>∃d',I d'∧μ d'<μ d∧allT (T d') τ∧allO (B d') H∧allT K τ∧allO KO H∧Tl H (F d'))):AW P L O w0 N (.loop c) τ H Q:=fun ρ fp a w hr=>by
 obtain⟨fp',hr',_⟩:=hr.weak (allT.app h1 h3).weak (tl_weak h5 (allO.app h2 h4).weak)
 have key:∀n (d:D),μ d=n→I d→∀ρ fp a w,RR L O w0 N (ofT (T d++K)) (tl (ofO (B d++KO)) (F d)) ρ fp a w→∀b k cs,∃e a' w',QQ L O w0 N Q e a' w'∧Arrives P (lone (b.at a (.code c::.inLoop c::k)) cs w) b k cs e a' w':=by
  intro n
  induction n using Nat.strongRecOn with
  |_ n ih=>
   intro d hn hI ρ fp a w hr b k cs
   obtain⟨e,a₁,w₁,hq,harr⟩:=round d hI ρ fp a w hr b (.inLoop c::k) cs
   obtain⟨τ₁,H₁,ρ₁,fp₁,hr₁,hq⟩:=hq
   cases e with
   |normal=>
    obtain⟨d',i1,i2,i3,i4,i5,i6,i7⟩:=hq
    obtain⟨fp₂,hr₂,_⟩:=hr₁.weak (allT.app i3 i5).weak (tl_weak i7 (allO.app i4 i6).weak)
    obtain⟨e₂,a₂,w₂,hq₂,harr₂⟩:=ih (μ d') (hn▸i2) d' rfl i1 ρ₁ fp₂ a₁ w₁ hr₂ b k cs
    exact⟨e₂,a₂,w₂,hq₂,.of_steps (Steps.trans harr (.one step_inLoop)) harr₂⟩
   |exit id=>exact⟨_,a₁,w₁,⟨τ₁,H₁,ρ₁,fp₁,hr₁,hq⟩,.pass (x:=.inLoop c) rfl (fun _ _=>.inl (by simp)) harr⟩
   |goto l=>exact⟨_,a₁,w₁,⟨τ₁,H₁,ρ₁,fp₁,hr₁,hq⟩,.pass (x:=.inLoop c) rfl (fun _ _=>.inl (by simp)) harr⟩
   |ret=>exact⟨_,a₁,w₁,⟨τ₁,H₁,ρ₁,fp₁,hr₁,hq⟩,.pass (x:=.inLoop c) rfl (fun _ _=>.inl (by simp)) harr⟩
   |panic ch=>exact⟨_,a₁,w₁,⟨τ₁,H₁,ρ₁,fp₁,hr₁,hq⟩,.pass (x:=.inLoop c) rfl (fun _ _=>.inl (by simp)) harr⟩
   |outgrown=>exact⟨_,a₁,w₁,⟨τ₁,H₁,ρ₁,fp₁,hr₁,hq⟩,.pass (x:=.inLoop c) rfl (fun _ _=>.inl (by simp)) harr⟩
 intro b k cs
 obtain⟨e,a',w',hq,harr⟩:=key (μ d) d rfl h0 ρ fp' a w hr' b k cs
 exact⟨e,a',w',hq,.of_steps (.one step_loop) harr⟩
theorem RR.rename{ρ:Nat→Value}{fp:Nat→List Nat}{a:Act}{w:World}(h:RR L O w0 N τ H ρ fp a w){i j:Nat}(hij:i≠j)(hj:H j=.gone)(hi:rowO (H i)=true)(k:Nat→Bool)(hk:k j=true) :
 RR L O w0 N (fun t=>kil k (τ t)) (upd (upd (fun x=>(H x).kil k) i .gone) j (H i)) (upd ρ j (ρ i)) (upd (upd fp i []) j (fp i)) a w:=by
 have hfj:fp j=[]:=by have:=h.ob j;rw[hj]at this;exact this
 have e1:∀x,x≠i→x≠j→upd (upd (fun x=>(H x).kil k) i .gone) j (H i) x=(H x).kil k:=fun x q1 q2=>by rw[upd_ne _ _ q2,upd_ne _ _ q1]
 have ei:upd (upd (fun x=>(H x).kil k) i .gone) j (H i) i=.gone:=by rw[upd_ne _ _ hij,upd_same]
 have ej:upd (upd (fun x=>(H x).kil k) i .gone) j (H i) j=H i:=upd_same _ _ _
 generalize hH':upd (upd (fun x=>(H x).kil k) i .gone) j (H i)=H' at *
 have hlive:∀b,live L (upd ρ j (ρ i)) H' b→live L ρ H b:=by
  rintro b (hl|⟨x,q1,q2⟩)
  ·exact .inl hl
  ·by_cases xj:x=j
   ·subst xj;rw[ej]at q1;rw[upd_same]at q2;exact .inr ⟨i,q1,q2⟩
   ·rw[upd_ne _ _ xj]at q2
    by_cases xi:x=i
    ·subst xi;rw[ei]at q1;cases q1
    ·rw[e1 x xi xj,AO.kil_here]at q1;exact .inr ⟨x,q1,q2⟩
 have E:Env L ρ (upd ρ j (ρ i)) H H' w w k:=⟨Nat.le_refl _,fun b _ hn=>⟨rfl,fun hl=>hn (hlive b hl)⟩,fun x hx hh=>by
  have xj:x≠j:=fun q=>by subst q;rw[hk]at hx;cases hx
  by_cases xi:x=i
  ·subst xi;rw[ei]at hh;cases hh
  ·rw[e1 x xi xj]at hh ⊢
   rw[AO.kil_here]at hh
   exact⟨hh,upd_ne _ _ xj,AO.kil_len _ _,AO.kil_sz _ _⟩⟩
 refine⟨h.chg,h.size,h.defers,fun t=>RV.env E _ (h.tm t),fun x=>?_,fun x y hxy b hb hb'=>?_,fun x b hb=>?_,h.lo⟩
 ·by_cases xj:x=j
  ·subst xj
   rw[ej,upd_same,upd_same]
   have:=(h.ob i).env E (fun b _=>rfl)
   rwa [rowO.kil hi]at this
  ·rw[upd_ne _ _ xj,upd_ne _ _ xj]
   by_cases xi:x=i
   ·subst xi;rw[ei,upd_same];rfl
   ·rw[e1 x xi xj,upd_ne _ _ xi]
    exact(h.ob x).env E (fun b _=>rfl)
 ·have f:∀x,x≠j→x≠i→upd (upd fp i []) j (fp i) x=fp x:=fun x q1 q2=>by rw[upd_ne _ _ q1,upd_ne _ _ q2]
  have fj:upd (upd fp i []) j (fp i) j=fp i:=upd_same _ _ _
  have fi:upd (upd fp i []) j (fp i) i=[]:=by rw[upd_ne _ _ hij,upd_same]
  by_cases xi:x=i
  ·subst xi;rw[fi]at hb;cases hb
  by_cases yi:y=i
  ·subst yi;rw[fi]at hb';cases hb'
  by_cases xj:x=j
  ·subst xj
   rw[fj]at hb;rw[f y (Ne.symm hxy) yi]at hb'
   exact h.dj i y (Ne.symm yi) b hb hb'
  ·rw[f x xj xi]at hb
   by_cases yj:y=j
   ·subst yj;rw[fj]at hb';exact h.dj x i xi b hb hb'
   ·rw[f y yj yi]at hb';exact h.dj x y hxy b hb hb'
 ·by_cases xj:x=j
  ·subst xj;rw[upd_same]at hb;exact h.own i b hb
  ·rw[upd_ne _ _ xj]at hb
   by_cases xi:x=i
   ·subst xi;rw[upd_same]at hb;cases hb
   ·rw[upd_ne _ _ xi]at hb;exact h.own x b hb
end

mutual
def lowA:AV→Bool
 |.own id=>Nat.blt id 1000000
 |.sub id _ _=>Nat.blt id 1000000
 |.ptr id _ _=>Nat.blt id 1000000
 |.agg cs=>lowL cs
 |.tup cs=>lowL cs
 |.clo _ f cs=>lowL f&&lowL cs
 |_=>true
def lowL:List AV→Bool
 |[]=>true
 |x::xs=>lowA x&&lowL xs
end
def lowO:AO→Bool
 |.box _ _ cells=>lowL cells
 |_=>true
def lowEq{α:Type}(k k':Nat→α):Prop:=∀i,i<1000000→k i=k' i
mutual
theorem kil_low{k k':Nat→Bool}(h:lowEq k k'):∀x,lowA x=true→kil k x=kil k' x
 |.own id,q=>by rw[kil,kil,h id (Nat.le_of_ble_eq_true q)]
 |.sub id off len,q=>by rw[kil,kil,h id (Nat.le_of_ble_eq_true q)]
 |.ptr id r c,q=>by rw[kil,kil,h id (Nat.le_of_ble_eq_true q)]
 |.agg cs,q=>by rw[kil,kil,kilL_low h cs q]
 |.tup cs,q=>by rw[kil,kil,kilL_low h cs q]
 |.clo fn f cs,q=>by
  have q':lowL f=true∧lowL cs=true:=by rw[←Bool.and_eq_true];exact q
  rw[kil,kil,kilL_low h f q'.1,kilL_low h cs q'.2]
 |.p _,_=>by simp[kil]
 |.rp _,_=>by simp[kil]
 |.dead,_=>by simp[kil]
 |.bad,_=>by simp[kil]
theorem kilL_low{k k':Nat→Bool}(h:lowEq k k'):∀l,lowL l=true→kilL k l=kilL k' l
 |[],_=>rfl
 |x::xs,q=>by
  have q':lowA x=true∧lowL xs=true:=by rw[←Bool.and_eq_true];exact q
  rw[kilL,kilL,kil_low h x q'.1,kilL_low h xs q'.2]
end
theorem lowO.kil{k k':Nat→Bool}(h:lowEq k k'){o:AO}(q:lowO o=true):o.kil k=o.kil k':=by
 cases o with
 |box T p cells=>show AO.box T p _=AO.box T p _;rw[kilL_low h cells q]
 |_=>rfl
mutual
theorem ren_low{r r':List (Nat×Nat)}(h:lowEq (rn r) (rn r')):∀x,lowA x=true→ren r x=ren r' x
 |.own id,q=>by rw[ren,ren,h id (Nat.le_of_ble_eq_true q)]
 |.sub id off len,q=>by rw[ren,ren,h id (Nat.le_of_ble_eq_true q)]
 |.ptr id i c,q=>by rw[ren,ren,h id (Nat.le_of_ble_eq_true q)]
 |.agg cs,q=>by rw[ren,ren,renL_low h cs q]
 |.tup cs,q=>by rw[ren,ren,renL_low h cs q]
 |.clo fn f cs,q=>by
  have q':lowL f=true∧lowL cs=true:=by rw[←Bool.and_eq_true];exact q
  rw[ren,ren,renL_low h f q'.1,renL_low h cs q'.2]
 |.p _,_=>by simp[ren]
 |.rp _,_=>by simp[ren]
 |.dead,_=>by simp[ren]
 |.bad,_=>by simp[ren]
theorem renL_low{r r':List (Nat×Nat)}(h:lowEq (rn r) (rn r')):∀l,lowL l=true→renL r l=renL r' l
 |[],_=>rfl
 |x::xs,q=>by
  have q':lowA x=true∧lowL xs=true:=by rw[←Bool.and_eq_true];exact q
  rw[renL,renL,ren_low h x q'.1,renL_low h xs q'.2]
end
theorem lowO.ren{r r':List (Nat×Nat)}(h:lowEq (rn r) (rn r')){o:AO}(q:lowO o=true):o.ren r=o.ren r':=by
 cases o with
 |box T p cells=>show AO.box T p _=AO.box T p _;rw[renL_low h cells q]
 |_=>rfl
section
variable {P:Program}{L O:Nat→Prop}{w0:World}{N:Nat}{τ τ':Nat→AV}{H H':Nat→AO}{Q:AQ}{c:Code}{F:List AO}
theorem RR.plain{ρ:Nat→Value}{fp:Nat→List Nat}{a:Act}{w:World}(h:RR L O w0 N τ H ρ fp a w)(id:Nat){e:TypeId}{u:Value}{sz:Nat}{rows:List (List PV)}(hH:H id=.arr ⟨e,some u⟩ sz rows) :
 RR L O w0 N (fun t=>frz id (.v u) (τ t)) (fun j=>(H j).frz id (.v u)) ρ fp a w:=by
 have hob:=h.ob id
 rw[hH]at hob
 obtain⟨xs,fr,b1,b2,b3,b4,b5⟩:=hob
 have hu:ρ id=u:=b5 u rfl
 have h1:(ρ id).oneCell'=true:=by rcases b3.2 with⟨q,_⟩|⟨g,cap,cur,q,_⟩<;>rw[q]<;>rfl
 have hlive:∀b,live L ρ (fun j=>(H j).frz id (.v u)) b→live L ρ H b:=by
  rintro b (hl|⟨j,q1,q2⟩)
  ·exact .inl hl
  ·exact .inr ⟨j,by rw[AO.frz_here]at q1;exact q1,q2⟩
 have R:Frz id (.v u) L ρ H (fun j=>(H j).frz id (.v u)) w:=⟨fun b hn hl=>hn (hlive b hl),fun j _ hh=>by
  rw[AO.frz_here]at hh;exact⟨hh,AO.frz_len _ _ _,AO.frz_sz _ _ _⟩,by rw[hH];rfl,by rw[hu]at h1 ⊢;exact RV.v_mk h1⟩
 refine⟨h.chg,h.size,h.defers,fun t=>RV.frz R _ (h.tm t),fun j=>?_,h.dj,h.own,h.lo⟩
 have:=h.ob j
 show OB _ _ _ _ _ _ ((H j).frz id (.v u))
 cases hj:H j with
 |box T p cells=>
  rw[hj]at this
  obtain⟨ys,h1,h2,h3,h4,h5⟩:=this
  exact⟨ys,RVL.frz R cells h1,frzL_cell _ _ cells h2,by rw[frzL_length];exact h3,h4,h5⟩
 |arr e' s' r'=>
  rw[hj]at this
  obtain⟨ys,fr',h1,h2,h3,h4⟩:=this
  exact⟨ys,fr',h1,fun b hb=>R.live b (h2 b hb),h3,h4⟩
 |gone=>rw[hj]at this;exact this
theorem of2_low{k:List Nat}{v:List AV}(h:lowL v=true):∀t,lowA (of2 .bad k v t)=true:=by
 induction k generalizing v with
 |nil=>intro t;rfl
 |cons s k ih=>
  cases v with
  |nil=>intro t;rfl
  |cons x v=>
   intro t
   have q':lowA x=true∧lowL v=true:=by rw[←Bool.and_eq_true];exact h
   show lowA (if t=s then x else of2 .bad k v t)=true
   split
   ·exact q'.1
   ·exact ih q'.2 t
theorem of2_lowO{k:List Nat}{v:List AO}(h:v.all lowO=true):∀t,lowO (of2 .gone k v t)=true:=by
 induction k generalizing v with
 |nil=>intro t;rfl
 |cons s k ih=>
  cases v with
  |nil=>intro t;rfl
  |cons x v=>
   intro t
   rw[List.all_cons,Bool.and_eq_true]at h
   show lowO (if t=s then x else of2 .gone k v t)=true
   split
   ·exact h.1
   ·exact ih h.2 t
mutual
theorem frz_low(id:Nat)(y:PV):∀x,lowA x=true→lowA (frz id y x)=true
 |.own j,q=>by rw[frz];split<;>first|rfl|exact q
 |.sub j _ _,q=>by rw[frz];split<;>first|rfl|exact q
 |.ptr j _ _,q=>by rw[frz];split<;>first|rfl|exact q
 |.agg cs,q=>by rw[frz];exact frzL_low id y cs q
 |.tup cs,q=>by rw[frz];exact frzL_low id y cs q
 |.clo fn f cs,q=>by
  have q':lowL f=true∧lowL cs=true:=by rw[←Bool.and_eq_true];exact q
  rw[frz]
  show (lowL _&&lowL _)=true
  rw[frzL_low id y f q'.1,frzL_low id y cs q'.2];rfl
 |.p _,_=>by simp[frz,lowA]
 |.rp _,_=>by simp[frz,lowA]
 |.dead,_=>by simp[frz,lowA]
 |.bad,_=>by simp[frz,lowA]
theorem frzL_low(id:Nat)(y:PV):∀l,lowL l=true→lowL (frzL id y l)=true
 |[],_=>rfl
 |x::xs,q=>by
  have q':lowA x=true∧lowL xs=true:=by rw[←Bool.and_eq_true];exact q
  show (lowA _&&lowL _)=true
  rw[frz_low id y x q'.1,frzL_low id y xs q'.2];rfl
end
theorem frzO_low(id:Nat)(y:PV){o:AO}(q:lowO o=true):lowO (o.frz id y)=true:=by
 cases o with
 |box T p cells=>exact frzL_low id y cells q
 |_=>rfl
theorem RR.putIn(j m:Nat){k i:List Nat}{v:List AV}{b:List AO}{e:TypeId}{u:Value}{sz:Nat}{rows:List (List PV)}{F':List AO}{ρ:Nat→Value}{fp:Nat→List Nat}{a:Act}{w:World}(hr:RR L O w0 N (of2 .bad k v) (tl (of2 .gone i b) F) ρ fp a w)(hj:(of2 .gone i b j,Nat.blt j 1000000)=(.arr ⟨e,some u⟩ sz rows,true))(hl:(lowL v&&b.all lowO)=true)(hF:rowF F)
 (hm:(F[m]?).getD .gone=.gone) (hF':∀x,(F'[x]?).getD .gone=if x=m then .arr ⟨e,some u⟩ sz rows else (F[x]?).getD .gone) :
 ∃ρ fp,RR L O w0 N (fun t=>frz j (.v u) (of2 .bad k v t)) (tl (upd (fun x=>(of2 .gone i b x).frz j (.v u)) j .gone) F') ρ fp a w:=by
 rw[Bool.and_eq_true]at hl
 have hj1:of2 .gone i b j=.arr ⟨e,some u⟩ sz rows:=congrArg (·.1) hj
 have hj2:j<1000000:=Nat.le_of_ble_eq_true (congrArg (·.2) hj)
 have h1:=hr.plain j (e:=e) (u:=u) (sz:=sz) (rows:=rows) (by rw[tl_lo hj2];exact hj1)
 have e0:(fun x=>(tl (of2 .gone i b) F x).frz j (.v u))=tl (fun x=>(of2 .gone i b x).frz j (.v u)) F:=funext fun x=>by
  rcases lo_or_hi x with q|⟨m,rfl⟩
  ·rw[tl_lo q,tl_lo q]
  ·rw[tl_hi,tl_hi];exact rowO.frz (rowF.at hF m)
 rw[e0]at h1
 have hbig:tl (fun x=>(of2 .gone i b x).frz j (.v u)) F (1000000+m)=.gone:=by rw[tl_hi];exact hm
 have hjj:tl (fun x=>(of2 .gone i b x).frz j (.v u)) F j=.arr ⟨e,some u⟩ sz rows:=by rw[tl_lo hj2,hj1];rfl
 have h2:=h1.rename (i:=j) (j:=1000000+m) (by omega) hbig (by rw[hjj];rfl) (one? (1000000+m)) (by simp[one?])
 have lowK:lowEq (one? (1000000+m)) noK:=fun x hx=>by unfold one? noK;simp;omega
 have e1:(fun t=>kil (one? (1000000+m)) (frz j (.v u) (of2 .bad k v t)))=fun t=>frz j (.v u) (of2 .bad k v t):=funext fun t=>by
  rw[kil_low lowK _ (frz_low _ _ _ (of2_low hl.1 t)),kil_no]
 have e2:upd (upd (fun x=>(tl (fun x=>(of2 .gone i b x).frz j (.v u)) F x).kil (one? (1000000+m))) j .gone) (1000000+m) (tl (fun x=>(of2 .gone i b x).frz j (.v u)) F j)=tl (upd (fun x=>(of2 .gone i b x).frz j (.v u)) j .gone) F':=funext fun x=>by
  rw[hjj]
  rcases lo_or_hi x with q|⟨y,rfl⟩
  ·rw[upd_ne _ _ (by omega),tl_lo q]
   by_cases xj:x=j
   ·subst xj;rw[upd_same,upd_same]
   ·rw[upd_ne _ _ xj,upd_ne _ _ xj]
    show (tl _ F x).kil _=_
    rw[tl_lo q,lowO.kil lowK (frzO_low _ _ (of2_lowO hl.2 x)),AO.kil_no]
  ·rw[tl_hi,hF' y]
   by_cases hy:y=m
   ·subst hy;rw[upd_same,if_pos rfl]
   ·rw[upd_ne _ _ (by omega),upd_ne _ _ (by omega),if_neg hy]
    show (tl _ F (1000000+y)).kil _=_
    rw[tl_hi,rowO.kil (rowF.at hF y)]
 rw[e1,e2]at h2
 exact⟨_,_,h2⟩
theorem AW.absorb(j:Nat){k i:List Nat}{v:List AV}{b:List AO}{e:TypeId}{u:Value}{sz:Nat}{rows:List (List PV)}(hj:(of2 .gone i b j,Nat.blt j 1000000)=(.arr ⟨e,some u⟩ sz rows,true))(hl:(lowL v&&b.all lowO)=true)(hF:rowF F)
 (hK:AW P L O w0 N c (fun t=>frz j (.v u) (of2 .bad k v t)) (tl (upd (fun x=>(of2 .gone i b x).frz j (.v u)) j .gone) (F++[.arr ⟨e,some u⟩ sz rows])) Q):AW P L O w0 N c (of2 .bad k v) (tl (of2 .gone i b) F) Q:=fun ρ fp a w hr=>by
 obtain⟨ρ',fp',h⟩:=hr.putIn j F.length (F':=F++[.arr ⟨e,some u⟩ sz rows]) hj hl hF (by simp) (fun x=>by
  by_cases q:x=F.length
  ·subst q;simp
  ·rw[if_neg q]
   rcases Nat.lt_or_ge x F.length with z|z
   ·rw[List.getElem?_append_left z]
   ·rw[List.getElem?_eq_none z,List.getElem?_eq_none (by simp;omega)])
 exact hK ρ' fp' a w h
end
def GN(P:Program)(f:FuncId)(args:List AV)(ob0:List (Nat×AO))(F0:List AO)(R:AV→List (Nat×AO)→List AO→Prop):Prop:=
 GX P f args (ob0++famL 1000000 F0) fun x ob1=>∃l1 F1,(smallO l1&&(l1.all (fun p=>lowO p.2)&&lowA x))=true∧rowF F1∧F1.length≤10000000∧ob1=l1++famL 1000000 F1∧R x l1 F1
theorem mem_famL:∀ {F:List AO} {n i:Nat} {o:AO},(i,o)∈famL n F→∃m,m<F.length∧i=n+m
 |[],n,i,o,h=>by cases h
 |x::F,n,i,o,h=>by
  rcases List.mem_cons.1 h with h|h
  ·injection h with h1 h2
   exact⟨0,by simp,by omega⟩
  ·obtain⟨m,q1,q2⟩:=mem_famL h
   exact⟨m+1,by simp;omega,by omega⟩
section
variable {P:Program}{o:Oper}{N:Nat}{τ:Nat→AV}{H:Nat→AO}{F:List AO}
end

inductive All2 {α β:Type} (R:α→β→Prop):List α→List β→Prop
 |nil:All2 R [] []
 |cons {a:α} {b:β} {l:List α} {m:List β}:R a b→All2 R l m→All2 R (a::l) (b::m)
theorem All2.len{α β:Type}{R:α→β→Prop}{l:List α}{m:List β}(h:All2 R l m):l.length=m.length:=by
 induction h with
 |nil=>rfl
 |cons _ _ ih=>simp[ih]
theorem All2.of{α β:Type}{R:α→β→Prop}:∀ {l:List α} {m:List β},l.length=m.length→(∀(i:Nat) (a:α) (b:β),l[i]? = some a→m[i]? = some b→R a b)→All2 R l m
 |[],[],_,_=>.nil
 |a::l,b::m,hl,h=>.cons (h 0 a b rfl rfl) (All2.of (by simpa using hl) fun i x y h1 h2=>h (i+1) x y (by simpa using h1) (by simpa using h2))
 |[],_::_,hl,_=>by cases hl
 |_::_,[],hl,_=>by cases hl
def dpC(H:Nat→AO)(p q:PV):Prop:=p=q∨∃v m e sz rows,p=.v v∧H m=.arr ⟨e,some v⟩ sz rows∧q=.lst e sz rows
section
variable {L:Nat→Prop}{ρ:Nat→Value}{H:Nat→AO}{w:World}
theorem RWL.deep(hob:∀id,∃f,OB L ρ H w (ρ id) f (H id)):∀ {x y:List PV} {c:List Value} {fp:List Nat},All2 (dpC H) x y→RWL w false x c fp→∃fp',RWL w false y c fp'
 |_,_,c,fp,.nil,h=>⟨fp,h⟩
 |_,_,c,fp,.cons h1 h2,h=>by
  rw[RWL]at h
  obtain⟨c,r,f1,f2,rfl,rfl,k1,k2⟩:=h
  obtain⟨g2,k3⟩:=RWL.deep hob h2 k2
  rcases h1 with rfl|⟨v,m,e,sz,rows,rfl,hm,rfl⟩
  ·exact⟨f1++g2,by rw[RWL];exact⟨c,r,f1,g2,rfl,rfl,k1,k3⟩⟩
  ·obtain⟨f,ho⟩:=hob m
   rw[hm]at ho
   obtain⟨g1,k4⟩:=OB.readsW ho
   have hv:ρ m=v:=by obtain⟨_,_,_,_,_,_,k⟩:=ho;exact k v rfl
   rw[RW]at k1
   rw[k1.1,←hv]
   exact⟨g1++g2,by rw[RWL];exact⟨ρ m,r,g1,g2,rfl,rfl,k4,k3⟩⟩
theorem RWR.deep(hob:∀id,∃f,OB L ρ H w (ρ id) f (H id)){sz:Nat}:∀ {x y:List (List PV)} {c:List Value} {fp:List Nat},All2 (All2 (dpC H)) x y→RWR w false sz x c fp→∃fp',RWR w false sz y c fp'
 |_,_,c,fp,.nil,h=>⟨fp,h⟩
 |_,_,c,fp,.cons h1 h2,h=>by
  rw[RWR]at h
  obtain⟨hl,c,r,f1,f2,rfl,rfl,k1,k2⟩:=h
  obtain⟨g1,k3⟩:=RWL.deep hob h1 k1
  obtain⟨g2,k4⟩:=RWR.deep hob h2 k2
  exact⟨g1++g2,by rw[RWR];exact⟨by rw[←h1.len];exact hl,c,r,g1,g2,rfl,rfl,k3,k4⟩⟩
end
def Reads(H:Nat→AO)(x y:AV):Prop:=∀ {L:Nat→Prop} {ρ:Nat→Value} {w:World} {c:Value},(∀id,∃f,OB L ρ H w (ρ id) f (H id))→RV L ρ H w x c→RV L0 ρ0 (ofO []) w y c
theorem Reads.lend{H:Nat→AO}{x y:AV}(h:lend H x=y):Reads H x y:=fun hob hx=>h▸RV.lend hob x hx
theorem Reads.own{H:Nat→AO}{id:Nat}{t:TypeId}{pt:Option Value}{sz:Nat}{rows rows':List (List PV)}(hH:H id=.arr ⟨t,pt⟩ sz rows)(h:All2 (All2 (dpC H)) rows rows'):Reads H (.own id) (.p (.lst t sz rows')):=fun{L ρ w c} hob hx=>by
 rw[RV]at hx
 have hc:=hx.2 (by rw[hH];rfl)
 obtain⟨f,ho⟩:=hob id
 rw[hH]at ho
 obtain⟨xs,fr,b1,b2,b3,b4,b5⟩:=ho
 obtain⟨g,k1⟩:=RWR.deep hob h b1
 have hr:=OB.readsW (L:=L) (ρ:=ρ) (H:=H) (w:=w) (v:=ρ id) (f:=f) (e:=⟨t,pt⟩) (sz:=sz) (rows:=rows) ⟨xs,fr,b1,b2,b3,b4,b5⟩
 rw[hc]
 rw[RV]
 have hlen:rows'.length=rows.length:=h.len.symm
 rcases b3.2 with⟨q,q2⟩|⟨gb,cap,cur,q,_,hg,hnc,hcm,_⟩
 ·refine⟨[]++g,?_,fun b _=>no_live⟩
  rw[RW]
  refine⟨xs,[],g,k1,?_,rfl⟩
  unfold SlAt
  simp only[Bool.false_eq_true,if_false]
  exact⟨none,0,by rw[q,hlen,q2],by omega,by simp[maxLen],.inl ⟨by omega,trivial⟩⟩
 ·have b3':=b3
  rw[q]at b3'
  refine⟨[gb]++g,?_,fun b _=>no_live⟩
  rw[RW]
  refine⟨xs,[gb],g,k1,?_,rfl⟩
  unfold SlAt
  simp only[Bool.false_eq_true,if_false]
  exact⟨_,cap,by rw[q,hlen],by omega,hcm,.inr ⟨gb,0,rfl,cellsAt_of_own b3',(Array.getElem?_eq_some_iff.1 hg).1,rfl⟩⟩
theorem RVL.reads{H:Nat→AO}{L:Nat→Prop}{ρ:Nat→Value}{w:World}(hob:∀id,∃f,OB L ρ H w (ρ id) f (H id)):∀ {l m:List AV} {cs:List Value},All2 (Reads H) l m→RVL L ρ H w l cs→RVL L0 ρ0 (ofO []) w m cs
 |_,_,cs,.nil,h=>by rw[RVL]at *;exact h
 |_,_,cs,.cons h1 h2,h=>by
  rw[RVL]at *
  obtain⟨c,r,rfl,k1,k2⟩:=h
  exact⟨c,r,rfl,h1 hob k1,RVL.reads hob h2 k2⟩
theorem Reads.agg{H:Nat→AO}{l m:List AV}(h:All2 (Reads H) l m):Reads H (.agg l) (.agg m):=fun hob hx=>by
 rw[RV]at *
 obtain⟨cs,rfl,h1⟩:=hx
 exact⟨cs,rfl,RVL.reads hob h h1⟩
section
variable {P:Program}{o:Oper}{N:Nat}{τ:Nat→AV}{H:Nat→AO}
end
theorem rowF.app{F G:List AO}(h:rowF F)(g:rowF G):rowF (F++G):=fun o ho=>by
 rcases List.mem_append.1 ho with q|q
 ·exact h o q
 ·exact g o q
theorem tlp{H:Nat→AO}{F:List AO}(h:Tl H F:=by repeat (first|exact Tl.list rfl|exact Tl.tl (by first|assumption|exact rowF.nil)|refine Tl.frz rfl ?_|refine Tl.upd rfl ?_|refine Tl.kil ?_|refine Tl.call rfl ?_|refine Tl.swap rfl ?_)):Tl H F:=h
def nR(R:AV→List (Nat×AO)→List AO→Prop):AV→List (Nat×AO)→Prop:=fun x ob1=>∃l1 F1,(smallO l1&&(l1.all (fun p=>lowO p.2)&&lowA x))=true∧rowF F1∧F1.length≤10000000∧ob1=l1++famL 1000000 F1∧R x l1 F1
section
variable {P:Program}{L O:Nat→Prop}{w0:World}{N:Nat}{τ:Nat→AV}{H:Nat→AO}{Q:AQ}{c:Code}{ops:Array Oper}{l:List Oper}{F:List AO}
theorem GN.intro{f:FuncId}{fn:Func}{c:Code}{args:List AV}{ob0:List (Nat×AO)}{F0:List AO}{R:AV→List (Nat×AO)→List AO→Prop}{rs:List RVar}(hf:P.funcs[f]? = some fn)(hb:fn.body=some c)(hn:fn.ntmps=N)(hl:args.length≤N)(hrs:resOk P fn.results.toList rs)(h0:smallO ob0=true)
 (h:∀L O w0,AW P L O w0 N c (ofL args) (tl (ofO ob0) F0) (EndsX rs (nR R))):GN P f args ob0 F0 R:=GX.intro hf hb hn hl hrs (fun L O w0=>by rw[ofO_fam h0];exact h L O w0)
theorem end_nret{rs:List RVar}{R:AV→List (Nat×AO)→List AO→Prop}(x:AV)(l1:List (Nat×AO)){F1:List AO}(hR:R x l1 F1)(hM:F1.length≤10000000)(h0:retX τ H rs=some x)(h1:(smallO l1&&(l1.all (fun p=>lowO p.2)&&lowA x))=true)(h2:allO l1 H)(h3:Tl H F1):EndsX rs (nR R) .ret τ H:=
 ⟨x,l1++famL 1000000 F1,⟨l1,F1,h1,h3.2,hM,rfl,hR⟩,h0,allO_app h2 h3.all⟩
end

def rowsV(vs:List Value)(ps:List Posting):List (List PV):=List.zipWith (fun v (p:Posting)=>[.v (.int .i64 p.id),.v v]) vs ps
def famP(vs:List Value)(ps:List Posting):List AO:=List.zipWith (fun v (p:Posting)=>.arr ⟨120,some v⟩ 3 (rowsOf encLine p.lines)) vs ps
theorem rowsV_len{vs:List Value}{ps:List Posting}(h:vs.length=ps.length):(rowsV vs ps).length=ps.length:=by unfold rowsV;rw[List.length_zipWith];omega
theorem famP_len{vs:List Value}{ps:List Posting}(h:vs.length=ps.length):(famP vs ps).length=ps.length:=by unfold famP;rw[List.length_zipWith];omega
theorem rowsV_app{vs:List Value}{ps:List Posting}{u:Value}{p:Posting}(h:vs.length=ps.length):rowsV (vs++[u]) (ps++[p])=rowsV vs ps++[[.v (.int .i64 p.id),.v u]]:=by unfold rowsV;rw[List.zipWith_append h];rfl
theorem famP_app{vs:List Value}{ps:List Posting}{u:Value}{p:Posting}(h:vs.length=ps.length):famP (vs++[u]) (ps++[p])=famP vs ps++[.arr ⟨120,some u⟩ 3 (rowsOf encLine p.lines)]:=by unfold famP;rw[List.zipWith_append h];rfl
theorem famP_row:∀ {vs:List Value} {ps:List Posting},rowF (famP vs ps)
 |[],_=>by unfold famP;simp;exact rowF.nil
 |_::_,[]=>by unfold famP;simp;exact rowF.nil
 |v::vs,p::ps=>fun o ho=>by
  unfold famP at ho
  rw[List.zipWith_cons_cons]at ho
  rcases List.mem_cons.1 ho with rfl|ho
  ·rfl
  ·exact famP_row (vs:=vs) (ps:=ps) o ho
theorem rowsV_at{vs:List Value}{ps:List Posting}{i:Nat}(h:vs.length=ps.length)(hi:i<ps.length):(rowsV vs ps)[i]? = some [.v (.int .i64 ps[i].id),.v (vs[i]'(by omega))]:=by
 unfold rowsV
 rw[List.getElem?_zipWith,List.getElem?_eq_getElem hi,List.getElem?_eq_getElem (by omega)]
theorem famP_at{vs:List Value}{ps:List Posting}{i:Nat}(h:vs.length=ps.length)(hi:i<ps.length):(famP vs ps)[i]? = some (.arr ⟨120,some (vs[i]'(by omega))⟩ 3 (rowsOf encLine ps[i].lines)):=by
 unfold famP
 rw[List.getElem?_zipWith,List.getElem?_eq_getElem hi,List.getElem?_eq_getElem (by omega)]
theorem deepV{H:Nat→AO}{F:List AO}(hT:Tl H F){vs:List Value}{ps:List Posting}(h:vs.length=ps.length){s:Nat}(hF:∀i,i<ps.length→F[s+i]? = (famP vs ps)[i]?):All2 (All2 (dpC H)) (rowsV vs ps) (rowsP ps):=by
 refine All2.of (by rw[rowsV_len h,rowsP_len]) fun i a b ha hb=>?_
 have hi:i<ps.length:=by have:=(List.getElem?_eq_some_iff.1 hb).1;rwa [rowsP_len]at this
 rw[rowsV_at h hi]at ha
 unfold rowsP at hb
 rw[List.getElem?_map,List.getElem?_eq_getElem hi]at hb
 injection ha with ha
 injection hb with hb
 subst ha hb
 refine .cons (.inl rfl) (.cons (.inr ⟨_,1000000+(s+i),_,_,_,rfl,?_,rfl⟩) .nil)
 rw[hT.1,hF i hi,famP_at h hi]
 rfl
end Go.Proofs.YtogkbcmfoalpiaaGreat

