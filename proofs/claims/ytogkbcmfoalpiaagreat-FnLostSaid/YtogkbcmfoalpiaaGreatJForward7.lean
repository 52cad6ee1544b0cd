/- Texts of the proof of FnForward, joined: EA7, EA8. -/
import Derived.Test.YtogkbcmfoalpiaaGreatJForward6
import Derived.Test.YtogkbcmfoalpiaaGreatJForward5
namespace Go.Proofs.YtogkbcmfoalpiaaGreat
open Go.RowKit
set_option maxHeartbeats 16000000
set_option maxRecDepth 100000
set_option linter.unusedSimpArgs false
set_option linter.unusedVariables false
theorem at_find{α:Type}(p:α→Bool)(l:List α):(atI p l=-1∧l.find? p=none)∨∃(i:Nat) (c:α),atI p l=(i:Int)∧l[i]? = some c∧l.find? p=some c∧p c=true:=by
 unfold atI
 cases h:l.findIdx? p with
 |none=>
  refine .inl ⟨rfl,?_⟩
  rw[List.find?_eq_none]
  intro x hx
  have:=List.findIdx?_eq_none_iff.1 h x hx
  simpa using this
 |some i=>
  obtain⟨h1,h2,h3⟩:=List.findIdx?_eq_some_iff_getElem.1 h
  refine .inr ⟨i,l[i],rfl,List.getElem?_eq_getElem h1,?_,h2⟩
  rw[List.find?_eq_some_iff_getElem]
  exact⟨h2,i,h1,rfl,fun j hj=>by simpa using h3 j hj⟩
theorem chan_there{l:List Chan}{ch:Int}(h:0≤chanAt l ch):∃(i:Nat) (c:Chan),chanAt l ch=(i:Int)∧l[i]? = some c∧chanOr l ch=c∧c.id=ch:=by
 rcases chan_find l ch with q|q
 ·omega
 ·exact q
def setY(x:Book)(good:Bool)(h:Htlc):WR:=
 if good then ⟨{ x with htlcs:=delH x.htlcs h.key,chans:=updC (updC x.chans h.inn fun c=>{ c with loc:=c.loc+h.amtIn,score:=scoreUp c.score }) h.out fun c=>{ c with remote:=c.remote+h.amtOut } },
  addL (addL (addL [] 3 0 (h.amtOut-h.amtIn)) 6 h.inn h.amtIn) 8 h.out (-h.amtOut),0⟩
 else ⟨{ x with htlcs:=delH x.htlcs h.key,chans:=updC (updC x.chans h.inn fun c=>{ c with remote:=c.remote+h.amtIn,score:=scoreDown c.score }) h.out fun c=>{ c with loc:=c.loc+h.amtOut } },
  addL (addL [] 6 h.out h.amtOut) 8 h.out (-h.amtOut),0⟩
def setR(x:Book)(e:Event):WR:=match x.htlcs.find? (fun c=>c.key==e.key)with
 |some h=>setY x (decide (e.kind=6)) h
 |none=>⟨x,[],15⟩
theorem setR_none{x:Book}{e:Event}(h:x.htlcs.find? (fun c=>c.key==e.key)=none):setR x e=⟨x,[],15⟩:=by unfold setR;rw[h]
theorem setR_some{x:Book}{e:Event}{c:Htlc}(h:x.htlcs.find? (fun c=>c.key==e.key)=some c):setR x e=setY x (decide (e.kind=6)) c:=by unfold setR;rw[h]
def landY(x:Book)(good:Bool)(h:Circle):WR:=
 if good then ⟨{ x with circles:=delI x.circles h.key,chans:=updC (updC x.chans h.frm fun c=>{ c with remote:=c.remote+(h.amt+h.fee) }) h.to fun c=>{ c with loc:=c.loc+h.amt } },
  addL (addL (addL [] 4 0 h.fee) 6 h.to h.amt) 8 h.frm (-h.amt-h.fee),0⟩
 else ⟨{ x with circles:=delI x.circles h.key,chans:=updC (updC x.chans h.frm fun c=>{ c with loc:=c.loc+(h.amt+h.fee) }) h.to fun c=>{ c with remote:=c.remote+h.amt } },
  addL (addL [] 6 h.frm (h.amt+h.fee)) 8 h.frm (-h.amt-h.fee),0⟩
def landR(x:Book)(e:Event):WR:=match x.circles.find? (fun c=>c.key==e.key)with
 |some h=>landY x (decide (e.kind=10)) h
 |none=>⟨x,[],15⟩
theorem landR_none{x:Book}{e:Event}(h:x.circles.find? (fun c=>c.key==e.key)=none):landR x e=⟨x,[],15⟩:=by unfold landR;rw[h]
theorem landR_some{x:Book}{e:Event}{c:Circle}(h:x.circles.find? (fun c=>c.key==e.key)=some c):landR x e=landY x (decide (e.kind=10)) c:=by unfold landR;rw[h]
theorem set_three{α:Type}{l:List α}{a b:Nat}{c1 c2 d1:α}(hne:a≠b):((l.set a c1).set b d1).set a c2=(l.set a c2).set b d1:=by
 rw[List.set_comm _ _ (Ne.symm hne),List.set_set]
def lauC0(x:Book)(e:Event):Int:=failC (decide ((20:Int)≤(x.circles.length:Int))) (missC x.chans e.to (missC x.chans e.ch (failC (knownB x e.key) 0 9))) 14
def lauC(x:Book)(e:Event):Int:=failC (decide ((chanOr x.chans e.to).remote<e.amt)) (failC (decide ((chanOr x.chans e.ch).loc<addV e.amt e.fee)) (failC (!addOk e.amt e.fee) (lauC0 x e) 10) 12) 11
def lauY(x:Book)(e:Event):WR:=⟨{ x with circles:=x.circles++[⟨e.key,e.ch,e.to,e.amt,e.fee⟩],chans:=updC (updC x.chans e.ch fun c=>{ c with loc:=c.loc-addV e.amt e.fee }) e.to fun c=>{ c with remote:=c.remote-e.amt } },addL (addL [] 6 e.ch (-addV e.amt e.fee)) 8 e.ch (addV e.amt e.fee),0⟩
def lauR(x:Book)(e:Event):WR:=if lauC x e=0 then lauY x e else ⟨x,[],lauC x e⟩
theorem lauR_no{x:Book}{e:Event}(h:lauC x e≠0):lauR x e=⟨x,[],lauC x e⟩:=if_neg h
theorem lauR_yes{x:Book}{e:Event}(h:lauC x e=0):lauR x e=lauY x e:=if_pos h
theorem settle_e(g u:Value)(x:Book)(e:Event)(fi:BookFi x)(es:EvSm e)(hle:∀h∈x.htlcs,h.amtOut≤h.amtIn):GC Tryz.prog 45 [.ptr 0 0 0,evV e] (wIn g u x [] 0) (.tup []) (wOut g (setR x e)):=by
 have sm:=fi.sm
 have hm:x.chans.length≤1000000000:=by have:=sm.lc;omega
 have hmh:x.htlcs.length≤1000000000:=by have:=sm.lh;omega
 have hmc:x.circles.length≤1000000000:=by have:=sm.li;omega
 refine GC.intro (rs:=[]) Tryz.func45 rfl Tryz.ntmps45 (Nat.le_of_ble_eq_true rfl) trivial ?_
 intro L O w0
 refine sL<|lst (zX 2003 Z) Z<|nG<|aS<|aG 7 []<|tq 0 (rmP Z)<|tq 1 (rc Z)<|tq 2 (rf 0 ty.F84_0 Z)<|tq 3 (roX (.agg [vI _ _,vI _ _,vI _ _,.own _,.own _,.own _]) ty.kd27 Z)<|yq 4 (rf 1 ty.F29_1 Z)<|yq 5 (roI ty.kd3 Z) ?_
 rcases at_find (fun c=>c.key==e.key) x.htlcs with⟨hi,hf⟩|⟨i,h,hi,hh,hf,hk⟩
 ·skip
  refine yst 6 rfl (zL Tryz.func101 (htlcAt_e x _ hmh) rfl)<|yq 7 (raI rfl)<|gD<|gT<|aS<|sL<|lmI Z<|lbB Z<|lsB 16 true rfl (by rw[show atI (fun c=>c.key==e.key) x.htlcs=_ from hi];simp)<|nG<|aY Z<|sL<|lmP rfl ?_
  refine lst (z5b Tryz.func95 (fail_e _ _ _ _ _ _ _ _ _ _ _ _ _ _ _ _ _ _ _ ) (⟨stays.box rfl,stays.arr rfl,trivial⟩) rfl rfl) Z<|nG ?_
  refine AW.unpin 1 rfl ?_
  refine aR<|rT ?_
  rw[setR_none hf]
  refine end_ret ?_ ⟨rfl,rfl,rfl,rfl,rfl,trivial⟩
  rfl
 ·have hk:h.key=e.key:=by simpa using hk
  have hhm:=sm.htlcs h (mem_of_get hh)
  have hil:=(List.getElem?_eq_some_iff.1 hh).1
  obtain⟨ha,hb,hab⟩:=fi.hch h (mem_of_get hh)
  obtain⟨a,c,hac,hc,hao,hcid⟩:=chan_there ha
  obtain⟨b,d,hbd,hd,hbo,hdid⟩:=chan_there hb
  have hcm:=sm.chans c (mem_of_get hc)
  have hdm:=sm.chans d (mem_of_get hd)
  have hne:a≠b:=idx_ne hc hd (by rw[hcid,hdid];exact hab)
  refine yst 6 Z (zL Tryz.func101 (htlcAt_e x _ hmh) Z)<|gX [0,3,14] [0,1,2,3,4,2003] ?_
  refine yq 7 (raI rfl)<|gD<|gT<|aS<|sL<|lmI Z<|lbB Z<|lsB 16 false rfl (by rw[show atI (fun c=>c.key==e.key) x.htlcs=_ from hi];simp)<|nG<|aN Z<|aK<|gA<|lmP Z<|lc Z<|lf 0 ty.F84_0 Z<|lf 4 ty.F27_4 Z<|loO ty.kd24 Z<|lmI Z<|lsN 24 (i:Int) rfl hi<|lq (rj i ty.el24 rfl (by rw[length_rowsOf];exact hil))<|lq (rd (x:=.agg [vI _ _,vI _ _,vI _ _,vI _ _,vI _ _,vB _,vI _ _]) (rd_load_arr rfl ty.kd68 rfl rfl rfl (rows_some hh) rfl) rfl)<|lst (zA 2005 ty.ze68 rfl) Z<|lst (zB 2005 ty.co68 ty.inf68 rfl) Z<|nG<|aS ?_
  refine aG 21 [2035]<|tq 0 (rmP Z)<|tq 1 (rmP Z)<|tq 2 (rc Z)<|tq 3 (rf 0 ty.F84_0 Z)<|tq 4 (rf 4 ty.F27_4 Z)<|tq 5 (roO ty.kd24 Z)<|tq 6 (rmI Z)<|gsN 33 (i:Int) Z hi ?_
  refine tq 7 (rd (x:=.sub _ _ _) (rd_slc_own (l:=0) (h:=i) rfl ty.el24 rfl rfl rfl ⟨_,rfl⟩ (by omega) (by rw[length_rowsOf];omega)) rfl)<|tq 9 (rmP rfl)<|tq 10 (rc rfl)<|tq 11 (rf 0 ty.F84_0 rfl)<|tq 12 (rf 4 ty.F27_4 rfl)<|tq 13 (roO ty.kd24 rfl)<|tq 14 (rmI rfl)<|gsN 41 (i:Int) rfl hi ?_
  refine tq 15 (rhI rfl ⟨rfl,fits_i64 (by have:=sm.lh;unfold i64;omega)⟩)<|gsN 42 ((i+1:Nat):Int) rfl (by omega) ?_
  refine tq 16 (rd (x:=.sub _ _ _) (rd_slc_own (l:=i+1) (h:=_) rfl ty.el24 rfl rfl ⟨_,rfl⟩ rfl (by rw[length_rowsOf];omega) (Nat.le_refl _)) rfl)<|yst 8 rfl (St.app0 2035 rfl rfl (by decide) ty.el24 ty.ze68 rfl (by decide) rfl (Src.sub rfl rfl) (by have:=sm.lh;simp[rowsOf,maxLen];omega) (Nat.le_trans (Nat.mul_le_mul_left _ ty.by68) (by have:=sm.lh;simp[rowsOf];omega)))<|gX [0,3,5,27,35,43] [0,1,2,3,4,2003,2005,2035] ?_
  refine yst 17 rfl (zP 2035 ty.el24 ty.ze68 ty.by68 rfl (Src.sub rfl rfl) (by have:=sm.lh;simp[rowsOf];omega))<|yq 18 (rc rfl)<|yq 19 (rf 0 ty.F84_0 rfl)<|yq 20 (rf 4 ty.F27_4 rfl)<|yl rfl (zB 0 ty.co24 ty.inf24 rfl)<|gT ?_
  refine AW.obj 2035 (hAr (delH x.htlcs h.key)) ((congrArg (AO.arr 68 7) (del_rows.trans (congrArg (rowsOf encHtlc) (by rw[erase_filter (g:=fun c=>c.key) fi.hks hh];rfl))))) ?_
  refine aS ?_
  refine AW.swap 2035 2 ?_
  refine aT [0,3,5] [0,1,2,3,4,2003,2005] ?_
  refine aL<|lmP Z<|lf 1 ty.F68_1 Z<|loI ty.kd3 Z ?_
  refine lst (z5b Tryz.func43 (ch_some _ _ ({ x with htlcs:=delH x.htlcs h.key }) _ _ _ hm _ _ hac hc) (⟨stays.box rfl,stays.arr rfl,trivial⟩) rfl rfl) Z<|laP Z<|nA<|lmP Z<|lf 2 ty.F68_2 Z<|loI ty.kd3 rfl ?_
  refine lst (z5b Tryz.func43 (ch_some _ _ ({ x with htlcs:=delH x.htlcs h.key }) _ _ _ hm _ _ hbd hd) (⟨stays.box rfl,stays.arr rfl,trivial⟩) rfl rfl) Z<|laP Z<|nG<|aS<|sL<|lf 0 ty.F29_0 Z<|loI ty.kd3 Z<|lbB Z<|nG ?_
  refine AW.cond rfl ?_ ?_
  ·intro h1
   refine aS<|aG 9 []<|tq 0 (rmP Z)<|tq 1 (rc Z)<|tq 2 (rf 2 ty.F40_2 Z)<|tq 3 (rd (x:=vI _ _) (rd_load_arr Z ty.kd3 Z Z Z (rows_some hc) Z) Z)<|yq 4 (rf 3 ty.F68_3 Z)<|yq 5 (roI ty.kd3 Z) ?_
   refine yq 6 (rhI rfl ⟨rfl,fits_i64 (by have h1:=hcm.1;have h2:=hcm.2.1;have h3:=hdm.1;have h4:=hdm.2.1;have h5:=hhm.1;have h6:=hhm.2.1;unfold A50 at *;unfold i64;omega)⟩)<|yq 7 (rc rfl)<|yq 8 (rf 2 ty.F40_2 rfl)<|yl rfl (zQ 1 [.v (.int .i64 (c.loc+h.amtIn))] ty.co3 ty.inf3 rfl (rows_some hc))<|gT ?_
   refine AW.obj 1 (cAr u (x.chans.set a { c with loc:=c.loc+h.amtIn })) (Eq.trans (b:=AO.arr ⟨40,some u⟩ 7 ((rowsOf encChan (x.chans)).set a ((encChan { c with loc:=c.loc+h.amtIn }).map PV.v))) rfl (congrArg (AO.arr ⟨40,some u⟩ 7) rows_set)) ?_
   refine aS<|aG 9 []<|tq 0 (rmP Z)<|tq 1 (rc Z)<|tq 2 (rf 3 ty.F40_3 Z)<|tq 3 (rd (x:=vI _ _) (rd_load_arr Z ty.kd3 Z Z Z (rows_some (set_get hd hne _)) Z) Z)<|yq 4 (rf 4 ty.F68_4 Z)<|yq 5 (roI ty.kd3 Z) ?_
   refine yq 6 (rhI rfl ⟨rfl,fits_i64 (by have h1:=hcm.1;have h2:=hcm.2.1;have h3:=hdm.1;have h4:=hdm.2.1;have h5:=hhm.1;have h6:=hhm.2.1;unfold A50 at *;unfold i64;omega)⟩)<|gX [0,5,6,68,74] [0,1,2,3,4,2003,2005] ?_
   refine yq 7 (rc Z)<|yq 8 (rf 3 ty.F40_3 Z)<|yl Z (zQ 1 [.v (.int .i64 (d.remote+h.amtOut))] ty.co3 ty.inf3 Z (rows_some (set_get hd hne _)))<|gT ?_
   refine AW.obj 1 (cAr u ((x.chans.set a { c with loc:=c.loc+h.amtIn }).set b { d with remote:=d.remote+h.amtOut })) (Eq.trans (b:=AO.arr ⟨40,some u⟩ 7 ((rowsOf encChan (x.chans.set a { c with loc:=c.loc+h.amtIn })).set b ((encChan { d with remote:=d.remote+h.amtOut }).map PV.v))) rfl (congrArg (AO.arr ⟨40,some u⟩ 7) rows_set)) ?_
   refine sL<|lmP Z<|lmP Z<|lc Z<|lf 6 ty.F40_6 Z<|lq (rd (x:=vI _ _) (rd_load_arr Z ty.kd3 Z Z Z (rows_some (set_get (set_get_eq hc { c with loc:=c.loc+h.amtIn }) (Ne.symm hne) { d with remote:=d.remote+h.amtOut })) Z) Z)<|lst (zL Tryz.func102 (scUp_e _) Z) Z<|lc Z<|lf 6 ty.F40_6 Z<|lst (zQ 1 [.v (.int .i64 (scoreUp c.score))] ty.co3 ty.inf3 Z (rows_some (set_get (set_get_eq hc { c with loc:=c.loc+h.amtIn }) (Ne.symm hne) { d with remote:=d.remote+h.amtOut }))) Z<|nG ?_
   refine AW.obj 1 (cAr u (updC (updC x.chans h.inn fun c=>{ c with loc:=c.loc+h.amtIn,score:=scoreUp c.score }) h.out fun c=>{ c with remote:=c.remote+h.amtOut })) (Eq.trans (b:=AO.arr ⟨40,some u⟩ 7 ((rowsOf encChan ((x.chans.set a { c with loc:=c.loc+h.amtIn }).set b { d with remote:=d.remote+h.amtOut })).set a ((encChan { c with loc:=c.loc+h.amtIn,score:=scoreUp c.score }).map PV.v))) rfl (congrArg (AO.arr ⟨40,some u⟩ 7) (rows_set.trans (congrArg (rowsOf encChan) ((set_three hne).trans (set_two' fi.ids hc hd hcid hdid hab (fun c=>{ c with loc:=c.loc+h.amtIn,score:=scoreUp c.score }) (fun d=>{ d with remote:=d.remote+h.amtOut }) (fun _=>rfl))))))) ?_
   refine sL<|lmP Z<|lf 4 ty.F68_4 Z<|loI ty.kd3 Z<|lf 3 ty.F68_3 Z<|loI ty.kd3 Z ?_
   refine lhI rfl ⟨rfl,fits_i64 (by have h1:=hcm.1;have h2:=hcm.2.1;have h3:=hdm.1;have h4:=hdm.2.1;have h5:=hhm.1;have h6:=hhm.2.1;unfold A50 at *;unfold i64;omega)⟩ ?_
   refine lst (z5a Tryz.func40 (line_e _ _ _ _ _ _ _ _ _ _ _ _ _ _ ([]) 0 (LG.nil) (by decide) _ _ _ (Fresh.nil _ _) (inB_true.2 (by have h5:=hhm.1;have h6:=hhm.2.1;have h7:=hhm.2.2.2.2;have h8:=hle h (mem_of_get hh);unfold A50 at *;omega))) (⟨stays.box rfl,trivial⟩) rfl rfl) Z<|lT [0,5] [0,1,2,3,4,2003,2005] ?_
   refine nG<|aL<|lmP Z<|lf 1 ty.F68_1 Z<|loI ty.kd3 Z<|lf 3 ty.F68_3 Z<|loI ty.kd3 Z ?_
   refine lst (z5a Tryz.func40 (line_e _ _ _ _ _ _ _ _ _ _ _ _ _ _ (addL [] 3 0 (h.amtOut-h.amtIn)) 1 (LG.nil.add (inB_true.2 (by have h5:=hhm.1;have h6:=hhm.2.1;have h7:=hhm.2.2.2.2;have h8:=hle h (mem_of_get hh);unfold A50 at *;omega))) (by decide) _ _ _ ((Fresh.nil _ _).add (.inl (by decide))) (rangeA_of hhm.1)) (⟨stays.box rfl,trivial⟩) rfl rfl) Z<|nG ?_
   refine AW.unpin 1 rfl ?_
   refine aL<|lmP Z<|lf 2 ty.F68_2 Z<|loI ty.kd3 Z<|lf 4 ty.F68_4 Z<|loI ty.kd3 Z<|lq (rd (x:=vI _ _) (rd_un rfl rfl (fits_i64 (by have h1:=hcm.1;have h2:=hcm.2.1;have h3:=hdm.1;have h4:=hdm.2.1;have h5:=hhm.1;have h6:=hhm.2.1;unfold A50 at *;unfold i64;omega))) rfl) ?_
   refine lst (z5a Tryz.func40 (line_e _ _ _ _ _ _ _ _ _ _ _ _ _ _ (addL (addL [] 3 0 (h.amtOut-h.amtIn)) 6 h.inn h.amtIn) 2 ((LG.nil.add (inB_true.2 (by have h5:=hhm.1;have h6:=hhm.2.1;have h7:=hhm.2.2.2.2;have h8:=hle h (mem_of_get hh);unfold A50 at *;omega))).add (rangeA_of hhm.1)) (by decide) _ _ _ (((Fresh.nil _ _).add (.inl (by decide))).add (.inl (by decide))) (rangeA_neg hhm.2.1)) (⟨stays.box rfl,trivial⟩) rfl rfl) Z<|lN ?_
   rw[setR_some hf,h1]
   unfold setY
   refine end_go ?_ ⟨rfl,rfl,rfl,rfl,rfl,trivial⟩
   rfl
  ·intro h1
   refine aS<|aG 9 []<|tq 0 (rmP Z)<|tq 1 (rc Z)<|tq 2 (rf 3 ty.F40_3 Z)<|tq 3 (rd (x:=vI _ _) (rd_load_arr Z ty.kd3 Z Z Z (rows_some hc) Z) Z)<|yq 4 (rf 3 ty.F68_3 Z)<|yq 5 (roI ty.kd3 Z) ?_
   refine yq 6 (rhI rfl ⟨rfl,fits_i64 (by have h1:=hcm.1;have h2:=hcm.2.1;have h3:=hdm.1;have h4:=hdm.2.1;have h5:=hhm.1;have h6:=hhm.2.1;unfold A50 at *;unfold i64;omega)⟩)<|yq 7 (rc rfl)<|yq 8 (rf 3 ty.F40_3 rfl)<|yl rfl (zQ 1 [.v (.int .i64 (c.remote+h.amtIn))] ty.co3 ty.inf3 rfl (rows_some hc))<|gT ?_
   refine AW.obj 1 (cAr u (x.chans.set a { c with remote:=c.remote+h.amtIn })) (Eq.trans (b:=AO.arr ⟨40,some u⟩ 7 ((rowsOf encChan (x.chans)).set a ((encChan { c with remote:=c.remote+h.amtIn }).map PV.v))) rfl (congrArg (AO.arr ⟨40,some u⟩ 7) rows_set)) ?_
   refine aS<|aG 9 []<|tq 0 (rmP Z)<|tq 1 (rc Z)<|tq 2 (rf 2 ty.F40_2 Z)<|tq 3 (rd (x:=vI _ _) (rd_load_arr Z ty.kd3 Z Z Z (rows_some (set_get hd hne _)) Z) Z)<|yq 4 (rf 4 ty.F68_4 Z)<|yq 5 (roI ty.kd3 Z) ?_
   refine yq 6 (rhI rfl ⟨rfl,fits_i64 (by have h1:=hcm.1;have h2:=hcm.2.1;have h3:=hdm.1;have h4:=hdm.2.1;have h5:=hhm.1;have h6:=hhm.2.1;unfold A50 at *;unfold i64;omega)⟩)<|gX [0,5,6,107,113] [0,1,2,3,4,2003,2005] ?_
   refine yq 7 (rc Z)<|yq 8 (rf 2 ty.F40_2 Z)<|yl Z (zQ 1 [.v (.int .i64 (d.loc+h.amtOut))] ty.co3 ty.inf3 Z (rows_some (set_get hd hne _)))<|gT ?_
   refine AW.obj 1 (cAr u ((x.chans.set a { c with remote:=c.remote+h.amtIn }).set b { d with loc:=d.loc+h.amtOut })) (Eq.trans (b:=AO.arr ⟨40,some u⟩ 7 ((rowsOf encChan (x.chans.set a { c with remote:=c.remote+h.amtIn })).set b ((encChan { d with loc:=d.loc+h.amtOut }).map PV.v))) rfl (congrArg (AO.arr ⟨40,some u⟩ 7) rows_set)) ?_
   refine sL<|lmP Z<|lmP Z<|lc Z<|lf 6 ty.F40_6 Z<|lq (rd (x:=vI _ _) (rd_load_arr Z ty.kd3 Z Z Z (rows_some (set_get (set_get_eq hc { c with remote:=c.remote+h.amtIn }) (Ne.symm hne) { d with loc:=d.loc+h.amtOut })) Z) Z)<|lst (zL Tryz.func103 (scDown_e _) Z) Z<|lc Z<|lf 6 ty.F40_6 Z<|lst (zQ 1 [.v (.int .i64 (scoreDown c.score))] ty.co3 ty.inf3 Z (rows_some (set_get (set_get_eq hc { c with remote:=c.remote+h.amtIn }) (Ne.symm hne) { d with loc:=d.loc+h.amtOut }))) Z<|nG ?_
   refine AW.obj 1 (cAr u (updC (updC x.chans h.inn fun c=>{ c with remote:=c.remote+h.amtIn,score:=scoreDown c.score }) h.out fun c=>{ c with loc:=c.loc+h.amtOut })) (Eq.trans (b:=AO.arr ⟨40,some u⟩ 7 ((rowsOf encChan ((x.chans.set a { c with remote:=c.remote+h.amtIn }).set b { d with loc:=d.loc+h.amtOut })).set a ((encChan { c with remote:=c.remote+h.amtIn,score:=scoreDown c.score }).map PV.v))) rfl (congrArg (AO.arr ⟨40,some u⟩ 7) (rows_set.trans (congrArg (rowsOf encChan) ((set_three hne).trans (set_two' fi.ids hc hd hcid hdid hab (fun c=>{ c with remote:=c.remote+h.amtIn,score:=scoreDown c.score }) (fun d=>{ d with loc:=d.loc+h.amtOut }) (fun _=>rfl))))))) ?_
   refine aL<|lmP Z<|lf 2 ty.F68_2 Z<|loI ty.kd3 Z<|lf 4 ty.F68_4 Z<|loI ty.kd3 Z ?_
   refine lst (z5a Tryz.func40 (line_e _ _ _ _ _ _ _ _ _ _ _ _ _ _ ([]) 0 (LG.nil) (by decide) _ _ _ (Fresh.nil _ _) (rangeA_of hhm.2.1)) (⟨stays.box rfl,trivial⟩) rfl rfl) Z<|lT [0,5] [0,1,2,3,4,2003,2005] ?_
   refine nG ?_
   refine AW.unpin 1 rfl ?_
   refine aL<|lmP Z<|lf 2 ty.F68_2 Z<|loI ty.kd3 Z<|lf 4 ty.F68_4 Z<|loI ty.kd3 Z<|lq (rd (x:=vI _ _) (rd_un rfl rfl (fits_i64 (by have h1:=hcm.1;have h2:=hcm.2.1;have h3:=hdm.1;have h4:=hdm.2.1;have h5:=hhm.1;have h6:=hhm.2.1;unfold A50 at *;unfold i64;omega))) rfl) ?_
   refine lst (z5a Tryz.func40 (line_e _ _ _ _ _ _ _ _ _ _ _ _ _ _ (addL [] 6 h.out h.amtOut) 1 (LG.nil.add (rangeA_of hhm.2.1)) (by decide) _ _ _ ((Fresh.nil _ _).add (.inl (by decide))) (rangeA_neg hhm.2.1)) (⟨stays.box rfl,trivial⟩) rfl rfl) Z<|lN ?_
   rw[setR_some hf,h1]
   unfold setY
   refine end_go ?_ ⟨rfl,rfl,rfl,rfl,rfl,trivial⟩
   rfl
theorem land_e(g u:Value)(x:Book)(e:Event)(fi:BookFi x)(es:EvSm e)(hle:∀h∈x.circles,0≤h.amt∧0≤h.fee∧h.amt+h.fee≤1125899906842624):GC Tryz.prog 48 [.ptr 0 0 0,evV e] (wIn g u x [] 0) (.tup []) (wOut g (landR x e)):=by
 have sm:=fi.sm
 have hm:x.chans.length≤1000000000:=by have:=sm.lc;omega
 have hmh:x.htlcs.length≤1000000000:=by have:=sm.lh;omega
 have hmc:x.circles.length≤1000000000:=by have:=sm.li;omega
 refine GC.intro (rs:=[]) Tryz.func48 rfl Tryz.ntmps48 (Nat.le_of_ble_eq_true rfl) trivial ?_
 intro L O w0
 refine sL<|lst (zX 2003 Z) Z<|nG<|aS<|aG 7 []<|tq 0 (rmP Z)<|tq 1 (rc Z)<|tq 2 (rf 0 ty.F84_0 Z)<|tq 3 (roX (.agg [vI _ _,vI _ _,vI _ _,.own _,.own _,.own _]) ty.kd27 Z)<|yq 4 (rf 1 ty.F29_1 Z)<|yq 5 (roI ty.kd3 Z) ?_
 rcases at_find (fun c=>c.key==e.key) x.circles with⟨hi,hf⟩|⟨i,h,hi,hh,hf,hk⟩
 ·skip
  refine yst 6 rfl (zL Tryz.func105 (circleAt_e x _ hmc) rfl)<|yq 7 (raI rfl)<|gD<|gT<|aS<|sL<|lmI Z<|lbB Z<|lsB 16 true rfl (by rw[show atI (fun c=>c.key==e.key) x.circles=_ from hi];simp)<|nG<|aY Z<|sL<|lmP rfl ?_
  refine lst (z5b Tryz.func95 (fail_e _ _ _ _ _ _ _ _ _ _ _ _ _ _ _ _ _ _ _ ) (⟨stays.box rfl,stays.arr rfl,trivial⟩) rfl rfl) Z<|nG ?_
  refine AW.unpin 1 rfl ?_
  refine aR<|rT ?_
  rw[landR_none hf]
  refine end_ret ?_ ⟨rfl,rfl,rfl,rfl,rfl,trivial⟩
  rfl
 ·have hk:h.key=e.key:=by simpa using hk
  have hhm:=sm.circles h (mem_of_get hh)
  have hil:=(List.getElem?_eq_some_iff.1 hh).1
  obtain⟨ha,hb,hab⟩:=fi.ich h (mem_of_get hh)
  obtain⟨a,c,hac,hc,hao,hcid⟩:=chan_there ha
  obtain⟨b,d,hbd,hd,hbo,hdid⟩:=chan_there hb
  have hcm:=sm.chans c (mem_of_get hc)
  have hdm:=sm.chans d (mem_of_get hd)
  have hne:a≠b:=idx_ne hc hd (by rw[hcid,hdid];exact hab)
  refine yst 6 Z (zL Tryz.func105 (circleAt_e x _ hmc) Z)<|gX [0,3,14] [0,1,2,3,4,2003] ?_
  refine yq 7 (raI rfl)<|gD<|gT<|aS<|sL<|lmI Z<|lbB Z<|lsB 16 false rfl (by rw[show atI (fun c=>c.key==e.key) x.circles=_ from hi];simp)<|nG<|aN Z<|aK<|gA<|lmP Z<|lc Z<|lf 0 ty.F84_0 Z<|lf 5 ty.F27_5 Z<|loO ty.kd25 Z<|lmI Z<|lsN 24 (i:Int) rfl hi<|lq (rj i ty.el25 rfl (by rw[length_rowsOf];exact hil))<|lq (rd (x:=.agg [vI _ _,vI _ _,vI _ _,vI _ _,vI _ _]) (rd_load_arr rfl ty.kd78 rfl rfl rfl (rows_some hh) rfl) rfl)<|lst (zA 2005 ty.ze78 rfl) Z<|lst (zB 2005 ty.co78 ty.inf78 rfl) Z<|nG<|aS ?_
  refine aG 21 [2035]<|tq 0 (rmP Z)<|tq 1 (rmP Z)<|tq 2 (rc Z)<|tq 3 (rf 0 ty.F84_0 Z)<|tq 4 (rf 5 ty.F27_5 Z)<|tq 5 (roO ty.kd25 Z)<|tq 6 (rmI Z)<|gsN 33 (i:Int) Z hi ?_
  refine tq 7 (rd (x:=.sub _ _ _) (rd_slc_own (l:=0) (h:=i) rfl ty.el25 rfl rfl rfl ⟨_,rfl⟩ (by omega) (by rw[length_rowsOf];omega)) rfl)<|tq 9 (rmP rfl)<|tq 10 (rc rfl)<|tq 11 (rf 0 ty.F84_0 rfl)<|tq 12 (rf 5 ty.F27_5 rfl)<|tq 13 (roO ty.kd25 rfl)<|tq 14 (rmI rfl)<|gsN 41 (i:Int) rfl hi ?_
  refine tq 15 (rhI rfl ⟨rfl,fits_i64 (by have:=sm.li;unfold i64;omega)⟩)<|gsN 42 ((i+1:Nat):Int) rfl (by omega) ?_
  refine tq 16 (rd (x:=.sub _ _ _) (rd_slc_own (l:=i+1) (h:=_) rfl ty.el25 rfl rfl ⟨_,rfl⟩ rfl (by rw[length_rowsOf];omega) (Nat.le_refl _)) rfl)<|yst 8 rfl (St.app0 2035 rfl rfl (by decide) ty.el25 ty.ze78 rfl (by decide) rfl (Src.sub rfl rfl) (by have:=sm.li;simp[rowsOf,maxLen];omega) (Nat.le_trans (Nat.mul_le_mul_left _ ty.by78) (by have:=sm.li;simp[rowsOf];omega)))<|gX [0,3,5,27,35,43] [0,1,2,3,4,2003,2005,2035] ?_
  refine yst 17 rfl (zP 2035 ty.el25 ty.ze78 ty.by78 rfl (Src.sub rfl rfl) (by have:=sm.li;simp[rowsOf];omega))<|yq 18 (rc rfl)<|yq 19 (rf 0 ty.F84_0 rfl)<|yq 20 (rf 5 ty.F27_5 rfl)<|yl rfl (zB 0 ty.co25 ty.inf25 rfl)<|gT ?_
  refine AW.obj 2035 (iAr (delI x.circles h.key)) ((congrArg (AO.arr 78 5) (del_rows.trans (congrArg (rowsOf encCircle) (by rw[erase_filter (g:=fun c=>c.key) fi.iks hh];rfl))))) ?_
  refine aS ?_
  refine AW.swap 2035 3 ?_
  refine aT [0,3,5] [0,1,2,3,4,2003,2005] ?_
  refine aL<|lmP Z<|lf 1 ty.F78_1 Z<|loI ty.kd3 Z ?_
  refine lst (z5b Tryz.func43 (ch_some _ _ ({ x with circles:=delI x.circles h.key }) _ _ _ hm _ _ hac hc) (⟨stays.box rfl,stays.arr rfl,trivial⟩) rfl rfl) Z<|laP Z<|nA<|lmP Z<|lf 2 ty.F78_2 Z<|loI ty.kd3 rfl ?_
  refine lst (z5b Tryz.func43 (ch_some _ _ ({ x with circles:=delI x.circles h.key }) _ _ _ hm _ _ hbd hd) (⟨stays.box rfl,stays.arr rfl,trivial⟩) rfl rfl) Z<|laP Z<|nG<|aS<|sL<|lf 0 ty.F29_0 Z<|loI ty.kd3 Z<|lbB Z<|nG ?_
  refine AW.cond rfl ?_ ?_
  ·intro h1
   refine aS<|aG 12 []<|tq 0 (rmP Z)<|tq 1 (rc Z)<|tq 2 (rf 3 ty.F40_3 Z)<|tq 3 (rd (x:=vI _ _) (rd_load_arr Z ty.kd3 Z Z Z (rows_some hc) Z) Z)<|tq 4 (rf 3 ty.F78_3 Z)<|tq 5 (roI ty.kd3 Z)<|yq 6 (rf 4 ty.F78_4 Z)<|yq 7 (roI ty.kd3 Z) ?_
   refine yq 8 (rhI rfl ⟨rfl,fits_i64 (by have h1:=hcm.1;have h2:=hcm.2.1;have h3:=hdm.1;have h4:=hdm.2.1;have h5:=hhm.1;have h6:=hhm.2;unfold A50 at *;unfold i64;omega)⟩) ?_
   refine yq 9 (rhI rfl ⟨rfl,fits_i64 (by have h1:=hcm.1;have h2:=hcm.2.1;have h3:=hdm.1;have h4:=hdm.2.1;have h5:=hhm.1;have h6:=hhm.2;unfold A50 at *;unfold i64;omega)⟩)<|yq 10 (rc rfl)<|yq 11 (rf 3 ty.F40_3 rfl)<|yl rfl (zQ 1 [.v (.int .i64 (c.remote+(h.amt+h.fee)))] ty.co3 ty.inf3 rfl (rows_some hc))<|gT ?_
   refine AW.obj 1 (cAr u (x.chans.set a { c with remote:=c.remote+(h.amt+h.fee) })) (Eq.trans (b:=AO.arr ⟨40,some u⟩ 7 ((rowsOf encChan (x.chans)).set a ((encChan { c with remote:=c.remote+(h.amt+h.fee) }).map PV.v))) rfl (congrArg (AO.arr ⟨40,some u⟩ 7) rows_set)) ?_
   refine aS<|aG 9 []<|tq 0 (rmP Z)<|tq 1 (rc Z)<|tq 2 (rf 2 ty.F40_2 Z)<|tq 3 (rd (x:=vI _ _) (rd_load_arr Z ty.kd3 Z Z Z (rows_some (set_get hd hne _)) Z) Z)<|gX [0,5,71,74] [0,1,2,3,4,2003,2005] ?_
   refine yq 4 (rf 3 ty.F78_3 Z)<|yq 5 (roI ty.kd3 Z) ?_
   refine yq 6 (rhI rfl ⟨rfl,fits_i64 (by have h1:=hcm.1;have h2:=hcm.2.1;have h3:=hdm.1;have h4:=hdm.2.1;have h5:=hhm.1;have h6:=hhm.2;unfold A50 at *;unfold i64;omega)⟩)<|yq 7 (rc rfl)<|yq 8 (rf 2 ty.F40_2 rfl)<|yl rfl (zQ 1 [.v (.int .i64 (d.loc+h.amt))] ty.co3 ty.inf3 rfl (rows_some (set_get hd hne _)))<|gT ?_
   refine AW.obj 1 (cAr u (updC (updC x.chans h.frm fun c=>{ c with remote:=c.remote+(h.amt+h.fee) }) h.to fun c=>{ c with loc:=c.loc+h.amt })) (Eq.trans (b:=AO.arr ⟨40,some u⟩ 7 ((rowsOf encChan (x.chans.set a { c with remote:=c.remote+(h.amt+h.fee) })).set b ((encChan { d with loc:=d.loc+h.amt }).map PV.v))) rfl (congrArg (AO.arr ⟨40,some u⟩ 7) (rows_set.trans (congrArg (rowsOf encChan) (set_two' fi.ids hc hd hcid hdid hab (fun c=>{ c with remote:=c.remote+(h.amt+h.fee) }) (fun d=>{ d with loc:=d.loc+h.amt }) (fun _=>rfl)))))) ?_
   refine sL<|lmP Z<|lf 4 ty.F78_4 Z<|loI ty.kd3 Z ?_
   refine lst (z5a Tryz.func40 (line_e _ _ _ _ _ _ _ _ _ _ _ _ _ _ ([]) 0 (LG.nil) (by decide) _ _ _ (Fresh.nil _ _) (rangeA_of hhm.2)) (⟨stays.box rfl,trivial⟩) rfl rfl) Z<|nG<|aL<|lmP Z<|lf 2 ty.F78_2 Z<|loI ty.kd3 Z<|lf 3 ty.F78_3 Z<|loI ty.kd3 rfl ?_
   refine lst (z5a Tryz.func40 (line_e _ _ _ _ _ _ _ _ _ _ _ _ _ _ (addL [] 4 0 h.fee) 1 (LG.nil.add (rangeA_of hhm.2)) (by decide) _ _ _ ((Fresh.nil _ _).add (.inl (by decide))) (rangeA_of hhm.1)) (⟨stays.box rfl,trivial⟩) rfl rfl) Z<|lT [0,5] [0,1,2,3,4,2003,2005] ?_
   refine nG ?_
   refine AW.unpin 1 rfl ?_
   refine aL<|lmP Z<|lf 1 ty.F78_1 Z<|loI ty.kd3 Z<|lf 3 ty.F78_3 Z<|loI ty.kd3 Z<|lq (rd (x:=vI _ _) (rd_un rfl rfl (fits_i64 (by have h1:=hcm.1;have h2:=hcm.2.1;have h3:=hdm.1;have h4:=hdm.2.1;have h5:=hhm.1;have h6:=hhm.2;unfold A50 at *;unfold i64;omega))) rfl)<|lf 4 ty.F78_4 Z<|loI ty.kd3 rfl ?_
   refine lhI rfl ⟨rfl,fits_i64 (by have h1:=hcm.1;have h2:=hcm.2.1;have h3:=hdm.1;have h4:=hdm.2.1;have h5:=hhm.1;have h6:=hhm.2;unfold A50 at *;unfold i64;omega)⟩ ?_
   refine lst (z5a Tryz.func40 (line_e _ _ _ _ _ _ _ _ _ _ _ _ _ _ (addL (addL [] 4 0 h.fee) 6 h.to h.amt) 2 ((LG.nil.add (rangeA_of hhm.2)).add (rangeA_of hhm.1)) (by decide) _ _ _ (((Fresh.nil _ _).add (.inl (by decide))).add (.inl (by decide))) (inB_true.2 (by have h9:=hle h (mem_of_get hh);omega))) (⟨stays.box rfl,trivial⟩) rfl rfl) Z<|lN ?_
   rw[landR_some hf,h1]
   unfold landY
   refine end_go ?_ ⟨rfl,rfl,rfl,rfl,rfl,trivial⟩
   rfl
  ·intro h1
   refine aS<|aG 12 []<|tq 0 (rmP Z)<|tq 1 (rc Z)<|tq 2 (rf 2 ty.F40_2 Z)<|tq 3 (rd (x:=vI _ _) (rd_load_arr Z ty.kd3 Z Z Z (rows_some hc) Z) Z)<|tq 4 (rf 3 ty.F78_3 Z)<|tq 5 (roI ty.kd3 Z)<|yq 6 (rf 4 ty.F78_4 Z)<|yq 7 (roI ty.kd3 Z) ?_
   refine yq 8 (rhI rfl ⟨rfl,fits_i64 (by have h1:=hcm.1;have h2:=hcm.2.1;have h3:=hdm.1;have h4:=hdm.2.1;have h5:=hhm.1;have h6:=hhm.2;unfold A50 at *;unfold i64;omega)⟩) ?_
   refine yq 9 (rhI rfl ⟨rfl,fits_i64 (by have h1:=hcm.1;have h2:=hcm.2.1;have h3:=hdm.1;have h4:=hdm.2.1;have h5:=hhm.1;have h6:=hhm.2;unfold A50 at *;unfold i64;omega)⟩)<|yq 10 (rc rfl)<|yq 11 (rf 2 ty.F40_2 rfl)<|yl rfl (zQ 1 [.v (.int .i64 (c.loc+(h.amt+h.fee)))] ty.co3 ty.inf3 rfl (rows_some hc))<|gT ?_
   refine AW.obj 1 (cAr u (x.chans.set a { c with loc:=c.loc+(h.amt+h.fee) })) (Eq.trans (b:=AO.arr ⟨40,some u⟩ 7 ((rowsOf encChan (x.chans)).set a ((encChan { c with loc:=c.loc+(h.amt+h.fee) }).map PV.v))) rfl (congrArg (AO.arr ⟨40,some u⟩ 7) rows_set)) ?_
   refine aS<|aG 9 []<|tq 0 (rmP Z)<|tq 1 (rc Z)<|tq 2 (rf 3 ty.F40_3 Z)<|tq 3 (rd (x:=vI _ _) (rd_load_arr Z ty.kd3 Z Z Z (rows_some (set_get hd hne _)) Z) Z)<|yq 4 (rf 3 ty.F78_3 Z)<|yq 5 (roI ty.kd3 Z) ?_
   refine yq 6 (rhI rfl ⟨rfl,fits_i64 (by have h1:=hcm.1;have h2:=hcm.2.1;have h3:=hdm.1;have h4:=hdm.2.1;have h5:=hhm.1;have h6:=hhm.2;unfold A50 at *;unfold i64;omega)⟩)<|gX [0,5,102,108] [0,1,2,3,4,2003,2005] ?_
   refine yq 7 (rc Z)<|yq 8 (rf 3 ty.F40_3 Z)<|yl Z (zQ 1 [.v (.int .i64 (d.remote+h.amt))] ty.co3 ty.inf3 Z (rows_some (set_get hd hne _)))<|gT ?_
   refine AW.obj 1 (cAr u (updC (updC x.chans h.frm fun c=>{ c with loc:=c.loc+(h.amt+h.fee) }) h.to fun c=>{ c with remote:=c.remote+h.amt })) (Eq.trans (b:=AO.arr ⟨40,some u⟩ 7 ((rowsOf encChan (x.chans.set a { c with loc:=c.loc+(h.amt+h.fee) })).set b ((encChan { d with remote:=d.remote+h.amt }).map PV.v))) rfl (congrArg (AO.arr ⟨40,some u⟩ 7) (rows_set.trans (congrArg (rowsOf encChan) (set_two' fi.ids hc hd hcid hdid hab (fun c=>{ c with loc:=c.loc+(h.amt+h.fee) }) (fun d=>{ d with remote:=d.remote+h.amt }) (fun _=>rfl)))))) ?_
   refine aL<|lmP Z<|lf 1 ty.F78_1 Z<|loI ty.kd3 Z<|lf 3 ty.F78_3 Z<|loI ty.kd3 Z<|lf 4 ty.F78_4 Z<|loI ty.kd3 Z ?_
   refine lhI rfl ⟨rfl,fits_i64 (by have h1:=hcm.1;have h2:=hcm.2.1;have h3:=hdm.1;have h4:=hdm.2.1;have h5:=hhm.1;have h6:=hhm.2;unfold A50 at *;unfold i64;omega)⟩ ?_
   refine lst (z5a Tryz.func40 (line_e _ _ _ _ _ _ _ _ _ _ _ _ _ _ ([]) 0 (LG.nil) (by decide) _ _ _ (Fresh.nil _ _) (inB_true.2 (by have h9:=hle h (mem_of_get hh);omega))) (⟨stays.box rfl,trivial⟩) rfl rfl) Z<|nG ?_
   refine AW.unpin 1 rfl ?_
   refine aL<|lmP Z<|lf 1 ty.F78_1 Z<|loI ty.kd3 Z<|lf 3 ty.F78_3 Z<|loI ty.kd3 Z<|lq (rd (x:=vI _ _) (rd_un rfl rfl (fits_i64 (by have h1:=hcm.1;have h2:=hcm.2.1;have h3:=hdm.1;have h4:=hdm.2.1;have h5:=hhm.1;have h6:=hhm.2;unfold A50 at *;unfold i64;omega))) rfl)<|lf 4 ty.F78_4 Z<|loI ty.kd3 rfl ?_
   refine lhI rfl ⟨rfl,fits_i64 (by have h1:=hcm.1;have h2:=hcm.2.1;have h3:=hdm.1;have h4:=hdm.2.1;have h5:=hhm.1;have h6:=hhm.2;unfold A50 at *;unfold i64;omega)⟩ ?_
   refine lst (z5a Tryz.func40 (line_e _ _ _ _ _ _ _ _ _ _ _ _ _ _ (addL [] 6 h.frm (h.amt+h.fee)) 1 (LG.nil.add (inB_true.2 (by have h9:=hle h (mem_of_get hh);omega))) (by decide) _ _ _ ((Fresh.nil _ _).add (.inl (by decide))) (inB_true.2 (by have h9:=hle h (mem_of_get hh);omega))) (⟨stays.box rfl,trivial⟩) rfl rfl) Z<|lT [] [0,1,2,3,4,2003,2005] ?_
   refine lN ?_
   rw[landR_some hf,h1]
   unfold landY
   refine end_go ?_ ⟨rfl,rfl,rfl,rfl,rfl,trivial⟩
   rfl
theorem launch_e(g u:Value)(x:Book)(e:Event)(fi:BookFi x)(es:EvSm e)(hne:e.ch≠e.to):GC Tryz.prog 47 [.ptr 0 0 0,evV e] (wIn g u x [] 0) (.tup []) (wOut g (lauR x e)):=by
 have sm:=fi.sm
 have hm:x.chans.length≤1000000000:=by have:=sm.lc;omega
 have hmh:x.htlcs.length≤1000000000:=by have:=sm.lh;omega
 have hmc:x.circles.length≤1000000000:=by have:=sm.li;omega
 refine GC.intro (rs:=[]) Tryz.func47 rfl Tryz.ntmps47 (Nat.le_of_ble_eq_true rfl) trivial ?_
 intro L O w0
 refine sL<|lst (zX 2003 Z) Z<|nG<|aS<|aG 8 []<|tq 0 (rmP Z)<|tq 1 (rmP Z)<|tq 2 (rc Z)<|tq 3 (rf 0 ty.F84_0 Z)<|tq 4 (roX (.agg [vI _ _,vI _ _,vI _ _,.own _,.own _,.own _]) ty.kd27 Z)<|yq 5 (rf 1 ty.F29_1 Z)<|yq 6 (roI ty.kd3 Z)<|yst 7 Z (zL Tryz.func97 (known_e x _ hmh hmc) Z) ?_
 refine yl rfl (z5b Tryz.func95 (fail_e _ _ _ _ _ _ _ _ _ _ _ _ _ _ _ _ _ _ _ ) (⟨stays.box rfl,stays.arr rfl,trivial⟩) rfl rfl)<|gA<|lmP Z<|lf 2 ty.F29_2 Z<|loI ty.kd3 rfl ?_
 rcases chan_find x.chans e.ch with⟨hi,ho⟩|⟨i,c,hi,hc,ho,hid⟩
 ·skip
  refine lst (zC [(0,0),(1,1),(2,2),(3,3),(4,4),(2017,2017)] [2,3,4,2017] [0,1] Tryz.func43 (ch_none _ _ x _ _ _ hm hi) (⟨stays.box rfl,stays.arr rfl,trivial⟩) rfl rfl) Z<|lT [0,3,20] [0,1,2,3,4,2003,2017] ?_
  refine laP Z<|nA<|lmP Z<|lf 3 ty.F29_3 Z<|loI ty.kd3 Z ?_
  rcases chan_find x.chans e.to with⟨hj,hp⟩|⟨j,d,hj,hd,hp,hjd⟩
  ·skip
   refine lst (zC [(0,0),(1,1),(2,2),(3,3),(4,4),(2017,2018)] [2,3,4,2018] [0,1] Tryz.func43 (ch_none _ _ x _ _ _ hm hj) (⟨stays.box rfl,stays.arr rfl,trivial⟩) rfl rfl) Z<|laP Z<|nA<|lmP Z<|lmP Z<|lc Z<|lf 0 ty.F84_0 Z<|lf 5 ty.F27_5 Z<|loO ty.kd25 Z<|lnI ty.sl25 Z<|lbB rfl ?_
   refine lst (z5b Tryz.func95 (fail_e _ _ _ _ _ _ _ _ _ _ _ _ _ _ _ _ _ _ _ ) (⟨stays.box rfl,stays.arr rfl,trivial⟩) rfl rfl) Z<|lT [0,3,4,5] [0,1,2,3,4,2003,2017,2018] ?_
   refine nA<|lf 4 ty.F29_4 Z<|loI ty.kd3 Z<|lf 5 ty.F29_5 Z<|loI ty.kd3 Z<|lst (zL Tryz.func99 (addAmt_e _ _) Z) Z<|lmX (.tup [vI _ _,vB _]) Z<|lxI Z<|lxB Z<|laI Z<|laB Z<|nA<|lmP Z<|lmB Z<|luB Z ?_
   refine lst (z5b Tryz.func95 (fail_e _ _ _ _ _ _ _ _ _ _ _ _ _ _ _ _ _ _ _ ) (⟨stays.box rfl,stays.arr rfl,trivial⟩) rfl rfl) Z<|lT [0,3,4,5,6] [0,1,2,3,4,2003,2017,2018] ?_
   refine nA<|lmP Z<|lmP Z<|lc Z<|lf 2 ty.F40_2 Z<|loI ty.kd3 Z<|lmI Z<|lbB Z ?_
   refine lst (z5b Tryz.func95 (fail_e _ _ _ _ _ _ _ _ _ _ _ _ _ _ _ _ _ _ _ ) (⟨stays.box rfl,stays.arr rfl,trivial⟩) rfl rfl) Z<|nG<|aS<|aG 8 []<|tq 0 (rmP rfl)<|tq 1 (rmP rfl)<|tq 2 (rc rfl)<|tq 3 (rf 3 ty.F40_3 rfl)<|tq 4 (roI ty.kd3 rfl)<|yq 5 (rf 4 ty.F29_4 rfl)<|yq 6 (roI ty.kd3 rfl)<|yq 7 (rbB rfl) ?_
   refine yl rfl (z5b Tryz.func95 (fail_e _ _ _ _ _ _ _ _ _ _ _ _ _ _ _ _ _ _ _ ) (⟨stays.box rfl,stays.arr rfl,trivial⟩) rfl rfl)<|gT ?_
   refine AW.obj 0 (wBox g x.tick x.next x.wallet (lauC x e)) ((Eq.trans (b:=wBox g x.tick x.next x.wallet _) rfl (congrArg (wBox g x.tick x.next x.wallet) (by unfold lauC lauC0;rw[missC_none hj,missC_none hi,ho,hp,length_rowsOf])))) ?_
   refine aS<|aS ?_
   have hz:lauC x e≠0:=by
    unfold lauC lauC0
    rw[missC_none hj,missC_none hi]
    exact failC_keep (failC_keep (failC_keep (failC_keep (failC_set (by decide)))))
   refine aL<|lmP Z<|lc Z<|lf 7 ty.F84_2 Z<|loI ty.kd3 Z<|lbB Z<|lsB 67 true rfl (by rw[decide_eq_false hz];rfl)<|nG<|aY rfl ?_
   refine AW.unpin 1 rfl ?_
   refine aR<|rT ?_
   rw[lauR_no hz]
   refine end_ret ?_ ⟨rfl,rfl,rfl,rfl,rfl,trivial⟩
   rfl
  ·have hdm:=sm.chans d (mem_of_get hd)
   refine lst (z5b Tryz.func43 (ch_some _ _ x _ _ _ hm _ _ hj hd) (⟨stays.box rfl,stays.arr rfl,trivial⟩) rfl rfl) Z<|lT [0,3,4,24] [0,1,2,3,4,2003,2017] ?_
   refine laP Z<|nA<|lmP Z<|lmP Z<|lc Z<|lf 0 ty.F84_0 Z<|lf 5 ty.F27_5 Z<|loO ty.kd25 Z<|lnI ty.sl25 Z<|lbB Z ?_
   refine lst (z5b Tryz.func95 (fail_e _ _ _ _ _ _ _ _ _ _ _ _ _ _ _ _ _ _ _ ) (⟨stays.box rfl,stays.arr rfl,trivial⟩) rfl rfl) Z<|nA<|lf 4 ty.F29_4 Z<|loI ty.kd3 Z<|lf 5 ty.F29_5 Z<|loI ty.kd3 Z<|lst (zL Tryz.func99 (addAmt_e _ _) rfl) Z<|lT [0,3,4,5,39] [0,1,2,3,4,2003,2017] ?_
   refine lmX (.tup [vI _ _,vB _]) Z<|lxI Z<|lxB Z<|laI Z<|laB Z<|nA<|lmP Z<|lmB Z<|luB Z ?_
   refine lst (z5b Tryz.func95 (fail_e _ _ _ _ _ _ _ _ _ _ _ _ _ _ _ _ _ _ _ ) (⟨stays.box rfl,stays.arr rfl,trivial⟩) rfl rfl) Z<|nA<|lmP Z<|lmP Z<|lc Z<|lf 2 ty.F40_2 Z<|loI ty.kd3 Z<|lmI Z<|lbB rfl ?_
   refine lst (z5b Tryz.func95 (fail_e _ _ _ _ _ _ _ _ _ _ _ _ _ _ _ _ _ _ _ ) (⟨stays.box rfl,stays.arr rfl,trivial⟩) rfl rfl) Z<|lT [0,3,4,5,6] [0,1,2,3,4,2003,2017] ?_
   refine nG<|aS<|aG 8 []<|tq 0 (rmP Z)<|tq 1 (rmP Z)<|tq 2 (rc Z)<|tq 3 (rf 3 ty.F40_3 Z)<|tq 4 (rd (x:=vI _ _) (rd_load_arr Z ty.kd3 Z Z Z (rows_some hd) Z) Z)<|yq 5 (rf 4 ty.F29_4 Z)<|yq 6 (roI ty.kd3 Z)<|yq 7 (rbB Z) ?_
   refine yl rfl (z5b Tryz.func95 (fail_e _ _ _ _ _ _ _ _ _ _ _ _ _ _ _ _ _ _ _ ) (⟨stays.box rfl,stays.arr rfl,trivial⟩) rfl rfl)<|gT ?_
   refine AW.obj 0 (wBox g x.tick x.next x.wallet (lauC x e)) ((Eq.trans (b:=wBox g x.tick x.next x.wallet _) rfl (congrArg (wBox g x.tick x.next x.wallet) (by unfold lauC lauC0;rw[missC_some hj,missC_none hi,ho,hp,length_rowsOf])))) ?_
   refine aS<|aS ?_
   have hz:lauC x e≠0:=by
    unfold lauC lauC0
    rw[missC_some hj,missC_none hi]
    exact failC_keep (failC_keep (failC_keep (failC_keep (failC_set (by decide)))))
   refine aL<|lmP Z<|lc Z<|lf 7 ty.F84_2 Z<|loI ty.kd3 Z<|lbB Z<|lsB 67 true rfl (by rw[decide_eq_false hz];rfl)<|nG<|aY rfl ?_
   refine AW.unpin 1 rfl ?_
   refine aR<|rT ?_
   rw[lauR_no hz]
   refine end_ret ?_ ⟨rfl,rfl,rfl,rfl,rfl,trivial⟩
   rfl
 ·have hcm:=sm.chans c (mem_of_get hc)
  refine lst (z5b Tryz.func43 (ch_some _ _ x _ _ _ hm _ _ hi hc) (⟨stays.box rfl,stays.arr rfl,trivial⟩) rfl rfl) Z<|lT [0,3,20] [0,1,2,3,4,2003] ?_
  refine laP Z<|nA<|lmP Z<|lf 3 ty.F29_3 Z<|loI ty.kd3 Z ?_
  rcases chan_find x.chans e.to with⟨hj,hp⟩|⟨j,d,hj,hd,hp,hjd⟩
  ·skip
   refine lst (zC [(0,0),(1,1),(2,2),(3,3),(4,4),(2017,2018)] [2,3,4,2018] [0,1] Tryz.func43 (ch_none _ _ x _ _ _ hm hj) (⟨stays.box rfl,stays.arr rfl,trivial⟩) rfl rfl) Z<|laP Z<|nA<|lmP Z<|lmP Z<|lc Z<|lf 0 ty.F84_0 Z<|lf 5 ty.F27_5 Z<|loO ty.kd25 Z<|lnI ty.sl25 Z<|lbB rfl ?_
   refine lst (z5b Tryz.func95 (fail_e _ _ _ _ _ _ _ _ _ _ _ _ _ _ _ _ _ _ _ ) (⟨stays.box rfl,stays.arr rfl,trivial⟩) rfl rfl) Z<|lT [0,3,4,5] [0,1,2,3,4,2003,2018] ?_
   refine nA<|lf 4 ty.F29_4 Z<|loI ty.kd3 Z<|lf 5 ty.F29_5 Z<|loI ty.kd3 Z<|lst (zL Tryz.func99 (addAmt_e _ _) Z) Z<|lmX (.tup [vI _ _,vB _]) Z<|lxI Z<|lxB Z<|laI Z<|laB Z<|nA<|lmP Z<|lmB Z<|luB Z ?_
   refine lst (z5b Tryz.func95 (fail_e _ _ _ _ _ _ _ _ _ _ _ _ _ _ _ _ _ _ _ ) (⟨stays.box rfl,stays.arr rfl,trivial⟩) rfl rfl) Z<|lT [0,3,4,5,6] [0,1,2,3,4,2003,2018] ?_
   refine nA<|lmP Z<|lmP Z<|lc Z<|lf 2 ty.F40_2 Z<|lq (rd (x:=vI _ _) (rd_load_arr Z ty.kd3 Z Z Z (rows_some hc) Z) Z)<|lmI Z<|lbB Z ?_
   refine lst (z5b Tryz.func95 (fail_e _ _ _ _ _ _ _ _ _ _ _ _ _ _ _ _ _ _ _ ) (⟨stays.box rfl,stays.arr rfl,trivial⟩) rfl rfl) Z<|nG<|aS<|aG 8 []<|tq 0 (rmP rfl)<|tq 1 (rmP rfl)<|tq 2 (rc rfl)<|tq 3 (rf 3 ty.F40_3 rfl)<|tq 4 (roI ty.kd3 rfl)<|yq 5 (rf 4 ty.F29_4 rfl)<|yq 6 (roI ty.kd3 rfl)<|yq 7 (rbB rfl) ?_
   refine yl rfl (z5b Tryz.func95 (fail_e _ _ _ _ _ _ _ _ _ _ _ _ _ _ _ _ _ _ _ ) (⟨stays.box rfl,stays.arr rfl,trivial⟩) rfl rfl)<|gT ?_
   refine AW.obj 0 (wBox g x.tick x.next x.wallet (lauC x e)) ((Eq.trans (b:=wBox g x.tick x.next x.wallet _) rfl (congrArg (wBox g x.tick x.next x.wallet) (by unfold lauC lauC0;rw[missC_none hj,missC_some hi,ho,hp,length_rowsOf])))) ?_
   refine aS<|aS ?_
   have hz:lauC x e≠0:=by
    unfold lauC lauC0
    rw[missC_none hj,missC_some hi]
    exact failC_keep (failC_keep (failC_keep (failC_keep (failC_set (by decide)))))
   refine aL<|lmP Z<|lc Z<|lf 7 ty.F84_2 Z<|loI ty.kd3 Z<|lbB Z<|lsB 67 true rfl (by rw[decide_eq_false hz];rfl)<|nG<|aY rfl ?_
   refine AW.unpin 1 rfl ?_
   refine aR<|rT ?_
   rw[lauR_no hz]
   refine end_ret ?_ ⟨rfl,rfl,rfl,rfl,rfl,trivial⟩
   rfl
  ·have hdm:=sm.chans d (mem_of_get hd)
   refine lst (z5b Tryz.func43 (ch_some _ _ x _ _ _ hm _ _ hj hd) (⟨stays.box rfl,stays.arr rfl,trivial⟩) rfl rfl) Z<|lT [0,3,4,24] [0,1,2,3,4,2003] ?_
   refine laP Z<|nA<|lmP Z<|lmP Z<|lc Z<|lf 0 ty.F84_0 Z<|lf 5 ty.F27_5 Z<|loO ty.kd25 Z<|lnI ty.sl25 Z<|lbB Z ?_
   refine lst (z5b Tryz.func95 (fail_e _ _ _ _ _ _ _ _ _ _ _ _ _ _ _ _ _ _ _ ) (⟨stays.box rfl,stays.arr rfl,trivial⟩) rfl rfl) Z<|nA<|lf 4 ty.F29_4 Z<|loI ty.kd3 Z<|lf 5 ty.F29_5 Z<|loI ty.kd3 Z<|lst (zL Tryz.func99 (addAmt_e _ _) rfl) Z<|lT [0,3,4,5,39] [0,1,2,3,4,2003] ?_
   refine lmX (.tup [vI _ _,vB _]) Z<|lxI Z<|lxB Z<|laI Z<|laB Z<|nA<|lmP Z<|lmB Z<|luB Z ?_
   refine lst (z5b Tryz.func95 (fail_e _ _ _ _ _ _ _ _ _ _ _ _ _ _ _ _ _ _ _ ) (⟨stays.box rfl,stays.arr rfl,trivial⟩) rfl rfl) Z<|nA<|lmP Z<|lmP Z<|lc Z<|lf 2 ty.F40_2 Z<|lq (rd (x:=vI _ _) (rd_load_arr rfl ty.kd3 rfl rfl rfl (rows_some hc) rfl) rfl)<|lmI Z<|lbB rfl ?_
   refine lst (z5b Tryz.func95 (fail_e _ _ _ _ _ _ _ _ _ _ _ _ _ _ _ _ _ _ _ ) (⟨stays.box rfl,stays.arr rfl,trivial⟩) rfl rfl) Z<|lT [0,3,4,5,6] [0,1,2,3,4,2003] ?_
   refine nG<|aS<|aG 8 []<|tq 0 (rmP Z)<|tq 1 (rmP Z)<|tq 2 (rc Z)<|tq 3 (rf 3 ty.F40_3 Z)<|tq 4 (rd (x:=vI _ _) (rd_load_arr Z ty.kd3 Z Z Z (rows_some hd) Z) Z)<|yq 5 (rf 4 ty.F29_4 Z)<|yq 6 (roI ty.kd3 Z)<|yq 7 (rbB Z) ?_
   refine yl rfl (z5b Tryz.func95 (fail_e _ _ _ _ _ _ _ _ _ _ _ _ _ _ _ _ _ _ _ ) (⟨stays.box rfl,stays.arr rfl,trivial⟩) rfl rfl)<|gT ?_
   refine AW.obj 0 (wBox g x.tick x.next x.wallet (lauC x e)) ((Eq.trans (b:=wBox g x.tick x.next x.wallet _) rfl (congrArg (wBox g x.tick x.next x.wallet) (by unfold lauC lauC0;rw[missC_some hj,missC_some hi,ho,hp,length_rowsOf])))) ?_
   refine aS<|sL<|lmP Z<|lc Z<|lf 7 ty.F84_2 Z<|loI ty.kd3 Z<|lbB Z<|nG ?_
   refine AW.cond rfl ?_ ?_
   ·intro h1
    refine AW.unpin 1 rfl ?_
    refine aR<|rT ?_
    have hz:lauC x e≠0:=by simpa using h1
    rw[lauR_no hz]
    refine end_ret ?_ ⟨rfl,rfl,rfl,rfl,rfl,trivial⟩
    rfl
   ·intro h1
    refine aK<|gT<|aS<|aG 22 [3]<|tq 0 (rmP Z)<|tq 1 (rmP Z)<|tq 2 (rc Z)<|tq 3 (rf 0 ty.F84_0 Z)<|tq 4 (rf 5 ty.F27_5 Z)<|tq 5 (roO ty.kd25 Z)<|tq 6 (rf 1 ty.F29_1 Z)<|tq 7 (roI ty.kd3 Z)<|tq 8 (rf 2 ty.F29_2 Z)<|tq 9 (roI ty.kd3 Z)<|tq 10 (rf 3 ty.F29_3 Z)<|tq 11 (roI ty.kd3 Z)<|tq 12 (rf 4 ty.F29_4 Z)<|tq 13 (roI ty.kd3 Z)<|yq 14 (rf 5 ty.F29_5 Z)<|yq 15 (roI ty.kd3 Z)<|gX [0,3,4,5,6,68,73,75,77,79,81,83] [0,1,2,3,4,2003] ?_
    refine yq 16 (rd (x:=.agg [vI _ _,vI _ _,vI _ _,vI _ _,vI _ _]) (rd_build rfl ty.sa78 rfl rfl rfl) rfl) ?_
    refine yst 17 rfl (zS 2085 (rowsOf encCircle [⟨e.key,e.ch,e.to,e.amt,e.fee⟩]) ty.el25 ty.ze78 rfl)<|yst 18 rfl (zP 3 ty.el25 ty.ze78 ty.by78 rfl (Src.own rfl rfl) (by have:=sm.li;simp[rowsOf];omega))<|yq 19 (rc rfl)<|yq 20 (rf 0 ty.F84_0 rfl)<|yq 21 (rf 5 ty.F27_5 rfl)<|yl rfl (zB 0 ty.co25 ty.inf25 rfl)<|gT ?_
    refine AW.obj 3 (iAr (x.circles++[⟨e.key,e.ch,e.to,e.amt,e.fee⟩])) ((congrArg (AO.arr 78 5) (rowsOf_app encCircle _ [_]).symm)) ?_
    refine sL<|lmP Z<|lc Z<|lf 2 ty.F40_2 Z<|lq (rd (x:=vI _ _) (rd_load_arr Z ty.kd3 Z Z Z (rows_some hc) Z) Z)<|lmI Z ?_
    refine lhI rfl ⟨rfl,fits_i64 (by have h1:=hcm.1;have h2:=addV_A50 e.amt e.fee;unfold A50 at *;unfold i64;omega)⟩<|lc Z<|lf 2 ty.F40_2 Z<|lst (zQ 1 [.v (.int .i64 (c.loc-addV e.amt e.fee))] ty.co3 ty.inf3 rfl (rows_some hc)) Z<|lT [0,3,5,6] [0,1,2,3,4,2003,2085] ?_
    refine nG ?_
    refine AW.obj 1 (cAr u (x.chans.set i { c with loc:=c.loc-addV e.amt e.fee })) (Eq.trans (b:=AO.arr ⟨40,some u⟩ 7 ((rowsOf encChan (x.chans)).set i ((encChan { c with loc:=c.loc-addV e.amt e.fee }).map PV.v))) rfl (congrArg (AO.arr ⟨40,some u⟩ 7) rows_set)) ?_
    refine aS<|aG 9 []<|tq 0 (rmP rfl)<|tq 1 (rc rfl)<|tq 2 (rf 3 ty.F40_3 rfl)<|tq 3 (rd (x:=vI _ _) (rd_load_arr rfl ty.kd3 rfl rfl rfl (rows_some (set_get hd (idx_ne hc hd (by rw[hid,hjd];exact hne)) _)) rfl) rfl)<|yq 4 (rf 4 ty.F29_4 rfl)<|yq 5 (roI ty.kd3 rfl) ?_
    refine yq 6 (rhI rfl ⟨rfl,fits_i64 (by have h1:=hdm.2.1;have h2:=es.amt;unfold A50 at *;unfold i64;omega)⟩)<|yq 7 (rc rfl)<|yq 8 (rf 3 ty.F40_3 rfl)<|yl rfl (zQ 1 [.v (.int .i64 (d.remote-e.amt))] ty.co3 ty.inf3 rfl (rows_some (set_get hd (idx_ne hc hd (by rw[hid,hjd];exact hne)) _)))<|gT ?_
    refine AW.obj 1 (cAr u (updC (updC x.chans e.ch fun c=>{ c with loc:=c.loc-addV e.amt e.fee }) e.to fun c=>{ c with remote:=c.remote-e.amt })) (Eq.trans (b:=AO.arr ⟨40,some u⟩ 7 ((rowsOf encChan (x.chans.set i { c with loc:=c.loc-addV e.amt e.fee })).set j ((encChan { d with remote:=d.remote-e.amt }).map PV.v))) rfl (congrArg (AO.arr ⟨40,some u⟩ 7) (rows_set.trans (congrArg (rowsOf encChan) (set_two' fi.ids hc hd hid hjd hne (fun c=>{ c with loc:=c.loc-addV e.amt e.fee }) (fun d=>{ d with remote:=d.remote-e.amt }) (fun _=>rfl)))))) ?_
    refine AW.unpin 1 rfl ?_
    refine sL<|lmP Z<|lf 2 ty.F29_2 Z<|loI ty.kd3 Z<|lmI Z<|lq (rd (x:=vI _ _) (rd_un rfl rfl (fits_i64 (by have h2:=addV_A50 e.amt e.fee;unfold A50 at *;unfold i64;omega))) rfl) ?_
    refine lst (z5a Tryz.func40 (line_e _ _ _ _ _ _ _ _ _ _ _ _ _ _ ([]) 0 (LG.nil) (by decide) _ _ _ (Fresh.nil _ _) (rangeA_neg (addV_A50 _ _))) (⟨stays.box rfl,trivial⟩) rfl rfl) Z<|lT [0,3,6] [0,1,2,3,4,2003,2085] ?_
    refine nG<|aL<|lmP Z<|lf 2 ty.F29_2 Z<|loI ty.kd3 Z<|lmI Z ?_
    refine lst (z5a Tryz.func40 (line_e _ _ _ _ _ _ _ _ _ _ _ _ _ _ (addL [] 6 e.ch (-addV e.amt e.fee)) 1 (LG.nil.add (rangeA_neg (addV_A50 _ _))) (by decide) _ _ _ ((Fresh.nil _ _).add (.inl (by decide))) (rangeA_of (addV_A50 _ _))) (⟨stays.box rfl,trivial⟩) rfl rfl) Z<|lN ?_
    have hy0:lauC x e=0:=by simpa using h1
    rw[lauR_yes hy0]
    unfold lauY
    refine end_go ?_ ⟨(Eq.trans (b:=wBox g x.tick x.next x.wallet _) rfl (congrArg (wBox g x.tick x.next x.wallet) (hy0))),rfl,rfl,rfl,rfl,trivial⟩
    rfl

def encBool(b:Bool):List Value:=[.bool b]
def hK(k:Int):Bool:=!decide (k=1∨k=2∨k=3∨k=4∨k=8)
def hC(k:Int):Bool:=decide (k=2∨k=3∨k=4∨k=5∨k=9)
def hT(k:Int):Bool:=decide (k=5∨k=9)
def hA(k:Int):Bool:=decide (k=1∨k=2∨k=4∨k=5∨k=9)
def hF(k:Int):Bool:=decide (k=2∨k=3∨k=4∨k=9)
def hY(k:Int):Bool:=decide (k=5)
def fieldB(has:Bool)(n lo hi:Int):Bool:=if has then inB n lo hi else n==0
def eventOk(e:Event):Bool:=inB e.kind 1 11&&fieldB (hK e.kind) e.key 1 1000000&&fieldB (hC e.kind) e.ch 1 99&&fieldB (hT e.kind) e.to 1 99&&!(hT e.kind&&e.ch==e.to) &&
 fieldB (hA e.kind) e.amt (if e.kind=4 then 0 else 1) 1125899906842624&&fieldB (hF e.kind) e.fee 0 (if e.kind=4 then 1000000 else 1125899906842624)&&(hY e.kind||!e.yes)
theorem evAmt{e:Event}(h:eventOk e=true):amtOk e.amt=true∧amtOk e.fee=true:=by
 unfold eventOk at h
 simp only[Bool.and_eq_true]at h
 obtain⟨⟨⟨_,h1⟩,h2⟩,_⟩:=h
 rw[amtOk_true,amtOk_true]
 unfold fieldB at h1 h2
 constructor
 ·split at h1
  ·have:=inB_true.1 h1
   split at this<;>omega
  ·simp at h1;omega
 ·split at h2
  ·have:=inB_true.1 h2
   split at this<;>omega
  ·simp at h2;omega
theorem evNone{e:Event}(h:¬(1≤e.kind∧e.kind≤11)):eventOk e=false:=by
 unfold eventOk
 rw[show inB e.kind 1 11=false from by rw[inB_false];omega]
 rfl
theorem isKey_e(n:Int):GC Tryz.prog 94 [int n] [] (boo (keyOk n)) []:=GC.of_vals (r:=.bool (keyOk n)) (RV.v_mk rfl) rfl fun w=>(isKey_c n w).mono fun e w' h=>⟨h.1,h.2▸Grow.refl _⟩
theorem isChan_e(n:Int):GC Tryz.prog 65 [int n] [] (boo (chOk n)) []:=GC.of_vals (r:=.bool (chOk n)) (RV.v_mk rfl) rfl fun w=>(isChan_c n w).mono fun e w' h=>⟨h.1,h.2▸Grow.refl _⟩
theorem sfield_e(has:Bool)(n lo hi:Int):GC Tryz.prog 106 [boo has,int n,int lo,int hi] [] (boo (fieldB has n lo hi)) []:=by
 refine gi 8 Tryz.func106 rfl Tryz.ntmps106 rfl ?_
 intro L O w0
 refine sL<|laZ Z<|nG<|aS<|sL<|lmB Z<|luB Z<|nG ?_
 refine AW.cond rfl ?_ ?_
 ·intro h1
  refine sL<|lmI Z<|lbB Z<|laB Z<|nG<|aR<|rT ?_
  refine eBo trivial ?_
  unfold fieldB inB
  first|(simp_all;done)|(simp_all[dec_beq];done)|(simp_all;intros;omega)
 ·intro h1
  refine aK<|gA<|lmI Z<|lmI Z<|lbB Z<|lmB Z ?_
  refine AL.bool (t:=16) rfl ?_ ?_
  ·intro h2
   refine lmI Z<|lmI Z<|lbB Z<|lkB Z<|laB Z<|nG<|aR ?_
   refine eBo trivial ?_
   unfold fieldB inB
   first|(simp_all;done)|(simp_all[dec_beq];done)|(simp_all;intros;omega)
  ·intro h2
   refine lno Z<|lno Z<|lno Z<|lkZ Z<|laZ Z<|nG<|aR ?_
   refine eBo trivial ?_
   unfold fieldB inB
   first|(simp_all;done)|(simp_all[dec_beq];done)|(simp_all;intros;omega)
theorem shas_e(k:Int):GC Tryz.prog 92 [int k] [] (.own 60) [(60,.arr 4 1 (rowsOf encBool [hK k,hC k,hT k,hA k,hF k,hY k]))]:=by
 refine gi 2 Tryz.func92 rfl Tryz.ntmps92 rfl ?_
 intro L O w0
 refine sL<|laV Z<|nG<|aS<|sL<|lmI Z<|nG<|aB<|sL<|lbB Z<|laB Z<|nG ?_
 refine AW.cond rfl ?_ ?_
 ·intro h1
  refine sL<|lst (zS 60 (rowsOf encBool [false,false,false,true,false,false]) ty.el124 ty.ze4 rfl (by intro r hr;simp only[rowsOf,encBool,List.map_cons,List.map_nil,List.mem_cons,List.not_mem_nil,or_false]at hr;rcases hr with h|h|h|h|h|h<;>(subst h;rfl))) Z<|laO Z<|nG<|aR<|rB<|rT ?_
  refine end_ret ?_ ⟨(congrArg (fun l=>AO.arr 4 1 (rowsOf encBool l)) (by unfold hK hC hT hA hF hY;simp_all)),trivial⟩
  rfl
 ·intro h1
  refine aS<|sL<|lbB Z<|laB Z<|nG ?_
  refine AW.cond rfl ?_ ?_
  ·intro h2
   refine asB 7 true rfl h2<|aK<|gT<|aY Z<|sL<|lst (zS 60 (rowsOf encBool [false,true,false,true,true,false]) ty.el124 ty.ze4 rfl (by intro r hr;simp only[rowsOf,encBool,List.map_cons,List.map_nil,List.mem_cons,List.not_mem_nil,or_false]at hr;rcases hr with h|h|h|h|h|h<;>(subst h;rfl))) Z<|laO Z<|nG<|aR<|rB<|rT ?_
   refine end_ret ?_ ⟨(congrArg (fun l=>AO.arr 4 1 (rowsOf encBool l)) (by unfold hK hC hT hA hF hY;simp_all)),trivial⟩
   rfl
  ·intro h2
   refine asB 7 false Z h2<|aL<|lbB Z<|laB Z<|nG ?_
   refine AW.cond rfl ?_ ?_
   ·intro h3
    refine sL<|lst (zS 60 (rowsOf encBool [false,true,false,true,true,false]) ty.el124 ty.ze4 rfl (by intro r hr;simp only[rowsOf,encBool,List.map_cons,List.map_nil,List.mem_cons,List.not_mem_nil,or_false]at hr;rcases hr with h|h|h|h|h|h<;>(subst h;rfl))) Z<|laO Z<|nG<|aR<|rB<|rT ?_
    refine end_ret ?_ ⟨(congrArg (fun l=>AO.arr 4 1 (rowsOf encBool l)) (by unfold hK hC hT hA hF hY;simp_all)),trivial⟩
    rfl
   ·intro h3
    refine sL<|lbB Z<|laB Z<|nG ?_
    refine AW.cond rfl ?_ ?_
    ·intro h4
     refine sL<|lst (zS 60 (rowsOf encBool [false,true,false,false,true,false]) ty.el124 ty.ze4 rfl (by intro r hr;simp only[rowsOf,encBool,List.map_cons,List.map_nil,List.mem_cons,List.not_mem_nil,or_false]at hr;rcases hr with h|h|h|h|h|h<;>(subst h;rfl))) Z<|lT [2,13] [60] ?_
     refine laO Z<|nG<|aR<|rB<|rT ?_
     refine end_ret ?_ ⟨(congrArg (fun l=>AO.arr 4 1 (rowsOf encBool l)) (by unfold hK hC hT hA hF hY;simp_all)),trivial⟩
     rfl
    ·intro h4
     refine sL<|lbB Z<|laB Z<|nG ?_
     refine AW.cond rfl ?_ ?_
     ·intro h5
      refine sL<|lst (zS 60 (rowsOf encBool [true,true,true,true,false,true]) ty.el124 ty.ze4 rfl (by intro r hr;simp only[rowsOf,encBool,List.map_cons,List.map_nil,List.mem_cons,List.not_mem_nil,or_false]at hr;rcases hr with h|h|h|h|h|h<;>(subst h;rfl))) Z<|laO Z<|nG<|aR<|rB<|rT ?_
      refine end_ret ?_ ⟨(congrArg (fun l=>AO.arr 4 1 (rowsOf encBool l)) (by unfold hK hC hT hA hF hY;simp_all)),trivial⟩
      rfl
     ·intro h5
      refine sL<|lbB Z<|laB Z<|nG ?_
      refine AW.cond rfl ?_ ?_
      ·intro h6
       refine sL<|lst (zS 60 (rowsOf encBool [true,true,true,true,true,false]) ty.el124 ty.ze4 rfl (by intro r hr;simp only[rowsOf,encBool,List.map_cons,List.map_nil,List.mem_cons,List.not_mem_nil,or_false]at hr;rcases hr with h|h|h|h|h|h<;>(subst h;rfl))) Z<|laO Z<|nG<|aR<|rB<|rT ?_
       refine end_ret ?_ ⟨(congrArg (fun l=>AO.arr 4 1 (rowsOf encBool l)) (by unfold hK hC hT hA hF hY;simp_all)),trivial⟩
       rfl
      ·intro h6
       refine sL<|lbB Z<|laB Z<|nG ?_
       refine AW.cond rfl ?_ ?_
       ·intro h7
        refine sL<|lst (zS 60 (rowsOf encBool [false,false,false,false,false,false]) ty.el124 ty.ze4 rfl (by intro r hr;simp only[rowsOf,encBool,List.map_cons,List.map_nil,List.mem_cons,List.not_mem_nil,or_false]at hr;rcases hr with h|h|h|h|h|h<;>(subst h;rfl))) Z<|laO Z<|nG<|aR<|rB<|rT ?_
        refine end_ret ?_ ⟨(congrArg (fun l=>AO.arr 4 1 (rowsOf encBool l)) (by unfold hK hC hT hA hF hY;simp_all)),trivial⟩
        rfl
       ·intro h7
        refine aK<|gB<|gA<|lst (zS 60 (rowsOf encBool [true,false,false,false,false,false]) ty.el124 ty.ze4 rfl (by intro r hr;simp only[rowsOf,encBool,List.map_cons,List.map_nil,List.mem_cons,List.not_mem_nil,or_false]at hr;rcases hr with h|h|h|h|h|h<;>(subst h;rfl))) Z<|lT [2,23] [60] ?_
        refine laO Z<|nG<|aR ?_
        refine end_ret ?_ ⟨(congrArg (fun l=>AO.arr 4 1 (rowsOf encBool l)) (by unfold hK hC hT hA hF hY;simp_all)),trivial⟩
        rfl
theorem seventOk_e(e:Event):GC Tryz.prog 49 [evV e] [] (boo (eventOk e)) []:=by
 refine gi 2 Tryz.func49 rfl Tryz.ntmps49 rfl ?_
 intro L O w0
 refine sL<|lst (zX 2001 Z) Z<|laZ Z<|nG<|aS<|sL<|lf 0 ty.F29_0 Z<|loI ty.kd3 Z<|lbB Z<|lmB Z ?_
 refine AL.bool (t:=9) rfl ?_ ?_
 ·intro h1
  refine lno Z<|lno Z<|lno Z<|lkT Z<|nG<|aY Z<|sL<|laZ Z<|nG<|aR<|rT ?_
  refine eBo trivial ?_
  unfold eventOk
  first
  |(simp_all;done)
  |(simp_all[inB];done)
  |(simp_all[inB];intros;omega)
 ·intro h1
  refine lf 0 ty.F29_0 Z<|loI ty.kd3 Z<|lbB Z<|lkB Z<|nG ?_
  refine AW.cond rfl ?_ ?_
  ·intro h2
   refine sL<|laZ Z<|nG<|aR<|rT ?_
   refine eBo trivial ?_
   unfold eventOk
   first
   |(simp_all;done)
   |(simp_all[inB];done)
   |(simp_all[inB];intros;omega)
  ·intro h2
   refine aK<|gA<|lf 0 ty.F29_0 Z<|loI ty.kd3 Z<|lst (zC [(60,60)] [60] [] Tryz.func92 (shas_e _) (trivial) Z Z) Z<|lT [1,2,16] [60,2001] ?_
   refine laO Z<|nA<|laI Z<|nA<|laI Z<|nG ?_
   refine aJ [1,2,3] [60,2001] (D:=Unit) (fun jd=>[(4,int (if e.kind=4 then 0 else 1)),(5,int (if e.kind=4 then 1000000 else 1125899906842624))]) (fun jd=>[]) (fun jd=>True) ?_ ?_
   ·refine sL<|lf 0 ty.F29_0 Z<|loI ty.kd3 Z<|lbB Z<|nG ?_
    refine AW.cond rfl ?_ ?_
    ·intro h3
     refine sL<|laI Z<|nG<|aL<|laI Z<|nG ?_
     refine⟨(),trivial,⟨(Eq.trans (b:=int _) rfl (congrArg int (by rw[if_pos (by simpa using h3)]))),(Eq.trans (b:=int _) rfl (congrArg int (by rw[if_pos (by simpa using h3)]))),trivial⟩,trivial,rfl,rfl⟩
    ·intro h3
     refine aK<|gT ?_
     refine⟨(),trivial,⟨(Eq.trans (b:=int _) rfl (congrArg int (by rw[if_neg (by simpa using h3)]))),(Eq.trans (b:=int _) rfl (congrArg int (by rw[if_neg (by simpa using h3)]))),trivial⟩,trivial,rfl,rfl⟩
   ·intro jd hJ
    refine aS<|aS<|aG 36 []<|tq 0 (rmO rfl)<|tq 1 (rj 0 ty.el124 rfl (by show 0<6;decide))<|tq 2 (rd (x:=vB _) (rd_load_arr rfl ty.kd4 rfl rfl rfl (rfl) rfl) rfl)<|yq 3 (rf 1 ty.F29_1 rfl)<|yq 4 (roI ty.kd3 rfl)<|yst 5 rfl (zL Tryz.func106 (sfield_e _ _ _ _) rfl)<|yq 6 (ruB rfl)<|yq 7 (rmB rfl) ?_
    refine AG.bool (t:=27) rfl ?_ ?_
    ·intro h4
     refine tno 8 Z<|tno 9 Z<|tno 10 Z<|yno 11 Z<|yno 12 Z<|yno 13 Z<|yno 14 Z<|yq 15 (rkT Z)<|yq 16 (rmT Z)<|tno 17 Z<|tno 18 Z<|tno 19 Z<|yno 20 Z<|yno 21 Z<|yno 22 Z<|yno 23 Z<|yq 24 (rkT Z)<|yq 25 (rmT Z)<|yno 26 Z<|yno 27 Z<|yno 28 Z<|yno 29 Z<|tno 30 Z<|tno 31 Z<|yno 32 Z<|yno 33 Z<|yno 34 Z<|yno 35 Z<|yq 36 (rkT Z)<|gD ?_
     refine gT<|aY Z<|sL<|laZ Z<|nG<|aR<|rT ?_
     refine eBo trivial ?_
     unfold eventOk
     first
     |(simp_all;done)
     |(simp_all[inB];done)
     |(simp_all[inB];intros;omega)
    ·intro h4
     refine tq 8 (rmO rfl)<|tq 9 (rj 1 ty.el124 rfl (by show 1<6;decide))<|tq 10 (rd (x:=vB _) (rd_load_arr rfl ty.kd4 rfl rfl rfl (rfl) rfl) rfl)<|yq 11 (rf 2 ty.F29_2 rfl)<|yq 12 (roI ty.kd3 rfl)<|yst 13 rfl (zL Tryz.func106 (sfield_e _ _ _ _) rfl)<|gX [1,2,3,4,5,27,33] [60,2001] ?_
     refine yq 14 (ruB Z)<|yq 15 (rkB Z)<|yq 16 (rmB Z) ?_
     refine AG.bool (t:=36) rfl ?_ ?_
     ·intro h5
      refine tno 17 Z<|tno 18 Z<|tno 19 Z<|yno 20 Z<|yno 21 Z<|yno 22 Z<|yno 23 Z<|yq 24 (rkT Z)<|yq 25 (rmT Z)<|yno 26 Z<|yno 27 Z<|yno 28 Z<|yno 29 Z<|tno 30 Z<|tno 31 Z<|yno 32 Z<|yno 33 Z<|yno 34 Z<|yno 35 Z<|yq 36 (rkT Z)<|gD<|gT<|aY Z<|sL<|laZ Z<|nG<|aR<|rT ?_
      refine eBo trivial ?_
      unfold eventOk
      first
      |(simp_all;done)
      |(simp_all[inB];done)
      |(simp_all[inB];intros;omega)
     ·intro h5
      refine tq 17 (rmO rfl)<|tq 18 (rj 2 ty.el124 rfl (by show 2<6;decide))<|tq 19 (rd (x:=vB _) (rd_load_arr rfl ty.kd4 rfl rfl rfl (rfl) rfl) rfl)<|yq 20 (rf 3 ty.F29_3 rfl)<|yq 21 (roI ty.kd3 rfl)<|yst 22 rfl (zL Tryz.func106 (sfield_e _ _ _ _) rfl)<|yq 23 (ruB rfl)<|yq 24 (rkB rfl)<|yq 25 (rmB rfl) ?_
      refine AG.bool (t:=45) rfl ?_ ?_
      ·intro h6
       refine yno 26 Z<|yno 27 Z<|yno 28 Z<|yno 29 Z<|tno 30 Z<|tno 31 Z<|yno 32 Z<|yno 33 Z<|yno 34 Z<|yno 35 Z<|yq 36 (rkT Z)<|gD<|gT<|aY Z<|sL<|laZ Z<|nG<|aR<|rT ?_
       refine eBo trivial ?_
       unfold eventOk
       first
       |(simp_all;done)
       |(simp_all[inB];done)
       |(simp_all[inB];intros;omega)
      ·intro h6
       refine yq 26 (rmO rfl)<|yq 27 (rj 2 ty.el124 rfl (by show 2<6;decide))<|yq 28 (rd (x:=vB _) (rd_load_arr rfl ty.kd4 rfl rfl rfl (rfl) rfl) rfl)<|yq 29 (rmB rfl) ?_
       refine AG.bool (t:=49) rfl ?_ ?_
       ·intro h7
        refine tq 30 (rf 2 ty.F29_2 Z)<|tq 31 (roI ty.kd3 Z)<|yq 32 (rf 3 ty.F29_3 Z)<|yq 33 (roI ty.kd3 Z)<|yq 34 (rbB Z)<|yq 35 (rkB Z)<|yq 36 (rkB Z)<|gD<|gT ?_
        refine AW.cond rfl ?_ ?_
        ·intro h8
         refine sL<|laZ Z<|lT [1,2,3,4,5] [60,2001] ?_
         refine nG<|aR<|rT ?_
         refine eBo trivial ?_
         unfold eventOk
         first
         |(simp_all;done)
         |(simp_all[inB];done)
         |(simp_all[inB];intros;omega)
        ·intro h8
         refine aK<|gT<|aS<|aG 26 []<|tq 0 (rmO rfl)<|tq 1 (rj 3 ty.el124 rfl (by show 3<6;decide))<|tq 2 (rd (x:=vB _) (rd_load_arr rfl ty.kd4 rfl rfl rfl (rfl) rfl) rfl)<|tq 3 (rf 4 ty.F29_4 rfl)<|tq 4 (roI ty.kd3 rfl)<|yq 5 (rmI rfl)<|yst 6 rfl (zL Tryz.func106 (sfield_e _ _ _ _) rfl)<|yq 7 (rmB rfl) ?_
         refine AG.bool (t:=64) rfl ?_ ?_
         ·intro h9
          refine tq 8 (rmO rfl)<|tq 9 (rj 4 ty.el124 rfl (by show 4<6;decide))<|tq 10 (rd (x:=vB _) (rd_load_arr rfl ty.kd4 rfl rfl rfl (rfl) rfl) rfl)<|tq 11 (rf 5 ty.F29_5 rfl)<|tq 12 (roI ty.kd3 rfl)<|yq 13 (rmI rfl)<|yst 14 rfl (zL Tryz.func106 (sfield_e _ _ _ _) rfl)<|gX [1,2,3,64,71] [60,2001] ?_
          refine yq 15 (rkB Z)<|yq 16 (rmB Z) ?_
          refine AG.bool (t:=73) rfl ?_ ?_
          ·intro h10
           refine yq 17 (rmO rfl)<|yq 18 (rj 5 ty.el124 rfl (by show 5<6;decide))<|yq 19 (rd (x:=vB _) (rd_load_arr rfl ty.kd4 rfl rfl rfl (rfl) rfl) rfl)<|yq 20 (rmB rfl) ?_
           refine AG.bool (t:=77) rfl ?_ ?_
           ·intro h11
            refine yno 21 Z<|yno 22 Z<|yno 23 Z<|yq 24 (rkT Z)<|yq 25 (rkT Z)<|yq 26 (raT Z)<|gD<|gT<|aR ?_
            refine eBo trivial ?_
            unfold eventOk
            first
            |(simp_all;done)
            |(simp_all[inB];done)
            |(simp_all[inB];intros;omega)
           ·intro h11
            refine yq 21 (rf 6 ty.F29_6 Z)<|yq 22 (roB ty.kd4 Z)<|yq 23 (ruB Z)<|yq 24 (rkB Z)<|yq 25 (rkB Z)<|yq 26 (raB Z)<|gD<|gT<|aR ?_
            refine eBo trivial ?_
            unfold eventOk
            first
            |(simp_all;done)
            |(simp_all[inB];done)
            |(simp_all[inB];intros;omega)
          ·intro h10
           refine yno 17 Z<|yno 18 Z<|yno 19 Z<|yno 20 Z<|yno 21 Z<|yno 22 Z<|yno 23 Z<|yno 24 Z<|yq 25 (rkZ Z)<|yq 26 (raZ Z)<|gD<|gT<|aR ?_
           refine eBo trivial ?_
           unfold eventOk
           first
           |(simp_all;done)
           |(simp_all[inB];done)
           |(simp_all[inB];intros;omega)
         ·intro h9
          refine tno 8 Z<|tno 9 Z<|tno 10 Z<|tno 11 Z<|tno 12 Z<|yno 13 Z<|yno 14 Z<|yq 15 (rkZ Z)<|yq 16 (rmZ Z)<|yno 17 Z<|yno 18 Z<|yno 19 Z<|yno 20 Z<|yno 21 Z<|yno 22 Z<|yno 23 Z<|yno 24 Z<|yq 25 (rkZ Z)<|yq 26 (raZ Z)<|gD<|gT<|aR ?_
          refine eBo trivial ?_
          unfold eventOk
          first
          |(simp_all;done)
          |(simp_all[inB];done)
          |(simp_all[inB];intros;omega)
       ·intro h7
        refine tno 30 Z<|tno 31 Z<|yno 32 Z<|yno 33 Z<|yno 34 Z<|yq 35 (rkZ rfl)<|yq 36 (rkZ rfl)<|gD<|gT<|aN Z<|aK<|gT<|aS<|aG 26 []<|tq 0 (rmO rfl)<|tq 1 (rj 3 ty.el124 rfl (by show 3<6;decide))<|tq 2 (rd (x:=vB _) (rd_load_arr rfl ty.kd4 rfl rfl rfl (rfl) rfl) rfl)<|tq 3 (rf 4 ty.F29_4 rfl)<|tq 4 (roI ty.kd3 rfl)<|yq 5 (rmI rfl)<|yst 6 rfl (zL Tryz.func106 (sfield_e _ _ _ _) rfl)<|gX [1,2,3,5,63] [60,2001] ?_
        refine yq 7 (rmB rfl) ?_
        refine AG.bool (t:=64) rfl ?_ ?_
        ·intro h12
         refine tq 8 (rmO rfl)<|tq 9 (rj 4 ty.el124 rfl (by show 4<6;decide))<|tq 10 (rd (x:=vB _) (rd_load_arr rfl ty.kd4 rfl rfl rfl (rfl) rfl) rfl)<|tq 11 (rf 5 ty.F29_5 rfl)<|tq 12 (roI ty.kd3 rfl)<|yq 13 (rmI rfl)<|yst 14 rfl (zL Tryz.func106 (sfield_e _ _ _ _) rfl)<|yq 15 (rkB rfl)<|yq 16 (rmB rfl) ?_
         refine AG.bool (t:=73) rfl ?_ ?_
         ·intro h13
          refine yq 17 (rmO rfl)<|yq 18 (rj 5 ty.el124 rfl (by show 5<6;decide))<|yq 19 (rd (x:=vB _) (rd_load_arr rfl ty.kd4 rfl rfl rfl (rfl) rfl) rfl)<|yq 20 (rmB rfl) ?_
          refine AG.bool (t:=77) rfl ?_ ?_
          ·intro h14
           refine yno 21 Z<|yno 22 Z<|yno 23 Z<|yq 24 (rkT Z)<|yq 25 (rkT Z)<|yq 26 (raT Z)<|gD<|gT<|aR ?_
           refine eBo trivial ?_
           unfold eventOk
           first
           |(simp_all;done)
           |(simp_all[inB];done)
           |(simp_all[inB];intros;omega)
          ·intro h14
           refine yq 21 (rf 6 ty.F29_6 Z)<|yq 22 (roB ty.kd4 Z)<|yq 23 (ruB Z)<|yq 24 (rkB Z)<|yq 25 (rkB Z)<|yq 26 (raB Z)<|gD<|gT<|aR ?_
           refine eBo trivial ?_
           unfold eventOk
           first
           |(simp_all;done)
           |(simp_all[inB];done)
           |(simp_all[inB];intros;omega)
         ·intro h13
          refine yno 17 Z<|yno 18 Z<|yno 19 Z<|yno 20 Z<|yno 21 Z<|yno 22 Z<|yno 23 Z<|yno 24 Z<|yq 25 (rkZ Z)<|yq 26 (raZ Z)<|gD<|gT<|aR ?_
          refine eBo trivial ?_
          unfold eventOk
          first
          |(simp_all;done)
          |(simp_all[inB];done)
          |(simp_all[inB];intros;omega)
        ·intro h12
         refine tno 8 Z<|tno 9 Z<|tno 10 Z<|tno 11 Z<|tno 12 Z<|yno 13 Z<|yno 14 Z<|yq 15 (rkZ Z)<|yq 16 (rmZ Z)<|yno 17 Z<|yno 18 Z<|yno 19 Z<|yno 20 Z<|yno 21 Z<|yno 22 Z<|yno 23 Z<|yno 24 Z<|yq 25 (rkZ Z)<|yq 26 (raZ Z)<|gD<|gT<|aR ?_
         refine eBo trivial ?_
         unfold eventOk
         first
         |(simp_all;done)
         |(simp_all[inB];done)
         |(simp_all[inB];intros;omega)
theorem eventOk_e(e:Event):GC Tryz.prog 37 [evV e] [] (boo (eventOk e)) []:=by
 refine gi 2 Tryz.func37 rfl Tryz.ntmps37 rfl ?_
 intro L O w0
 refine sL<|lst (zX 2001 Z) Z<|laZ Z<|nG<|aS<|sL<|lf 4 ty.F29_4 Z<|loI ty.kd3 Z<|lst (zL Tryz.func62 (amtOk_e _) Z) Z<|luB Z<|lmB Z ?_
 refine AL.bool (t:=9) rfl ?_ ?_
 ·intro h1
  refine lno Z<|lno Z<|lno Z<|lno Z<|lkT Z<|nG<|aY Z<|sL<|laZ Z<|nG<|aR<|rT ?_
  refine eBo trivial ?_
  rcases hq:eventOk e with _|_
  ·rfl
  ·have:=evAmt hq;simp_all
 ·intro h1
  refine lf 5 ty.F29_5 Z<|loI ty.kd3 Z<|lst (zL Tryz.func62 (amtOk_e _) Z) Z<|luB Z<|lkB Z<|nG ?_
  refine AW.cond rfl ?_ ?_
  ·intro h2
   refine sL<|laZ Z<|nG<|aR<|rT ?_
   refine eBo trivial ?_
   rcases hq:eventOk e with _|_
   ·rfl
   ·have:=evAmt hq;simp_all
  ·intro h2
   refine aK<|gA<|lf 0 ty.F29_0 Z<|loI ty.kd3 Z<|lq (rd (x:=.agg [vI _ _,vI _ _,vI _ _,vI _ _,vI _ _,vI _ _,vB false]) (rd_build Z ty.sa29 Z Z Z) Z)<|lst (zA 2003 ty.ze29 Z) Z<|lT [1,2,3,17] [2001,2003] ?_
   refine lst (zB 2003 ty.co29 ty.inf29 Z) Z<|nA<|laT Z<|nG<|aS<|sL<|lf 0 ty.F29_0 Z<|loI ty.kd3 Z<|nG<|aB<|sL<|lbB Z<|laB Z<|nG ?_
   refine AW.cond rfl ?_ ?_
   ·intro h3
    refine sL<|lf 4 ty.F29_4 Z<|loI ty.kd3 Z<|lf 4 ty.F29_4 Z<|lst (zB 2003 ty.co3 ty.inf3 Z) Z<|nG<|aL<|lf 4 ty.F29_4 Z<|loI ty.kd3 Z<|lbB Z<|laB Z<|lN<|gB<|gA<|lmB Z<|lmB Z ?_
    refine AL.bool (t:=175) rfl ?_ ?_
    ·intro h4
     refine loX (.agg [vI _ _,vI _ _,vI _ _,vI _ _,vI _ _,vI _ _,vB _]) ty.kd29 Z<|loX (.agg [vI _ _,vI _ _,vI _ _,vI _ _,vI _ _,vI _ _,vB false]) ty.kd29 Z<|lq (rd (x:=vB _) (rd_eqS rfl (.inl rfl) rfl rfl ty.sf29 ty.su29 ty.sh29 ty.sg29 ?hn1) rfl) ?_
     case hn1=>exact⟨rfl,by decide,rfl,⟨_,Tryz.underlying3⟩,rfl,by decide,rfl,⟨_,Tryz.underlying3⟩,rfl,by decide,rfl,⟨_,Tryz.underlying3⟩,rfl,by decide,rfl,⟨_,Tryz.underlying3⟩,rfl,by decide,rfl,⟨_,Tryz.underlying3⟩,rfl,by decide,rfl,⟨_,Tryz.underlying3⟩,by decide,rfl,Tryz.underlying4,trivial⟩
     refine lkB Z<|laB Z<|nG<|aR ?_
     refine eBo trivial ?_
     have hkd:e.kind=1:=by simpa using h3
     have ha1:amtOk e.amt=true:=by simpa using h1
     have ha2:amtOk e.fee=true:=by simpa using h2
     clear h1 h2 h3
     unfold eventOk
     rw[hkd]
     rcases hy:e.yes with _|_<;>refine Bool.eq_iff_iff.2 ?_<;>simp[fieldB,hK,hC,hT,hA,hF,hY,inB,eqVals,amtOk,keyOk,chOk]at * <;> omega
    ·intro h4
     refine lno Z<|lno Z<|lno Z<|lkZ Z<|laZ Z<|nG<|aR ?_
     refine eBo trivial ?_
     have hkd:e.kind=1:=by simpa using h3
     have ha1:amtOk e.amt=true:=by simpa using h1
     have ha2:amtOk e.fee=true:=by simpa using h2
     clear h1 h2 h3
     unfold eventOk
     rw[hkd]
     rcases hy:e.yes with _|_<;>refine Bool.eq_iff_iff.2 ?_<;>simp[fieldB,hK,hC,hT,hA,hF,hY,inB,eqVals,amtOk,keyOk,chOk]at * <;> omega
   ·intro h3
    refine sL<|lbB Z<|laB Z<|nG ?_
    refine AW.cond rfl ?_ ?_
    ·intro h5
     refine aS<|aG 11 [2003]<|tq 0 (rf 2 ty.F29_2 Z)<|tq 1 (roI ty.kd3 Z)<|tq 2 (rf 4 ty.F29_4 Z)<|tq 3 (roI ty.kd3 Z)<|tq 4 (rf 5 ty.F29_5 Z)<|gX [1,2,3,4,31,33,34] [2001,2003] ?_
     refine tq 5 (roI ty.kd3 Z)<|yq 6 (rf 2 ty.F29_2 Z)<|yst 7 Z (zB 2003 ty.co3 ty.inf3 Z)<|yq 8 (rf 4 ty.F29_4 Z)<|yst 9 Z (zB 2003 ty.co3 ty.inf3 Z)<|yq 10 (rf 5 ty.F29_5 Z)<|yl Z (zB 2003 ty.co3 ty.inf3 Z)<|gT<|aL<|lf 2 ty.F29_2 Z<|loI ty.kd3 Z<|lst (zL Tryz.func65 (isChan_e _) Z) Z<|lmB Z ?_
     refine AL.bool (t:=42) rfl ?_ ?_
     ·intro h6
      refine lf 4 ty.F29_4 Z<|loI ty.kd3 Z<|lbB Z<|lkB Z<|laB Z<|lN<|gB<|gA<|lmB Z<|lmB Z ?_
      refine AL.bool (t:=175) rfl ?_ ?_
      ·intro h7
       refine loX (.agg [vI _ _,vI _ _,vI _ _,vI _ _,vI _ _,vI _ _,vB _]) ty.kd29 Z<|loX (.agg [vI _ _,vI _ _,vI _ _,vI _ _,vI _ _,vI _ _,vB false]) ty.kd29 Z<|lq (rd (x:=vB _) (rd_eqS rfl (.inl rfl) rfl rfl ty.sf29 ty.su29 ty.sh29 ty.sg29 ?hn2) rfl) ?_
       case hn2=>exact⟨rfl,by decide,rfl,⟨_,Tryz.underlying3⟩,rfl,by decide,rfl,⟨_,Tryz.underlying3⟩,rfl,by decide,rfl,⟨_,Tryz.underlying3⟩,rfl,by decide,rfl,⟨_,Tryz.underlying3⟩,rfl,by decide,rfl,⟨_,Tryz.underlying3⟩,rfl,by decide,rfl,⟨_,Tryz.underlying3⟩,by decide,rfl,Tryz.underlying4,trivial⟩
       refine lkB Z<|laB Z<|nG<|aR ?_
       refine eBo trivial ?_
       have hkd:e.kind=2:=by simpa using h5
       have ha1:amtOk e.amt=true:=by simpa using h1
       have ha2:amtOk e.fee=true:=by simpa using h2
       clear h1 h2 h3 h5
       unfold eventOk
       rw[hkd]
       rcases hy:e.yes with _|_<;>refine Bool.eq_iff_iff.2 ?_<;>simp[fieldB,hK,hC,hT,hA,hF,hY,inB,eqVals,amtOk,keyOk,chOk]at * <;> omega
      ·intro h7
       refine lno Z<|lno Z<|lno Z<|lkZ Z<|laZ Z<|nG<|aR ?_
       refine eBo trivial ?_
       have hkd:e.kind=2:=by simpa using h5
       have ha1:amtOk e.amt=true:=by simpa using h1
       have ha2:amtOk e.fee=true:=by simpa using h2
       clear h1 h2 h3 h5
       unfold eventOk
       rw[hkd]
       rcases hy:e.yes with _|_<;>refine Bool.eq_iff_iff.2 ?_<;>simp[fieldB,hK,hC,hT,hA,hF,hY,inB,eqVals,amtOk,keyOk,chOk]at * <;> omega
     ·intro h6
      refine lno Z<|lno Z<|lno Z<|lkZ Z<|laZ Z<|lN<|gB<|gA<|lmZ Z<|lmZ Z<|lno Z<|lno Z<|lno Z<|lkZ Z<|lT [2,179] [2001,2003] ?_
      refine laZ Z<|nG<|aR ?_
      refine eBo trivial ?_
      have hkd:e.kind=2:=by simpa using h5
      have ha1:amtOk e.amt=true:=by simpa using h1
      have ha2:amtOk e.fee=true:=by simpa using h2
      clear h1 h2 h3 h5
      unfold eventOk
      rw[hkd]
      rcases hy:e.yes with _|_<;>refine Bool.eq_iff_iff.2 ?_<;>simp[fieldB,hK,hC,hT,hA,hF,hY,inB,eqVals,amtOk,keyOk,chOk]at * <;> omega
    ·intro h5
     refine sL<|lbB Z<|laB Z<|nG ?_
     refine AW.cond rfl ?_ ?_
     ·intro h8
      refine aS<|aG 7 [2003]<|tq 0 (rf 2 ty.F29_2 Z)<|tq 1 (roI ty.kd3 Z)<|tq 2 (rf 5 ty.F29_5 Z)<|tq 3 (roI ty.kd3 Z)<|yq 4 (rf 2 ty.F29_2 Z)<|yst 5 Z (zB 2003 ty.co3 ty.inf3 Z)<|yq 6 (rf 5 ty.F29_5 Z)<|yl Z (zB 2003 ty.co3 ty.inf3 Z)<|gT<|aL<|lf 2 ty.F29_2 Z<|loI ty.kd3 Z<|lst (zL Tryz.func65 (isChan_e _) Z) Z<|lT [1,2,3,4,57] [2001,2003] ?_
      refine laB Z<|lN<|gB<|gA<|lmB Z<|lmB Z ?_
      refine AL.bool (t:=175) rfl ?_ ?_
      ·intro h9
       refine loX (.agg [vI _ _,vI _ _,vI _ _,vI _ _,vI _ _,vI _ _,vB _]) ty.kd29 Z<|loX (.agg [vI _ _,vI _ _,vI _ _,vI _ _,vI _ _,vI _ _,vB false]) ty.kd29 Z<|lq (rd (x:=vB _) (rd_eqS rfl (.inl rfl) rfl rfl ty.sf29 ty.su29 ty.sh29 ty.sg29 ?hn3) rfl) ?_
       case hn3=>exact⟨rfl,by decide,rfl,⟨_,Tryz.underlying3⟩,rfl,by decide,rfl,⟨_,Tryz.underlying3⟩,rfl,by decide,rfl,⟨_,Tryz.underlying3⟩,rfl,by decide,rfl,⟨_,Tryz.underlying3⟩,rfl,by decide,rfl,⟨_,Tryz.underlying3⟩,rfl,by decide,rfl,⟨_,Tryz.underlying3⟩,by decide,rfl,Tryz.underlying4,trivial⟩
       refine lkB Z<|laB Z<|nG<|aR ?_
       refine eBo trivial ?_
       have hkd:e.kind=3:=by simpa using h8
       have ha1:amtOk e.amt=true:=by simpa using h1
       have ha2:amtOk e.fee=true:=by simpa using h2
       clear h1 h2 h3 h5 h8
       unfold eventOk
       rw[hkd]
       rcases hy:e.yes with _|_<;>refine Bool.eq_iff_iff.2 ?_<;>simp[fieldB,hK,hC,hT,hA,hF,hY,inB,eqVals,amtOk,keyOk,chOk]at * <;> omega
      ·intro h9
       refine lno Z<|lno Z<|lno Z<|lkZ Z<|laZ Z<|nG<|aR ?_
       refine eBo trivial ?_
       have hkd:e.kind=3:=by simpa using h8
       have ha1:amtOk e.amt=true:=by simpa using h1
       have ha2:amtOk e.fee=true:=by simpa using h2
       clear h1 h2 h3 h5 h8
       unfold eventOk
       rw[hkd]
       rcases hy:e.yes with _|_<;>refine Bool.eq_iff_iff.2 ?_<;>simp[fieldB,hK,hC,hT,hA,hF,hY,inB,eqVals,amtOk,keyOk,chOk]at * <;> omega
     ·intro h8
      refine sL<|lbB Z<|laB Z<|nG ?_
      refine AW.cond rfl ?_ ?_
      ·intro h10
       refine aS<|aG 11 [2003]<|tq 0 (rf 2 ty.F29_2 Z)<|tq 1 (roI ty.kd3 Z)<|tq 2 (rf 4 ty.F29_4 Z)<|tq 3 (roI ty.kd3 Z)<|tq 4 (rf 5 ty.F29_5 Z)<|tq 5 (roI ty.kd3 Z)<|yq 6 (rf 2 ty.F29_2 Z)<|yst 7 Z (zB 2003 ty.co3 ty.inf3 Z)<|gX [1,2,3,4,63,65] [2001,2003] ?_
       refine yq 8 (rf 4 ty.F29_4 Z)<|yst 9 Z (zB 2003 ty.co3 ty.inf3 Z)<|yq 10 (rf 5 ty.F29_5 Z)<|yl Z (zB 2003 ty.co3 ty.inf3 Z)<|gT<|aL<|lf 2 ty.F29_2 Z<|loI ty.kd3 Z<|lst (zL Tryz.func65 (isChan_e _) Z) Z<|lmB Z ?_
       refine AL.bool (t:=72) rfl ?_ ?_
       ·intro h11
        refine lf 5 ty.F29_5 Z<|loI ty.kd3 Z<|lbB Z<|lkB Z<|laB Z<|lN<|gB<|gA<|lmB Z<|lmB Z ?_
        refine AL.bool (t:=175) rfl ?_ ?_
        ·intro h12
         refine loX (.agg [vI _ _,vI _ _,vI _ _,vI _ _,vI _ _,vI _ _,vB _]) ty.kd29 Z<|loX (.agg [vI _ _,vI _ _,vI _ _,vI _ _,vI _ _,vI _ _,vB false]) ty.kd29 Z<|lq (rd (x:=vB _) (rd_eqS rfl (.inl rfl) rfl rfl ty.sf29 ty.su29 ty.sh29 ty.sg29 ?hn4) rfl) ?_
         case hn4=>exact⟨rfl,by decide,rfl,⟨_,Tryz.underlying3⟩,rfl,by decide,rfl,⟨_,Tryz.underlying3⟩,rfl,by decide,rfl,⟨_,Tryz.underlying3⟩,rfl,by decide,rfl,⟨_,Tryz.underlying3⟩,rfl,by decide,rfl,⟨_,Tryz.underlying3⟩,rfl,by decide,rfl,⟨_,Tryz.underlying3⟩,by decide,rfl,Tryz.underlying4,trivial⟩
         refine lkB Z<|laB Z<|nG<|aR ?_
         refine eBo trivial ?_
         have hkd:e.kind=4:=by simpa using h10
         have ha1:amtOk e.amt=true:=by simpa using h1
         have ha2:amtOk e.fee=true:=by simpa using h2
         clear h1 h2 h3 h5 h8 h10
         unfold eventOk
         rw[hkd]
         rcases hy:e.yes with _|_<;>refine Bool.eq_iff_iff.2 ?_<;>simp[fieldB,hK,hC,hT,hA,hF,hY,inB,eqVals,amtOk,keyOk,chOk]at * <;> omega
        ·intro h12
         refine lno Z<|lno Z<|lno Z<|lkZ Z<|laZ Z<|nG<|aR ?_
         refine eBo trivial ?_
         have hkd:e.kind=4:=by simpa using h10
         have ha1:amtOk e.amt=true:=by simpa using h1
         have ha2:amtOk e.fee=true:=by simpa using h2
         clear h1 h2 h3 h5 h8 h10
         unfold eventOk
         rw[hkd]
         rcases hy:e.yes with _|_<;>refine Bool.eq_iff_iff.2 ?_<;>simp[fieldB,hK,hC,hT,hA,hF,hY,inB,eqVals,amtOk,keyOk,chOk]at * <;> omega
       ·intro h11
        refine lno Z<|lno Z<|lno Z<|lkZ Z<|laZ Z<|lN<|gB<|gA<|lmZ Z<|lmZ Z<|lno Z<|lno Z<|lno Z<|lkZ Z<|laZ Z<|nG<|aR ?_
        refine eBo trivial ?_
        have hkd:e.kind=4:=by simpa using h10
        have ha1:amtOk e.amt=true:=by simpa using h1
        have ha2:amtOk e.fee=true:=by simpa using h2
        clear h1 h2 h3 h5 h8 h10
        unfold eventOk
        rw[hkd]
        rcases hy:e.yes with _|_<;>refine Bool.eq_iff_iff.2 ?_<;>simp[fieldB,hK,hC,hT,hA,hF,hY,inB,eqVals,amtOk,keyOk,chOk]at * <;> omega
      ·intro h10
       refine sL<|lbB Z<|laB Z<|lT [1,2,3,4,19,77] [2001,2003] ?_
       refine nG ?_
       refine AW.cond rfl ?_ ?_
       ·intro h13
        refine aS<|aG 19 [2003]<|tq 0 (rf 1 ty.F29_1 Z)<|tq 1 (roI ty.kd3 Z)<|tq 2 (rf 2 ty.F29_2 Z)<|tq 3 (roI ty.kd3 Z)<|tq 4 (rf 3 ty.F29_3 Z)<|tq 5 (roI ty.kd3 Z)<|tq 6 (rf 4 ty.F29_4 Z)<|tq 7 (roI ty.kd3 Z)<|tq 8 (rf 6 ty.F29_6 Z)<|tq 9 (roB ty.kd4 Z)<|yq 10 (rf 1 ty.F29_1 Z)<|yst 11 Z (zB 2003 ty.co3 ty.inf3 Z)<|yq 12 (rf 2 ty.F29_2 Z)<|yst 13 Z (zB 2003 ty.co3 ty.inf3 Z)<|gX [1,2,3,4,84,86,88] [2001,2003] ?_
        refine yq 14 (rf 3 ty.F29_3 Z)<|yst 15 Z (zB 2003 ty.co3 ty.inf3 Z)<|yq 16 (rf 4 ty.F29_4 Z)<|yst 17 Z (zB 2003 ty.co3 ty.inf3 Z)<|yq 18 (rf 6 ty.F29_6 Z)<|yl Z (zB 2003 ty.co4 ty.inf4 Z)<|gT<|aL<|lf 1 ty.F29_1 Z<|loI ty.kd3 Z<|lst (zL Tryz.func94 (isKey_e _) Z) Z<|lmB Z ?_
        refine AL.bool (t:=97) rfl ?_ ?_
        ·intro h14
         refine lf 2 ty.F29_2 Z<|loI ty.kd3 Z<|lst (zL Tryz.func65 (isChan_e _) Z) Z<|lkB Z<|lmB Z ?_
         refine AL.bool (t:=102) rfl ?_ ?_
         ·intro h15
          refine lf 3 ty.F29_3 Z<|loI ty.kd3 Z<|lst (zL Tryz.func65 (isChan_e _) Z) Z<|lT [1,2,3,4,102,105] [2001,2003] ?_
          refine lkB Z<|lmB Z ?_
          refine AL.bool (t:=107) rfl ?_ ?_
          ·intro h16
           refine lf 2 ty.F29_2 Z<|loI ty.kd3 Z<|lf 3 ty.F29_3 Z<|loI ty.kd3 Z<|lbB Z<|lkB Z<|lmB Z ?_
           refine AL.bool (t:=114) rfl ?_ ?_
           ·intro h17
            refine lf 4 ty.F29_4 Z<|loI ty.kd3 Z<|lbB Z<|lkB Z<|laB Z<|lN<|gB<|gA<|lmB Z<|lmB Z ?_
            refine AL.bool (t:=175) rfl ?_ ?_
            ·intro h18
             refine loX (.agg [vI _ _,vI _ _,vI _ _,vI _ _,vI _ _,vI _ _,vB _]) ty.kd29 Z<|loX (.agg [vI _ _,vI _ _,vI _ _,vI _ _,vI _ _,vI _ _,vB _]) ty.kd29 Z<|lq (rd (x:=vB _) (rd_eqS rfl (.inl rfl) rfl rfl ty.sf29 ty.su29 ty.sh29 ty.sg29 ?hn5) rfl) ?_
             case hn5=>exact⟨rfl,by decide,rfl,⟨_,Tryz.underlying3⟩,rfl,by decide,rfl,⟨_,Tryz.underlying3⟩,rfl,by decide,rfl,⟨_,Tryz.underlying3⟩,rfl,by decide,rfl,⟨_,Tryz.underlying3⟩,rfl,by decide,rfl,⟨_,Tryz.underlying3⟩,rfl,by decide,rfl,⟨_,Tryz.underlying3⟩,by decide,rfl,Tryz.underlying4,trivial⟩
             refine lkB Z<|laB Z<|nG<|aR ?_
             refine eBo trivial ?_
             have hkd:e.kind=5:=by simpa using h13
             have ha1:amtOk e.amt=true:=by simpa using h1
             have ha2:amtOk e.fee=true:=by simpa using h2
             clear h1 h2 h3 h5 h8 h10 h13
             unfold eventOk
             rw[hkd]
             rcases hy:e.yes with _|_<;>refine Bool.eq_iff_iff.2 ?_<;>simp[fieldB,hK,hC,hT,hA,hF,hY,inB,eqVals,amtOk,keyOk,chOk]at * <;> omega
            ·intro h18
             refine lno Z<|lno Z<|lno Z<|lkZ Z<|laZ Z<|nG<|aR ?_
             refine eBo trivial ?_
             have hkd:e.kind=5:=by simpa using h13
             have ha1:amtOk e.amt=true:=by simpa using h1
             have ha2:amtOk e.fee=true:=by simpa using h2
             clear h1 h2 h3 h5 h8 h10 h13
             unfold eventOk
             rw[hkd]
             rcases hy:e.yes with _|_<;>refine Bool.eq_iff_iff.2 ?_<;>simp[fieldB,hK,hC,hT,hA,hF,hY,inB,eqVals,amtOk,keyOk,chOk]at * <;> omega
           ·intro h17
            refine lno Z<|lno Z<|lno Z<|lkZ Z<|laZ Z<|lN<|gB<|gA<|lmZ Z<|lmZ Z<|lno Z<|lno Z<|lno Z<|lkZ Z<|laZ Z<|nG<|aR ?_
            refine eBo trivial ?_
            have hkd:e.kind=5:=by simpa using h13
            have ha1:amtOk e.amt=true:=by simpa using h1
            have ha2:amtOk e.fee=true:=by simpa using h2
            clear h1 h2 h3 h5 h8 h10 h13
            unfold eventOk
            rw[hkd]
            rcases hy:e.yes with _|_<;>refine Bool.eq_iff_iff.2 ?_<;>simp[fieldB,hK,hC,hT,hA,hF,hY,inB,eqVals,amtOk,keyOk,chOk]at * <;> omega
          ·intro h16
           refine lno Z<|lno Z<|lno Z<|lno Z<|lno Z<|lkZ Z<|lT [1,2,3,4,113] [2001,2003] ?_
           refine lmZ Z<|lno Z<|lno Z<|lno Z<|lkZ Z<|laZ Z<|lN<|gB<|gA<|lmZ Z<|lmZ Z<|lno Z<|lno Z<|lno Z<|lkZ Z<|laZ Z<|nG<|aR ?_
           refine eBo trivial ?_
           have hkd:e.kind=5:=by simpa using h13
           have ha1:amtOk e.amt=true:=by simpa using h1
           have ha2:amtOk e.fee=true:=by simpa using h2
           clear h1 h2 h3 h5 h8 h10 h13
           unfold eventOk
           rw[hkd]
           rcases hy:e.yes with _|_<;>refine Bool.eq_iff_iff.2 ?_<;>simp[fieldB,hK,hC,hT,hA,hF,hY,inB,eqVals,amtOk,keyOk,chOk]at * <;> omega
         ·intro h15
          refine lno Z<|lno Z<|lno Z<|lkZ Z<|lmZ Z<|lno Z<|lno Z<|lno Z<|lno Z<|lno Z<|lkZ Z<|lmZ Z<|lno Z<|lno Z<|lno Z<|lkZ Z<|laZ Z<|lN<|gB<|gA<|lmZ Z<|lmZ Z<|lno Z<|lno Z<|lno Z<|lkZ Z<|laZ Z<|lN ?_
          refine gT<|aR ?_
          refine eBo trivial ?_
          have hkd:e.kind=5:=by simpa using h13
          have ha1:amtOk e.amt=true:=by simpa using h1
          have ha2:amtOk e.fee=true:=by simpa using h2
          clear h1 h2 h3 h5 h8 h10 h13
          unfold eventOk
          rw[hkd]
          rcases hy:e.yes with _|_<;>refine Bool.eq_iff_iff.2 ?_<;>simp[fieldB,hK,hC,hT,hA,hF,hY,inB,eqVals,amtOk,keyOk,chOk]at * <;> omega
        ·intro h14
         refine lno Z<|lno Z<|lno Z<|lkZ Z<|lmZ Z<|lno Z<|lno Z<|lno Z<|lkZ Z<|lmZ Z<|lno Z<|lno Z<|lno Z<|lno Z<|lno Z<|lkZ Z<|lmZ Z<|lno Z<|lno Z<|lno Z<|lkZ Z<|laZ Z<|lN<|gB<|gA<|lmZ Z<|lmZ Z<|lno Z ?_
         refine lno Z<|lno Z<|lkZ Z<|laZ Z<|nG<|aR ?_
         refine eBo trivial ?_
         have hkd:e.kind=5:=by simpa using h13
         have ha1:amtOk e.amt=true:=by simpa using h1
         have ha2:amtOk e.fee=true:=by simpa using h2
         clear h1 h2 h3 h5 h8 h10 h13
         unfold eventOk
         rw[hkd]
         rcases hy:e.yes with _|_<;>refine Bool.eq_iff_iff.2 ?_<;>simp[fieldB,hK,hC,hT,hA,hF,hY,inB,eqVals,amtOk,keyOk,chOk]at * <;> omega
       ·intro h13
        refine sL<|lbB Z<|lT [1,2,3,4,19,120] [2001,2003] ?_
        refine laB Z<|nG ?_
        refine AW.cond rfl ?_ ?_
        ·intro h19
         refine aS<|aG 19 [2003]<|tq 0 (rf 1 ty.F29_1 Z)<|tq 1 (roI ty.kd3 Z)<|tq 2 (rf 2 ty.F29_2 Z)<|tq 3 (roI ty.kd3 Z)<|tq 4 (rf 3 ty.F29_3 Z)<|tq 5 (roI ty.kd3 Z)<|tq 6 (rf 4 ty.F29_4 Z)<|tq 7 (roI ty.kd3 Z)<|tq 8 (rf 5 ty.F29_5 Z)<|tq 9 (roI ty.kd3 Z)<|yq 10 (rf 1 ty.F29_1 Z)<|yst 11 Z (zB 2003 ty.co3 ty.inf3 Z)<|yq 12 (rf 2 ty.F29_2 Z)<|yst 13 Z (zB 2003 ty.co3 ty.inf3 Z)<|gX [1,2,3,4,126,128,130] [2001,2003] ?_
         refine yq 14 (rf 3 ty.F29_3 Z)<|yst 15 Z (zB 2003 ty.co3 ty.inf3 Z)<|yq 16 (rf 4 ty.F29_4 Z)<|yst 17 Z (zB 2003 ty.co3 ty.inf3 Z)<|yq 18 (rf 5 ty.F29_5 Z)<|yl Z (zB 2003 ty.co3 ty.inf3 Z)<|gT<|aL<|lf 1 ty.F29_1 Z<|loI ty.kd3 Z<|lst (zL Tryz.func94 (isKey_e _) Z) Z<|lmB Z ?_
         refine AL.bool (t:=139) rfl ?_ ?_
         ·intro h20
          refine lf 2 ty.F29_2 Z<|loI ty.kd3 Z<|lst (zL Tryz.func65 (isChan_e _) Z) Z<|lkB Z<|lmB Z ?_
          refine AL.bool (t:=144) rfl ?_ ?_
          ·intro h21
           refine lf 3 ty.F29_3 Z<|loI ty.kd3 Z<|lst (zL Tryz.func65 (isChan_e _) Z) Z<|lT [1,2,3,4,144,147] [2001,2003] ?_
           refine lkB Z<|lmB Z ?_
           refine AL.bool (t:=149) rfl ?_ ?_
           ·intro h22
            refine lf 2 ty.F29_2 Z<|loI ty.kd3 Z<|lf 3 ty.F29_3 Z<|loI ty.kd3 Z<|lbB Z<|lkB Z<|lmB Z ?_
            refine AL.bool (t:=156) rfl ?_ ?_
            ·intro h23
             refine lf 4 ty.F29_4 Z<|loI ty.kd3 Z<|lbB Z<|lkB Z<|laB Z<|lN<|gB<|gA<|lmB Z<|lmB Z ?_
             refine AL.bool (t:=175) rfl ?_ ?_
             ·intro h24
              refine loX (.agg [vI _ _,vI _ _,vI _ _,vI _ _,vI _ _,vI _ _,vB _]) ty.kd29 Z<|loX (.agg [vI _ _,vI _ _,vI _ _,vI _ _,vI _ _,vI _ _,vB false]) ty.kd29 Z<|lq (rd (x:=vB _) (rd_eqS rfl (.inl rfl) rfl rfl ty.sf29 ty.su29 ty.sh29 ty.sg29 ?hn6) rfl) ?_
              case hn6=>exact⟨rfl,by decide,rfl,⟨_,Tryz.underlying3⟩,rfl,by decide,rfl,⟨_,Tryz.underlying3⟩,rfl,by decide,rfl,⟨_,Tryz.underlying3⟩,rfl,by decide,rfl,⟨_,Tryz.underlying3⟩,rfl,by decide,rfl,⟨_,Tryz.underlying3⟩,rfl,by decide,rfl,⟨_,Tryz.underlying3⟩,by decide,rfl,Tryz.underlying4,trivial⟩
              refine lkB Z<|laB Z<|nG<|aR ?_
              refine eBo trivial ?_
              have hkd:e.kind=9:=by simpa using h19
              have ha1:amtOk e.amt=true:=by simpa using h1
              have ha2:amtOk e.fee=true:=by simpa using h2
              clear h1 h2 h3 h5 h8 h10 h13 h19
              unfold eventOk
              rw[hkd]
              rcases hy:e.yes with _|_<;>refine Bool.eq_iff_iff.2 ?_<;>simp[fieldB,hK,hC,hT,hA,hF,hY,inB,eqVals,amtOk,keyOk,chOk]at * <;> omega
             ·intro h24
              refine lno Z<|lno Z<|lno Z<|lkZ Z<|laZ Z<|nG<|aR ?_
              refine eBo trivial ?_
              have hkd:e.kind=9:=by simpa using h19
              have ha1:amtOk e.amt=true:=by simpa using h1
              have ha2:amtOk e.fee=true:=by simpa using h2
              clear h1 h2 h3 h5 h8 h10 h13 h19
              unfold eventOk
              rw[hkd]
              rcases hy:e.yes with _|_<;>refine Bool.eq_iff_iff.2 ?_<;>simp[fieldB,hK,hC,hT,hA,hF,hY,inB,eqVals,amtOk,keyOk,chOk]at * <;> omega
            ·intro h23
             refine lno Z<|lno Z<|lno Z<|lkZ Z<|laZ Z<|lN<|gB<|gA<|lmZ Z<|lmZ Z<|lno Z<|lno Z<|lno Z<|lkZ Z<|laZ Z<|nG<|aR ?_
             refine eBo trivial ?_
             have hkd:e.kind=9:=by simpa using h19
             have ha1:amtOk e.amt=true:=by simpa using h1
             have ha2:amtOk e.fee=true:=by simpa using h2
             clear h1 h2 h3 h5 h8 h10 h13 h19
             unfold eventOk
             rw[hkd]
             rcases hy:e.yes with _|_<;>refine Bool.eq_iff_iff.2 ?_<;>simp[fieldB,hK,hC,hT,hA,hF,hY,inB,eqVals,amtOk,keyOk,chOk]at * <;> omega
           ·intro h22
            refine lno Z<|lno Z<|lno Z<|lno Z<|lno Z<|lkZ Z<|lT [1,2,3,4,155] [2001,2003] ?_
            refine lmZ Z<|lno Z<|lno Z<|lno Z<|lkZ Z<|laZ Z<|lN<|gB<|gA<|lmZ Z<|lmZ Z<|lno Z<|lno Z<|lno Z<|lkZ Z<|laZ Z<|nG<|aR ?_
            refine eBo trivial ?_
            have hkd:e.kind=9:=by simpa using h19
            have ha1:amtOk e.amt=true:=by simpa using h1
            have ha2:amtOk e.fee=true:=by simpa using h2
            clear h1 h2 h3 h5 h8 h10 h13 h19
            unfold eventOk
            rw[hkd]
            rcases hy:e.yes with _|_<;>refine Bool.eq_iff_iff.2 ?_<;>simp[fieldB,hK,hC,hT,hA,hF,hY,inB,eqVals,amtOk,keyOk,chOk]at * <;> omega
          ·intro h21
           refine lno Z<|lno Z<|lno Z<|lkZ Z<|lmZ Z<|lno Z<|lno Z<|lno Z<|lno Z<|lno Z<|lkZ Z<|lmZ Z<|lno Z<|lno Z<|lno Z<|lkZ Z<|laZ Z<|lN<|gB<|gA<|lmZ Z<|lmZ Z<|lno Z<|lno Z<|lno Z<|lkZ Z<|laZ Z<|lN ?_
           refine gT<|aR ?_
           refine eBo trivial ?_
           have hkd:e.kind=9:=by simpa using h19
           have ha1:amtOk e.amt=true:=by simpa using h1
           have ha2:amtOk e.fee=true:=by simpa using h2
           clear h1 h2 h3 h5 h8 h10 h13 h19
           unfold eventOk
           rw[hkd]
           rcases hy:e.yes with _|_<;>refine Bool.eq_iff_iff.2 ?_<;>simp[fieldB,hK,hC,hT,hA,hF,hY,inB,eqVals,amtOk,keyOk,chOk]at * <;> omega
         ·intro h20
          refine lno Z<|lno Z<|lno Z<|lkZ Z<|lmZ Z<|lno Z<|lno Z<|lno Z<|lkZ Z<|lmZ Z<|lno Z<|lno Z<|lno Z<|lno Z<|lno Z<|lkZ Z<|lmZ Z<|lno Z<|lno Z<|lno Z<|lkZ Z<|laZ Z<|lN<|gB<|gA<|lmZ Z<|lmZ Z<|lno Z ?_
          refine lno Z<|lno Z<|lkZ Z<|laZ Z<|nG<|aR ?_
          refine eBo trivial ?_
          have hkd:e.kind=9:=by simpa using h19
          have ha1:amtOk e.amt=true:=by simpa using h1
          have ha2:amtOk e.fee=true:=by simpa using h2
          clear h1 h2 h3 h5 h8 h10 h13 h19
          unfold eventOk
          rw[hkd]
          rcases hy:e.yes with _|_<;>refine Bool.eq_iff_iff.2 ?_<;>simp[fieldB,hK,hC,hT,hA,hF,hY,inB,eqVals,amtOk,keyOk,chOk]at * <;> omega
        ·intro h19
         refine aS<|sL<|lbB Z<|lT [1,2,3,4,19,162] [2001,2003] ?_
         refine laB Z<|nG ?_
         refine AW.cond rfl ?_ ?_
         ·intro h25
          refine asB 161 true Z h25<|aK<|gT<|aY Z<|sL<|lf 1 ty.F29_1 Z<|loI ty.kd3 Z<|lf 1 ty.F29_1 Z<|lst (zB 2003 ty.co3 ty.inf3 Z) Z<|nG<|aL<|lf 1 ty.F29_1 Z<|loI ty.kd3 Z<|lst (zL Tryz.func94 (isKey_e _) Z) Z<|laB Z<|lN<|gB<|gA<|lmB Z<|lmB Z ?_
          refine AL.bool (t:=175) rfl ?_ ?_
          ·intro h26
           refine loX (.agg [vI _ _,vI _ _,vI _ _,vI _ _,vI _ _,vI _ _,vB _]) ty.kd29 Z<|loX (.agg [vI _ _,vI _ _,vI _ _,vI _ _,vI _ _,vI _ _,vB false]) ty.kd29 Z<|lq (rd (x:=vB _) (rd_eqS rfl (.inl rfl) rfl rfl ty.sf29 ty.su29 ty.sh29 ty.sg29 ?hn7) rfl) ?_
           case hn7=>exact⟨rfl,by decide,rfl,⟨_,Tryz.underlying3⟩,rfl,by decide,rfl,⟨_,Tryz.underlying3⟩,rfl,by decide,rfl,⟨_,Tryz.underlying3⟩,rfl,by decide,rfl,⟨_,Tryz.underlying3⟩,rfl,by decide,rfl,⟨_,Tryz.underlying3⟩,rfl,by decide,rfl,⟨_,Tryz.underlying3⟩,by decide,rfl,Tryz.underlying4,trivial⟩
           refine lkB Z<|laB Z<|nG<|aR ?_
           refine eBo trivial ?_
           have hkd:e.kind=6:=by simpa using h25
           have ha1:amtOk e.amt=true:=by simpa using h1
           have ha2:amtOk e.fee=true:=by simpa using h2
           clear h1 h2 h3 h5 h8 h10 h13 h19 h25
           unfold eventOk
           rw[hkd]
           rcases hy:e.yes with _|_<;>refine Bool.eq_iff_iff.2 ?_<;>simp[fieldB,hK,hC,hT,hA,hF,hY,inB,eqVals,amtOk,keyOk,chOk]at * <;> omega
          ·intro h26
           refine lno Z<|lno Z<|lno Z<|lkZ Z<|laZ Z<|nG<|aR ?_
           refine eBo trivial ?_
           have hkd:e.kind=6:=by simpa using h25
           have ha1:amtOk e.amt=true:=by simpa using h1
           have ha2:amtOk e.fee=true:=by simpa using h2
           clear h1 h2 h3 h5 h8 h10 h13 h19 h25
           unfold eventOk
           rw[hkd]
           rcases hy:e.yes with _|_<;>refine Bool.eq_iff_iff.2 ?_<;>simp[fieldB,hK,hC,hT,hA,hF,hY,inB,eqVals,amtOk,keyOk,chOk]at * <;> omega
         ·intro h25
          refine asB 161 false Z h25<|sL<|lbB Z<|laB Z<|nG ?_
          refine AW.cond rfl ?_ ?_
          ·intro h27
           refine asB 161 true Z h27<|aK<|gT<|aY Z<|sL<|lf 1 ty.F29_1 Z<|loI ty.kd3 Z<|lf 1 ty.F29_1 Z<|lst (zB 2003 ty.co3 ty.inf3 Z) Z<|lT [1,2,3,4] [2001,2003] ?_
           refine nG<|aL<|lf 1 ty.F29_1 Z<|loI ty.kd3 Z<|lst (zL Tryz.func94 (isKey_e _) Z) Z<|laB Z<|lN<|gB<|gA<|lmB Z<|lmB Z ?_
           refine AL.bool (t:=175) rfl ?_ ?_
           ·intro h28
            refine loX (.agg [vI _ _,vI _ _,vI _ _,vI _ _,vI _ _,vI _ _,vB _]) ty.kd29 Z<|loX (.agg [vI _ _,vI _ _,vI _ _,vI _ _,vI _ _,vI _ _,vB false]) ty.kd29 Z<|lq (rd (x:=vB _) (rd_eqS rfl (.inl rfl) rfl rfl ty.sf29 ty.su29 ty.sh29 ty.sg29 ?hn8) rfl) ?_
            case hn8=>exact⟨rfl,by decide,rfl,⟨_,Tryz.underlying3⟩,rfl,by decide,rfl,⟨_,Tryz.underlying3⟩,rfl,by decide,rfl,⟨_,Tryz.underlying3⟩,rfl,by decide,rfl,⟨_,Tryz.underlying3⟩,rfl,by decide,rfl,⟨_,Tryz.underlying3⟩,rfl,by decide,rfl,⟨_,Tryz.underlying3⟩,by decide,rfl,Tryz.underlying4,trivial⟩
            refine lkB Z<|laB Z<|nG<|aR ?_
            refine eBo trivial ?_
            have hkd:e.kind=7:=by simpa using h27
            have ha1:amtOk e.amt=true:=by simpa using h1
            have ha2:amtOk e.fee=true:=by simpa using h2
            clear h1 h2 h3 h5 h8 h10 h13 h19 h25 h27
            unfold eventOk
            rw[hkd]
            rcases hy:e.yes with _|_<;>refine Bool.eq_iff_iff.2 ?_<;>simp[fieldB,hK,hC,hT,hA,hF,hY,inB,eqVals,amtOk,keyOk,chOk]at * <;> omega
           ·intro h28
            refine lno Z<|lno Z<|lno Z<|lkZ Z<|laZ Z<|nG<|aR ?_
            refine eBo trivial ?_
            have hkd:e.kind=7:=by simpa using h27
            have ha1:amtOk e.amt=true:=by simpa using h1
            have ha2:amtOk e.fee=true:=by simpa using h2
            clear h1 h2 h3 h5 h8 h10 h13 h19 h25 h27
            unfold eventOk
            rw[hkd]
            rcases hy:e.yes with _|_<;>refine Bool.eq_iff_iff.2 ?_<;>simp[fieldB,hK,hC,hT,hA,hF,hY,inB,eqVals,amtOk,keyOk,chOk]at * <;> omega
          ·intro h27
           refine asB 161 false Z h27<|sL<|lbB Z<|laB Z<|nG ?_
           refine AW.cond rfl ?_ ?_
           ·intro h29
            refine asB 161 true Z h29<|aK<|gT<|aY Z<|sL<|lf 1 ty.F29_1 Z<|loI ty.kd3 Z<|lf 1 ty.F29_1 Z<|lst (zB 2003 ty.co3 ty.inf3 Z) Z<|lT [1,2,3,4] [2001,2003] ?_
            refine nG<|aL<|lf 1 ty.F29_1 Z<|loI ty.kd3 Z<|lst (zL Tryz.func94 (isKey_e _) Z) Z<|laB Z<|lN<|gB<|gA<|lmB Z<|lmB Z ?_
            refine AL.bool (t:=175) rfl ?_ ?_
            ·intro h30
             refine loX (.agg [vI _ _,vI _ _,vI _ _,vI _ _,vI _ _,vI _ _,vB _]) ty.kd29 Z<|loX (.agg [vI _ _,vI _ _,vI _ _,vI _ _,vI _ _,vI _ _,vB false]) ty.kd29 Z<|lq (rd (x:=vB _) (rd_eqS rfl (.inl rfl) rfl rfl ty.sf29 ty.su29 ty.sh29 ty.sg29 ?hn9) rfl) ?_
             case hn9=>exact⟨rfl,by decide,rfl,⟨_,Tryz.underlying3⟩,rfl,by decide,rfl,⟨_,Tryz.underlying3⟩,rfl,by decide,rfl,⟨_,Tryz.underlying3⟩,rfl,by decide,rfl,⟨_,Tryz.underlying3⟩,rfl,by decide,rfl,⟨_,Tryz.underlying3⟩,rfl,by decide,rfl,⟨_,Tryz.underlying3⟩,by decide,rfl,Tryz.underlying4,trivial⟩
             refine lkB Z<|laB Z<|nG<|aR ?_
             refine eBo trivial ?_
             have hkd:e.kind=10:=by simpa using h29
             have ha1:amtOk e.amt=true:=by simpa using h1
             have ha2:amtOk e.fee=true:=by simpa using h2
             clear h1 h2 h3 h5 h8 h10 h13 h19 h25 h27 h29
             unfold eventOk
             rw[hkd]
             rcases hy:e.yes with _|_<;>refine Bool.eq_iff_iff.2 ?_<;>simp[fieldB,hK,hC,hT,hA,hF,hY,inB,eqVals,amtOk,keyOk,chOk]at * <;> omega
            ·intro h30
             refine lno Z<|lno Z<|lno Z<|lkZ Z<|laZ Z<|nG<|aR ?_
             refine eBo trivial ?_
             have hkd:e.kind=10:=by simpa using h29
             have ha1:amtOk e.amt=true:=by simpa using h1
             have ha2:amtOk e.fee=true:=by simpa using h2
             clear h1 h2 h3 h5 h8 h10 h13 h19 h25 h27 h29
             unfold eventOk
             rw[hkd]
             rcases hy:e.yes with _|_<;>refine Bool.eq_iff_iff.2 ?_<;>simp[fieldB,hK,hC,hT,hA,hF,hY,inB,eqVals,amtOk,keyOk,chOk]at * <;> omega
           ·intro h29
            refine asB 161 false Z h29<|aL<|lbB Z<|laB Z<|nG ?_
            refine AW.cond rfl ?_ ?_
            ·intro h31
             refine sL<|lf 1 ty.F29_1 Z<|loI ty.kd3 Z<|lf 1 ty.F29_1 Z<|lst (zB 2003 ty.co3 ty.inf3 Z) Z<|lT [1,2,3,4] [2001,2003] ?_
             refine nG<|aL<|lf 1 ty.F29_1 Z<|loI ty.kd3 Z<|lst (zL Tryz.func94 (isKey_e _) Z) Z<|laB Z<|lN<|gB<|gA<|lmB Z<|lmB Z ?_
             refine AL.bool (t:=175) rfl ?_ ?_
             ·intro h32
              refine loX (.agg [vI _ _,vI _ _,vI _ _,vI _ _,vI _ _,vI _ _,vB _]) ty.kd29 Z<|loX (.agg [vI _ _,vI _ _,vI _ _,vI _ _,vI _ _,vI _ _,vB false]) ty.kd29 Z<|lq (rd (x:=vB _) (rd_eqS rfl (.inl rfl) rfl rfl ty.sf29 ty.su29 ty.sh29 ty.sg29 ?hn10) rfl) ?_
              case hn10=>exact⟨rfl,by decide,rfl,⟨_,Tryz.underlying3⟩,rfl,by decide,rfl,⟨_,Tryz.underlying3⟩,rfl,by decide,rfl,⟨_,Tryz.underlying3⟩,rfl,by decide,rfl,⟨_,Tryz.underlying3⟩,rfl,by decide,rfl,⟨_,Tryz.underlying3⟩,rfl,by decide,rfl,⟨_,Tryz.underlying3⟩,by decide,rfl,Tryz.underlying4,trivial⟩
              refine lkB Z<|laB Z<|nG<|aR ?_
              refine eBo trivial ?_
              have hkd:e.kind=11:=by simpa using h31
              have ha1:amtOk e.amt=true:=by simpa using h1
              have ha2:amtOk e.fee=true:=by simpa using h2
              clear h1 h2 h3 h5 h8 h10 h13 h19 h25 h27 h29 h31
              unfold eventOk
              rw[hkd]
              rcases hy:e.yes with _|_<;>refine Bool.eq_iff_iff.2 ?_<;>simp[fieldB,hK,hC,hT,hA,hF,hY,inB,eqVals,amtOk,keyOk,chOk]at * <;> omega
             ·intro h32
              refine lno Z<|lno Z<|lno Z<|lkZ Z<|laZ Z<|nG<|aR ?_
              refine eBo trivial ?_
              have hkd:e.kind=11:=by simpa using h31
              have ha1:amtOk e.amt=true:=by simpa using h1
              have ha2:amtOk e.fee=true:=by simpa using h2
              clear h1 h2 h3 h5 h8 h10 h13 h19 h25 h27 h29 h31
              unfold eventOk
              rw[hkd]
              rcases hy:e.yes with _|_<;>refine Bool.eq_iff_iff.2 ?_<;>simp[fieldB,hK,hC,hT,hA,hF,hY,inB,eqVals,amtOk,keyOk,chOk]at * <;> omega
            ·intro h31
             refine sL<|lbB Z<|laB Z<|nG ?_
             refine AW.cond rfl ?_ ?_
             ·intro h33
              refine aK<|gB<|gA<|lmT Z<|lmT Z<|loX (.agg [vI _ _,vI _ _,vI _ _,vI _ _,vI _ _,vI _ _,vB _]) ty.kd29 Z<|loX (.agg [vI _ _,vI _ _,vI _ _,vI _ _,vI _ _,vI _ _,vB false]) ty.kd29 Z<|lq (rd (x:=vB _) (rd_eqS rfl (.inl rfl) rfl rfl ty.sf29 ty.su29 ty.sh29 ty.sg29 ?hn11) rfl) ?_
              case hn11=>exact⟨rfl,by decide,rfl,⟨_,Tryz.underlying3⟩,rfl,by decide,rfl,⟨_,Tryz.underlying3⟩,rfl,by decide,rfl,⟨_,Tryz.underlying3⟩,rfl,by decide,rfl,⟨_,Tryz.underlying3⟩,rfl,by decide,rfl,⟨_,Tryz.underlying3⟩,rfl,by decide,rfl,⟨_,Tryz.underlying3⟩,by decide,rfl,Tryz.underlying4,trivial⟩
              refine lkB Z<|laB Z<|nG<|aR ?_
              refine eBo trivial ?_
              have hkd:e.kind=8:=by simpa using h33
              have ha1:amtOk e.amt=true:=by simpa using h1
              have ha2:amtOk e.fee=true:=by simpa using h2
              clear h1 h2 h3 h5 h8 h10 h13 h19 h25 h27 h29 h31 h33
              unfold eventOk
              rw[hkd]
              rcases hy:e.yes with _|_<;>refine Bool.eq_iff_iff.2 ?_<;>simp[fieldB,hK,hC,hT,hA,hF,hY,inB,eqVals,amtOk,keyOk,chOk]at * <;> omega
             ·intro h33
              refine sL<|laZ Z<|nG<|aR<|rB<|rT ?_
              refine eBo trivial ?_
              refine(evNone ?_).symm
              have:True:=trivial
              simp only[decide_eq_false_iff_not]at *
              omega
end Go.Proofs.YtogkbcmfoalpiaaGreat

