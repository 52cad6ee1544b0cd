/- Texts of the proof of FnMoves, joined: ES4, ES5, Appl, Wr, App2. -/
import Derived.Test.YtnlpbgljaecdmaaJMoves7
import Derived.Test.YtnlpbgljaecdmaaJMoves3
namespace Go.Proofs.Ytnlpbgljaecdmaa
open Go.RowKit
set_option maxHeartbeats 16000000
set_option maxRecDepth 100000
set_option linter.unusedSimpArgs false
set_option linter.unusedVariables false
def zeroH:Htlc:=⟨0,0,0,0,0,false,0⟩
def zeroI:Circle:=⟨0,0,0,0,0⟩
def fndH(l:List Htlc)(key:Int):Htlc:=(l.find? fun c=>c.key==key).getD zeroH
def fndI(l:List Circle)(key:Int):Circle:=(l.find? fun c=>c.key==key).getD zeroI
abbrev hBox(h:Htlc):AO:=.box 101 none [int h.key,int h.inn,int h.out,int h.amtIn,int h.amtOut,boo h.kept,int h.age]
abbrev iBox(h:Circle):AO:=.box 103 none [int h.key,int h.frm,int h.to,int h.amt,int h.fee]
theorem find_take{α:Type}{g:α→Int}{l:List α}{key:Int}(hnd:l.Pairwise fun a b=>g a≠g b){k:Nat}(hk:k<l.length):(l.take (k+1)).find? (fun c=>g c==key)=if g l[k]=key then some l[k]else (l.take k).find? (fun c=>g c==key):=by
 rw[List.take_succ_eq_append_getElem hk,List.find?_append]
 by_cases q:g l[k]=key
 ·rw[if_pos q]
  have:(l.take k).find? (fun c=>g c==key)=none:=by
   rw[List.find?_eq_none]
   intro x hx
   obtain⟨j,hj,rfl⟩:=List.getElem_of_mem hx
   rw[List.length_take]at hj
   have h1:=List.pairwise_iff_getElem.1 hnd j k (by omega) hk (by omega)
   rw[List.getElem_take,←q]
   simpa using h1
  rw[this];simp[q]
 ·rw[if_neg q];simp[q]
theorem fndH_take{l:List Htlc}{key:Int}(hnd:l.Pairwise fun a b=>a.key≠b.key){k:Nat}(hk:k<l.length):fndH (l.take (k+1)) key=if l[k].key=key then l[k]else fndH (l.take k) key:=by
 unfold fndH
 rw[find_take (g:=fun c=>c.key) hnd hk]
 split<;>rfl
theorem fndI_take{l:List Circle}{key:Int}(hnd:l.Pairwise fun a b=>a.key≠b.key){k:Nat}(hk:k<l.length):fndI (l.take (k+1)) key=if l[k].key=key then l[k]else fndI (l.take k) key:=by
 unfold fndI
 rw[find_take (g:=fun c=>c.key) hnd hk]
 split<;>rfl
theorem delH_take{l:List Htlc}{key:Int}{k:Nat}(hk:k<l.length):delH (l.take (k+1)) key=delH (l.take k) key++(if l[k].key=key then []else [l[k]]):=by
 unfold delH
 rw[List.take_succ_eq_append_getElem hk,List.filter_append]
 by_cases q:l[k].key=key<;>simp[q]
theorem delI_take{l:List Circle}{key:Int}{k:Nat}(hk:k<l.length):delI (l.take (k+1)) key=delI (l.take k) key++(if l[k].key=key then []else [l[k]]):=by
 unfold delI
 rw[List.take_succ_eq_append_getElem hk,List.filter_append]
 by_cases q:l[k].key=key<;>simp[q]
theorem delH_len{l:List Htlc}{key:Int}:(delH l key).length≤l.length:=List.length_filter_le _ _
theorem delI_len{l:List Circle}{key:Int}:(delI l key).length≤l.length:=List.length_filter_le _ _
theorem fndH_no{l:List Htlc}{key:Int}(h0:∀h∈l,h.key≠0)(h:(fndH l key).key=0):l.find? (fun c=>c.key==key)=none:=by
 rcases at_find (fun c:Htlc=>c.key==key) l with⟨_,q⟩|⟨i,c,_,q1,q2,_⟩
 ·exact q
 ·unfold fndH at h
  rw[q2]at h
  exact absurd h (h0 c (mem_of_get q1))
theorem fndH_yes{l:List Htlc}{key:Int}(h:¬(fndH l key).key=0):∃i:Nat,l[i]? = some (fndH l key)∧l.find? (fun c=>c.key==key)=some (fndH l key)∧(fndH l key).key=key:=by
 rcases at_find (fun c:Htlc=>c.key==key) l with⟨_,q⟩|⟨i,c,_,q1,q2,q3⟩
 ·unfold fndH at h
  rw[q]at h
  exact absurd rfl h
 ·have e:fndH l key=c:=by unfold fndH;rw[q2];rfl
  rw[e]
  exact⟨i,q1,q2,by simpa using q3⟩
theorem fndI_no{l:List Circle}{key:Int}(h0:∀h∈l,h.key≠0)(h:(fndI l key).key=0):l.find? (fun c=>c.key==key)=none:=by
 rcases at_find (fun c:Circle=>c.key==key) l with⟨_,q⟩|⟨i,c,_,q1,q2,_⟩
 ·exact q
 ·unfold fndI at h
  rw[q2]at h
  exact absurd h (h0 c (mem_of_get q1))
theorem fndI_yes{l:List Circle}{key:Int}(h:¬(fndI l key).key=0):∃i:Nat,l[i]? = some (fndI l key)∧l.find? (fun c=>c.key==key)=some (fndI l key)∧(fndI l key).key=key:=by
 rcases at_find (fun c:Circle=>c.key==key) l with⟨_,q⟩|⟨i,c,_,q1,q2,q3⟩
 ·unfold fndI at h
  rw[q]at h
  exact absurd rfl h
 ·have e:fndI l key=c:=by unfold fndI;rw[q2];rfl
  rw[e]
  exact⟨i,q1,q2,by simpa using q3⟩
def setK(x:Book)(key:Int)(good:Bool):WR:=match x.htlcs.find? (fun c=>c.key==key)with
 |some h=>setY x good h
 |none=>⟨x,[],15⟩
def landK(x:Book)(key:Int)(good:Bool):WR:=match x.circles.find? (fun c=>c.key==key)with
 |some h=>landY x good h
 |none=>⟨x,[],15⟩
theorem setK_eq(x:Book)(e:Event):setK x e.key (decide (e.kind=6))=setR x e:=rfl
theorem landK_eq(x:Book)(e:Event):landK x e.key (decide (e.kind=10))=landR x e:=rfl
theorem setK_none{x:Book}{key:Int}{good:Bool}(h:x.htlcs.find? (fun c=>c.key==key)=none):setK x key good=⟨x,[],15⟩:=by unfold setK;rw[h]
theorem setK_some{x:Book}{key:Int}{good:Bool}{c:Htlc}(h:x.htlcs.find? (fun c=>c.key==key)=some c):setK x key good=setY x good c:=by unfold setK;rw[h]
theorem landK_none{x:Book}{key:Int}{good:Bool}(h:x.circles.find? (fun c=>c.key==key)=none):landK x key good=⟨x,[],15⟩:=by unfold landK;rw[h]
theorem landK_some{x:Book}{key:Int}{good:Bool}{c:Circle}(h:x.circles.find? (fun c=>c.key==key)=some c):landK x key good=landY x good c:=by unfold landK;rw[h]
theorem sset_e(g:Value)(x:Book)(key:Int)(good:Bool)(fi:BookFi x)(hk0:∀h∈x.htlcs,h.key≠0)(hle:∀h∈x.htlcs,h.amtOut≤h.amtIn):GC Try.prog 82 [.ptr 0 0 0,int key,boo good] (sIn g x [] 0) (.tup []) (sOut g (setK x key good)):=by
 have sm:=fi.sm
 have hm:x.chans.length≤1000000000:=by have:=sm.lc;omega
 have hlh:=sm.lh
 have hli:=sm.li

 refine GC.intro (rs:=[]) Try.func82 rfl Try.ntmps82 (Nat.le_of_ble_eq_true rfl) trivial ?_
 intro L O w0
 refine sL<|lst (zS 2011 [] ty.el24 ty.ze101 rfl (by simp)) Z<|laO Z<|nA<|lq (rd (x:=.agg [vI _ _,vI _ _,vI _ _,vI _ _,vI _ _,vB false,vI _ _]) (rd_build rfl ty.sa101 rfl rfl rfl) rfl)<|lst (zA 2007 ty.ze101 rfl) Z<|lst (zB 2007 ty.co101 ty.inf101 rfl) Z<|nG<|aS<|sL<|lmP Z<|lc Z<|lf 0 ty.F125_0 Z<|lf 4 ty.F27_4 Z<|loO ty.kd24 Z<|lnI ty.sl24 Z<|lmI Z<|nG<|aB ?_
 refine aW [0,1,2,6,7,17,18] [0,1,2,3,4] (D:=Nat) (fun k=>[(19,int (k:Int))]) (fun k=>[(2011,hAr (delH (x.htlcs.take k) key)),(2007,hBox (fndH (x.htlcs.take k) key))]) (fun k=>k≤x.htlcs.length) (fun k=>x.htlcs.length-k) (0) (Nat.zero_le _) ⟨rfl,trivial⟩ ⟨rfl,rfl,trivial⟩ ?_
 intro k hI
 refine sL<|lbB Z<|nG<|aS ?_
 refine AW.cond rfl ?_ ?_
 ·intro h1
  refine aK<|gT<|aS<|aB<|sL ?_
  have hk:k<x.htlcs.length:=by simpa[length_rowsOf]using h1
  refine lq (rj k ty.el24 rfl (by rw[length_rowsOf];exact hk))<|lq (rd (x:=.agg [vI _ _,vI _ _,vI _ _,vI _ _,vI _ _,vB _,vI _ _]) (rd_load_arr rfl ty.kd101 rfl rfl rfl (row_map hk) rfl) rfl)<|lst (zA 2009 ty.ze101 rfl) Z<|lT [0,1,2,6,7,9,17,18,19,22] [0,1,2,3,4,2007,2009,2011] ?_
  refine lst (zB 2009 ty.co101 ty.inf101 Z) Z<|nA<|lf 0 ty.F101_0 Z<|loI ty.kd3 Z<|lmI Z<|lbB Z<|nG ?_
  refine AW.cond rfl ?_ ?_
  ·intro h2
   refine aL<|loX (.agg [vI _ _,vI _ _,vI _ _,vI _ _,vI _ _,vB _,vI _ _]) ty.kd101 Z<|lst (zB 2007 ty.co101 ty.inf101 Z) Z<|lN<|gB<|gT<|aL<|lgI Z<|lmI Z<|nG ?_
   refine⟨k+1,hk,by omega,⟨(iq rfl),trivial⟩,⟨(congrArg hAr (by rw[delH_take hk,if_pos (by simpa using h2),List.append_nil])),(Eq.trans (b:=hBox x.htlcs[k]) rfl (congrArg hBox (by rw[fndH_take fi.hks hk,if_pos (by simpa using h2)]))),trivial⟩,rfl,rfl⟩
  ·intro h2
   refine aL<|lmO Z<|loX (.agg [vI _ _,vI _ _,vI _ _,vI _ _,vI _ _,vB _,vI _ _]) ty.kd101 Z<|lst (zS 2030 (rowsOf encHtlc [x.htlcs[k]]) ty.el24 ty.ze101 rfl) Z<|lst (zP 2011 ty.el24 ty.ze101 ty.by101 rfl (Src.own rfl rfl) (by have:=delH_len (l:=x.htlcs.take k) (key:=key);simp[rowsOf]at *;omega)) Z<|laO Z<|lN<|gB<|gT<|aL<|lgI Z<|lmI Z<|nG ?_
   refine⟨k+1,hk,by omega,⟨(iq rfl),trivial⟩,⟨(Eq.trans (b:=AO.arr 101 7 (rowsOf encHtlc (delH (x.htlcs.take k) key++[x.htlcs[k]]))) (congrArg (AO.arr 101 7) (rowsOf_app encHtlc _ [_]).symm) (congrArg hAr (by rw[delH_take hk,if_neg (by simpa using h2)]))),(congrArg hBox (by rw[fndH_take fi.hks hk,if_neg (by simpa using h2)])),trivial⟩,rfl,rfl⟩
 ·intro h1
  refine aE<|eT<|eT<|eB<|gT<|aS<|aS ?_
  have hke:k=x.htlcs.length:=by have h:=h1;simp only[length_rowsOf,decide_eq_false_iff_not]at h;omega
  refine AW.obj 2011 (hAr (delH x.htlcs key)) (congrArg hAr (by rw[hke,List.take_length])) ?_
  refine AW.obj 2007 (hBox (fndH x.htlcs key)) (congrArg hBox (by rw[hke,List.take_length])) ?_
  refine aL<|lmP Z<|lf 0 ty.F101_0 Z<|loI ty.kd3 Z<|lbB Z ?_
  refine lst (z5a Try.func76 (scode_e _ _ _ _ _ _ _ _ _ _ _ _ _ _ _ _ _ _ _ ) (⟨stays.box (Eq.refl 8),trivial⟩) rfl rfl) Z<|lT [0,2,6,7,37] [0,1,2,3,4,2007,2011] ?_
  refine nG ?_
  refine AW.cond rfl ?_ ?_
  ·intro h3
   refine aR<|rT ?_
   have hz:(fndH x.htlcs key).key=0:=by
    have h:=h3
    rcases Classical.em ((fndH x.htlcs key).key=0)with q|q
    ·exact q
    ·rw[decide_eq_false q]at h
     simp[failC]at h
   rw[setK_none (fndH_no hk0 hz)]
   refine end_ret ?_ ⟨Eq.trans (b:=sBox g x.tick x.next x.wallet _) rfl (congrArg (sBox g x.tick x.next x.wallet) (by rw[decide_eq_true hz];rfl)),rfl,rfl,rfl,rfl,trivial⟩
   rfl
  ·intro h3
   refine aK<|gT<|aS ?_
   have hnz:¬(fndH x.htlcs key).key=0:=fun q=>by
    have h:=h3
    rw[decide_eq_true q]at h
    simp[failC]at h
   obtain⟨i,hh,hf,hkk⟩:=fndH_yes hnz
   generalize fndH x.htlcs key=h at *
   subst hkk
   have hhm:=sm.htlcs h (mem_of_get hh)
   obtain⟨ha,hb,hab⟩:=fi.hch h (mem_of_get hh)
   obtain⟨a,c,hac,hc,hao,hcid⟩:=chan_there ha
   obtain⟨b,d,hbd,hd,hbo,hdid⟩:=chan_there hb
   have hcm:=sm.chans c (mem_of_get hc)
   have hdm:=sm.chans d (mem_of_get hd)
   have hne:a≠b:=idx_ne hc hd (by rw[hcid,hdid];exact hab)
   refine AW.obj 0 (sBox g x.tick x.next x.wallet 0) (Eq.trans (b:=sBox g x.tick x.next x.wallet _) rfl (congrArg (sBox g x.tick x.next x.wallet) (by rw[decide_eq_false hnz];rfl))) ?_
   refine aL<|lmP Z<|lmO Z<|lc Z<|lf 0 ty.F125_0 Z<|lf 4 ty.F27_4 Z<|lst (zB 0 ty.co24 ty.inf24 Z) Z<|nG<|aS ?_
   refine AW.swap 2011 2 ?_
   refine aT [0,2,7] [0,1,2,3,4,2007] ?_
   refine aF []<|pq 0 (qmP Z)<|pq 1 (qc Z)<|pq 2 (qf 0 ty.F125_0 Z)<|sq 3 (roX (.agg [vI _ _,vI _ _,vI _ _,.own _,.own _,.own _]) ty.kd27 Z)<|vq 4 (rf 1 ty.F101_1 Z)<|vq 5 (roI ty.kd3 Z)<|vst 6 Z (zL Try.func29 (sAt_e ({ x with htlcs:=delH x.htlcs h.key }) _ hm) Z) (.inr Z)<|fsN 49 (a:Int) Z hac<|vq 7 (raI Z)<|fD<|gT<|aS<|sL<|lmB Z<|nG ?_
   refine AW.cond rfl ?_ ?_
   ·intro h4
    refine sL<|lmP Z<|lf 1 ty.F101_1 Z<|loI ty.kd3 Z<|lf 3 ty.F101_3 Z<|loI ty.kd3 Z ?_
    refine lst (z5a Try.func93 (smove_e _ ({ x with htlcs:=delH x.htlcs h.key }) _ _ _ _ _ (hm) a c (hac) (hc) (by have h1:=hcm.1;have h2:=hcm.2.1;have h3:=hdm.1;have h4:=hdm.2.1;have h5:=hhm.1;have h6:=hhm.2.1;unfold A50 at *;unfold i64;omega) (by have h1:=hcm.1;have h2:=hcm.2.1;have h3:=hdm.1;have h4:=hdm.2.1;have h5:=hhm.1;have h6:=hhm.2.1;unfold A50 at *;unfold i64;omega)) (⟨stays.box (Eq.refl 8),trivial⟩) rfl rfl) Z<|lT [0,7,10] [0,1,2,3,4,2007] ?_
    refine nA<|lmP Z<|lf 2 ty.F101_2 Z<|loI ty.kd3 Z<|lf 4 ty.F101_4 Z<|loI ty.kd3 Z ?_
    refine lst (z5a Try.func93 (smove_e _ ({ x with htlcs:=delH x.htlcs h.key,chans:=x.chans.set a { c with loc:=c.loc+h.amtIn,remote:=c.remote+0 } }) _ _ _ _ _ ((by rw[List.length_set];exact hm)) b d ((chanAt_set (c':={ c with loc:=c.loc+h.amtIn,remote:=c.remote+0 }) hc rfl).trans hbd) (set_get hd hne _) (by have h1:=hcm.1;have h2:=hcm.2.1;have h3:=hdm.1;have h4:=hdm.2.1;have h5:=hhm.1;have h6:=hhm.2.1;unfold A50 at *;unfold i64;omega) (by have h1:=hcm.1;have h2:=hcm.2.1;have h3:=hdm.1;have h4:=hdm.2.1;have h5:=hhm.1;have h6:=hhm.2.1;unfold A50 at *;unfold i64;omega)) (⟨stays.box (Eq.refl 8),trivial⟩) rfl rfl) Z<|nG<|aS<|aF [18]<|pq 0 (qmP rfl)<|pq 1 (qc rfl)<|pq 2 (qf 0 ty.F125_0 rfl)<|pq 3 (qf 3 ty.F27_3 rfl)<|sq 4 (roO ty.kd23 rfl)<|pq 5 (qmX (vI _ _) rfl)<|pq 6 (qmP rfl)<|pq 7 (qc rfl)<|pq 8 (qf 0 ty.F125_0 rfl)<|pq 9 (qf 3 ty.F27_3 rfl)<|sq 10 (roO ty.kd23 rfl)<|vq 11 (rmI rfl)<|vq 12 (rj a ty.el23 rfl (by rw[length_rowsOf,List.length_set,List.length_set];exact(List.getElem?_eq_some_iff.1 hc).1))<|vq 13 (rf 6 ty.F57_6 rfl)<|vq 14 (rd (x:=vI _ _) (rd_load_arr rfl ty.kd3 rfl rfl rfl (rows_some (set_get (set_get_eq hc { c with loc:=c.loc+h.amtIn,remote:=c.remote+0 }) (Ne.symm hne) { d with loc:=d.loc+0,remote:=d.remote+h.amtOut })) rfl) rfl)<|vst 15 rfl (zL Try.func94 (sscUp_e _) rfl) (.inr rfl)<|fT [0,7,67,68,78] [0,1,2,3,4,2007] ?_
    refine vq 16 (rj a ty.el23 rfl (by rw[length_rowsOf,List.length_set,List.length_set];exact(List.getElem?_eq_some_iff.1 hc).1))<|vq 17 (rf 6 ty.F57_6 rfl)<|vst 18 rfl (zQ 1 [.v (.int .i64 (scoreUp c.score))] ty.co3 ty.inf3 rfl (rows_some (set_get (set_get_eq hc { c with loc:=c.loc+h.amtIn,remote:=c.remote+0 }) (Ne.symm hne) { d with loc:=d.loc+0,remote:=d.remote+h.amtOut }))) (.inl rfl)<|fD<|gT ?_
    refine AW.obj 1 (AO.arr 57 7 (rowsOf encChan (updC (updC x.chans h.inn fun c=>{ c with loc:=c.loc+h.amtIn,score:=scoreUp c.score }) h.out fun c=>{ c with remote:=c.remote+h.amtOut }))) (Eq.trans (b:=AO.arr 57 7 ((rowsOf encChan ((x.chans.set a { c with loc:=c.loc+h.amtIn,remote:=c.remote+0 }).set b { d with loc:=d.loc+0,remote:=d.remote+h.amtOut })).set a ((encChan { c with loc:=c.loc+h.amtIn,remote:=c.remote+0,score:=scoreUp c.score }).map PV.v))) rfl (congrArg (AO.arr 57 7) (rows_set.trans (congrArg (rowsOf encChan) ((set_three hne).trans ((by simp only[Int.add_zero]:_=(x.chans.set a { c with loc:=c.loc+h.amtIn,score:=scoreUp c.score }).set b { d with remote:=d.remote+h.amtOut }).trans (set_two' fi.ids hc hd hcid hdid hab (fun c=>{ c with loc:=c.loc+h.amtIn,score:=scoreUp c.score }) (fun d=>{ d with remote:=d.remote+h.amtOut }) (fun _=>rfl)))))))) ?_
    refine sL<|lmP Z<|lf 4 ty.F101_4 Z<|loI ty.kd3 Z<|lf 3 ty.F101_3 Z<|loI ty.kd3 Z ?_
    refine lhI rfl ⟨rfl,fits_i64 (by have h1:=hcm.1;have h2:=hcm.2.1;have h3:=hdm.1;have h4:=hdm.2.1;have h5:=hhm.1;have h6:=hhm.2.1;unfold A50 at *;unfold i64;omega)⟩ ?_
    refine lst (z5a Try.func78 (sline_e _ _ _ _ _ _ _ _ _ _ _ _ _ _ ([]) 0 (LG.nil) (by decide) _ _ _ (Fresh.nil _ _) (inB_true.2 (by have h5:=hhm.1;have h6:=hhm.2.1;have h7:=hhm.2.2.2.2;have h8:=hle h (mem_of_get hh);unfold A50 at *;omega))) (⟨stays.box (Eq.refl 8),trivial⟩) rfl rfl) Z<|nG<|aL<|lmP Z<|lf 1 ty.F101_1 Z<|loI ty.kd3 Z<|lf 3 ty.F101_3 Z<|loI ty.kd3 rfl ?_
    refine lst (z5a Try.func78 (sline_e _ _ _ _ _ _ _ _ _ _ _ _ _ _ (addL [] 3 0 (h.amtOut-h.amtIn)) 1 (LG.nil.add (inB_true.2 (by have h5:=hhm.1;have h6:=hhm.2.1;have h7:=hhm.2.2.2.2;have h8:=hle h (mem_of_get hh);unfold A50 at *;omega))) (by decide) _ _ _ ((Fresh.nil _ _).add (.inl (by decide))) (rangeA_of hhm.1)) (⟨stays.box (Eq.refl 8),trivial⟩) rfl rfl) Z<|lT [0,7] [0,1,2,3,4,2007] ?_
    refine nG<|aL<|lmP Z<|lf 2 ty.F101_2 Z<|loI ty.kd3 Z<|lf 4 ty.F101_4 Z<|loI ty.kd3 Z<|lq (rd (x:=vI _ _) (rd_un rfl rfl (fits_i64 (by have h1:=hcm.1;have h2:=hcm.2.1;have h3:=hdm.1;have h4:=hdm.2.1;have h5:=hhm.1;have h6:=hhm.2.1;unfold A50 at *;unfold i64;omega))) rfl) ?_
    refine lst (z5a Try.func78 (sline_e _ _ _ _ _ _ _ _ _ _ _ _ _ _ (addL (addL [] 3 0 (h.amtOut-h.amtIn)) 6 h.inn h.amtIn) 2 ((LG.nil.add (inB_true.2 (by have h5:=hhm.1;have h6:=hhm.2.1;have h7:=hhm.2.2.2.2;have h8:=hle h (mem_of_get hh);unfold A50 at *;omega))).add (rangeA_of hhm.1)) (by decide) _ _ _ (((Fresh.nil _ _).add (.inl (by decide))).add (.inl (by decide))) (rangeA_neg hhm.2.1)) (⟨stays.box (Eq.refl 8),trivial⟩) rfl rfl) Z<|lN ?_
    rw[setK_some hf,show good=true from h4]
    unfold setY
    refine end_go ?_ ⟨rfl,rfl,rfl,rfl,rfl,trivial⟩
    rfl
   ·intro h4
    refine sL<|lmP Z<|lf 1 ty.F101_1 Z<|loI ty.kd3 Z<|lf 3 ty.F101_3 Z<|loI ty.kd3 Z ?_
    refine lst (z5a Try.func93 (smove_e _ ({ x with htlcs:=delH x.htlcs h.key }) _ _ _ _ _ (hm) a c (hac) (hc) (by have h1:=hcm.1;have h2:=hcm.2.1;have h3:=hdm.1;have h4:=hdm.2.1;have h5:=hhm.1;have h6:=hhm.2.1;unfold A50 at *;unfold i64;omega) (by have h1:=hcm.1;have h2:=hcm.2.1;have h3:=hdm.1;have h4:=hdm.2.1;have h5:=hhm.1;have h6:=hhm.2.1;unfold A50 at *;unfold i64;omega)) (⟨stays.box (Eq.refl 8),trivial⟩) rfl rfl) Z<|nA<|lmP Z<|lf 2 ty.F101_2 Z<|loI ty.kd3 Z<|lf 4 ty.F101_4 Z<|loI ty.kd3 rfl ?_
    refine lst (z5a Try.func93 (smove_e _ ({ x with htlcs:=delH x.htlcs h.key,chans:=x.chans.set a { c with loc:=c.loc+0,remote:=c.remote+h.amtIn } }) _ _ _ _ _ ((by rw[List.length_set];exact hm)) b d ((chanAt_set (c':={ c with loc:=c.loc+0,remote:=c.remote+h.amtIn }) hc rfl).trans hbd) (set_get hd hne _) (by have h1:=hcm.1;have h2:=hcm.2.1;have h3:=hdm.1;have h4:=hdm.2.1;have h5:=hhm.1;have h6:=hhm.2.1;unfold A50 at *;unfold i64;omega) (by have h1:=hcm.1;have h2:=hcm.2.1;have h3:=hdm.1;have h4:=hdm.2.1;have h5:=hhm.1;have h6:=hhm.2.1;unfold A50 at *;unfold i64;omega)) (⟨stays.box (Eq.refl 8),trivial⟩) rfl rfl) Z<|lT [0,7,10] [0,1,2,3,4,2007] ?_
    refine nG<|aS<|aF [18]<|pq 0 (qmP rfl)<|pq 1 (qc rfl)<|pq 2 (qf 0 ty.F125_0 rfl)<|pq 3 (qf 3 ty.F27_3 rfl)<|sq 4 (roO ty.kd23 rfl)<|pq 5 (qmX (vI _ _) rfl)<|pq 6 (qmP rfl)<|pq 7 (qc rfl)<|pq 8 (qf 0 ty.F125_0 rfl)<|pq 9 (qf 3 ty.F27_3 rfl)<|sq 10 (roO ty.kd23 rfl)<|vq 11 (rmI rfl)<|vq 12 (rj a ty.el23 rfl (by rw[length_rowsOf,List.length_set,List.length_set];exact(List.getElem?_eq_some_iff.1 hc).1))<|vq 13 (rf 6 ty.F57_6 rfl)<|vq 14 (rd (x:=vI _ _) (rd_load_arr rfl ty.kd3 rfl rfl rfl (rows_some (set_get (set_get_eq hc { c with loc:=c.loc+0,remote:=c.remote+h.amtIn }) (Ne.symm hne) { d with loc:=d.loc+h.amtOut,remote:=d.remote+0 })) rfl) rfl)<|vst 15 rfl (zL Try.func95 (sscDown_e _) rfl) (.inr rfl)<|fT [0,7,110,111,121] [0,1,2,3,4,2007] ?_
    refine vq 16 (rj a ty.el23 rfl (by rw[length_rowsOf,List.length_set,List.length_set];exact(List.getElem?_eq_some_iff.1 hc).1))<|vq 17 (rf 6 ty.F57_6 rfl)<|vst 18 rfl (zQ 1 [.v (.int .i64 (scoreDown c.score))] ty.co3 ty.inf3 rfl (rows_some (set_get (set_get_eq hc { c with loc:=c.loc+0,remote:=c.remote+h.amtIn }) (Ne.symm hne) { d with loc:=d.loc+h.amtOut,remote:=d.remote+0 }))) (.inl rfl)<|fD<|gT ?_
    refine AW.obj 1 (AO.arr 57 7 (rowsOf encChan (updC (updC x.chans h.inn fun c=>{ c with remote:=c.remote+h.amtIn,score:=scoreDown c.score }) h.out fun c=>{ c with loc:=c.loc+h.amtOut }))) (Eq.trans (b:=AO.arr 57 7 ((rowsOf encChan ((x.chans.set a { c with loc:=c.loc+0,remote:=c.remote+h.amtIn }).set b { d with loc:=d.loc+h.amtOut,remote:=d.remote+0 })).set a ((encChan { c with loc:=c.loc+0,remote:=c.remote+h.amtIn,score:=scoreDown c.score }).map PV.v))) rfl (congrArg (AO.arr 57 7) (rows_set.trans (congrArg (rowsOf encChan) ((set_three hne).trans ((by simp only[Int.add_zero]:_=(x.chans.set a { c with remote:=c.remote+h.amtIn,score:=scoreDown c.score }).set b { d with loc:=d.loc+h.amtOut }).trans (set_two' fi.ids hc hd hcid hdid hab (fun c=>{ c with remote:=c.remote+h.amtIn,score:=scoreDown c.score }) (fun d=>{ d with loc:=d.loc+h.amtOut }) (fun _=>rfl)))))))) ?_
    refine aL<|lmP Z<|lf 2 ty.F101_2 Z<|loI ty.kd3 Z<|lf 4 ty.F101_4 Z<|loI ty.kd3 Z ?_
    refine lst (z5a Try.func78 (sline_e _ _ _ _ _ _ _ _ _ _ _ _ _ _ ([]) 0 (LG.nil) (by decide) _ _ _ (Fresh.nil _ _) (rangeA_of hhm.2.1)) (⟨stays.box (Eq.refl 8),trivial⟩) rfl rfl) Z<|nG<|aL<|lmP Z<|lf 2 ty.F101_2 Z<|loI ty.kd3 Z<|lf 4 ty.F101_4 Z<|loI ty.kd3 Z<|lq (rd (x:=vI _ _) (rd_un rfl rfl (fits_i64 (by have h1:=hcm.1;have h2:=hcm.2.1;have h3:=hdm.1;have h4:=hdm.2.1;have h5:=hhm.1;have h6:=hhm.2.1;unfold A50 at *;unfold i64;omega))) rfl) ?_
    refine lst (z5a Try.func78 (sline_e _ _ _ _ _ _ _ _ _ _ _ _ _ _ (addL [] 6 h.out h.amtOut) 1 (LG.nil.add (rangeA_of hhm.2.1)) (by decide) _ _ _ ((Fresh.nil _ _).add (.inl (by decide))) (rangeA_neg hhm.2.1)) (⟨stays.box (Eq.refl 8),trivial⟩) rfl rfl) Z<|lT [] [0,1,2,3,4,2007] ?_
    refine lN ?_
    rw[setK_some hf,show good=false from h4]
    unfold setY
    refine end_go ?_ ⟨rfl,rfl,rfl,rfl,rfl,trivial⟩
    rfl
theorem sland_e(g:Value)(x:Book)(key:Int)(good:Bool)(fi:BookFi x)(hk0:∀h∈x.circles,h.key≠0)(hle:∀h∈x.circles,0≤h.amt∧0≤h.fee∧h.amt+h.fee≤1125899906842624):GC Try.prog 85 [.ptr 0 0 0,int key,boo good] (sIn g x [] 0) (.tup []) (sOut g (landK x key good)):=by
 have sm:=fi.sm
 have hm:x.chans.length≤1000000000:=by have:=sm.lc;omega
 have hlh:=sm.lh
 have hli:=sm.li

 refine GC.intro (rs:=[]) Try.func85 rfl Try.ntmps85 (Nat.le_of_ble_eq_true rfl) trivial ?_
 intro L O w0
 refine sL<|lst (zS 2011 [] ty.el25 ty.ze103 rfl (by simp)) Z<|laO Z<|nA<|lq (rd (x:=.agg [vI _ _,vI _ _,vI _ _,vI _ _,vI _ _]) (rd_build rfl ty.sa103 rfl rfl rfl) rfl)<|lst (zA 2007 ty.ze103 rfl) Z<|lst (zB 2007 ty.co103 ty.inf103 rfl) Z<|nG<|aS<|sL<|lmP Z<|lc Z<|lf 0 ty.F125_0 Z<|lf 5 ty.F27_5 Z<|loO ty.kd25 Z<|lnI ty.sl25 Z<|lmI Z<|nG<|aB ?_
 refine aW [0,1,2,6,7,17,18] [0,1,2,3,4] (D:=Nat) (fun k=>[(19,int (k:Int))]) (fun k=>[(2011,iAr (delI (x.circles.take k) key)),(2007,iBox (fndI (x.circles.take k) key))]) (fun k=>k≤x.circles.length) (fun k=>x.circles.length-k) (0) (Nat.zero_le _) ⟨rfl,trivial⟩ ⟨rfl,rfl,trivial⟩ ?_
 intro k hI
 refine sL<|lbB Z<|nG<|aS ?_
 refine AW.cond rfl ?_ ?_
 ·intro h1
  refine aK<|gT<|aS<|aB<|sL ?_
  have hk:k<x.circles.length:=by simpa[length_rowsOf]using h1
  refine lq (rj k ty.el25 rfl (by rw[length_rowsOf];exact hk))<|lq (rd (x:=.agg [vI _ _,vI _ _,vI _ _,vI _ _,vI _ _]) (rd_load_arr rfl ty.kd103 rfl rfl rfl (row_map hk) rfl) rfl)<|lst (zA 2009 ty.ze103 rfl) Z<|lT [0,1,2,6,7,9,17,18,19,22] [0,1,2,3,4,2007,2009,2011] ?_
  refine lst (zB 2009 ty.co103 ty.inf103 Z) Z<|nA<|lf 0 ty.F103_0 Z<|loI ty.kd3 Z<|lmI Z<|lbB Z<|nG ?_
  refine AW.cond rfl ?_ ?_
  ·intro h2
   refine aL<|loX (.agg [vI _ _,vI _ _,vI _ _,vI _ _,vI _ _]) ty.kd103 Z<|lst (zB 2007 ty.co103 ty.inf103 Z) Z<|lN<|gB<|gT<|aL<|lgI Z<|lmI Z<|nG ?_
   refine⟨k+1,hk,by omega,⟨(iq rfl),trivial⟩,⟨(congrArg iAr (by rw[delI_take hk,if_pos (by simpa using h2),List.append_nil])),(Eq.trans (b:=iBox x.circles[k]) rfl (congrArg iBox (by rw[fndI_take fi.iks hk,if_pos (by simpa using h2)]))),trivial⟩,rfl,rfl⟩
  ·intro h2
   refine aL<|lmO Z<|loX (.agg [vI _ _,vI _ _,vI _ _,vI _ _,vI _ _]) ty.kd103 Z<|lst (zS 2030 (rowsOf encCircle [x.circles[k]]) ty.el25 ty.ze103 rfl) Z<|lst (zP 2011 ty.el25 ty.ze103 ty.by103 rfl (Src.own rfl rfl) (by have:=delI_len (l:=x.circles.take k) (key:=key);simp[rowsOf]at *;omega)) Z<|laO Z<|lN<|gB<|gT<|aL<|lgI Z<|lmI Z<|nG ?_
   refine⟨k+1,hk,by omega,⟨(iq rfl),trivial⟩,⟨(Eq.trans (b:=AO.arr 103 5 (rowsOf encCircle (delI (x.circles.take k) key++[x.circles[k]]))) (congrArg (AO.arr 103 5) (rowsOf_app encCircle _ [_]).symm) (congrArg iAr (by rw[delI_take hk,if_neg (by simpa using h2)]))),(congrArg iBox (by rw[fndI_take fi.iks hk,if_neg (by simpa using h2)])),trivial⟩,rfl,rfl⟩
 ·intro h1
  refine aE<|eT<|eT<|eB<|gT<|aS<|aS ?_
  have hke:k=x.circles.length:=by have h:=h1;simp only[length_rowsOf,decide_eq_false_iff_not]at h;omega
  refine AW.obj 2011 (iAr (delI x.circles key)) (congrArg iAr (by rw[hke,List.take_length])) ?_
  refine AW.obj 2007 (iBox (fndI x.circles key)) (congrArg iBox (by rw[hke,List.take_length])) ?_
  refine aL<|lmP Z<|lf 0 ty.F103_0 Z<|loI ty.kd3 Z<|lbB Z ?_
  refine lst (z5a Try.func76 (scode_e _ _ _ _ _ _ _ _ _ _ _ _ _ _ _ _ _ _ _ ) (⟨stays.box (Eq.refl 8),trivial⟩) rfl rfl) Z<|lT [0,2,6,7,37] [0,1,2,3,4,2007,2011] ?_
  refine nG ?_
  refine AW.cond rfl ?_ ?_
  ·intro h3
   refine aR<|rT ?_
   have hz:(fndI x.circles key).key=0:=by
    have h:=h3
    rcases Classical.em ((fndI x.circles key).key=0)with q|q
    ·exact q
    ·rw[decide_eq_false q]at h
     simp[failC]at h
   rw[landK_none (fndI_no hk0 hz)]
   refine end_ret ?_ ⟨Eq.trans (b:=sBox g x.tick x.next x.wallet _) rfl (congrArg (sBox g x.tick x.next x.wallet) (by rw[decide_eq_true hz];rfl)),rfl,rfl,rfl,rfl,trivial⟩
   rfl
  ·intro h3
   refine aK<|gT<|aS ?_
   have hnz:¬(fndI x.circles key).key=0:=fun q=>by
    have h:=h3
    rw[decide_eq_true q]at h
    simp[failC]at h
   obtain⟨i,hh,hf,hkk⟩:=fndI_yes hnz
   generalize fndI x.circles key=h at *
   subst hkk
   have hhm:=sm.circles h (mem_of_get hh)
   obtain⟨ha,hb,hab⟩:=fi.ich h (mem_of_get hh)
   obtain⟨a,c,hac,hc,hao,hcid⟩:=chan_there ha
   obtain⟨b,d,hbd,hd,hbo,hdid⟩:=chan_there hb
   have hcm:=sm.chans c (mem_of_get hc)
   have hdm:=sm.chans d (mem_of_get hd)
   have hne:a≠b:=idx_ne hc hd (by rw[hcid,hdid];exact hab)
   refine AW.obj 0 (sBox g x.tick x.next x.wallet 0) (Eq.trans (b:=sBox g x.tick x.next x.wallet _) rfl (congrArg (sBox g x.tick x.next x.wallet) (by rw[decide_eq_false hnz];rfl))) ?_
   refine aL<|lmP Z<|lmO Z<|lc Z<|lf 0 ty.F125_0 Z<|lf 5 ty.F27_5 Z<|lst (zB 0 ty.co25 ty.inf25 Z) Z<|nG<|aS ?_
   refine AW.swap 2011 3 ?_
   refine aT [0,2,7] [0,1,2,3,4,2007] ?_
   refine aL<|lf 3 ty.F103_3 Z<|loI ty.kd3 Z<|lf 4 ty.F103_4 Z<|loI ty.kd3 Z ?_
   refine lhI rfl ⟨rfl,fits_i64 (by have h9:=hle h (mem_of_get hh);unfold i64;omega)⟩<|laI Z<|nG<|aS<|sL<|lmB Z<|nG ?_
   refine AW.cond rfl ?_ ?_
   ·intro h4
    refine sL<|lmP Z<|lf 1 ty.F103_1 Z<|loI ty.kd3 Z<|lmI Z ?_
    refine lst (z5a Try.func93 (smove_e _ ({ x with circles:=delI x.circles h.key }) _ _ _ _ _ (hm) a c (hac) (hc) (by have h1:=hcm.1;have h2:=hcm.2.1;have h3:=hdm.1;have h4:=hdm.2.1;have h5:=hhm.1;have h6:=hhm.2;unfold A50 at *;unfold i64;omega) (by have h1:=hcm.1;have h2:=hcm.2.1;have h3:=hdm.1;have h4:=hdm.2.1;have h5:=hhm.1;have h6:=hhm.2;unfold A50 at *;unfold i64;omega)) (⟨stays.box (Eq.refl 8),trivial⟩) rfl rfl) Z<|nA<|lmP Z<|lf 2 ty.F103_2 Z<|loI ty.kd3 Z<|lf 3 ty.F103_3 Z<|loI ty.kd3 rfl ?_
    refine lst (z5a Try.func93 (smove_e _ ({ x with circles:=delI x.circles h.key,chans:=x.chans.set a { c with loc:=c.loc+0,remote:=c.remote+(h.amt+h.fee) } }) _ _ _ _ _ ((by rw[List.length_set];exact hm)) b d ((chanAt_set (c':={ c with loc:=c.loc+0,remote:=c.remote+(h.amt+h.fee) }) hc rfl).trans hbd) (set_get hd hne _) (by have h1:=hcm.1;have h2:=hcm.2.1;have h3:=hdm.1;have h4:=hdm.2.1;have h5:=hhm.1;have h6:=hhm.2;unfold A50 at *;unfold i64;omega) (by have h1:=hcm.1;have h2:=hcm.2.1;have h3:=hdm.1;have h4:=hdm.2.1;have h5:=hhm.1;have h6:=hhm.2;unfold A50 at *;unfold i64;omega)) (⟨stays.box (Eq.refl 8),trivial⟩) rfl rfl) Z<|lT [0,7,10] [0,1,2,3,4,2007] ?_
    refine nG ?_
    refine AW.obj 1 (AO.arr 57 7 (rowsOf encChan (updC (updC x.chans h.frm fun c=>{ c with remote:=c.remote+(h.amt+h.fee) }) h.to fun c=>{ c with loc:=c.loc+h.amt }))) (congrArg (fun l=>AO.arr 57 7 (rowsOf encChan l)) ((by simp only[Int.add_zero]:_=(x.chans.set a { c with remote:=c.remote+(h.amt+h.fee) }).set b { d with loc:=d.loc+h.amt }).trans (set_two' fi.ids hc hd hcid hdid hab (fun c=>{ c with remote:=c.remote+(h.amt+h.fee) }) (fun d=>{ d with loc:=d.loc+h.amt }) (fun _=>rfl)))) ?_
    refine sL<|lmP Z<|lf 4 ty.F103_4 Z<|loI ty.kd3 Z ?_
    refine lst (z5a Try.func78 (sline_e _ _ _ _ _ _ _ _ _ _ _ _ _ _ ([]) 0 (LG.nil) (by decide) _ _ _ (Fresh.nil _ _) (inB_true.2 (by have h9:=hle h (mem_of_get hh);omega))) (⟨stays.box (Eq.refl 8),trivial⟩) rfl rfl) Z<|nG<|aL<|lmP Z<|lf 2 ty.F103_2 Z<|loI ty.kd3 Z<|lf 3 ty.F103_3 Z<|loI ty.kd3 rfl ?_
    refine lst (z5a Try.func78 (sline_e _ _ _ _ _ _ _ _ _ _ _ _ _ _ (addL [] 4 0 h.fee) 1 (LG.nil.add (inB_true.2 (by have h9:=hle h (mem_of_get hh);omega))) (by decide) _ _ _ ((Fresh.nil _ _).add (.inl (by decide))) (inB_true.2 (by have h9:=hle h (mem_of_get hh);omega))) (⟨stays.box (Eq.refl 8),trivial⟩) rfl rfl) Z<|nG<|aL<|lmP Z<|lf 1 ty.F103_1 Z<|loI ty.kd3 Z<|lmI Z<|lq (rd (x:=vI _ _) (rd_un rfl rfl (fits_i64 (by have h9:=hle h (mem_of_get hh);unfold i64;omega))) rfl)<|lsN 90 (-h.amt-h.fee) rfl (by omega) ?_
    refine lst (z5a Try.func78 (sline_e _ _ _ _ _ _ _ _ _ _ _ _ _ _ (addL (addL [] 4 0 h.fee) 6 h.to h.amt) 2 ((LG.nil.add (inB_true.2 (by have h9:=hle h (mem_of_get hh);omega))).add (inB_true.2 (by have h9:=hle h (mem_of_get hh);omega))) (by decide) _ _ _ (((Fresh.nil _ _).add (.inl (by decide))).add (.inl (by decide))) (inB_true.2 (by have h9:=hle h (mem_of_get hh);omega))) (⟨stays.box (Eq.refl 8),trivial⟩) rfl rfl) Z<|lT [] [0,1,2,3,4,2007] ?_
    refine lN ?_
    rw[landK_some hf,show good=true from h4]
    unfold landY
    refine end_go ?_ ⟨rfl,rfl,rfl,rfl,rfl,trivial⟩
    rfl
   ·intro h4
    refine sL<|lmP Z<|lf 1 ty.F103_1 Z<|loI ty.kd3 Z<|lmI Z ?_
    refine lst (z5a Try.func93 (smove_e _ ({ x with circles:=delI x.circles h.key }) _ _ _ _ _ (hm) a c (hac) (hc) (by have h1:=hcm.1;have h2:=hcm.2.1;have h3:=hdm.1;have h4:=hdm.2.1;have h5:=hhm.1;have h6:=hhm.2;unfold A50 at *;unfold i64;omega) (by have h1:=hcm.1;have h2:=hcm.2.1;have h3:=hdm.1;have h4:=hdm.2.1;have h5:=hhm.1;have h6:=hhm.2;unfold A50 at *;unfold i64;omega)) (⟨stays.box (Eq.refl 8),trivial⟩) rfl rfl) Z<|nA<|lmP Z<|lf 2 ty.F103_2 Z<|loI ty.kd3 Z<|lf 3 ty.F103_3 Z<|loI ty.kd3 rfl ?_
    refine lst (z5a Try.func93 (smove_e _ ({ x with circles:=delI x.circles h.key,chans:=x.chans.set a { c with loc:=c.loc+(h.amt+h.fee),remote:=c.remote+0 } }) _ _ _ _ _ ((by rw[List.length_set];exact hm)) b d ((chanAt_set (c':={ c with loc:=c.loc+(h.amt+h.fee),remote:=c.remote+0 }) hc rfl).trans hbd) (set_get hd hne _) (by have h1:=hcm.1;have h2:=hcm.2.1;have h3:=hdm.1;have h4:=hdm.2.1;have h5:=hhm.1;have h6:=hhm.2;unfold A50 at *;unfold i64;omega) (by have h1:=hcm.1;have h2:=hcm.2.1;have h3:=hdm.1;have h4:=hdm.2.1;have h5:=hhm.1;have h6:=hhm.2;unfold A50 at *;unfold i64;omega)) (⟨stays.box (Eq.refl 8),trivial⟩) rfl rfl) Z<|nG ?_
    refine AW.obj 1 (AO.arr 57 7 (rowsOf encChan (updC (updC x.chans h.frm fun c=>{ c with loc:=c.loc+(h.amt+h.fee) }) h.to fun c=>{ c with remote:=c.remote+h.amt }))) (congrArg (fun l=>AO.arr 57 7 (rowsOf encChan l)) ((by simp only[Int.add_zero]:_=(x.chans.set a { c with loc:=c.loc+(h.amt+h.fee) }).set b { d with remote:=d.remote+h.amt }).trans (set_two' fi.ids hc hd hcid hdid hab (fun c=>{ c with loc:=c.loc+(h.amt+h.fee) }) (fun d=>{ d with remote:=d.remote+h.amt }) (fun _=>rfl)))) ?_
    refine aL<|lmP Z<|lf 1 ty.F103_1 Z<|loI ty.kd3 Z<|lmI Z ?_
    refine lst (z5a Try.func78 (sline_e _ _ _ _ _ _ _ _ _ _ _ _ _ _ ([]) 0 (LG.nil) (by decide) _ _ _ (Fresh.nil _ _) (inB_true.2 (by have h9:=hle h (mem_of_get hh);omega))) (⟨stays.box (Eq.refl 8),trivial⟩) rfl rfl) Z<|lT [0,7,10] [0,1,2,3,4,2007] ?_
    refine nG<|aL<|lmP Z<|lf 1 ty.F103_1 Z<|loI ty.kd3 Z<|lmI Z<|lq (rd (x:=vI _ _) (rd_un rfl rfl (fits_i64 (by have h9:=hle h (mem_of_get hh);unfold i64;omega))) rfl)<|lsN 90 (-h.amt-h.fee) rfl (by omega) ?_
    refine lst (z5a Try.func78 (sline_e _ _ _ _ _ _ _ _ _ _ _ _ _ _ (addL [] 6 h.frm (h.amt+h.fee)) 1 (LG.nil.add (inB_true.2 (by have h9:=hle h (mem_of_get hh);omega))) (by decide) _ _ _ ((Fresh.nil _ _).add (.inl (by decide))) (inB_true.2 (by have h9:=hle h (mem_of_get hh);omega))) (⟨stays.box (Eq.refl 8),trivial⟩) rfl rfl) Z<|lN ?_
    rw[landK_some hf,show good=false from h4]
    unfold landY
    refine end_go ?_ ⟨rfl,rfl,rfl,rfl,rfl,trivial⟩
    rfl
theorem stick_e(g:Value)(x:Book)(sm:BookSm x)(ht:x.tick≠1125899906842624):GC Try.prog 83 [.ptr 0 0 0] (sIn g x [] 0) (.tup []) (sOut g (tickR x)):=by
 have bh:=sm.lh
 have bc:=sm.lc
 refine GC.intro (rs:=[]) Try.func83 rfl Try.ntmps83 (Nat.le_of_ble_eq_true rfl) trivial ?_
 intro L O w0
 refine aS<|sL<|lmP Z<|lmP Z<|lc Z<|lf 0 ty.F125_0 Z<|lf 0 ty.F27_0 Z<|loI ty.kd3 Z<|lbB Z<|lsB 10 false rfl (by simpa using ht) ?_
 refine lst (z5a Try.func76 (scode_e _ _ _ _ _ _ _ _ _ _ _ _ _ _ _ _ _ _ _ ) (⟨stays.box (Eq.refl 8),trivial⟩) rfl rfl) Z<|lsB 11 false rfl (by rfl)<|nG<|aN Z<|aK<|gT<|aS ?_
 refine AW.obj 0 (sBox g x.tick x.next x.wallet 0) rfl ?_
 refine aL<|lmP Z<|lc Z<|lf 0 ty.F125_0 Z<|lf 0 ty.F27_0 Z<|loI ty.kd3 Z ?_
 refine lhI rfl ⟨rfl,fits_i64 (by have:=sm.tick;unfold A50 at this;unfold i64;omega)⟩<|lc Z<|lf 0 ty.F125_0 Z<|lf 0 ty.F27_0 Z<|lst (zB 0 ty.co3 ty.inf3 rfl) Z<|lT [0] [0,1,2,3,4] ?_
 refine nG<|aS<|sL<|lmP Z<|lc Z<|lf 0 ty.F125_0 Z<|lf 4 ty.F27_4 Z<|loO ty.kd24 Z<|lnI ty.sl24 Z<|lmI Z<|nG<|aB ?_
 refine aW [0,26] [0,1,3,4] (D:=Nat) (fun k=>[(27,int (k:Int))]) (fun k=>[(2,hAr (mapTo ageH k x.htlcs))]) (fun k=>k≤x.htlcs.length) (fun k=>x.htlcs.length-k) (0) (Nat.zero_le _) ⟨rfl,trivial⟩ ⟨(congrArg hAr (mapTo_zero ageH x.htlcs).symm),trivial⟩ ?_
 intro k hI
 refine sL<|lbB Z<|nG<|aS ?_
 refine AW.cond rfl ?_ ?_
 ·intro h1
  refine aK<|gT<|aS<|aB<|sL<|lmI Z<|laI Z<|nA<|lmP Z<|lc Z<|lf 0 ty.F125_0 Z<|lf 4 ty.F27_4 Z<|loO ty.kd24 Z<|lmI Z ?_
  have hk:k<x.htlcs.length:=by simpa[length_rowsOf]using h1
  have hhm:=sm.htlcs _ (List.getElem_mem hk)
  refine lq (rj k ty.el24 rfl (by rw[length_rowsOf,mapTo_len _ _ _ (Nat.le_of_lt hk)];exact hk))<|lf 6 ty.F101_6 Z<|lq (rd (x:=vI _ _) (rd_load_arr rfl ty.kd3 rfl rfl rfl (rows_some (mapTo_get ageH hk)) rfl) rfl)<|lbB Z<|nG ?_
  refine AW.cond rfl ?_ ?_
  ·intro h2
   refine aL<|lmP Z<|lc Z<|lf 0 ty.F125_0 Z<|lf 4 ty.F27_4 Z<|loO ty.kd24 Z<|lmI Z<|lq (rj k ty.el24 rfl (by rw[length_rowsOf,mapTo_len _ _ _ (Nat.le_of_lt hk)];exact hk))<|lf 6 ty.F101_6 Z<|lq (rd (x:=vI _ _) (rd_load_arr rfl ty.kd3 rfl rfl rfl (rows_some (mapTo_get ageH hk)) rfl) rfl) ?_
   refine lhI rfl ⟨rfl,fits_i64 (by have:=hhm.2.2.1;have:=hhm.2.2.2.1;unfold i64;omega)⟩<|lT [0,26,27,44,45,49] [0,1,2,3,4] ?_
   refine lq (rj k ty.el24 rfl (by rw[length_rowsOf,mapTo_len _ _ _ (Nat.le_of_lt hk)];exact hk))<|lf 6 ty.F101_6 Z<|lst (zQ 2 [.v (.int .i64 (x.htlcs[k].age+1))] ty.co3 ty.inf3 rfl (rows_some (mapTo_get ageH hk))) Z<|lN<|gB<|gT ?_
   refine AW.obj 2 (hAr (mapTo ageH (k+1) x.htlcs)) (Eq.trans (b:=AO.arr 101 7 ((rowsOf encHtlc (mapTo ageH k x.htlcs)).set k ((encHtlc { x.htlcs[k]with age:=x.htlcs[k].age+1 }).map PV.v))) rfl (congrArg (AO.arr 101 7) (rows_set.trans (congrArg (rowsOf encHtlc) (by rw[←mapTo_set _ hk];unfold ageH;rw[show min (x.htlcs[k].age+1) 1125899906842624=x.htlcs[k].age+1 by have h:=h2;simp only[decide_eq_true_eq]at h;omega]))))) ?_
   refine aL<|lgI Z<|lmI Z<|nG ?_
   refine⟨k+1,hk,by omega,⟨(iq rfl),trivial⟩,⟨rfl,trivial⟩,rfl,rfl⟩
  ·intro h2
   refine aK<|gB<|gT<|aL<|lgI Z<|lmI Z<|nG ?_
   refine⟨k+1,hk,by omega,⟨(iq rfl),trivial⟩,⟨(congrArg hAr (mapTo_skip ageH hk (by have h:=h2;have q:=hhm.2.2.2.1;simp only[decide_eq_false_iff_not]at h;unfold ageH;rw[show min (x.htlcs[k].age+1) 1125899906842624=x.htlcs[k].age by omega]))),trivial⟩,rfl,rfl⟩
 ·intro h1
  refine aE<|eT<|eT<|eB<|gA<|lmP Z<|lc Z<|lf 0 ty.F125_0 Z<|lf 3 ty.F27_3 Z<|loO ty.kd23 Z<|lnI ty.sl23 Z<|lmI Z<|nG<|aB ?_
  have hkeh:k=x.htlcs.length:=by have h:=h1;simp only[length_rowsOf,decide_eq_false_iff_not]at h;omega
  refine AW.obj 2 (hAr (x.htlcs.map ageH)) (congrArg hAr (by rw[hkeh,mapTo_all])) ?_
  refine aW [0,58] [0,2,3,4] (D:=Nat) (fun j=>[(59,int (j:Int))]) (fun j=>[(1,.arr 57 7 (rowsOf encChan (mapTo (fadeC x.tick) j x.chans)))]) (fun j=>j≤x.chans.length) (fun j=>x.chans.length-j) (0) (Nat.zero_le _) ⟨rfl,trivial⟩ ⟨(congrArg (fun l=>AO.arr 57 7 (rowsOf encChan l)) (mapTo_zero (fadeC x.tick) x.chans).symm),trivial⟩ ?_
  intro j hI
  refine sL<|lbB Z<|nG<|aS ?_
  refine AW.cond rfl ?_ ?_
  ·intro h3
   refine aK<|gT<|aS<|aB<|sL ?_
   have hj:j<x.chans.length:=by simpa[length_rowsOf]using h3
   have hcm:=sm.chans _ (List.getElem_mem hj)
   refine lmI Z<|laI Z<|nA<|lmP Z<|lc Z<|lf 0 ty.F125_0 Z<|lf 0 ty.F27_0 Z<|loI ty.kd3 Z ?_
   refine lhI rfl ⟨rfl,by decide⟩<|lbB Z<|nG ?_
   refine AW.cond rfl ?_ ?_
   ·intro h4
    refine aF [18]<|pq 0 (qmP Z)<|pq 1 (qc Z)<|pq 2 (qf 0 ty.F125_0 Z)<|pq 3 (qf 3 ty.F27_3 Z)<|sq 4 (roO ty.kd23 Z)<|pq 5 (qmX (vI _ _) Z)<|fT [0,3,58,59,73,74] [0,1,2,3,4] ?_
    refine pq 6 (qmP rfl)<|pq 7 (qc rfl)<|pq 8 (qf 0 ty.F125_0 rfl)<|pq 9 (qf 3 ty.F27_3 rfl)<|sq 10 (roO ty.kd23 rfl)<|vq 11 (rmI rfl)<|vq 12 (rj j ty.el23 rfl (by rw[length_rowsOf,mapTo_len _ _ _ (Nat.le_of_lt hj)];exact hj))<|vq 13 (rf 6 ty.F57_6 rfl)<|vq 14 (rd (x:=vI _ _) (rd_load_arr rfl ty.kd3 rfl rfl rfl (rows_some (mapTo_get _ hj)) rfl) rfl)<|vst 15 rfl (zL Try.func96 (sscFade_e _) rfl) (.inr rfl)<|vq 16 (rj j ty.el23 rfl (by rw[length_rowsOf,mapTo_len _ _ _ (Nat.le_of_lt hj)];exact hj))<|vq 17 (rf 6 ty.F57_6 rfl)<|vst 18 rfl (zQ 1 [.v (.int .i64 (fade x.chans[j].score))] ty.co3 ty.inf3 rfl (rows_some (mapTo_get _ hj))) (.inl rfl)<|fD<|gB<|gT ?_
    refine AW.obj 1 (.arr 57 7 (rowsOf encChan (mapTo (fadeC x.tick) (j+1) x.chans))) (Eq.trans (b:=AO.arr 57 7 ((rowsOf encChan (mapTo (fadeC x.tick) j x.chans)).set j ((encChan { x.chans[j]with score:=fade x.chans[j].score }).map PV.v))) rfl (congrArg (AO.arr 57 7) (rows_set.trans (congrArg (rowsOf encChan) (by rw[←mapTo_set _ hj];unfold fadeC;rw[if_pos (by simpa using h4)]))))) ?_
    refine aL<|lgI Z<|lmI Z<|nG ?_
    refine⟨j+1,hj,by omega,⟨(iq rfl),trivial⟩,⟨rfl,trivial⟩,rfl,rfl⟩
   ·intro h4
    refine aK<|gB<|gT<|aL<|lgI Z<|lmI Z<|nG ?_
    refine⟨j+1,hj,by omega,⟨(iq rfl),trivial⟩,⟨(congrArg (fun l=>AO.arr 57 7 (rowsOf encChan l)) (mapTo_skip (fadeC x.tick) hj (if_neg (by simpa using h4)))),trivial⟩,rfl,rfl⟩
  ·intro h3
   refine aE<|eT<|eT<|eB ?_
   refine end_go ?_ ⟨rfl,(congrArg (fun l=>AO.arr 57 7 (rowsOf encChan l)) (by rw[show j=x.chans.length by have h:=h3;simp only[length_rowsOf,decide_eq_false_iff_not]at h;omega,mapTo_all];rfl)),rfl,rfl,rfl,trivial⟩
   rfl

theorem addOk_over{a b:Int}(ha:0≤a∧a≤1125899906842624)(hb:0≤b∧b≤1125899906842624):addOk a b=!decide (1125899906842624<a+b):=by
 unfold addOk
 rw[amtOk_true.2 ha,amtOk_true.2 hb,Bool.true_and,Bool.true_and]
 refine Bool.eq_iff_iff.2 ?_
 rw[amtOk_true]
 simp
 omega
theorem keys_nz{x:Book}(h:bookOk x=true):(∀h∈x.htlcs,h.key≠0)∧∀h∈x.circles,h.key≠0:=by
 obtain⟨_,_,_,_,h5,_⟩:=bookOk_parts h
 have hk:=(parts_all h5).2.2.2.2
 have key:∀n∈keysOf x,n≠0:=fun n hn=>by
  obtain⟨j,hj,rfl⟩:=List.getElem_of_mem hn
  have:=List.all_eq_true.1 hk j (by simpa using hj)
  unfold keyAt at this
  simp only[Bool.and_eq_true]at this
  intro q
  have h1:=this.1
  simp[hj,q,keyOk,inB]at h1
 unfold keysOf at key
 exact⟨fun y hy=>key _ (List.mem_append_left _ (List.mem_map_of_mem hy)),fun y hy=>key _ (List.mem_append_right _ (List.mem_map_of_mem hy))⟩
theorem over_1{x:Book}{e:Event}(hn:x.next≠1125899906842624)(hk:e.kind=1):overB x e=decide (1125899906842624<x.wallet+e.amt):=by unfold overB;rw[if_neg hn,if_pos hk]
theorem over_2{x:Book}{e:Event}(hn:x.next≠1125899906842624)(hk:e.kind=2):overB x e=decide (1125899906842624<e.amt+e.fee):=by unfold overB;simp[hn,hk]
theorem over_3n{x:Book}{e:Event}(hn:x.next≠1125899906842624)(hk:e.kind=3)(hc:chanAt x.chans e.ch=-1):overB x e=false:=by unfold overB;simp[hn,hk,hc]
theorem over_3s{x:Book}{e:Event}{i:Nat}{c:Chan}(hn:x.next≠1125899906842624)(hk:e.kind=3)(hc:chanAt x.chans e.ch=(i:Int))(ho:chanOr x.chans e.ch=c):overB x e=decide (1125899906842624<x.wallet+c.loc-e.fee):=by unfold overB;simp[hn,hk,hc,ho]
theorem over_8{x:Book}{e:Event}(hn:x.next≠1125899906842624)(hk:e.kind=8):overB x e=decide (x.tick=1125899906842624):=by unfold overB;simp[hn,hk]
theorem over_o{x:Book}{e:Event}(hn:x.next≠1125899906842624)(h1:¬e.kind=1)(h2:¬e.kind=2)(h3:¬e.kind=3)(h8:¬e.kind=8):overB x e=false:=by unfold overB;simp[hn,h1,h2,h3,h8]
def spR(x:Book)(e:Event):WR:=if overB x e=true then ⟨x,[],2⟩else workR x e
theorem spR_over{x:Book}{e:Event}(h:overB x e=true):(⟨x,[],2⟩:WR)=spR x e:=by unfold spR;rw[if_pos h]
theorem spR_work{x:Book}{e:Event}(h:overB x e=false):workR x e=spR x e:=by unfold spR;rw[if_neg (by simp[h])]
theorem spR_next(x:Book)(e:Event):(spR x e).b.next=x.next:=by unfold spR;split<;>first|rfl|exact workR_next x e
theorem applyC_sp{x:Book}{e:Event}(h:(bookOk x&&eventOk e)=true):applyC x e=(spR x e).c:=by
 unfold applyC spR
 rw[if_pos h]
 split<;>rfl
theorem spR_c{x:Book}{e:Event}(h:(spR x e).c=0):overB x e=false∧spR x e=workR x e:=by
 unfold spR at *
 split at h
 ·exact absurd h (by show ¬((2:Int)=0);decide)
 ·rename_i q
  exact⟨by simpa using q,if_neg q⟩
theorem sp_next{x:Book}{e:Event}(h:x.next=1125899906842624):overB x e=true:=by unfold overB;rw[if_pos h]
theorem sopen2_e(g:Value)(x:Book)(e:Event)(hsum:addOk e.amt e.fee=false):GC Try.prog 79 [.ptr 0 0 0,evV e] (sIn g x [] 0) (.tup []) (sIn g x [] 2):=by
 refine GC.intro (rs:=[]) Try.func79 rfl Try.ntmps79 (Nat.le_of_ble_eq_true rfl) trivial ?_
 intro L O w0
 refine sL<|lst (zX 2003 Z) Z<|nA<|lf 4 ty.F111_4 Z<|loI ty.kd3 Z<|lf 5 ty.F111_5 Z<|loI ty.kd3 Z<|lst (zL Try.func77 (saddAmt_e _ _) Z) Z<|lmX (.tup [vI _ _,vB _]) Z<|lxI Z<|lxB Z<|lsB 18 false Z hsum<|laI Z<|laZ Z<|nG<|aS<|aS<|aF [3,23,35]<|pq 0 (qmP Z)<|vq 1 (rmZ Z)<|vq 2 (ruT Z) ?_
 refine vst 3 rfl (z5a Try.func76 (scode_e _ _ _ _ _ _ _ _ _ _ _ _ _ _ _ _ _ _ _ ) (⟨stays.box (Eq.refl 8),trivial⟩) rfl rfl) (.inl rfl)<|fsB 22 true rfl (by simp[failC])<|fT [0,3,4,22] [0,1,2,3,4,2003] ?_
 refine vq 4 (rmT Z)<|pno 5 Z<|pno 6 Z<|pno 7 Z<|pno 8 Z<|pno 9 Z<|vno 10 Z<|vno 11 Z<|vno 12 Z<|vno 13 Z<|vno 14 Z<|vno 15 Z<|vno 16 Z<|vno 17 Z<|vno 18 Z<|vno 19 Z<|vno 20 Z<|vno 21 Z<|vno 22 Z<|vno 23 Z<|vq 24 (rkT Z)<|vq 25 (rmT Z)<|pno 26 Z<|pno 27 Z<|pno 28 Z<|pno 29 Z<|pno 30 Z<|pno 31 Z<|vno 32 Z<|vno 33 Z ?_
 refine vno 34 Z<|vno 35 Z<|vq 36 (rkT Z)<|fD<|gT<|aY Z<|aR<|rT ?_
 refine end_ret ?_ ⟨rfl,rfl,rfl,rfl,rfl,trivial⟩
 rfl
theorem stick2_e(g:Value)(x:Book)(ht:x.tick=1125899906842624):GC Try.prog 83 [.ptr 0 0 0] (sIn g x [] 0) (.tup []) (sIn g x [] 2):=by
 refine GC.intro (rs:=[]) Try.func83 rfl Try.ntmps83 (Nat.le_of_ble_eq_true rfl) trivial ?_
 intro L O w0
 refine aS<|sL<|lmP Z<|lmP Z<|lc Z<|lf 0 ty.F125_0 Z<|lf 0 ty.F27_0 Z<|loI ty.kd3 Z<|lbB Z<|lsB 10 true rfl (by simpa using ht) ?_
 refine lst (z5a Try.func76 (scode_e _ _ _ _ _ _ _ _ _ _ _ _ _ _ _ _ _ _ _ ) (⟨stays.box (Eq.refl 8),trivial⟩) rfl rfl) Z<|lsB 11 true rfl (by rfl)<|nG<|aY Z<|aR<|rT ?_
 refine end_ret ?_ ⟨rfl,rfl,rfl,rfl,rfl,trivial⟩
 rfl
theorem sapply_e(x:Book)(e:Event)(hw:BookWf x):GX Try.prog 70 [bookV x,evV e] [] (appR x e):=by
 refine GX.intro (rs:=[.cell 4 27 (some 6),.cell 5 114 (some 2),.tmp 6]) Try.func70 rfl Try.ntmps70 (Nat.le_of_ble_eq_true rfl) ⟨rfl,rfl,ty.kd27,rfl,rfl,ty.kd114,rfl,trivial⟩ ?_
 intro L O w0
 refine sL<|lst (zX 2002 Z) Z<|lst (zX 2003 Z) Z<|lst (zA 2004 ty.ze27 Z) Z<|lst (zA 2005 ty.ze114 Z) Z<|laI Z<|nG<|aS<|sL<|loX (.agg [vI _ _,vI _ _,vI _ _,vL _ _ _,vL _ _ _,vL _ _ _]) ty.kd27 Z<|lst (zL Try.func44 (spec_BookOk_e x hw) Z) Z<|luB Z<|lmB Z ?_
 refine AL.bool (t:=16) rfl ?_ ?_
 ·intro h1
  refine lno Z<|lno Z<|lno Z<|lkT Z<|nG<|aY Z<|sL<|lq (rd (x:=.agg [vI _ _,vI _ _,vI _ _,vV _,vV _,vV _]) (rd_build Z ty.sa27 Z Z Z) Z)<|lq (rd (x:=.agg [vI _ _,vV _]) (rd_build Z ty.sa114 Z Z Z) Z)<|lst (zB 2004 ty.co27 ty.inf27 Z) Z<|lst (zB 2005 ty.co114 ty.inf114 Z) Z<|lT [2,3,4,5,6] [2002,2003,2004,2005] ?_
  refine laI Z<|nG<|aR<|rT ?_
  have hbe:(bookOk x&&eventOk e)=false:=by simp_all
  have hc1:=applyC_bad hbe
  refine end_xret (.tup [zBookV,zPostV,int 1]) [] ?_ rfl trivial
  exact .inl ⟨by rw[hc1];decide,by rw[hc1],rfl⟩
 ·intro h1
  refine loX (.agg [vI _ _,vI _ _,vI _ _,vI _ _,vI _ _,vI _ _,vB _]) ty.kd111 Z<|lst (zL Try.func75 (seventOk_e e) Z) Z<|luB Z<|lkB Z<|nG ?_
  refine AW.cond rfl ?_ ?_
  ·intro h2
   refine sL<|lq (rd (x:=.agg [vI _ _,vI _ _,vI _ _,vV _,vV _,vV _]) (rd_build Z ty.sa27 Z Z Z) Z)<|lq (rd (x:=.agg [vI _ _,vV _]) (rd_build Z ty.sa114 Z Z Z) Z)<|lst (zB 2004 ty.co27 ty.inf27 Z) Z<|lst (zB 2005 ty.co114 ty.inf114 Z) Z<|laI Z<|nG<|aR<|rT ?_
   have hbe:(bookOk x&&eventOk e)=false:=by simp_all
   have hc1:=applyC_bad hbe
   refine end_xret (.tup [zBookV,zPostV,int 1]) [] ?_ rfl trivial
   exact .inl ⟨by rw[hc1];decide,by rw[hc1],rfl⟩
  ·intro h2
   refine aK<|gA ?_
   have hbe:(bookOk x&&eventOk e)=true:=by simp_all
   have hbk:bookOk x=true:=by simp_all
   have hev:eventOk e=true:=by simp_all
   have fi:=bookOk_fi hbk
   have sm:=fi.sm
   obtain⟨es,an0,fn0⟩:=evSm_of hev
   have hm:x.chans.length≤1000000000:=by have:=sm.lc;omega
   obtain⟨h_t,h_w,h_n,h_len,h_pt,h_ch⟩:=bookOk_parts hbk
   have hnx:=inB_true.1 h_n
   have hwl:=amtOk_true.1 h_w
   have hcs:=applyC_sp hbe
   have hkk:=ev_kind hev
   have hea:=evAmt hev
   refine loX (.agg [vI _ _,vI _ _,vI _ _,vL _ _ _,vL _ _ _,vL _ _ _]) ty.kd27 Z<|lst (zC [(2003,1),(2008,2),(2013,3)] [1,2,3] [] Try.func69 (scopy_e x (by have:=sm.lc;have:=sm.lh;have:=sm.li;omega)) (trivial) rfl rfl) Z<|lq (rd (x:=.agg [vI _ _,vI _ _,vI _ _,.own _,.own _,.own _,vV _,vI _ _]) (rd_build rfl ty.sa125 rfl rfl rfl) rfl)<|lst (zX 0 rfl) Z<|lT [2,3,4,5,6,26] [0,1,2,3,2002,2003,2004,2005] ?_
   refine laP Z<|nG ?_
   refine AW.adoptB 4 0 6 139 3 rfl (by decide) rfl ?_
   refine AW.pinB 0 rfl ?_
   intro gw
   refine AW.obj 4 (lAr []) rfl ?_
   refine sL<|lmP Z<|lf 1 ty.F27_1 Z<|loI ty.kd3 Z<|lbB Z ?_
   refine lst (z5a Try.func76 (scode_e _ _ _ _ _ _ _ _ _ _ _ _ _ _ _ _ _ _ _ ) (⟨stays.box (Eq.refl 8),trivial⟩) rfl rfl) Z<|nG ?_
   refine aJ [4,5,6,7] [2002,2003,2004,2005] (D:=Unit) (fun jd=>[]) (fun jd=>[(0,sBox gw (spR x e).b.tick (spR x e).b.next (spR x e).b.wallet (spR x e).c),(1,.arr 57 7 (rowsOf encChan (spR x e).b.chans)),(2,hAr (spR x e).b.htlcs),(3,iAr (spR x e).b.circles),(4,lAr (spR x e).l)]) (fun jd=>True) ?_ ?_
   ·refine sL<|lmP Z<|lc Z<|lf 7 ty.F125_2 Z<|loI ty.kd3 Z<|lbB Z<|nG ?_
    refine AW.cond rfl ?_ ?_
    ·intro h3
     refine aS ?_
     have hnn:x.next≠1125899906842624:=fun q=>by
      have h:=h3
      rw[decide_eq_true q]at h
      simp[failC]at h
     refine AW.obj 0 (sBox gw x.tick x.next x.wallet 0) (Eq.trans (b:=sBox gw x.tick x.next x.wallet _) rfl (congrArg (sBox gw x.tick x.next x.wallet) (by rw[decide_eq_false hnn];rfl))) ?_
     refine aL<|lf 0 ty.F111_0 Z<|loI ty.kd3 Z<|nG<|aB<|sL<|lbB Z<|laB Z<|nG ?_
     refine AW.cond rfl ?_ ?_
     ·intro h4
      refine sL<|lf 2 ty.F27_2 Z<|loI ty.kd3 Z<|lf 4 ty.F111_4 Z<|loI ty.kd3 Z<|lst (zL Try.func77 (saddAmt_e _ _) Z) Z<|lT [3,4,5,6,7,46] [0,1,2,3,4,2002,2003,2004,2005] ?_
      refine lmX (.tup [vI _ _,vB _]) Z<|lxI Z<|lxB Z<|laI Z<|laB Z<|nA<|lmP Z<|lmB Z<|luB Z ?_
      refine lst (z5a Try.func76 (scode_e _ _ _ _ _ _ _ _ _ _ _ _ _ _ _ _ _ _ _ ) (⟨stays.box (Eq.refl 8),trivial⟩) rfl rfl) Z<|luB Z<|nG ?_
      refine AW.cond rfl ?_ ?_
      ·intro h5
       refine aS ?_
       have haO:addOk x.wallet e.amt=true:=by
        have h:=h5
        rcases q:addOk x.wallet e.amt with _|_
        ·rw[q]at h;simp[failC]at h
        ·rfl
       refine aL<|lmP Z<|lmI Z<|lsN 55 (x.wallet+e.amt) Z (addV_yes haO)<|lc Z<|lf 0 ty.F125_0 Z<|lf 2 ty.F27_2 Z<|lst (zB 0 ty.co3 ty.inf3 Z) Z<|lT [3,4,5,6,7] [0,1,2,3,4,2002,2003,2004,2005] ?_
       refine nA<|lmP Z<|lf 4 ty.F111_4 Z<|loI ty.kd3 Z ?_
       refine lst (z5a Try.func78 (sline_e _ _ _ _ _ _ _ _ _ _ _ _ _ _ ([]) 0 (LG.nil) (by decide) _ _ _ (Fresh.nil _ _) (rangeA_of es.amt)) (⟨stays.box (Eq.refl 8),trivial⟩) rfl rfl) Z<|nG<|aL<|lmP Z<|lf 4 ty.F111_4 Z<|loI ty.kd3 Z<|lq (rd (x:=vI _ _) (rd_un rfl rfl (fits_i64 (by have:=es.amt;unfold A50 at *;unfold i64;omega))) rfl) ?_
       refine lst (z5a Try.func78 (sline_e _ _ _ _ _ _ _ _ _ _ _ _ _ _ (addL [] 1 0 e.amt) 1 (LG.nil.add (rangeA_of es.amt)) (by decide) _ _ _ ((Fresh.nil _ _).add (.inl (by decide))) (rangeA_neg es.amt)) (⟨stays.box (Eq.refl 8),trivial⟩) rfl rfl) Z<|lN<|gB<|gT ?_
       have hkd:e.kind=1:=by simpa using h4
       have hov:overB x e=false:=by
        have h:=h5
        rw[over_1 hnn hkd]
        rw[addOk_over hwl ⟨an0,(amtOk_true.1 hea.1).2⟩]at h
        rcases q:decide (1125899906842624<x.wallet+e.amt)with _|_
        ·(rw[q]at h)<;>first|rfl|(simp[failC]at h)
        ·(rw[q]at h)<;>first|rfl|(simp[failC]at h)
       have hw:depR x e=spR x e:=(wk1 hkd).trans (spR_work hov)
       refine⟨(),trivial,trivial,⟨(Eq.trans (b:=sBox gw x.tick x.next (x.wallet+e.amt) 0) (Eq.trans (b:=sBox gw x.tick x.next (x.wallet+e.amt) _) rfl (congrArg (sBox gw x.tick x.next (x.wallet+e.amt)) (by rw[show addOk x.wallet e.amt=true by rw[addOk_over hwl ⟨an0,(amtOk_true.1 hea.1).2⟩,←over_1 hnn hkd,hov];rfl];rfl))) (congrArg (fun r:WR=>sBox gw r.b.tick r.b.next r.b.wallet r.c) hw)),(congrArg (fun r:WR=>AO.arr 57 7 (rowsOf encChan r.b.chans)) hw),(congrArg (fun r:WR=>hAr r.b.htlcs) hw),(congrArg (fun r:WR=>iAr r.b.circles) hw),(congrArg (fun r:WR=>lAr r.l) hw),trivial⟩,rfl,rfl⟩
      ·intro h5
       refine aK<|gB<|gT ?_
       have hkd:e.kind=1:=by simpa using h4
       have hov:overB x e=true:=by
        have h:=h5
        rw[over_1 hnn hkd]
        rw[addOk_over hwl ⟨an0,(amtOk_true.1 hea.1).2⟩]at h
        rcases q:decide (1125899906842624<x.wallet+e.amt)with _|_
        ·(rw[q]at h)<;>first|rfl|(simp[failC]at h)
        ·(rw[q]at h)<;>first|rfl|(simp[failC]at h)
       have hw:(⟨x,[],2⟩:WR)=spR x e:=spR_over hov
       refine⟨(),trivial,trivial,⟨(Eq.trans (b:=sBox gw x.tick x.next x.wallet 2) (Eq.trans (b:=sBox gw x.tick x.next x.wallet _) rfl (congrArg (sBox gw x.tick x.next x.wallet) (by first|rfl|(rw[show addOk x.wallet e.amt=false by rw[addOk_over hwl ⟨an0,(amtOk_true.1 hea.1).2⟩,←over_1 hnn hkd,hov];rfl];rfl)))) (congrArg (fun r:WR=>sBox gw r.b.tick r.b.next r.b.wallet r.c) hw)),(congrArg (fun r:WR=>AO.arr 57 7 (rowsOf encChan r.b.chans)) hw),(congrArg (fun r:WR=>hAr r.b.htlcs) hw),(congrArg (fun r:WR=>iAr r.b.circles) hw),(congrArg (fun r:WR=>lAr r.l) hw),trivial⟩,rfl,rfl⟩
     ·intro h4
      refine sL<|lbB Z<|laB Z<|nG ?_
      refine AW.cond rfl ?_ ?_
      ·intro h6
       refine aL<|lmP Z ?_
       rcases hsum:addOk e.amt e.fee with _|_
       ·skip
        refine loX (.agg [vI _ _,vI _ _,vI _ _,vI _ _,vI _ _,vI _ _,vB _]) ty.kd111 rfl ?_
        refine lst (z5a Try.func79 (sopen2_e _ x e hsum) (⟨stays.box (Eq.refl 8),trivial⟩) rfl rfl) Z<|lT [4,5,6,7] [0,1,2,3,4,2002,2003,2004,2005] ?_
        refine lN<|gB<|gT ?_
        have hkd:e.kind=2:=by simpa using h6
        have hov:overB x e=true:=by
         rw[over_2 hnn hkd]
         rw[addOk_over ⟨an0,(amtOk_true.1 hea.1).2⟩ ⟨fn0,(amtOk_true.1 hea.2).2⟩]at hsum
         simpa using hsum
        have hw:(⟨x,[],2⟩:WR)=spR x e:=spR_over hov
        refine⟨(),trivial,trivial,⟨(Eq.trans (b:=sBox gw x.tick x.next x.wallet 2) rfl (congrArg (fun r:WR=>sBox gw r.b.tick r.b.next r.b.wallet r.c) hw)),(congrArg (fun r:WR=>AO.arr 57 7 (rowsOf encChan r.b.chans)) hw),(congrArg (fun r:WR=>hAr r.b.htlcs) hw),(congrArg (fun r:WR=>iAr r.b.circles) hw),(congrArg (fun r:WR=>lAr r.l) hw),trivial⟩,rfl,rfl⟩
       ·skip
        refine loX (.agg [vI _ _,vI _ _,vI _ _,vI _ _,vI _ _,vI _ _,vB _]) ty.kd111 rfl ?_
        refine lst (z5a Try.func79 (sopen_e _ x e sm es hsum) (⟨stays.box (Eq.refl 8),trivial⟩) rfl rfl) Z<|lN<|gB<|gT ?_
        have hkd:e.kind=2:=by simpa using h6
        have hov:overB x e=false:=by
         rw[over_2 hnn hkd]
         rw[addOk_over ⟨an0,(amtOk_true.1 hea.1).2⟩ ⟨fn0,(amtOk_true.1 hea.2).2⟩]at hsum
         simpa using hsum
        have hw:openR x e=spR x e:=(wk2 hkd).trans (spR_work hov)
        refine⟨(),trivial,trivial,⟨(congrArg (fun r:WR=>sBox gw r.b.tick r.b.next r.b.wallet r.c) hw),(congrArg (fun r:WR=>AO.arr 57 7 (rowsOf encChan r.b.chans)) hw),(congrArg (fun r:WR=>hAr r.b.htlcs) hw),(congrArg (fun r:WR=>iAr r.b.circles) hw),(congrArg (fun r:WR=>lAr r.l) hw),trivial⟩,rfl,rfl⟩
      ·intro h6
       refine sL<|lbB Z<|laB Z<|nG ?_
       refine AW.cond rfl ?_ ?_
       ·intro h7
        refine sL<|loX (.agg [vI _ _,vI _ _,vI _ _,vL _ _ _,vL _ _ _,vL _ _ _]) ty.kd27 Z<|lf 2 ty.F111_2 Z<|loI ty.kd3 Z ?_
        rcases chan_find x.chans e.ch with⟨hi,ho⟩|⟨i,c,hi,hc,ho,hid⟩
        ·skip
         refine lst (zL Try.func29 (sAt_e x _ hm) rfl) Z<|laI Z<|nG<|aS<|sL<|lmI Z<|lbB Z<|lsB 80 false rfl (by rw[show atI (fun c=>c.id==e.ch) x.chans=_ from hi];simp)<|nG<|aN Z<|aK<|gA<|lmP Z<|lc Z<|lf 7 ty.F125_2 Z<|loI ty.kd3 Z<|lbB Z<|lsB 100 true rfl (by rfl)<|nG<|aY Z<|aL<|lmP Z<|loX (.agg [vI _ _,vI _ _,vI _ _,vI _ _,vI _ _,vI _ _,vB _]) ty.kd111 rfl ?_
         refine lst (z5a Try.func80 (sshut_e _ x e fi es fn0) (⟨stays.box (Eq.refl 8),trivial⟩) rfl rfl) Z<|lT [4,5,6,7] [0,1,2,3,4,2002,2003,2004,2005] ?_
         refine lN<|gB<|gT ?_
         have hkd:e.kind=3:=by simpa using h7
         have hov:overB x e=false:=over_3n hnn hkd hi
         have hw:shutR x e=spR x e:=(wk3 hkd).trans (spR_work hov)
         refine⟨(),trivial,trivial,⟨(congrArg (fun r:WR=>sBox gw r.b.tick r.b.next r.b.wallet r.c) hw),(congrArg (fun r:WR=>AO.arr 57 7 (rowsOf encChan r.b.chans)) hw),(congrArg (fun r:WR=>hAr r.b.htlcs) hw),(congrArg (fun r:WR=>iAr r.b.circles) hw),(congrArg (fun r:WR=>lAr r.l) hw),trivial⟩,rfl,rfl⟩
        ·have hcm:=sm.chans c (mem_of_get hc)
         refine lst (zL Try.func29 (sAt_e x _ hm) rfl) Z<|laI Z<|nG<|aS<|sL<|lmI Z<|lbB Z<|lsB 80 true rfl (by rw[show atI (fun c=>c.id==e.ch) x.chans=_ from hi];simp)<|nG<|aY Z<|aF [14]<|pq 0 (qmP rfl)<|pq 1 (qf 2 ty.F27_2 rfl)<|sq 2 (roI ty.kd3 rfl)<|pq 3 (qf 3 ty.F27_3 rfl)<|sq 4 (roL ty.kd23 rfl)<|pq 5 (qmX (vI _ _) rfl)<|sq 6 (rd (x:=.rp _) (rd_iaddr_p (i:=i) rfl ty.el23 rfl rfl ?hn1 (rows_some hc)) rfl) ?_
         case hn1=>rw[←chanAt_atI];exact hi
         refine pq 7 (qd (x:=.rp _) (zpfr ty.F57_2 Z) Z)<|sq 8 (rrI ty.kd3 Z) ?_
         refine sq 9 (rhI rfl ⟨rfl,fits_i64 (by have:=hcm.1;have:=es.amt;have:=es.fee;have:=sm.wallet;unfold A50 at *;unfold i64;omega)⟩)<|vq 10 (rf 5 ty.F111_5 rfl)<|vq 11 (roI ty.kd3 rfl) ?_
         refine vq 12 (rhI rfl ⟨rfl,fits_i64 (by have:=hcm.1;have:=es.amt;have:=es.fee;have:=sm.wallet;unfold A50 at *;unfold i64;omega)⟩)<|vq 13 (rbB rfl) ?_
         refine vst 14 rfl (z5a Try.func76 (scode_e _ _ _ _ _ _ _ _ _ _ _ _ _ _ _ _ _ _ _ ) (⟨stays.box (Eq.refl 8),trivial⟩) rfl rfl) (.inl rfl)<|fT [3,4,5,6,7] [0,1,2,3,4,2002,2003,2004,2005] ?_
         refine fD<|gA<|lmP Z<|lc Z<|lf 7 ty.F125_2 Z<|loI ty.kd3 Z<|lbB Z<|nG ?_
         refine AW.cond rfl ?_ ?_
         ·intro h8
          refine AW.obj 0 (sBox gw x.tick x.next x.wallet 0) (Eq.trans (b:=sBox gw x.tick x.next x.wallet _) rfl (congrArg (sBox gw x.tick x.next x.wallet) (by have h:=h8;simp only[decide_eq_true_eq]at h;exact h))) ?_
          refine aL<|lmP Z<|loX (.agg [vI _ _,vI _ _,vI _ _,vI _ _,vI _ _,vI _ _,vB _]) ty.kd111 Z ?_
          refine lst (z5a Try.func80 (sshut_e _ x e fi es fn0) (⟨stays.box (Eq.refl 8),trivial⟩) rfl rfl) Z<|lN<|gB<|gT ?_
          have hkd:e.kind=3:=by simpa using h7
          have hov:overB x e=false:=by
           have h:=h8
           rw[over_3s hnn hkd hi ho]
           rcases q:decide (1125899906842624<x.wallet+c.loc-e.fee)with _|_
           ·(rw[q]at h)<;>first|rfl|(simp[failC]at h)
           ·(rw[q]at h)<;>first|rfl|(simp[failC]at h)
          have hw:shutR x e=spR x e:=(wk3 hkd).trans (spR_work hov)
          refine⟨(),trivial,trivial,⟨(congrArg (fun r:WR=>sBox gw r.b.tick r.b.next r.b.wallet r.c) hw),(congrArg (fun r:WR=>AO.arr 57 7 (rowsOf encChan r.b.chans)) hw),(congrArg (fun r:WR=>hAr r.b.htlcs) hw),(congrArg (fun r:WR=>iAr r.b.circles) hw),(congrArg (fun r:WR=>lAr r.l) hw),trivial⟩,rfl,rfl⟩
         ·intro h8
          refine aK<|gB<|gT ?_
          have hkd:e.kind=3:=by simpa using h7
          have hov:overB x e=true:=by
           have h:=h8
           rw[over_3s hnn hkd hi ho]
           rcases q:decide (1125899906842624<x.wallet+c.loc-e.fee)with _|_
           ·(rw[q]at h)<;>first|rfl|(simp[failC]at h)
           ·(rw[q]at h)<;>first|rfl|(simp[failC]at h)
          have hw:(⟨x,[],2⟩:WR)=spR x e:=spR_over hov
          refine⟨(),trivial,trivial,⟨(Eq.trans (b:=sBox gw x.tick x.next x.wallet 2) (Eq.trans (b:=sBox gw x.tick x.next x.wallet _) rfl (congrArg (sBox gw x.tick x.next x.wallet) (by rw[←over_3s hnn hkd hi ho,hov];rfl))) (congrArg (fun r:WR=>sBox gw r.b.tick r.b.next r.b.wallet r.c) hw)),(congrArg (fun r:WR=>AO.arr 57 7 (rowsOf encChan r.b.chans)) hw),(congrArg (fun r:WR=>hAr r.b.htlcs) hw),(congrArg (fun r:WR=>iAr r.b.circles) hw),(congrArg (fun r:WR=>lAr r.l) hw),trivial⟩,rfl,rfl⟩
       ·intro h7
        refine sL<|lbB Z<|laB Z<|nG ?_
        refine AW.cond rfl ?_ ?_
        ·intro h9
         refine sL<|loX (.agg [vI _ _,vI _ _,vI _ _,vL _ _ _,vL _ _ _,vL _ _ _]) ty.kd27 Z<|lf 2 ty.F111_2 Z<|loI ty.kd3 Z ?_
         rcases chan_find x.chans e.ch with⟨hi,ho⟩|⟨i,c,hi,hc,ho,hid⟩
         ·skip
          refine lst (zL Try.func29 (sAt_e x _ hm) Z) Z<|lT [3,4,5,6,7,109] [0,1,2,3,4,2002,2003,2004,2005] ?_
          refine laI Z<|nA<|lmP Z<|lmI Z<|lbB Z<|lsB 112 true rfl (by rw[show atI (fun c=>c.id==e.ch) x.chans=_ from hi];simp) ?_
          refine lst (z5a Try.func76 (scode_e _ _ _ _ _ _ _ _ _ _ _ _ _ _ _ _ _ _ _ ) (⟨stays.box (Eq.refl 8),trivial⟩) rfl rfl) Z<|lsB 113 true rfl (by rfl)<|luZ Z<|nG<|aN Z<|aK<|gB<|gT ?_
          have hkd:e.kind=4:=by simpa using h9
          have hov:overB x e=false:=over_o hnn (by omega) (by omega) (by omega) (by omega)
          have hw:priR x e=spR x e:=(wk4 hkd).trans (spR_work hov)
          rw[priR_no hi]at hw
          refine⟨(),trivial,trivial,⟨(congrArg (fun r:WR=>sBox gw r.b.tick r.b.next r.b.wallet r.c) hw),(congrArg (fun r:WR=>AO.arr 57 7 (rowsOf encChan r.b.chans)) hw),(congrArg (fun r:WR=>hAr r.b.htlcs) hw),(congrArg (fun r:WR=>iAr r.b.circles) hw),(congrArg (fun r:WR=>lAr r.l) hw),trivial⟩,rfl,rfl⟩
         ·have hcm:=sm.chans c (mem_of_get hc)
          refine lst (zL Try.func29 (sAt_e x _ hm) rfl) Z<|laI Z<|nA<|lmP Z<|lmI Z<|lbB Z<|lsB 112 false rfl (by rw[show atI (fun c=>c.id==e.ch) x.chans=_ from hi];simp) ?_
          refine lst (z5a Try.func76 (scode_e _ _ _ _ _ _ _ _ _ _ _ _ _ _ _ _ _ _ _ ) (⟨stays.box (Eq.refl 8),trivial⟩) rfl rfl) Z<|lsB 113 false rfl (by rfl)<|luT Z<|nG<|aY Z<|aS<|aF [10]<|pq 0 (qmP rfl)<|pq 1 (qc rfl)<|pq 2 (qf 0 ty.F125_0 rfl)<|pq 3 (qf 3 ty.F27_3 rfl)<|sq 4 (roO ty.kd23 rfl)<|pq 5 (qmX (vI _ _) rfl)<|vq 6 (rf 4 ty.F111_4 rfl)<|vq 7 (roI ty.kd3 rfl)<|vq 8 (rd (x:=.ptr 1 _ 0) (rd_iaddr_own (i:=i) rfl ty.el23 rfl rfl rfl ?hn2 (by rw[length_rowsOf];exact(List.getElem?_eq_some_iff.1 hc).1)) rfl) ?_
          case hn2=>rw[←chanAt_atI];exact hi
          refine vq 9 (rf 4 ty.F57_4 Z)<|vst 10 Z (zQ 1 [.v (.int .i64 e.amt)] ty.co3 ty.inf3 Z (rows_some hc)) (.inl Z)<|fT [3,4,5,6,7,11] [0,1,2,3,4,2002,2003,2004,2005] ?_
          refine fD<|gT ?_
          refine AW.obj 1 (AO.arr 57 7 (rowsOf encChan (x.chans.set i { c with base:=e.amt }))) (Eq.trans (b:=AO.arr 57 7 ((rowsOf encChan (x.chans)).set i ((encChan { c with base:=e.amt }).map PV.v))) rfl (congrArg (AO.arr 57 7) (rows_set))) ?_
          refine aF [10]<|pq 0 (qmP rfl)<|pq 1 (qc rfl)<|pq 2 (qf 0 ty.F125_0 rfl)<|pq 3 (qf 3 ty.F27_3 rfl)<|sq 4 (roO ty.kd23 rfl)<|pq 5 (qmX (vI _ _) rfl)<|vq 6 (rf 5 ty.F111_5 rfl)<|vq 7 (roI ty.kd3 rfl)<|vq 8 (rd (x:=.ptr 1 _ 0) (rd_iaddr_own (i:=i) rfl ty.el23 rfl rfl rfl ?hn3 (by rw[length_rowsOf,List.length_set];exact(List.getElem?_eq_some_iff.1 hc).1)) rfl) ?_
          case hn3=>rw[←chanAt_atI];exact hi
          refine vq 9 (rf 5 ty.F57_5 Z)<|vst 10 Z (zQ 1 [.v (.int .i64 e.fee)] ty.co3 ty.inf3 Z (rows_some (set_get_eq hc { c with base:=e.amt }))) (.inl Z)<|fD<|gB<|gT ?_
          have hkd:e.kind=4:=by simpa using h9
          have hov:overB x e=false:=over_o hnn (by omega) (by omega) (by omega) (by omega)
          have hw:priR x e=spR x e:=(wk4 hkd).trans (spR_work hov)
          rw[priR_yes hi]at hw
          refine⟨(),trivial,trivial,⟨(congrArg (fun r:WR=>sBox gw r.b.tick r.b.next r.b.wallet r.c) hw),(Eq.trans (Eq.trans (b:=AO.arr 57 7 ((rowsOf encChan (x.chans.set i { c with base:=e.amt })).set i ((encChan { c with base:=e.amt,ppm:=e.fee }).map PV.v))) rfl (congrArg (AO.arr 57 7) (rows_set.trans (congrArg (rowsOf encChan) (by rw[List.set_set,set_upd fi.ids hc (fun c=>{ c with base:=e.amt,ppm:=e.fee }),hid]))))) (congrArg (fun r:WR=>AO.arr 57 7 (rowsOf encChan r.b.chans)) hw)),(congrArg (fun r:WR=>hAr r.b.htlcs) hw),(congrArg (fun r:WR=>iAr r.b.circles) hw),(congrArg (fun r:WR=>lAr r.l) hw),trivial⟩,rfl,rfl⟩
        ·intro h9
         refine sL<|lbB Z<|laB Z<|nG ?_
         refine AW.cond rfl ?_ ?_
         ·intro h10
          refine aL<|lmP Z<|loX (.agg [vI _ _,vI _ _,vI _ _,vI _ _,vI _ _,vI _ _,vB _]) ty.kd111 Z ?_
          refine lst (z5a Try.func81 (sadm_e _ x e fi es (ev_ne hev (.inl (by simpa using h10)))) (⟨stays.box (Eq.refl 8),trivial⟩) rfl rfl) Z<|lT [4,5,6,7] [0,1,2,3,4,2002,2003,2004,2005] ?_
          refine lN<|gB<|gT ?_
          have hkd:e.kind=5:=by simpa using h10
          have hov:overB x e=false:=over_o hnn (by omega) (by omega) (by omega) (by omega)
          have hw:admR x e=spR x e:=(wk5 hkd).trans (spR_work hov)
          refine⟨(),trivial,trivial,⟨(congrArg (fun r:WR=>sBox gw r.b.tick r.b.next r.b.wallet r.c) hw),(congrArg (fun r:WR=>AO.arr 57 7 (rowsOf encChan r.b.chans)) hw),(congrArg (fun r:WR=>hAr r.b.htlcs) hw),(congrArg (fun r:WR=>iAr r.b.circles) hw),(congrArg (fun r:WR=>lAr r.l) hw),trivial⟩,rfl,rfl⟩
         ·intro h10
          refine aS<|sL<|lbB Z<|laB Z<|nG ?_
          refine AW.cond rfl ?_ ?_
          ·intro h11
           refine asB 140 true Z h11<|aK<|gT<|aY Z<|aL<|lmP Z<|lf 1 ty.F111_1 Z<|loI ty.kd3 Z<|lf 0 ty.F111_0 Z<|loI ty.kd3 Z<|lbB Z ?_
           refine lst (z5a Try.func82 (sset_e _ x _ _ fi (keys_nz hbk).1 (amts_of hbk).1) (⟨stays.box (Eq.refl 8),trivial⟩) rfl rfl) Z<|lN<|gB<|gT ?_
           have hkd:e.kind=6:=by simpa using h11
           have hov:overB x e=false:=over_o hnn (by omega) (by omega) (by omega) (by omega)
           have hw:setR x e=spR x e:=(wk6 (.inl hkd)).trans (spR_work hov)
           rw[←setK_eq]at hw
           refine⟨(),trivial,trivial,⟨(congrArg (fun r:WR=>sBox gw r.b.tick r.b.next r.b.wallet r.c) hw),(congrArg (fun r:WR=>AO.arr 57 7 (rowsOf encChan r.b.chans)) hw),(congrArg (fun r:WR=>hAr r.b.htlcs) hw),(congrArg (fun r:WR=>iAr r.b.circles) hw),(congrArg (fun r:WR=>lAr r.l) hw),trivial⟩,rfl,rfl⟩
          ·intro h11
           refine asB 140 false Z h11<|aL<|lbB Z<|laB Z<|nG ?_
           refine AW.cond rfl ?_ ?_
           ·intro h12
            refine aL<|lmP Z<|lf 1 ty.F111_1 Z<|loI ty.kd3 Z<|lf 0 ty.F111_0 Z<|loI ty.kd3 Z<|lbB Z ?_
            refine lst (z5a Try.func82 (sset_e _ x _ _ fi (keys_nz hbk).1 (amts_of hbk).1) (⟨stays.box (Eq.refl 8),trivial⟩) rfl rfl) Z<|lT [4,5,6,7] [0,1,2,3,4,2002,2003,2004,2005] ?_
            refine lN<|gB<|gT ?_
            have hkd:e.kind=7:=by simpa using h12
            have hov:overB x e=false:=over_o hnn (by omega) (by omega) (by omega) (by omega)
            have hw:setR x e=spR x e:=(wk6 (.inr hkd)).trans (spR_work hov)
            rw[←setK_eq]at hw
            refine⟨(),trivial,trivial,⟨(congrArg (fun r:WR=>sBox gw r.b.tick r.b.next r.b.wallet r.c) hw),(congrArg (fun r:WR=>AO.arr 57 7 (rowsOf encChan r.b.chans)) hw),(congrArg (fun r:WR=>hAr r.b.htlcs) hw),(congrArg (fun r:WR=>iAr r.b.circles) hw),(congrArg (fun r:WR=>lAr r.l) hw),trivial⟩,rfl,rfl⟩
           ·intro h12
            refine sL<|lbB Z<|laB Z<|nG ?_
            refine AW.cond rfl ?_ ?_
            ·intro h13
             refine aL<|lmP Z ?_
             rcases Classical.em (x.tick=1125899906842624)with htk|htk
             ·skip
              refine lst (z5a Try.func83 (stick2_e _ x htk) (⟨stays.box (Eq.refl 8),trivial⟩) rfl rfl) Z<|lN<|gB<|gT ?_
              have hkd:e.kind=8:=by simpa using h13
              have hov:overB x e=true:=by rw[over_8 hnn hkd];simpa using htk
              have hw:(⟨x,[],2⟩:WR)=spR x e:=spR_over hov
              refine⟨(),trivial,trivial,⟨(Eq.trans (b:=sBox gw x.tick x.next x.wallet 2) rfl (congrArg (fun r:WR=>sBox gw r.b.tick r.b.next r.b.wallet r.c) hw)),(congrArg (fun r:WR=>AO.arr 57 7 (rowsOf encChan r.b.chans)) hw),(congrArg (fun r:WR=>hAr r.b.htlcs) hw),(congrArg (fun r:WR=>iAr r.b.circles) hw),(congrArg (fun r:WR=>lAr r.l) hw),trivial⟩,rfl,rfl⟩
             ·skip
              refine lst (z5a Try.func83 (stick_e _ x sm htk) (⟨stays.box (Eq.refl 8),trivial⟩) rfl rfl) Z<|lN<|gB<|gT ?_
              have hkd:e.kind=8:=by simpa using h13
              have hov:overB x e=false:=by rw[over_8 hnn hkd];simpa using htk
              have hw:tickR x=spR x e:=(wk8 hkd).trans (spR_work hov)
              refine⟨(),trivial,trivial,⟨(congrArg (fun r:WR=>sBox gw r.b.tick r.b.next r.b.wallet r.c) hw),(congrArg (fun r:WR=>AO.arr 57 7 (rowsOf encChan r.b.chans)) hw),(congrArg (fun r:WR=>hAr r.b.htlcs) hw),(congrArg (fun r:WR=>iAr r.b.circles) hw),(congrArg (fun r:WR=>lAr r.l) hw),trivial⟩,rfl,rfl⟩
            ·intro h13
             refine sL<|lbB Z<|laB Z<|nG ?_
             refine AW.cond rfl ?_ ?_
             ·intro h14
              refine aL<|lmP Z<|loX (.agg [vI _ _,vI _ _,vI _ _,vI _ _,vI _ _,vI _ _,vB _]) ty.kd111 Z ?_
              refine lst (z5a Try.func84 (slau_e _ x e fi es (ev_ne hev (.inr (by simpa using h14)))) (⟨stays.box (Eq.refl 8),trivial⟩) rfl rfl) Z<|lN<|gB<|gT ?_
              have hkd:e.kind=9:=by simpa using h14
              have hov:overB x e=false:=over_o hnn (by omega) (by omega) (by omega) (by omega)
              have hw:lauR x e=spR x e:=(wk9 hkd).trans (spR_work hov)
              refine⟨(),trivial,trivial,⟨(congrArg (fun r:WR=>sBox gw r.b.tick r.b.next r.b.wallet r.c) hw),(congrArg (fun r:WR=>AO.arr 57 7 (rowsOf encChan r.b.chans)) hw),(congrArg (fun r:WR=>hAr r.b.htlcs) hw),(congrArg (fun r:WR=>iAr r.b.circles) hw),(congrArg (fun r:WR=>lAr r.l) hw),trivial⟩,rfl,rfl⟩
             ·intro h14
              refine aS<|sL<|lbB Z<|laB Z<|nG ?_
              refine AW.cond rfl ?_ ?_
              ·intro h15
               refine asB 159 true Z h15<|aK<|gT<|aY Z<|aL<|lmP Z<|lf 1 ty.F111_1 Z<|loI ty.kd3 Z<|lf 0 ty.F111_0 Z<|loI ty.kd3 Z<|lbB Z ?_
               refine lst (z5a Try.func85 (sland_e _ x _ _ fi (keys_nz hbk).2 (circle_fits hbk)) (⟨stays.box (Eq.refl 8),trivial⟩) rfl rfl) Z<|lT [4,5,6,7] [0,1,2,3,4,2002,2003,2004,2005] ?_
               refine lN<|gB<|gT ?_
               have hkd:e.kind=10:=by simpa using h15
               have hov:overB x e=false:=over_o hnn (by omega) (by omega) (by omega) (by omega)
               have hw:landR x e=spR x e:=(wk10 (by omega)).trans (spR_work hov)
               rw[←landK_eq]at hw
               refine⟨(),trivial,trivial,⟨(congrArg (fun r:WR=>sBox gw r.b.tick r.b.next r.b.wallet r.c) hw),(congrArg (fun r:WR=>AO.arr 57 7 (rowsOf encChan r.b.chans)) hw),(congrArg (fun r:WR=>hAr r.b.htlcs) hw),(congrArg (fun r:WR=>iAr r.b.circles) hw),(congrArg (fun r:WR=>lAr r.l) hw),trivial⟩,rfl,rfl⟩
              ·intro h15
               refine asB 159 false Z h15<|aL<|lbB Z<|laB Z<|nG ?_
               refine AW.cond rfl ?_ ?_
               ·intro h16
                refine aL<|lmP Z<|lf 1 ty.F111_1 Z<|loI ty.kd3 Z<|lf 0 ty.F111_0 Z<|loI ty.kd3 Z<|lbB Z ?_
                refine lst (z5a Try.func85 (sland_e _ x _ _ fi (keys_nz hbk).2 (circle_fits hbk)) (⟨stays.box (Eq.refl 8),trivial⟩) rfl rfl) Z<|lN<|gB<|gT ?_
                have hkd:e.kind=11:=by simpa using h16
                have hov:overB x e=false:=over_o hnn (by omega) (by omega) (by omega) (by omega)
                have hw:landR x e=spR x e:=(wk10 (by omega)).trans (spR_work hov)
                rw[←landK_eq]at hw
                refine⟨(),trivial,trivial,⟨(congrArg (fun r:WR=>sBox gw r.b.tick r.b.next r.b.wallet r.c) hw),(congrArg (fun r:WR=>AO.arr 57 7 (rowsOf encChan r.b.chans)) hw),(congrArg (fun r:WR=>hAr r.b.htlcs) hw),(congrArg (fun r:WR=>iAr r.b.circles) hw),(congrArg (fun r:WR=>lAr r.l) hw),trivial⟩,rfl,rfl⟩
               ·intro h16
                refine aK<|gB<|gT ?_
                exfalso
                have q1:¬e.kind=1:=by simpa using h4
                have q2:¬e.kind=2:=by simpa using h6
                have q3:¬e.kind=3:=by simpa using h7
                have q4:¬e.kind=4:=by simpa using h9
                have q5:¬e.kind=5:=by simpa using h10
                have q6:¬e.kind=6:=by simpa using h11
                have q7:¬e.kind=7:=by simpa using h12
                have q8:¬e.kind=8:=by simpa using h13
                have q9:¬e.kind=9:=by simpa using h14
                have q10:¬e.kind=10:=by simpa using h15
                have q11:¬e.kind=11:=by simpa using h16
                omega
    ·intro h3
     refine aK<|gT ?_
     have hov:overB x e=true:=sp_next (by
      have h:=h3
      rcases Classical.em (x.next=1125899906842624)with q|q
      ·exact q
      ·rw[decide_eq_false q]at h
       simp[failC]at h)
     have hw:(⟨x,[],2⟩:WR)=spR x e:=spR_over hov
     refine⟨(),trivial,trivial,⟨(Eq.trans (b:=sBox gw x.tick x.next x.wallet _) rfl ((congrArg (sBox gw x.tick x.next x.wallet) (show _=(2:Int) by first|rfl|(have h:=h3;rcases q:decide (x.next=1125899906842624)with _|_;(rw[q]at h;simp[failC]at h);rfl))).trans (congrArg (fun r:WR=>sBox gw r.b.tick r.b.next r.b.wallet r.c) hw))),(congrArg (fun r:WR=>AO.arr 57 7 (rowsOf encChan r.b.chans)) hw),(congrArg (fun r:WR=>hAr r.b.htlcs) hw),(congrArg (fun r:WR=>iAr r.b.circles) hw),(congrArg (fun r:WR=>lAr r.l) hw),trivial⟩,rfl,rfl⟩
   ·intro jd hJ
    refine aS<|sL<|lmP Z<|lc Z<|lf 7 ty.F125_2 Z<|loI ty.kd3 Z<|lbB Z<|nG ?_
    refine AW.cond rfl ?_ ?_
    ·intro h17
     refine aS<|aG 8 [2004,2005]<|tq 0 (rd (x:=.agg [vI _ _,vI _ _,vI _ _,vV _,vV _,vV _]) (rd_build Z ty.sa27 Z Z Z) Z)<|tq 1 (rd (x:=.agg [vI _ _,vV _]) (rd_build Z ty.sa114 Z Z Z) Z)<|tq 2 (rmP Z)<|tq 3 (rc Z)<|tq 4 (rf 7 ty.F125_2 Z)<|tq 5 (roI ty.kd3 Z)<|yst 6 Z (zB 2004 ty.co27 ty.inf27 Z)<|yst 7 Z (zB 2005 ty.co114 ty.inf114 Z)<|yq 8 (raI Z)<|gD<|gT<|aR<|rT ?_
     refine end_xret (.tup [zBookV,zPostV,int (spR x e).c]) [] ?_ rfl trivial
     exact .inl ⟨by rw[hcs];simpa using h17,by rw[hcs],rfl⟩
    ·intro h17
     refine aK<|gT<|aS<|sL<|lmP Z<|lc Z<|lf 6 ty.F125_1 Z<|loO ty.kd112 Z<|lnI ty.sl112 Z<|lbB Z<|nG ?_
     refine AW.cond rfl ?_ ?_
     ·intro h18
      refine sL<|lmP Z<|lc Z<|lf 0 ty.F125_0 Z<|loX (.agg [vI _ _,vI _ _,vI _ _,.own _,.own _,.own _]) ty.kd27 Z<|lq (rd (x:=.agg [vI _ _,vV _]) (rd_build Z ty.sa114 Z Z Z) Z)<|lst (zB 2004 ty.co27 ty.inf27 Z) Z<|lT [4,5,6,7,190] [0,1,2,3,4,2002,2003,2004,2005] ?_
      refine lst (zB 2005 ty.co114 ty.inf114 Z) Z<|laI Z<|nG<|aR<|rT ?_
      have hc0:(spR x e).c=0:=by simpa using h17
      obtain⟨hov,hsp⟩:=spR_c hc0
      have hl0:(spR x e).l=[]:=List.length_eq_zero_iff.1 (by have h:=h18;simp only[length_rowsOf,decide_eq_true_eq]at h;omega)
      refine end_xret (.tup [ownB (spR x e).b.tick (spR x e).b.next (spR x e).b.wallet,zPostV,int 0]) (ob3 (spR x e).b) ?_ rfl ⟨rfl,rfl,rfl,trivial⟩
      rw[hsp]at hl0 ⊢;exact .inr (.inl ⟨by rw[hcs];exact hc0,hl0,rfl,rfl⟩)
     ·intro h18
      refine aK<|gT<|aS<|aF [11]<|pq 0 (qmP Z)<|pq 1 (qc Z)<|pq 2 (qf 0 ty.F125_0 Z)<|pq 3 (qf 1 ty.F27_1 Z)<|sq 4 (roI ty.kd3 Z)<|pq 5 (qmP Z)<|pq 6 (qc Z)<|pq 7 (qf 6 ty.F125_1 Z)<|sq 8 (roO ty.kd112 Z)<|sq 9 (rd (x:=.agg [vI _ _,.own _]) (rd_build Z ty.sa114 Z Z Z) Z)<|vst 10 Z (zA 2012 ty.ze114 Z) (.inr Z)<|vst 11 Z (zB 2012 ty.co114 ty.inf114 Z) (.inl Z)<|fT [4,5,6,7,12] [0,1,2,3,4,2002,2003,2004,2005,2012] ?_
      refine fD<|gA<|lmP Z<|lc Z<|lf 0 ty.F125_0 Z<|lf 1 ty.F27_1 Z<|loI ty.kd3 Z ?_
      refine lhI rfl ⟨rfl,fits_i64 (by rw[spR_next];unfold i64;omega)⟩<|lc Z<|lf 0 ty.F125_0 Z<|lf 1 ty.F27_1 Z<|lst (zB 0 ty.co3 ty.inf3 rfl) Z<|nG<|aS<|aG 7 [2004,2005]<|tq 0 (rmP rfl)<|tq 1 (rc rfl)<|tq 2 (rf 0 ty.F125_0 rfl)<|tq 3 (roX (.agg [vI _ _,vI _ _,vI _ _,.own _,.own _,.own _]) ty.kd27 rfl)<|tq 4 (roX (.agg [vI _ _,.own _]) ty.kd114 rfl)<|yst 5 rfl (zB 2004 ty.co27 ty.inf27 rfl)<|gX [4,5,6,214] [0,1,2,3,4,2002,2003,2004,2005,2012] ?_
      refine yst 6 Z (zB 2005 ty.co114 ty.inf114 Z)<|yq 7 (raI Z)<|gD<|gT<|aR ?_
      have hc0:(spR x e).c=0:=by simpa using h17
      obtain⟨hov,hsp⟩:=spR_c hc0
      have hl0:(spR x e).l≠[]:=fun q=>by
       have h:=h18
       rw[q]at h
       simp[rowsOf]at h
      refine end_xret (.tup [ownB (spR x e).b.tick ((spR x e).b.next+1) (spR x e).b.wallet,.agg [int (spR x e).b.next,.own 4],int 0]) (ob4 (spR x e).b (spR x e).l) ?_ rfl ⟨rfl,rfl,rfl,rfl,trivial⟩
      rw[hsp]at hl0 ⊢;exact .inr (.inr ⟨by rw[hcs];exact hc0,hl0,by rw[workR_next],rfl⟩)

theorem SlR.each{α:Type}{sz:Nat}{rep:World→Nat→Nat→List Value→α→Prop}{w:World}{lo hi:Nat}{v:Value}{xs:List α}{p:α→Prop}(h:SlR sz rep w lo hi v xs)(hp:∀lo hi cs x,rep w lo hi cs x→p x):∀x∈xs,p x:=by
 obtain⟨a,cap,rfl,c1,c2,hsl⟩:=h
 intro x hx
 rcases hsl with hz|⟨b,off,rfl,b1,b2,hel⟩
 ·subst hz;simp at hx
 ·obtain⟨i,hi,rfl⟩:=List.getElem_of_mem hx
  obtain⟨cs,h1,_⟩:=hel i hi
  exact hp _ _ _ _ h1
theorem BookWf.of{x:Book}{w:World}{v0 v1 v2:Value}(h0:SlR 7 repChan w 0 w.heap.size v0 x.chans)(h1:SlR 7 repHtlc w 0 w.heap.size v1 x.htlcs)(h2:SlR 5 repCircle w 0 w.heap.size v2 x.circles)(hn:x.chans.length≤1048576):BookWf x:=
 ⟨h0.each fun _ _ _ _ h=>h.2,h1.each fun _ _ _ _ h=>h.2,h2.each fun _ _ _ _ h=>h.2,hn⟩
def Spot(S E lo hi:Nat)(f:List Nat):Prop:=S≤lo∧lo≤hi∧hi≤E∧((lo=E∧hi=E)∨(hi=lo+1∧lo∈f))
theorem Spot.none(S E:Nat)(h:S≤E):Spot S E E E []:=⟨h,Nat.le_refl _,Nat.le_refl _,.inl ⟨rfl,rfl⟩⟩
theorem Spot.apart{S E lo hi lo' hi':Nat}{f f':List Nat}(h:Spot S E lo hi f)(h':Spot S E lo' hi' f')(hd:∀b∈f,b ∉ f'):hi≤lo'∨hi'≤lo:=by
 obtain⟨h1,h2,h3,h4⟩:=h
 obtain⟨k1,k2,k3,k4⟩:=h'
 rcases h4 with q|⟨q,qm⟩<;>rcases k4 with r|⟨r,rm⟩
 ·omega
 ·omega
 ·omega
 ·have:lo≠lo':=fun e=>hd lo qm (e▸rm)
  omega
theorem OB.slr{L:Nat→Prop}{ρ:Nat→Value}{H:Nat→AO}{α:Type}{enc:α→List Value}{sz:Nat}{rep:World→Nat→Nat→List Value→α→Prop}{w:World}{v:Value}{f:List Nat}{xs:List α}{e:Pin}{S:Nat}(h:OB L ρ H w v f (.arr e sz (rowsOf enc xs)))(hs:∀x,(enc x).length=sz)(hrep:∀x∈xs,rep w 0 w.heap.size (enc x) x)(hfl:∀lo hi lo' hi' cs x,rep w lo hi cs x→rep w lo' hi' cs x)(hS:S≤w.heap.size)(hf:∀b∈f,S≤b) :
 ∃a c lo hi,v=.slice a xs.length c∧SlR sz rep w lo hi (.slice a xs.length c) xs∧Spot S w.heap.size lo hi f:=by
 have h1:=(h.reads).slr hs hrep
 have hv:f=v.ownBlock.toList:=by obtain⟨_,_,_,_,_,q,_⟩:=h;exact q
 have hlt:=h.lt
 obtain⟨a,c,rfl,c1,c2,hsl⟩:=h1
 rcases hsl with hz|⟨b,off,rfl,b1,b2,hel⟩
 ·exact⟨a,c,w.heap.size,w.heap.size,rfl,⟨a,c,rfl,c1,c2,.inl hz⟩,hS,Nat.le_refl _,Nat.le_refl _,.inl ⟨rfl,rfl⟩⟩
 ·have hb:b∈f:=by rw[hv];simp[Value.ownBlock]
  exact⟨_,c,b,b+1,rfl,⟨_,c,rfl,c1,c2,.inr ⟨b,off,rfl,Nat.le_refl _,Nat.lt_succ_self _,fun i hi=>let ⟨cs,q1,q2⟩:=hel i hi;⟨cs,hfl _ _ _ _ _ _ q1,q2⟩⟩⟩,hf b hb,Nat.le_succ _,b2,.inr ⟨rfl,hb⟩⟩
def zeroBook:Book:=⟨0,0,0,[],[],[]⟩
def appB(x:Book)(e:Event):Book:=if applyC x e=0 then (if (workR x e).l=[]then (workR x e).b else { (workR x e).b with next:=(workR x e).b.next+1 })else zeroBook
def appP(x:Book)(e:Event):Posting:=if applyC x e=0 then (if (workR x e).l=[]then ⟨0,[]⟩else ⟨x.next,(workR x e).l⟩)else ⟨0,[]⟩
theorem appB_no{x:Book}{e:Event}(h:applyC x e≠0):appB x e=zeroBook∧appP x e=⟨0,[]⟩:=by unfold appB appP;rw[if_neg h,if_neg h];exact⟨rfl,rfl⟩
theorem appB_nil{x:Book}{e:Event}(h:applyC x e=0)(h2:(workR x e).l=[]):appB x e=(workR x e).b∧appP x e=⟨0,[]⟩:=by unfold appB appP;rw[if_pos h,if_pos h,if_pos h2,if_pos h2];exact⟨rfl,rfl⟩
theorem appB_yes{x:Book}{e:Event}(h:applyC x e=0)(h2:(workR x e).l≠[]):appB x e={ (workR x e).b with next:=(workR x e).b.next+1 }∧appP x e=⟨x.next,(workR x e).l⟩:=by unfold appB appP;rw[if_pos h,if_pos h,if_neg h2,if_neg h2];exact⟨rfl,rfl⟩
structure WrWf(r:WR):Prop where
 chans:∀c∈r.b.chans,wfChan c
 htlcs:∀c∈r.b.htlcs,wfHtlc c
 circles:∀c∈r.b.circles,wfCircle c
 lines:∀l∈r.l,wfLine l
 lc:r.b.chans.length≤100000
 lh:r.b.htlcs.length≤100000
 li:r.b.circles.length≤100000
 ll:r.l.length≤100000
theorem rv_agg{L:Nat→Prop}{ρ:Nat→Value}{H:Nat→AO}{w:World}{l:List AV}{c:Value}(h:RV L ρ H w (.agg l) c):∃cs,c=.agg cs.toArray∧RVL L ρ H w l cs:=by rw[RV]at h;exact h
theorem rv_tup{L:Nat→Prop}{ρ:Nat→Value}{H:Nat→AO}{w:World}{l:List AV}{c:Value}(h:RV L ρ H w (.tup l) c):∃cs,c=.tuple cs.toArray∧RVL L ρ H w l cs:=by rw[RV]at h;exact h
theorem rv_own{L:Nat→Prop}{ρ:Nat→Value}{H:Nat→AO}{w:World}{id:Nat}{c:Value}(h:RV L ρ H w (.own id) c)(hh:(H id).here=true):c=ρ id:=by rw[RV]at h;exact h.2 hh

def chB(n:Int)(c:Chan):Prop:=(i64 c.id∧i64 c.size)∧(-n≤c.loc∧c.loc≤n)∧(-n≤c.remote∧c.remote≤n)∧(-n≤c.base∧c.base≤n)∧(-n≤c.ppm∧c.ppm≤n)∧(-n≤c.score∧c.score≤n)
theorem chB.wf{n:Int}{c:Chan}(h:chB n c)(hn:n≤9007199254740992):wfChan c:=by
 obtain⟨⟨h1,h2⟩,h3,h4,h5,h6,h7⟩:=h
 unfold wfChan
 refine⟨h1,h2,?_,?_,?_,?_,?_⟩<;>unfold i64<;>omega
theorem chB.put{n m:Int}{c c':Chan}(h:chB n c)(h1:c'.id=c.id)(h2:c'.size=c.size)(h3:(-m≤c'.loc∧c'.loc≤m)∧(-m≤c'.remote∧c'.remote≤m)∧(-m≤c'.base∧c'.base≤m)∧(-m≤c'.ppm∧c'.ppm≤m)∧(-m≤c'.score∧c'.score≤m)):chB m c':=⟨⟨h1▸h.1.1,h2▸h.1.2⟩,h3⟩
theorem chB.mono{n m:Int}{c:Chan}(h:chB n c)(hn:n≤m):chB m c:=by
 refine h.put rfl rfl ?_
 have:=h.2
 omega
theorem scoreUp_le(n:Int):-100≤scoreUp n∧scoreUp n≤100:=by unfold scoreUp;split<;>omega
theorem scoreDown_le(n:Int):-100≤scoreDown n∧scoreDown n≤100:=by unfold scoreDown;split<;>omega
theorem fade_le(n:Int):-100≤fade n∧fade n≤100:=by unfold fade;repeat' split<;>omega
theorem upd_all{p q:Chan→Prop}{l:List Chan}{a:Int}{f:Chan→Chan}(h:∀c∈l,p c)(hf:∀c,p c→q (f c))(hq:∀c,p c→q c):∀c∈updC l a f,q c:=fun c hc=>by
 unfold updC at hc
 obtain⟨d,hd,rfl⟩:=List.mem_map.1 hc
 split
 ·exact hf d (h d hd)
 ·exact hq d (h d hd)
theorem upd_len{l:List Chan}{a:Int}{f:Chan→Chan}:(updC l a f).length=l.length:=List.length_map _
theorem lines_add{l:List Line}{k c n:Int}(h:∀y∈l,wfLine y)(hk:i64 k)(hc:i64 c)(hn:i64 n):∀y∈addL l k c n,wfLine y:=fun y hy=>by
 rcases mem_addL hy with q|⟨q1,q2,q3⟩
 ·exact h y q
 ·unfold wfLine
  rw[q1,q2,q3]
  exact⟨hk,hc,hn⟩
theorem addL_len(l:List Line)(k c n:Int):(addL l k c n).length≤l.length+1:=by
 unfold addL
 split
 ·omega
 ·rw[insL_length];omega
theorem nil_lines:∀y∈([]:List Line),wfLine y:=by simp
theorem mem_insC{l:List Chan}{c d:Chan}(h:d∈insC l c):d∈l∨d=c:=by
 unfold insC at h
 simp only[List.mem_append,List.mem_singleton]at h
 rcases h with(h|h)|h
 ·exact .inl (List.mem_of_mem_take h)
 ·exact .inr h
 ·exact .inl (List.mem_of_mem_drop h)
theorem insC_len(l:List Chan)(c:Chan):(insC l c).length=l.length+1:=by
 unfold insC
 simp only[List.length_append,List.length_take,List.length_drop,List.length_singleton]
 have:posC l c.id≤l.length:=List.findIdx_le_length
 omega
theorem WrWf.same{x:Book}(hw:BookWf x)(sm:BookSm x)(c:Int):WrWf ⟨x,[],c⟩:=⟨hw.chans,hw.htlcs,hw.circles,nil_lines,by have:=sm.lc;show x.chans.length≤_;omega,by have:=sm.lh;show x.htlcs.length≤_;omega,by have:=sm.li;show x.circles.length≤_;omega,by simp⟩
theorem chB.of{x:Book}(hw:BookWf x)(sm:BookSm x):∀c∈x.chans,chB 1125899906842624 c:=fun c hc=>by
 have h1:=hw.chans c hc
 have h2:=sm.chans c hc
 unfold wfChan at h1
 unfold A50 at h2
 exact⟨⟨h1.1,h1.2.1⟩,h2.1,h2.2.1,h2.2.2.2.1,h2.2.2.2.2,h2.2.2.1⟩
theorem upd_one{x:Book}{a n:Int}{f:Chan→Chan}(hw:BookWf x)(sm:BookSm x)(hf:∀c,chB 1125899906842624 c→chB 4503599627370496 (f c)):∀c∈updC x.chans a f,wfChan c:=fun c hc=>
 (upd_all (q:=chB 4503599627370496) (chB.of hw sm) hf (fun c h=>h.mono (by omega)) c hc).wf (by omega)
theorem upd_both{x:Book}{a b:Int}{f g:Chan→Chan}(hw:BookWf x)(sm:BookSm x)(hf:∀c,chB 1125899906842624 c→chB 4503599627370496 (f c))(hg:∀c,chB 4503599627370496 c→chB 9007199254740992 (g c)):∀c∈updC (updC x.chans a f) b g,wfChan c:=fun c hc=>
 (upd_all (q:=chB 9007199254740992) (upd_all (q:=chB 4503599627370496) (chB.of hw sm) hf (fun c h=>h.mono (by omega))) hg (fun c h=>h.mono (by omega)) c hc).wf (by omega)
theorem i64_50{n:Int}(h:A50 n):i64 n:=by unfold A50 at h;unfold i64;omega
theorem wr_dep{x:Book}{e:Event}(hw:BookWf x)(sm:BookSm x)(es:EvSm e):WrWf (depR x e):=by
 have h:=WrWf.same hw sm 0
 refine⟨h.chans,h.htlcs,h.circles,lines_add (lines_add nil_lines (by (unfold i64;first|omega|(dsimp only;omega))) (by (unfold i64;first|omega|(dsimp only;omega))) (i64_50 es.amt)) (by (unfold i64;first|omega|(dsimp only;omega))) (by (unfold i64;first|omega|(dsimp only;omega))) (by have:=es.amt;unfold A50 at this;unfold i64;omega),h.lc,h.lh,h.li,?_⟩
 have h1:=addL_len (addL [] 1 0 e.amt) 2 0 (-e.amt)
 have h2:=addL_len [] 1 0 e.amt
 show (addL (addL [] 1 0 e.amt) 2 0 (-e.amt)).length≤_
 simp at h2
 omega
theorem two_len(a b c d f g:Int):(addL (addL [] a b c) d f g).length≤100000:=by
 have h1:=addL_len (addL [] a b c) d f g
 have h2:=addL_len [] a b c
 simp at h2
 omega
theorem three_len(a b c d f g h i j:Int):(addL (addL (addL [] a b c) d f g) h i j).length≤100000:=by
 have h0:=addL_len (addL (addL [] a b c) d f g) h i j
 have h1:=addL_len (addL [] a b c) d f g
 have h2:=addL_len [] a b c
 simp at h2
 omega
theorem wr_open{x:Book}{e:Event}(hw:BookWf x)(sm:BookSm x)(es:EvSm e)(we:wfEvent e):WrWf (openR x e):=by
 have h:=WrWf.same hw sm 0
 have ha:=es.amt
 have hf:=es.fee
 by_cases q:openC x e=0
 ·rw[openR_yes q]
  refine⟨fun c hc=>?_,h.htlcs,h.circles,lines_add (lines_add nil_lines (by (unfold i64;first|omega|(dsimp only;omega))) we.2.2.1 (i64_50 ha)) (by (unfold i64;first|omega|(dsimp only;omega))) (by (unfold i64;first|omega|(dsimp only;omega))) (by unfold A50 at ha;unfold i64;omega),?_,h.lh,h.li,two_len _ _ _ _ _ _⟩
  ·rcases mem_insC hc with hc|rfl
   ·exact h.chans c hc
   ·unfold A50 at ha hf
    unfold wfChan
    refine⟨we.2.2.1,?_,?_,?_,by (unfold i64;first|omega|(dsimp only;omega)),by (unfold i64;first|omega|(dsimp only;omega)),by (unfold i64;first|omega|(dsimp only;omega))⟩<;>unfold i64<;>dsimp only<;>omega
  ·show (insC x.chans _).length≤_
   rw[insC_len]
   have:=sm.lc
   omega
 ·rw[openR_no q];exact WrWf.same hw sm _
theorem chanOr_A50{x:Book}(sm:BookSm x)(ch:Int):A50 (chanOr x.chans ch).loc∧A50 (chanOr x.chans ch).remote:=by
 rcases chan_find x.chans ch with⟨_,q⟩|⟨i,c,_,q1,q2,_⟩
 ·rw[q];unfold zeroChan A50;simp
 ·rw[q2]
  have:=sm.chans c (mem_of_get q1)
  exact⟨this.1,this.2.1⟩
theorem wr_shut{x:Book}{e:Event}(hw:BookWf x)(sm:BookSm x)(es:EvSm e)(we:wfEvent e):WrWf (shutR x e):=by
 have h:=WrWf.same hw sm 0
 have hf:=es.fee
 have hl:=(chanOr_A50 sm e.ch).1
 by_cases q:shutC x e=0
 ·rw[shutR_yes q]
  unfold shutY
  refine⟨fun c hc=>h.chans c ((List.mem_filter.1 hc).1),h.htlcs,h.circles,lines_add (lines_add (lines_add nil_lines (by (unfold i64;first|omega|(dsimp only;omega))) (by (unfold i64;first|omega|(dsimp only;omega))) ?_) (by (unfold i64;first|omega|(dsimp only;omega))) (by (unfold i64;first|omega|(dsimp only;omega))) (i64_50 hf)) (by (unfold i64;first|omega|(dsimp only;omega))) we.2.2.1 ?_,?_,h.lh,h.li,three_len _ _ _ _ _ _ _ _ _⟩
  ·unfold A50 at hf hl;unfold i64;omega
  ·unfold A50 at hf hl;unfold i64;omega
  ·have h1:(delC x.chans e.ch).length≤x.chans.length:=List.length_filter_le _ _
   have:=sm.lc
   show (delC x.chans e.ch).length≤_
   omega
 ·rw[shutR_no q];exact WrWf.same hw sm _
theorem len_upd1{x:Book}(sm:BookSm x){a:Int}{f:Chan→Chan}:(updC x.chans a f).length≤100000:=by rw[upd_len];have:=sm.lc;omega
theorem len_upd2{x:Book}(sm:BookSm x){a b:Int}{f g:Chan→Chan}:(updC (updC x.chans a f) b g).length≤100000:=by rw[upd_len,upd_len];have:=sm.lc;omega
theorem wr_pri{x:Book}{e:Event}(hw:BookWf x)(sm:BookSm x)(es:EvSm e):WrWf (priR x e):=by
 have h:=WrWf.same hw sm 0
 have ha:=es.amt
 have hf:=es.fee
 unfold A50 at ha hf
 unfold priR
 split
 ·exact WrWf.same hw sm _
 ·refine⟨upd_one (n:=0) hw sm (fun c hc=>?_),h.htlcs,h.circles,nil_lines,len_upd1 sm,h.lh,h.li,h.ll⟩
  refine chB.put hc rfl rfl ?_
  have:=hc.2
  dsimp only at *
  omega
theorem wr_adm{x:Book}{e:Event}(hw:BookWf x)(sm:BookSm x)(es:EvSm e)(we:wfEvent e):WrWf (admR x e):=by
 have h:=WrWf.same hw sm 0
 have ha:=es.amt
 have hs:A50 (admSum x e):=addV_A50 _ _
 unfold A50 at ha hs
 by_cases q:admC x e=0
 ·rw[admR_yes q]
  unfold admY
  refine⟨upd_both hw sm (fun c hc=>?_) (fun c hc=>?_),fun c hc=>?_,h.circles,lines_add (lines_add nil_lines (by (unfold i64;first|omega|(dsimp only;omega))) we.2.2.2.1 ?_) (by (unfold i64;first|omega|(dsimp only;omega))) we.2.2.2.1 (i64_50 es.amt),len_upd2 sm,?_,h.li,two_len _ _ _ _ _ _⟩
  ·refine chB.put hc rfl rfl ?_;have:=hc.2;dsimp only at *;omega
  ·refine chB.put hc rfl rfl ?_;have:=hc.2;dsimp only at *;omega
  ·rcases List.mem_append.1 hc with hc|hc
   ·exact h.htlcs c hc
   ·rw[List.mem_singleton]at hc
    subst hc
    unfold wfHtlc
    refine⟨we.2.1,we.2.2.1,we.2.2.2.1,?_,?_,by (unfold i64;first|omega|(dsimp only;omega))⟩<;>unfold i64<;>dsimp only<;>omega
  ·unfold i64;omega
  ·have:=sm.lh
   simp
   omega
 ·rw[admR_no q];exact WrWf.same hw sm _
theorem wr_set{x:Book}{e:Event}(hw:BookWf x)(sm:BookSm x):WrWf (setR x e):=by
 have h:=WrWf.same hw sm 0
 unfold setR
 split
 ·rename_i y hy
  have hm:=List.mem_of_find?_eq_some hy
  have w1:=hw.htlcs y hm
  have s1:=sm.htlcs y hm
  unfold wfHtlc at w1
  have hdl:(delH x.htlcs y.key).length≤100000:=by
   have h1:(delH x.htlcs y.key).length≤x.htlcs.length:=List.length_filter_le _ _
   have:=sm.lh
   omega
  have hdm:∀c∈delH x.htlcs y.key,wfHtlc c:=fun c hc=>h.htlcs c ((List.mem_filter.1 hc).1)
  unfold A50 at s1
  unfold setY
  split
  ·refine⟨upd_both hw sm (fun c hc=>?_) (fun c hc=>?_),hdm,h.circles,lines_add (lines_add (lines_add nil_lines (by (unfold i64;first|omega|(dsimp only;omega))) (by (unfold i64;first|omega|(dsimp only;omega))) ?_) (by (unfold i64;first|omega|(dsimp only;omega))) w1.2.1 w1.2.2.2.1) (by (unfold i64;first|omega|(dsimp only;omega))) w1.2.2.1 ?_,len_upd2 sm,hdl,h.li,three_len _ _ _ _ _ _ _ _ _⟩
   ·have:=scoreUp_le c.score;refine chB.put hc rfl rfl ?_;have:=hc.2;dsimp only at *;omega
   ·refine chB.put hc rfl rfl ?_;have:=hc.2;dsimp only at *;omega
   ·unfold i64;omega
   ·unfold i64;omega
  ·refine⟨upd_both hw sm (fun c hc=>?_) (fun c hc=>?_),hdm,h.circles,lines_add (lines_add nil_lines (by (unfold i64;first|omega|(dsimp only;omega))) w1.2.2.1 ?_) (by (unfold i64;first|omega|(dsimp only;omega))) w1.2.2.1 ?_,len_upd2 sm,hdl,h.li,two_len _ _ _ _ _ _⟩
   ·have:=scoreDown_le c.score;refine chB.put hc rfl rfl ?_;have:=hc.2;dsimp only at *;omega
   ·refine chB.put hc rfl rfl ?_;have:=hc.2;dsimp only at *;omega
   ·unfold i64;omega
   ·unfold i64;omega
 ·exact WrWf.same hw sm _
theorem wr_tick{x:Book}(hw:BookWf x)(sm:BookSm x):WrWf (tickR x):=by
 have h:=WrWf.same hw sm 0
 refine⟨fun c hc=>?_,fun c hc=>?_,h.circles,nil_lines,?_,?_,h.li,h.ll⟩
 ·obtain⟨d,hd,rfl⟩:=List.mem_map.1 hc
  unfold fadeC
  split
  ·have h1:=h.chans d hd
   have h2:=fade_le d.score
   unfold wfChan at *
   refine⟨h1.1,h1.2.1,h1.2.2.1,h1.2.2.2.1,h1.2.2.2.2.1,h1.2.2.2.2.2.1,?_⟩
   unfold i64;dsimp only;omega
  ·exact h.chans d hd
 ·obtain⟨d,hd,rfl⟩:=List.mem_map.1 hc
  have h1:=h.htlcs d hd
  have h2:=sm.htlcs d hd
  unfold wfHtlc ageH at *
  refine⟨h1.1,h1.2.1,h1.2.2.1,h1.2.2.2.1,h1.2.2.2.2.1,?_⟩
  unfold i64;dsimp only;omega
 ·show (x.chans.map _).length≤_
  rw[List.length_map];exact h.lc
 ·show (x.htlcs.map _).length≤_
  rw[List.length_map];exact h.lh
theorem wr_lau{x:Book}{e:Event}(hw:BookWf x)(sm:BookSm x)(es:EvSm e)(we:wfEvent e):WrWf (lauR x e):=by
 have h:=WrWf.same hw sm 0
 have ha:=es.amt
 have hf:=es.fee
 have hs:A50 (addV e.amt e.fee):=addV_A50 _ _
 unfold A50 at ha hs hf
 by_cases q:lauC x e=0
 ·rw[lauR_yes q]
  unfold lauY
  refine⟨upd_both hw sm (fun c hc=>?_) (fun c hc=>?_),h.htlcs,fun c hc=>?_,lines_add (lines_add nil_lines (by (unfold i64;first|omega|(dsimp only;omega))) we.2.2.1 ?_) (by (unfold i64;first|omega|(dsimp only;omega))) we.2.2.1 ?_,len_upd2 sm,h.lh,?_,two_len _ _ _ _ _ _⟩
  ·refine chB.put hc rfl rfl ?_;have:=hc.2;dsimp only at *;omega
  ·refine chB.put hc rfl rfl ?_;have:=hc.2;dsimp only at *;omega
  ·rcases List.mem_append.1 hc with hc|hc
   ·exact h.circles c hc
   ·rw[List.mem_singleton]at hc
    subst hc
    unfold wfCircle
    refine⟨we.2.1,we.2.2.1,we.2.2.2.1,?_,?_⟩<;>unfold i64<;>dsimp only<;>omega
  ·unfold i64;omega
  ·unfold i64;omega
  ·have:=sm.li
   simp
   omega
 ·rw[lauR_no q];exact WrWf.same hw sm _
theorem wr_land{x:Book}{e:Event}(hw:BookWf x)(sm:BookSm x):WrWf (landR x e):=by
 have h:=WrWf.same hw sm 0
 unfold landR
 split
 ·rename_i y hy
  have hm:=List.mem_of_find?_eq_some hy
  have w1:=hw.circles y hm
  have s1:=sm.circles y hm
  unfold wfCircle at w1
  have hdl:(delI x.circles y.key).length≤100000:=by
   have h1:(delI x.circles y.key).length≤x.circles.length:=List.length_filter_le _ _
   have:=sm.li
   omega
  have hdm:∀c∈delI x.circles y.key,wfCircle c:=fun c hc=>h.circles c ((List.mem_filter.1 hc).1)
  unfold A50 at s1
  unfold landY
  split
  ·refine⟨upd_both hw sm (fun c hc=>?_) (fun c hc=>?_),h.htlcs,hdm,lines_add (lines_add (lines_add nil_lines (by (unfold i64;first|omega|(dsimp only;omega))) (by (unfold i64;first|omega|(dsimp only;omega))) w1.2.2.2.2) (by (unfold i64;first|omega|(dsimp only;omega))) w1.2.2.1 w1.2.2.2.1) (by (unfold i64;first|omega|(dsimp only;omega))) w1.2.1 ?_,len_upd2 sm,h.lh,hdl,three_len _ _ _ _ _ _ _ _ _⟩
   ·refine chB.put hc rfl rfl ?_;have:=hc.2;dsimp only at *;omega
   ·refine chB.put hc rfl rfl ?_;have:=hc.2;dsimp only at *;omega
   ·unfold i64;omega
  ·refine⟨upd_both hw sm (fun c hc=>?_) (fun c hc=>?_),h.htlcs,hdm,lines_add (lines_add nil_lines (by (unfold i64;first|omega|(dsimp only;omega))) w1.2.1 ?_) (by (unfold i64;first|omega|(dsimp only;omega))) w1.2.1 ?_,len_upd2 sm,h.lh,hdl,two_len _ _ _ _ _ _⟩
   ·refine chB.put hc rfl rfl ?_;have:=hc.2;dsimp only at *;omega
   ·refine chB.put hc rfl rfl ?_;have:=hc.2;dsimp only at *;omega
   ·unfold i64;omega
   ·unfold i64;omega
 ·exact WrWf.same hw sm _
theorem wr_work{x:Book}{e:Event}(hw:BookWf x)(sm:BookSm x)(es:EvSm e)(we:wfEvent e):WrWf (workR x e):=by
 unfold workR
 repeat' split
 ·exact wr_dep hw sm es
 ·exact wr_open hw sm es we
 ·exact wr_shut hw sm es we
 ·exact wr_pri hw sm es
 ·exact wr_adm hw sm es we
 ·exact wr_set hw sm
 ·exact wr_tick hw sm
 ·exact wr_lau hw sm es we
 ·exact wr_land hw sm
theorem applyC_ok{x:Book}{e:Event}(h:applyC x e=0):bookOk x=true∧eventOk e=true∧overB x e=false:=by
 unfold applyC at h
 split at h
 ·rename_i q
  rw[Bool.and_eq_true]at q
  split at h
  ·omega
  ·rename_i r
   exact⟨q.1,q.2,by simpa using r⟩
 ·omega
theorem wr_apply{x:Book}{e:Event}(hw:BookWf x)(we:wfEvent e)(h:applyC x e=0):WrWf (workR x e):=by
 obtain⟨h1,h2,_⟩:=applyC_ok h
 exact wr_work hw (bookOk_fi h1).sm (evSm_of h2).1 we

abbrev appAV(x:Book)(e:Event):AV:=.tup [.agg [int (appB x e).tick,int (appB x e).next,int (appB x e).wallet,.own 11,.own 12,.own 13],.agg [int (appP x e).id,.own 14],int (applyC x e)]
abbrev appOb(x:Book)(e:Event):List (Nat×AO):=[(11,.arr 57 7 (rowsOf encChan (appB x e).chans)),(12,hAr (appB x e).htlcs),(13,iAr (appB x e).circles),(14,lAr (appP x e).lines)]
def OBF(w:World)(v:Value)(f:List Nat)(o:AO):Prop:=∀(L:Nat→Prop) (ρ:Nat→Value) (H:Nat→AO),OB L ρ H w v f o
theorem OBF.of{L:Nat→Prop}{ρ:Nat→Value}{H:Nat→AO}{w:World}{v:Value}{f:List Nat}{α:Type}{enc:α→List Value}{e:TypeId}{sz:Nat}{l:List α}(h:OB L ρ H w v f (.arr ⟨e,none⟩ sz (rowsOf enc l))):OBF w v f (.arr ⟨e,none⟩ sz (rowsOf enc l)):=fun L' ρ' H'=>by
 obtain⟨xs,fr,k1,k2,k3,k4,k5⟩:=h
 have hfr:=k1.flat_fp flat_rowsOf
 subst hfr
 exact⟨xs,[],k1,by simp,k3,k4,k5⟩
theorem OBF.nil{w:World}{e:TypeId}{sz:Nat}:OBF w (.slice none 0 0) [] (.arr ⟨e,none⟩ sz []):=fun L ρ H=>⟨[],[],by simp[RWR],by simp,World.ownsRow_nil _ _ _ _,rfl,fun u hu=>by cases hu⟩
theorem rv_own1{L:Nat→Prop}{ρ:Nat→Value}{H:Nat→AO}{w:World}{id:Nat}{c:Value}(h:RV L ρ H w (.own id) c):c.oneCell'=true:=by rw[RV]at h;exact h.1
theorem rv_own_mk{L:Nat→Prop}{ρ:Nat→Value}{H:Nat→AO}{w:World}{id:Nat}{c:Value}(h:c.oneCell'=true)(h2:c=ρ id):RV L ρ H w (.own id) c:=by rw[RV];exact⟨h,fun _=>h2⟩
theorem app_key{x:Book}{e:Event}{L:Nat→Prop}{w':World}{y:AV}{ob1:List (Nat×AO)}{v:Value}{ρ':Nat→Value}{fp':Nat→List Nat}(hR:appR x e y ob1)(g2:RV L ρ' (ofO ob1) w' y v)(g3:∀i,OB L ρ' (ofO ob1) w' (ρ' i) (fp' i) (ofO ob1 i)) :
 ∃v1 v2 v3 v4:Value,∃k1 k2 k3 k4:Bool,v=.tuple #[.agg #[.int .i64 (appB x e).tick,.int .i64 (appB x e).next,.int .i64 (appB x e).wallet,v1,v2,v3],.agg #[.int .i64 (appP x e).id,v4],.int .i64 (applyC x e)]∧(v1.oneCell'=true∧v2.oneCell'=true∧v3.oneCell'=true∧v4.oneCell'=true)∧
  OBF w' v1 (if k1 then fp' 1 else []) (.arr 57 7 (rowsOf encChan (appB x e).chans))∧OBF w' v2 (if k2 then fp' 2 else []) (hAr (appB x e).htlcs)∧OBF w' v3 (if k3 then fp' 3 else []) (iAr (appB x e).circles)∧OBF w' v4 (if k4 then fp' 4 else []) (lAr (appP x e).lines):=by
 rcases hR with⟨h0,rfl,rfl⟩|⟨h0,hl,rfl,rfl⟩|⟨h0,hl,rfl,rfl⟩
 ·obtain⟨e1,e2⟩:=appB_no h0
  obtain⟨cs,rfl,g⟩:=rv_tup g2
  simp only[RVL]at g
  obtain⟨v1,_,rfl,k1,v2,_,rfl,k2,v3,_,rfl,k3,rfl⟩:=g
  obtain⟨cs,rfl,g⟩:=rv_agg k1
  simp only[RVL]at g
  obtain⟨u1,_,rfl,j1,u2,_,rfl,j2,u3,_,rfl,j3,u4,_,rfl,j4,u5,_,rfl,j5,u6,_,rfl,j6,rfl⟩:=g
  obtain⟨cs,rfl,g⟩:=rv_agg k2
  simp only[RVL]at g
  obtain⟨t1,_,rfl,i1,t2,_,rfl,i2,rfl⟩:=g
  rw[j1.v_eq,j2.v_eq,j3.v_eq,j4.v_eq,j5.v_eq,j6.v_eq,i1.v_eq,i2.v_eq,k3.v_eq]
  refine⟨_,_,_,_,false,false,false,false,by rw[e1,e2];rfl,⟨rfl,rfl,rfl,rfl⟩,?_⟩
  rw[e1,e2]
  exact⟨OBF.nil,OBF.nil,OBF.nil,OBF.nil⟩
 ·obtain⟨e1,e2⟩:=appB_nil h0 hl
  obtain⟨cs,rfl,g⟩:=rv_tup g2
  simp only[RVL]at g
  obtain⟨v1,_,rfl,k1,v2,_,rfl,k2,v3,_,rfl,k3,rfl⟩:=g
  obtain⟨cs,rfl,g⟩:=rv_agg k1
  simp only[RVL]at g
  obtain⟨u1,_,rfl,j1,u2,_,rfl,j2,u3,_,rfl,j3,u4,_,rfl,j4,u5,_,rfl,j5,u6,_,rfl,j6,rfl⟩:=g
  obtain⟨cs,rfl,g⟩:=rv_agg k2
  simp only[RVL]at g
  obtain⟨t1,_,rfl,i1,t2,_,rfl,i2,rfl⟩:=g
  rw[j1.v_eq,j2.v_eq,j3.v_eq,i1.v_eq,i2.v_eq,k3.v_eq]
  refine⟨_,_,_,_,true,true,true,false,by rw[e1,e2,h0],⟨rv_own1 j4,rv_own1 j5,rv_own1 j6,rfl⟩,?_⟩
  rw[e1,e2,rv_own j4 rfl,rv_own j5 rfl,rv_own j6 rfl]
  exact⟨OBF.of (g3 1),OBF.of (g3 2),OBF.of (g3 3),OBF.nil⟩
 ·obtain⟨e1,e2⟩:=appB_yes h0 hl
  obtain⟨cs,rfl,g⟩:=rv_tup g2
  simp only[RVL]at g
  obtain⟨v1,_,rfl,k1,v2,_,rfl,k2,v3,_,rfl,k3,rfl⟩:=g
  obtain⟨cs,rfl,g⟩:=rv_agg k1
  simp only[RVL]at g
  obtain⟨u1,_,rfl,j1,u2,_,rfl,j2,u3,_,rfl,j3,u4,_,rfl,j4,u5,_,rfl,j5,u6,_,rfl,j6,rfl⟩:=g
  obtain⟨cs,rfl,g⟩:=rv_agg k2
  simp only[RVL]at g
  obtain⟨t1,_,rfl,i1,t2,_,rfl,i2,rfl⟩:=g
  rw[j1.v_eq,j2.v_eq,j3.v_eq,i1.v_eq,k3.v_eq]
  refine⟨_,_,_,_,true,true,true,true,by rw[e1,e2,h0],⟨rv_own1 j4,rv_own1 j5,rv_own1 j6,rv_own1 i2⟩,?_⟩
  rw[e1,e2,rv_own j4 rfl,rv_own j5 rfl,rv_own j6 rfl,rv_own i2 rfl]
  exact⟨OBF.of (g3 1),OBF.of (g3 2),OBF.of (g3 3),OBF.of (g3 4)⟩
theorem app_gc{f:FuncId}{x:Book}{e:Event}(hc:GX Try.prog f [bookV x,evV e] [] (appR x e)):GC Try.prog f [bookV x,evV e] [] (appAV x e) (appOb x e):=by
 intro L w cs ρ fp hL hargs hob hdj hLf
 refine Calls.mono (hc L w cs ρ fp hL hargs hob hdj hLf) ?_
 rintro r w' ⟨y,ob1,hR,v,ρ',fp',rfl,g1,g2,g3,g4,g5⟩
 obtain⟨v1,v2,v3,v4,k1,k2,k3,k4,rfl,⟨o1,o2,o3,o4⟩,b1,b2,b3,b4⟩:=app_key hR g2 g3
 have hsub:∀(k:Bool) i,∀b∈(if k then fp' i else []),b∈fp' i:=fun k i b hb=>by cases k<;>simp_all
 refine⟨_,_,⟨rfl,rfl⟩,_,(fun i=>if i=11 then v1 else if i=12 then v2 else if i=13 then v3 else if i=14 then v4 else undef),(fun i=>if i=11 then (if k1 then fp' 1 else [])else if i=12 then (if k2 then fp' 2 else [])else if i=13 then (if k3 then fp' 3 else [])else if i=14 then (if k4 then fp' 4 else [])else []),rfl,g1,?_,fun i=>?_,fun i j hij b hb hb'=>?_,fun i b hb=>?_⟩
 ·rw[RV]
  refine⟨[_,_,_],rfl,?_⟩
  simp only[RVL]
  refine⟨_,_,rfl,?_,_,_,rfl,?_,_,_,rfl,RV.v_mk rfl,rfl⟩
  ·rw[RV]
   refine⟨[_,_,_,_,_,_],rfl,?_⟩
   simp only[RVL]
   exact⟨_,_,rfl,RV.v_mk rfl,_,_,rfl,RV.v_mk rfl,_,_,rfl,RV.v_mk rfl,_,_,rfl,rv_own_mk o1 rfl,_,_,rfl,rv_own_mk o2 rfl,_,_,rfl,rv_own_mk o3 rfl,rfl⟩
  ·rw[RV]
   refine⟨[_,_],rfl,?_⟩
   simp only[RVL]
   exact⟨_,_,rfl,RV.v_mk rfl,_,_,rfl,rv_own_mk o4 rfl,rfl⟩
 ·by_cases h1:i=11
  ·subst h1;exact b1 _ _ _
  by_cases h2:i=12
  ·subst h2;exact b2 _ _ _
  by_cases h3:i=13
  ·subst h3;exact b3 _ _ _
  by_cases h4:i=14
  ·subst h4;exact b4 _ _ _
  simp only[if_neg h1,if_neg h2,if_neg h3,if_neg h4,ofO]
  rfl
 ·have key:∀i b,b∈(if i=11 then (if k1 then fp' 1 else [])else if i=12 then (if k2 then fp' 2 else [])else if i=13 then (if k3 then fp' 3 else [])else if i=14 then (if k4 then fp' 4 else [])else [])→11≤i∧b∈fp' (i-10):=fun i b hb=>by
   split at hb
   ·rename_i q;subst q;exact⟨by omega,hsub _ _ b hb⟩
   split at hb
   ·rename_i q;subst q;exact⟨by omega,hsub _ _ b hb⟩
   split at hb
   ·rename_i q;subst q;exact⟨by omega,hsub _ _ b hb⟩
   split at hb
   ·rename_i q;subst q;exact⟨by omega,hsub _ _ b hb⟩
   ·cases hb
  obtain⟨p1,p2⟩:=key i b hb
  obtain⟨p3,p4⟩:=key j b hb'
  exact g4 (i-10) (j-10) (by omega) b p2 p4
 ·have key:∀i b,b∈(if i=11 then (if k1 then fp' 1 else [])else if i=12 then (if k2 then fp' 2 else [])else if i=13 then (if k3 then fp' 3 else [])else if i=14 then (if k4 then fp' 4 else [])else [])→∃j,b∈fp' j:=fun i b hb=>by
   split at hb
   ·exact⟨1,hsub _ _ b hb⟩
   split at hb
   ·exact⟨2,hsub _ _ b hb⟩
   split at hb
   ·exact⟨3,hsub _ _ b hb⟩
   split at hb
   ·exact⟨4,hsub _ _ b hb⟩
   ·cases hb
  obtain⟨j,hj⟩:=key i b hb
  exact g5 j b hj
theorem sapply_g(x:Book)(e:Event)(hw:BookWf x):GC Try.prog 70 [bookV x,evV e] [] (appAV x e) (appOb x e):=app_gc (sapply_e x e hw)
abbrev ownBk(x:Book):AV:=.agg [int x.tick,int x.next,int x.wallet,.own 1,.own 2,.own 3]
abbrev obBk(u1 u2 u3:Value)(x:Book):List (Nat×AO):=[(1,.arr ⟨57,some u1⟩ 7 (rowsOf encChan x.chans)),(2,.arr ⟨101,some u2⟩ 7 (rowsOf encHtlc x.htlcs)),(3,.arr ⟨103,some u3⟩ 5 (rowsOf encCircle x.circles))]
theorem appFlat(x:Book)(e:Event):∀p∈appOb x e,flatO p.2:=fun p hp=>by
 simp only[appOb,List.mem_cons,List.not_mem_nil,or_false]at hp
 rcases hp with rfl|rfl|rfl|rfl<;>exact⟨rfl,flat_rowsOf⟩
theorem lentBk{f:FuncId}{u1 u2 u3:Value}{x:Book}{e:Event}(hc:GC Try.prog f [bookV x,evV e] [] (appAV x e) (appOb x e)):GC Try.prog f [ownBk x,evV e] (obBk u1 u2 u3 x) (appAV x e) (appOb x e++obBk u1 u2 u3 x):=
 hc.lent rfl rfl (by intro id hid;simp[ownN,ownNL]at hid;rcases hid with rfl|rfl|rfl|rfl<;>rfl) (by intro p hp;simp[obBk]at hp;rcases hp with rfl|rfl|rfl<;>rfl) (appFlat x e) (by intro p hp;simp[obBk]at hp;rcases hp with rfl|rfl|rfl<;>rfl)
end Go.Proofs.Ytnlpbgljaecdmaa

