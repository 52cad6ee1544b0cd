/- Texts of the proof of FnMoves, joined: ES2, ES3, ES3b. -/
import Derived.Test.YtnlpbgljaecdmaaJMoves6
import Derived.Test.YtnlpbgljaecdmaaJMoves3
namespace Go.Proofs.Ytnlpbgljaecdmaa
open Go.RowKit
set_option maxHeartbeats 16000000
set_option maxRecDepth 100000
set_option linter.unusedSimpArgs false
set_option linter.unusedVariables false
theorem insL_swap{a b:Line}(h:¬(a.acc.kind=b.acc.kind∧a.acc.ch=b.acc.ch)):∀(l:List Line),insL (insL l a) b=insL (insL l b) a:=by
 have tot:lessA a.acc b.acc=!lessA b.acc a.acc:=by
  unfold lessA
  refine Bool.eq_iff_iff.2 ?_
  simp only[Bool.or_eq_true,Bool.and_eq_true,decide_eq_true_eq,beq_iff_eq,Bool.not_eq_true',Bool.or_eq_false_iff,Bool.and_eq_false_iff,decide_eq_false_iff_not,beq_eq_false_iff_ne]
  omega
 have tr:∀x y z:Acc,lessA x y=true→lessA x z=false→lessA z y=true:=fun x y z=>by
  unfold lessA
  simp only[Bool.or_eq_true,Bool.and_eq_true,decide_eq_true_eq,beq_iff_eq,Bool.or_eq_false_iff,Bool.and_eq_false_iff,decide_eq_false_iff_not,beq_eq_false_iff_ne]
  omega
 intro l
 induction l with
 |nil=>
  rcases q:lessA b.acc a.acc with _|_
  ·simp[insL,q,tot]
  ·simp[insL,q,tot]
 |cons c l ih=>
  rcases qa:lessA c.acc a.acc with _|_<;>rcases qb:lessA c.acc b.acc with _|_
  ·rcases q:lessA b.acc a.acc with _|_
   ·simp[insL,qa,qb,q,tot]
   ·simp[insL,qa,qb,q,tot]
  ·have h1:=tr _ _ _ qb qa
   have h2:lessA b.acc a.acc=false:=by rw[tot]at h1;simpa using h1
   simp[insL,qa,qb,h1,h2]
  ·have h1:=tr _ _ _ qa qb
   have h2:lessA a.acc b.acc=false:=by rw[tot,h1];rfl
   simp[insL,qa,qb,h1,h2]
  ·simp[insL,qa,qb,ih]
theorem addL_swap{l:List Line}{k c n k' c' n':Int}(h:¬(k=k'∧c=c')):addL (addL l k c n) k' c' n'=addL (addL l k' c' n') k c n:=by
 unfold addL
 repeat' split
 all_goals first|rfl|exact insL_swap h l
def insG{α:Type}(p:α→Bool)(l:List α)(x:α):List α:=l.take (l.findIdx p)++[x]++l.drop (l.findIdx p)
theorem find_none{α:Type}{p:α→Bool}{l:List α}(h:l.any p=false):l.findIdx p=l.length:=List.findIdx_eq_length.2 fun x hx=>by simpa using List.any_eq_false.1 h x hx
theorem find_some{α:Type}{p:α→Bool}{l:List α}(h:l.any p=true):l.findIdx p<l.length:=by
 obtain⟨x,hx,hp⟩:=List.any_eq_true.1 h
 exact List.findIdx_lt_length_of_exists ⟨x,hx,hp⟩
theorem insG_no{α:Type}{p:α→Bool}{l:List α}{x:α}(h:l.any p=false):insG p l x=l++[x]:=by
 unfold insG
 rw[find_none h,List.take_length,List.drop_length,List.append_nil]
theorem insG_snoc{α:Type}{p:α→Bool}{l:List α}{x y:α}(h:l.any p=true):insG p (l++[y]) x=insG p l x++[y]:=by
 have q:=find_some h
 unfold insG
 rw[List.findIdx_append,if_pos q,List.take_append_of_le_length (Nat.le_of_lt q),List.drop_append_of_le_length (Nat.le_of_lt q)]
 simp
theorem insG_here{α:Type}{p:α→Bool}{l:List α}{x y:α}(h:l.any p=false)(h2:p y=true):insG p (l++[y]) x=l++[x,y]:=by
 have q:=find_none h
 unfold insG
 rw[List.findIdx_append,if_neg (by omega)]
 have:List.findIdx p [y]=0:=by simp[List.findIdx_cons,h2]
 rw[this,Nat.zero_add]
 simp
def putG{α:Type}(p:α→Bool)(x:α)(l:List α):List α:=if l.any p then insG p l x else l
theorem putG_old{α:Type}{p:α→Bool}{x:α}{l:List α}{k:Nat}(hk:k<l.length)(h:(l.take k).any p=true):putG p x (l.take (k+1))=putG p x (l.take k)++[l[k]]:=by
 unfold putG
 rw[any_take hk,h,Bool.true_or,if_pos rfl,if_pos rfl,List.take_succ_eq_append_getElem hk,insG_snoc h]
theorem putG_new{α:Type}{p:α→Bool}{x:α}{l:List α}{k:Nat}(hk:k<l.length)(h:(l.take k).any p=false)(h2:p l[k]=true):putG p x (l.take (k+1))=(putG p x (l.take k)++[x])++[l[k]]:=by
 unfold putG
 rw[any_take hk,h,h2,Bool.false_or,if_pos rfl,if_neg (by simp),List.take_succ_eq_append_getElem hk,insG_here h h2]
 simp
theorem putG_not{α:Type}{p:α→Bool}{x:α}{l:List α}{k:Nat}(hk:k<l.length)(h:(l.take k).any p=false)(h2:p l[k]=false):putG p x (l.take (k+1))=putG p x (l.take k)++[l[k]]:=by
 unfold putG
 rw[any_take hk,h,h2,Bool.false_or,if_neg (by simp),if_neg (by simp),List.take_succ_eq_append_getElem hk]
theorem putG_all{α:Type}{p:α→Bool}{x:α}{l:List α}(h:l.any p=true):putG p x l=insG p l x:=if_pos h
theorem putG_none{α:Type}{p:α→Bool}{x:α}{l:List α}(h:l.any p=false):putG p x l++[x]=insG p l x:=by unfold putG;rw[insG_no h,if_neg (by simp[h])]
theorem putG_len{α:Type}{p:α→Bool}{x:α}(l:List α):(putG p x l).length≤l.length+1:=by
 unfold putG insG
 split
 ·simp;omega
 ·omega
theorem no_chan{l:List Chan}{ch:Int}(h:chanAt l ch=-1):∀c∈l,c.id≠ch:=fun c hc e=>by
 unfold chanAt at h
 cases hf:l.findIdx? (fun c=>c.id==ch)with
 |none=>exact absurd (List.findIdx?_eq_none_iff.1 hf c hc) (by simp[e])
 |some i=>rw[hf]at h;simp at h
def pastC(ch:Int)(d:Chan):Bool:=!decide (d.id<ch)
abbrev newC(e:Event):Chan:=⟨e.ch,e.amt+e.fee,e.amt,e.fee,0,0,0⟩
theorem opC_no{x:Book}{e:Event}(h:openC x e=0):chanAt x.chans e.ch=-1:=by
 rcases chan_find x.chans e.ch with⟨q,_⟩|⟨i,c,q,_⟩
 ·exact q
 ·exfalso
  unfold openC at h
  rw[show decide (0≤chanAt x.chans e.ch)=true by rw[q];simp]at h
  exact failC_keep (failC_set (by decide)) h
theorem sopen_e(g:Value)(x:Book)(e:Event)(sm:BookSm x)(es:EvSm e)(hsum:addOk e.amt e.fee=true):GC Try.prog 79 [.ptr 0 0 0,evV e] (sIn g x [] 0) (.tup []) (sOut g (openR x e)):=by
 have hm:x.chans.length≤1000000000:=by have:=sm.lc;omega
 have hmh:x.htlcs.length≤1000000000:=by have:=sm.lh;omega
 have hmc:x.circles.length≤1000000000:=by have:=sm.li;omega
 have hlc:=sm.lc
 have hL:decide ((x.chans.length:Int)=20)=decide ((20:Int)≤(x.chans.length:Int)):=by have:=sm.lc;apply decide_eq_decide.2;omega

 refine GC.intro (rs:=[]) Try.func79 rfl Try.ntmps79 (Nat.le_of_ble_eq_true rfl) trivial ?_
 intro L O w0
 refine sL<|lst (zX 2003 Z) Z<|nA<|lf 4 ty.F111_4 Z<|loI ty.kd3 Z<|lf 5 ty.F111_5 Z<|loI ty.kd3 Z<|lst (zL Try.func77 (saddAmt_e _ _) Z) Z<|lmX (.tup [vI _ _,vB _]) Z<|lxI Z<|lsN 17 (e.amt+e.fee) Z (addV_yes hsum)<|lxB Z<|lsB 18 true Z hsum<|laI Z<|laT Z<|nG<|aS<|aS<|aF [3,23,35]<|pq 0 (qmP Z)<|vq 1 (rmT Z)<|vq 2 (ruZ Z) ?_
 refine vst 3 rfl (z5a Try.func76 (scode_e _ _ _ _ _ _ _ _ _ _ _ _ _ _ _ _ _ _ _ ) (⟨stays.box (Eq.refl 8),trivial⟩) rfl rfl) (.inl rfl) ?_
 have f0:failC false 0 2=0:=rfl
 refine fsB 22 false rfl (by simp[failC])<|fT [0,3,4,22] [0,1,2,3,4,2003] ?_
 refine vq 4 (rmZ Z)<|pq 5 (qmP Z)<|pq 6 (qmP Z)<|pq 7 (qc Z)<|pq 8 (qf 0 ty.F125_0 Z)<|sq 9 (roX (.agg [vI _ _,vI _ _,vI _ _,.own _,.own _,.own _]) ty.kd27 Z)<|vq 10 (rf 2 ty.F111_2 Z)<|vq 11 (roI ty.kd3 Z)<|vst 12 Z (zL Try.func29 (sAt_e x _ hm) Z) (.inr Z)<|vq 13 (rbB Z)<|vq 14 (rmB Z) ?_
 refine AF.bool (t:=33) rfl ?_ ?_
 ·intro h1
  refine vno 15 Z<|vno 16 Z<|vno 17 Z<|vno 18 Z<|vno 19 Z<|vno 20 Z<|vno 21 Z<|vq 22 (rkT rfl)<|fsB 41 (decide (0≤chanAt x.chans e.ch)||decide ((20:Int)≤(x.chans.length:Int))) rfl (by rw[show decide (0≤chanAt x.chans e.ch)=true from h1];simp) ?_
  refine vst 23 rfl (z5a Try.func76 (scode_e _ _ _ _ _ _ _ _ _ _ _ _ _ _ _ _ _ _ _ ) (⟨stays.box (Eq.refl 8),trivial⟩) rfl rfl) (.inl rfl)<|vq 24 (rkB rfl)<|vq 25 (rmB rfl) ?_
  refine AF.bool (t:=44) rfl ?_ ?_
  ·intro h2
   refine pno 26 Z<|pno 27 Z<|pno 28 Z<|pno 29 Z<|pno 30 Z<|pno 31 Z<|vno 32 Z<|vno 33 Z<|vno 34 Z<|vno 35 Z<|vq 36 (rkT Z)<|fD<|gT<|aY Z<|aR<|rT ?_
   have hc0:openC x e≠0:=by
    have h:=h2
    unfold openC
    simp only[f0,Bool.not_eq_true',decide_eq_false_iff_not]at h
    rw[failC_old h];exact h
   rw[openR_no hc0]
   refine end_ret ?_ ⟨(Eq.trans (b:=sBox g x.tick x.next x.wallet _) rfl (congrArg (sBox g x.tick x.next x.wallet) (by have h:=h2;unfold openC;(simp only[f0,Bool.not_eq_true',decide_eq_false_iff_not]at h ⊢)<;>rw[failC_old h]))),rfl,rfl,rfl,rfl,trivial⟩
   rfl
  ·intro h2
   refine pq 26 (qmP Z)<|pq 27 (qmP Z)<|pq 28 (qc Z)<|pq 29 (qf 0 ty.F125_0 Z)<|pq 30 (qf 2 ty.F27_2 Z)<|sq 31 (roI ty.kd3 Z)<|vq 32 (rf 4 ty.F111_4 Z)<|vq 33 (roI ty.kd3 Z)<|vq 34 (rbB Z) ?_
   refine vst 35 rfl (z5a Try.func76 (scode_e _ _ _ _ _ _ _ _ _ _ _ _ _ _ _ _ _ _ _ ) (⟨stays.box (Eq.refl 8),trivial⟩) rfl rfl) (.inl rfl)<|fT [0,3,4,44,54] [0,1,2,3,4,2003] ?_
   refine vq 36 (rkB Z)<|fD<|gT ?_
   refine AW.cond rfl ?_ ?_
   ·intro h3
    refine aR<|rT ?_
    have hc0:openC x e≠0:=by
     have h:=h3
     unfold openC
     simp only[f0,Bool.not_eq_true',decide_eq_false_iff_not]at h
     exact h
    rw[openR_no hc0]
    refine end_ret ?_ ⟨(Eq.trans (b:=sBox g x.tick x.next x.wallet _) rfl (congrArg (sBox g x.tick x.next x.wallet) (by have h:=h3;unfold openC;(simp only[f0,Bool.not_eq_true',decide_eq_false_iff_not]at h ⊢)<;>rfl))),rfl,rfl,rfl,rfl,trivial⟩
    rfl
   ·intro h3
    refine aK<|gT<|aS ?_
    have hc0:openC x e=0:=by
     have h:=h3
     unfold openC
     simp only[f0,Bool.not_eq_false',decide_eq_true_eq]at h
     exact h
    have hno:=no_chan (opC_no hc0)
    refine aL<|lst (zS 2056 [] ty.el23 ty.ze57 rfl (by simp)) Z<|laO Z<|nA<|laZ Z<|nA<|lf 2 ty.F111_2 Z<|loI ty.kd3 Z<|lmI Z<|lf 4 ty.F111_4 Z<|loI ty.kd3 Z<|lf 5 ty.F111_5 Z<|loI ty.kd3 Z<|lq (rd (x:=.agg [vI _ _,vI _ _,vI _ _,vI _ _,vI _ _,vI _ _,vI _ _]) (rd_build rfl ty.sa57 rfl rfl rfl) rfl)<|lst (zA 2008 ty.ze57 rfl) Z<|lst (zB 2008 ty.co57 ty.inf57 rfl) Z<|lT [0,3,6,7,8] [0,1,2,3,4,2003,2008,2056] ?_
    refine nG<|aS<|sL<|lmP Z<|lc Z<|lf 0 ty.F125_0 Z<|lf 3 ty.F27_3 Z<|loO ty.kd23 Z<|lnI ty.sl23 Z<|lmI Z<|nG<|aB ?_
    refine aW [0,3,6,8,69,70] [0,1,2,3,4,2003,2008] (D:=Nat) (fun k=>[(7,boo ((x.chans.take k).any (pastC e.ch))),(71,int (k:Int))]) (fun k=>[(2056,AO.arr 57 7 (rowsOf encChan (putG (pastC e.ch) (newC e) (x.chans.take k))))]) (fun k=>k≤x.chans.length) (fun k=>x.chans.length-k) (0) (Nat.zero_le _) ⟨rfl,rfl,trivial⟩ ⟨rfl,trivial⟩ ?_
    intro k hI
    refine sL<|lbB Z<|nG<|aS ?_
    refine AW.cond rfl ?_ ?_
    ·intro h4
     refine aK<|gT<|aS<|aB<|sL ?_
     have hk:k<x.chans.length:=by simpa[length_rowsOf]using h4
     have hidk:=hno x.chans[k] (List.getElem_mem hk)
     refine lq (rj k ty.el23 rfl (by rw[length_rowsOf];exact hk))<|lq (rd (x:=.agg [vI _ _,vI _ _,vI _ _,vI _ _,vI _ _,vI _ _,vI _ _]) (rd_load_arr rfl ty.kd57 rfl rfl rfl (row_map hk) rfl) rfl)<|lst (zA 2010 ty.ze57 rfl) Z<|lst (zB 2010 ty.co57 ty.inf57 rfl) Z<|nG<|aS<|sL<|lmB Z<|luB Z<|lmB rfl ?_
     refine AL.bool (t:=77) rfl ?_ ?_
     ·intro h5
      refine lf 0 ty.F57_0 Z<|loI ty.kd3 Z<|lf 2 ty.F111_2 Z<|loI ty.kd3 Z<|lbB Z<|lkB Z<|nG ?_
      refine AW.cond rfl ?_ ?_
      ·intro h6
       refine sL<|lmO Z<|loX (.agg [vI _ _,vI _ _,vI _ _,vI _ _,vI _ _,vI _ _,vI _ _]) ty.kd57 Z<|lst (zS 2086 (rowsOf encChan [newC e]) ty.el23 ty.ze57 Z) Z<|lT [0,3,6,7,8,10,69,70,71,84,86] [0,1,2,3,4,2003,2008,2010,2056,2086] ?_
       refine lst (zP 2056 ty.el23 ty.ze57 ty.by57 rfl (Src.own rfl rfl) (by have:=putG_len (p:=(pastC e.ch)) (x:=newC e) (x.chans.take k);simp[rowsOf]at *;omega)) Z<|laO Z<|nG<|aL<|laT Z<|nG<|aL<|lmO Z<|loX (.agg [vI _ _,vI _ _,vI _ _,vI _ _,vI _ _,vI _ _,vI _ _]) ty.kd57 Z<|lst (zS 2090 (rowsOf encChan [x.chans[k]]) ty.el23 ty.ze57 rfl) Z<|lst (zP 2056 ty.el23 ty.ze57 ty.by57 rfl (Src.own rfl rfl) (by have:=putG_len (p:=(pastC e.ch)) (x:=newC e) (x.chans.take k);simp[rowsOf]at *;omega)) Z<|laO Z<|lN<|gB<|gT<|aL<|lgI Z<|lmI Z<|nG ?_
       have ha:(x.chans.take k).any (pastC e.ch)=false:=by simpa using h5
       have hb:(pastC e.ch) x.chans[k]=true:=by unfold pastC;have h:=h6;simp at h ⊢;omega
       refine⟨k+1,hk,by omega,⟨(Eq.trans (b:=boo (true)) rfl (congrArg boo (by rw[any_take hk,hb,Bool.or_true]))),(iq rfl),trivial⟩,⟨(Eq.trans (b:=AO.arr 57 7 (rowsOf encChan ((putG (pastC e.ch) (newC e) (x.chans.take k)++[newC e])++[x.chans[k]]))) (congrArg (AO.arr 57 7) (by rw[rowsOf_app,rowsOf_app]<;>rfl)) (congrArg (fun l=>AO.arr 57 7 (rowsOf encChan l)) (putG_new hk ha hb).symm)),trivial⟩,rfl,rfl⟩
      ·intro h6
       refine aK<|gT<|aL<|lmO Z<|loX (.agg [vI _ _,vI _ _,vI _ _,vI _ _,vI _ _,vI _ _,vI _ _]) ty.kd57 Z<|lst (zS 2090 (rowsOf encChan [x.chans[k]]) ty.el23 ty.ze57 rfl) Z<|lst (zP 2056 ty.el23 ty.ze57 ty.by57 rfl (Src.own rfl rfl) (by have:=putG_len (p:=(pastC e.ch)) (x:=newC e) (x.chans.take k);simp[rowsOf]at *;omega)) Z<|lT [0,3,7,8,69,70,71,91] [0,1,2,3,4,2003,2008,2010,2056,2090] ?_
       refine laO Z<|lN<|gB<|gT<|aL<|lgI Z<|lmI Z<|nG ?_
       have ha:(x.chans.take k).any (pastC e.ch)=false:=by simpa using h5
       have hb:(pastC e.ch) x.chans[k]=false:=by unfold pastC;have h:=h6;simp at h ⊢;omega
       refine⟨k+1,hk,by omega,⟨(Eq.trans (b:=boo ((x.chans.take k).any (pastC e.ch))) rfl (congrArg boo (by rw[any_take hk,hb,Bool.or_false]))),(iq rfl),trivial⟩,⟨(Eq.trans (b:=AO.arr 57 7 (rowsOf encChan (putG (pastC e.ch) (newC e) (x.chans.take k)++[x.chans[k]]))) (congrArg (AO.arr 57 7) (rowsOf_app encChan _ [_]).symm) (congrArg (fun l=>AO.arr 57 7 (rowsOf encChan l)) (putG_not hk ha hb).symm)),trivial⟩,rfl,rfl⟩
     ·intro h5
      refine lno Z<|lno Z<|lno Z<|lno Z<|lno Z<|lkZ Z<|nG<|aN Z<|aK<|gT<|aL<|lmO Z<|loX (.agg [vI _ _,vI _ _,vI _ _,vI _ _,vI _ _,vI _ _,vI _ _]) ty.kd57 Z<|lst (zS 2090 (rowsOf encChan [x.chans[k]]) ty.el23 ty.ze57 rfl) Z<|lst (zP 2056 ty.el23 ty.ze57 ty.by57 rfl (Src.own rfl rfl) (by have:=putG_len (p:=(pastC e.ch)) (x:=newC e) (x.chans.take k);simp[rowsOf]at *;omega)) Z<|laO Z<|lN<|gB<|gT<|aL<|lgI Z<|lmI Z<|nG ?_
      have ha:(x.chans.take k).any (pastC e.ch)=true:=by simpa using h5
      refine⟨k+1,hk,by omega,⟨(Eq.trans (b:=boo ((x.chans.take k).any (pastC e.ch))) rfl (congrArg boo (by rw[any_take hk,ha,Bool.true_or]))),(iq rfl),trivial⟩,⟨(Eq.trans (b:=AO.arr 57 7 (rowsOf encChan (putG (pastC e.ch) (newC e) (x.chans.take k)++[x.chans[k]]))) (congrArg (AO.arr 57 7) (rowsOf_app encChan _ [_]).symm) (congrArg (fun l=>AO.arr 57 7 (rowsOf encChan l)) (putG_old hk ha).symm)),trivial⟩,rfl,rfl⟩
    ·intro h4
     refine aE<|eT<|eT<|eB<|gT ?_
     refine aJ [0,3,6] [0,1,2,3,4,2003,2008] (D:=Unit) (fun jd=>[]) (fun jd=>[(2056,AO.arr 57 7 (rowsOf encChan (insC x.chans (newC e))))]) (fun jd=>True) ?_ ?_
     ·refine aS ?_
      have hke:k=x.chans.length:=by have h:=h4;simp only[length_rowsOf,decide_eq_false_iff_not]at h;omega
      have htk:x.chans.take k=x.chans:=by rw[hke,List.take_length]
      refine aL<|lmB Z<|luB Z<|nG ?_
      refine AW.cond rfl ?_ ?_
      ·intro h7
       refine aL<|lmO Z<|loX (.agg [vI _ _,vI _ _,vI _ _,vI _ _,vI _ _,vI _ _,vI _ _]) ty.kd57 Z<|lst (zS 2097 (rowsOf encChan [newC e]) ty.el23 ty.ze57 Z) Z<|lT [0,3,6,95,97] [0,1,2,3,4,2003,2008,2056,2097] ?_
       refine lst (zP 2056 ty.el23 ty.ze57 ty.by57 rfl (Src.own rfl rfl) (by have:=putG_len (p:=(pastC e.ch)) (x:=newC e) (x.chans.take k);simp[rowsOf]at *;omega)) Z<|laO Z<|nG ?_
       refine⟨(),trivial,trivial,⟨(Eq.trans (b:=AO.arr 57 7 (rowsOf encChan (putG (pastC e.ch) (newC e) (x.chans.take k)++[newC e]))) (congrArg (AO.arr 57 7) (rowsOf_app encChan _ [_]).symm) (congrArg (fun l=>AO.arr 57 7 (rowsOf encChan l)) (by have h:=h7;rw[htk]at h ⊢;exact putG_none (by simpa using h)))),trivial⟩,rfl,rfl⟩
      ·intro h7
       refine aK<|gT ?_
       refine⟨(),trivial,trivial,⟨(congrArg (fun l=>AO.arr 57 7 (rowsOf encChan l)) (by have h:=h7;rw[htk]at h ⊢;exact putG_all (by simpa using h))),trivial⟩,rfl,rfl⟩
     ·intro jd hJ
      refine sL<|lmP Z<|lmO Z<|lc Z<|lf 0 ty.F125_0 Z<|lf 3 ty.F27_3 Z<|lst (zB 0 ty.co23 ty.inf23 Z) Z<|nG<|aS ?_
      refine AW.swap 2056 1 ?_
      refine aT [0,3] [0,1,2,3,4,2003,2008] ?_
      refine aF [12]<|pq 0 (qmP Z)<|pq 1 (qmP Z)<|pq 2 (qc Z)<|pq 3 (qf 0 ty.F125_0 Z)<|pq 4 (qf 2 ty.F27_2 Z)<|sq 5 (roI ty.kd3 Z)<|vq 6 (rf 4 ty.F111_4 Z)<|vq 7 (roI ty.kd3 Z) ?_
      refine vq 8 (rhI rfl ⟨rfl,fits_i64 (by have:=es.amt;have:=es.fee;have:=sm.wallet;unfold A50 at *;unfold i64;omega)⟩)<|vq 9 (rc rfl)<|vq 10 (rf 0 ty.F125_0 rfl)<|vq 11 (rf 2 ty.F27_2 rfl)<|vst 12 rfl (zB 0 ty.co3 ty.inf3 rfl) (.inl rfl)<|fD<|gA<|lmP Z<|lf 4 ty.F111_4 Z<|loI ty.kd3 Z<|lq (rd (x:=vI _ _) (rd_un rfl rfl (fits_i64 (by have:=es.amt;have:=es.fee;have:=sm.wallet;unfold A50 at *;unfold i64;omega))) rfl) ?_
      refine lst (z5a Try.func78 (sline_e _ _ _ _ _ _ _ _ _ _ _ _ _ _ ([]) 0 (LG.nil) (by decide) _ _ _ (Fresh.nil _ _) (rangeA_neg es.amt)) (⟨stays.box (Eq.refl 8),trivial⟩) rfl rfl) Z<|lT [0,3] [0,1,2,3,4,2003,2008] ?_
      refine nG<|aL<|lmP Z<|lf 2 ty.F111_2 Z<|loI ty.kd3 Z<|lf 4 ty.F111_4 Z<|loI ty.kd3 Z ?_
      refine lst (z5a Try.func78 (sline_e _ _ _ _ _ _ _ _ _ _ _ _ _ _ (addL [] 1 0 (-e.amt)) 1 (LG.nil.add (rangeA_neg es.amt)) (by decide) _ _ _ ((Fresh.nil _ _).add (.inl (by decide))) (rangeA_of es.amt)) (⟨stays.box (Eq.refl 8),trivial⟩) rfl rfl) Z<|lN ?_
      rw[openR_yes hc0]
      refine end_go ?_ ⟨(Eq.trans (b:=sBox g x.tick x.next (x.wallet-e.amt) _) rfl (congrArg (sBox g x.tick x.next (x.wallet-e.amt)) (by first|exact hc0|(have h:=hc0;unfold openC at h;rw[f0];exact h)))),rfl,rfl,rfl,(congrArg lAr (addL_swap (by omega))),trivial⟩
      rfl
 ·intro h1
  refine vq 15 (rmP rfl)<|vq 16 (rc rfl)<|vq 17 (rf 0 ty.F125_0 rfl)<|vq 18 (rf 3 ty.F27_3 rfl)<|vq 19 (roO ty.kd23 rfl)<|vq 20 (rnI ty.sl23 rfl)<|vq 21 (rbB rfl)<|fsB 40 (decide ((20:Int)≤(x.chans.length:Int))) rfl (by rw[length_rowsOf];exact hL)<|vq 22 (rkB rfl)<|fsB 41 (decide (0≤chanAt x.chans e.ch)||decide ((20:Int)≤(x.chans.length:Int))) rfl (by rw[show decide (0≤chanAt x.chans e.ch)=false from h1];simp) ?_
  refine vst 23 rfl (z5a Try.func76 (scode_e _ _ _ _ _ _ _ _ _ _ _ _ _ _ _ _ _ _ _ ) (⟨stays.box (Eq.refl 8),trivial⟩) rfl rfl) (.inl rfl)<|fT [0,3,4,23,42] [0,1,2,3,4,2003] ?_
  refine vq 24 (rkB Z)<|vq 25 (rmB Z) ?_
  refine AF.bool (t:=44) rfl ?_ ?_
  ·intro h8
   refine pno 26 Z<|pno 27 Z<|pno 28 Z<|pno 29 Z<|pno 30 Z<|pno 31 Z<|vno 32 Z<|vno 33 Z<|vno 34 Z<|vno 35 Z<|vq 36 (rkT Z)<|fD<|gT<|aY Z<|aR<|rT ?_
   have hc0:openC x e≠0:=by
    have h:=h8
    unfold openC
    simp only[f0,Bool.not_eq_true',decide_eq_false_iff_not]at h
    rw[failC_old h];exact h
   rw[openR_no hc0]
   refine end_ret ?_ ⟨(Eq.trans (b:=sBox g x.tick x.next x.wallet _) rfl (congrArg (sBox g x.tick x.next x.wallet) (by have h:=h8;unfold openC;(simp only[f0,Bool.not_eq_true',decide_eq_false_iff_not]at h ⊢)<;>rw[failC_old h]))),rfl,rfl,rfl,rfl,trivial⟩
   rfl
  ·intro h8
   refine pq 26 (qmP Z)<|pq 27 (qmP Z)<|pq 28 (qc Z)<|pq 29 (qf 0 ty.F125_0 Z)<|pq 30 (qf 2 ty.F27_2 Z)<|sq 31 (roI ty.kd3 Z)<|vq 32 (rf 4 ty.F111_4 Z)<|vq 33 (roI ty.kd3 Z)<|vq 34 (rbB Z) ?_
   refine vst 35 rfl (z5a Try.func76 (scode_e _ _ _ _ _ _ _ _ _ _ _ _ _ _ _ _ _ _ _ ) (⟨stays.box (Eq.refl 8),trivial⟩) rfl rfl) (.inl rfl)<|vq 36 (rkB rfl)<|fD<|gT ?_
   refine AW.cond rfl ?_ ?_
   ·intro h9
    refine aR<|rT ?_
    have hc0:openC x e≠0:=by
     have h:=h9
     unfold openC
     simp only[f0,Bool.not_eq_true',decide_eq_false_iff_not]at h
     exact h
    rw[openR_no hc0]
    refine end_ret ?_ ⟨(Eq.trans (b:=sBox g x.tick x.next x.wallet _) rfl (congrArg (sBox g x.tick x.next x.wallet) (by have h:=h9;unfold openC;(simp only[f0,Bool.not_eq_true',decide_eq_false_iff_not]at h ⊢)<;>rfl))),rfl,rfl,rfl,rfl,trivial⟩
    rfl
   ·intro h9
    refine aK<|gT<|aS ?_
    have hc0:openC x e=0:=by
     have h:=h9
     unfold openC
     simp only[f0,Bool.not_eq_false',decide_eq_true_eq]at h
     exact h
    have hno:=no_chan (opC_no hc0)
    refine aL<|lst (zS 2056 [] ty.el23 ty.ze57 rfl (by simp)) Z<|lT [0,3,4,56] [0,1,2,3,4,2003,2056] ?_
    refine laO Z<|nA<|laZ Z<|nA<|lf 2 ty.F111_2 Z<|loI ty.kd3 Z<|lmI Z<|lf 4 ty.F111_4 Z<|loI ty.kd3 Z<|lf 5 ty.F111_5 Z<|loI ty.kd3 Z<|lq (rd (x:=.agg [vI _ _,vI _ _,vI _ _,vI _ _,vI _ _,vI _ _,vI _ _]) (rd_build Z ty.sa57 Z Z Z) Z)<|lst (zA 2008 ty.ze57 Z) Z<|lst (zB 2008 ty.co57 ty.inf57 Z) Z<|nG<|aS<|sL<|lmP Z<|lc Z<|lf 0 ty.F125_0 Z<|lf 3 ty.F27_3 Z<|loO ty.kd23 Z ?_
    refine lnI ty.sl23 Z<|lmI Z<|nG<|aB ?_
    refine aW [0,3,6,8,69,70] [0,1,2,3,4,2003,2008] (D:=Nat) (fun k=>[(7,boo ((x.chans.take k).any (pastC e.ch))),(71,int (k:Int))]) (fun k=>[(2056,AO.arr 57 7 (rowsOf encChan (putG (pastC e.ch) (newC e) (x.chans.take k))))]) (fun k=>k≤x.chans.length) (fun k=>x.chans.length-k) (0) (Nat.zero_le _) ⟨rfl,rfl,trivial⟩ ⟨rfl,trivial⟩ ?_
    intro k hI
    refine sL<|lbB Z<|nG<|aS ?_
    refine AW.cond rfl ?_ ?_
    ·intro h10
     refine aK<|gT<|aS<|aB<|sL ?_
     have hk:k<x.chans.length:=by simpa[length_rowsOf]using h10
     have hidk:=hno x.chans[k] (List.getElem_mem hk)
     refine lq (rj k ty.el23 rfl (by rw[length_rowsOf];exact hk))<|lq (rd (x:=.agg [vI _ _,vI _ _,vI _ _,vI _ _,vI _ _,vI _ _,vI _ _]) (rd_load_arr rfl ty.kd57 rfl rfl rfl (row_map hk) rfl) rfl)<|lst (zA 2010 ty.ze57 rfl) Z<|lT [0,3,6,7,8,10,69,70,71,74] [0,1,2,3,4,2003,2008,2010,2056] ?_
     refine lst (zB 2010 ty.co57 ty.inf57 Z) Z<|nG<|aS<|sL<|lmB Z<|luB Z<|lmB Z ?_
     refine AL.bool (t:=77) rfl ?_ ?_
     ·intro h11
      refine lf 0 ty.F57_0 Z<|loI ty.kd3 Z<|lf 2 ty.F111_2 Z<|loI ty.kd3 Z<|lbB Z<|lkB Z<|nG ?_
      refine AW.cond rfl ?_ ?_
      ·intro h12
       refine sL<|lmO Z<|loX (.agg [vI _ _,vI _ _,vI _ _,vI _ _,vI _ _,vI _ _,vI _ _]) ty.kd57 Z<|lst (zS 2086 (rowsOf encChan [newC e]) ty.el23 ty.ze57 rfl) Z<|lst (zP 2056 ty.el23 ty.ze57 ty.by57 rfl (Src.own rfl rfl) (by have:=putG_len (p:=(pastC e.ch)) (x:=newC e) (x.chans.take k);simp[rowsOf]at *;omega)) Z<|lT [0,3,7,8,10,69,70,71,87] [0,1,2,3,4,2003,2008,2010,2056,2086] ?_
       refine laO Z<|nG<|aL<|laT Z<|nG<|aL<|lmO Z<|loX (.agg [vI _ _,vI _ _,vI _ _,vI _ _,vI _ _,vI _ _,vI _ _]) ty.kd57 Z<|lst (zS 2090 (rowsOf encChan [x.chans[k]]) ty.el23 ty.ze57 rfl) Z<|lst (zP 2056 ty.el23 ty.ze57 ty.by57 rfl (Src.own rfl rfl) (by have:=putG_len (p:=(pastC e.ch)) (x:=newC e) (x.chans.take k);simp[rowsOf]at *;omega)) Z<|laO Z<|lN<|gB<|gT<|aL<|lgI Z<|lmI Z<|nG ?_
       have ha:(x.chans.take k).any (pastC e.ch)=false:=by simpa using h11
       have hb:(pastC e.ch) x.chans[k]=true:=by unfold pastC;have h:=h12;simp at h ⊢;omega
       refine⟨k+1,hk,by omega,⟨(Eq.trans (b:=boo (true)) rfl (congrArg boo (by rw[any_take hk,hb,Bool.or_true]))),(iq rfl),trivial⟩,⟨(Eq.trans (b:=AO.arr 57 7 (rowsOf encChan ((putG (pastC e.ch) (newC e) (x.chans.take k)++[newC e])++[x.chans[k]]))) (congrArg (AO.arr 57 7) (by rw[rowsOf_app,rowsOf_app]<;>rfl)) (congrArg (fun l=>AO.arr 57 7 (rowsOf encChan l)) (putG_new hk ha hb).symm)),trivial⟩,rfl,rfl⟩
      ·intro h12
       refine aK<|gT<|aL<|lmO Z<|loX (.agg [vI _ _,vI _ _,vI _ _,vI _ _,vI _ _,vI _ _,vI _ _]) ty.kd57 Z<|lst (zS 2090 (rowsOf encChan [x.chans[k]]) ty.el23 ty.ze57 rfl) Z<|lst (zP 2056 ty.el23 ty.ze57 ty.by57 rfl (Src.own rfl rfl) (by have:=putG_len (p:=(pastC e.ch)) (x:=newC e) (x.chans.take k);simp[rowsOf]at *;omega)) Z<|laO Z<|lN<|gB<|gT<|aL<|lgI Z<|lmI Z<|nG ?_
       have ha:(x.chans.take k).any (pastC e.ch)=false:=by simpa using h11
       have hb:(pastC e.ch) x.chans[k]=false:=by unfold pastC;have h:=h12;simp at h ⊢;omega
       refine⟨k+1,hk,by omega,⟨(Eq.trans (b:=boo ((x.chans.take k).any (pastC e.ch))) rfl (congrArg boo (by rw[any_take hk,hb,Bool.or_false]))),(iq rfl),trivial⟩,⟨(Eq.trans (b:=AO.arr 57 7 (rowsOf encChan (putG (pastC e.ch) (newC e) (x.chans.take k)++[x.chans[k]]))) (congrArg (AO.arr 57 7) (rowsOf_app encChan _ [_]).symm) (congrArg (fun l=>AO.arr 57 7 (rowsOf encChan l)) (putG_not hk ha hb).symm)),trivial⟩,rfl,rfl⟩
     ·intro h11
      refine lno Z<|lno Z<|lno Z<|lno Z<|lno Z<|lkZ Z<|nG<|aN Z<|aK<|gT<|aL<|lmO Z<|loX (.agg [vI _ _,vI _ _,vI _ _,vI _ _,vI _ _,vI _ _,vI _ _]) ty.kd57 Z<|lst (zS 2090 (rowsOf encChan [x.chans[k]]) ty.el23 ty.ze57 Z) Z<|lT [0,3,6,7,8,69,70,71,88,90] [0,1,2,3,4,2003,2008,2010,2056,2090] ?_
      refine lst (zP 2056 ty.el23 ty.ze57 ty.by57 rfl (Src.own rfl rfl) (by have:=putG_len (p:=(pastC e.ch)) (x:=newC e) (x.chans.take k);simp[rowsOf]at *;omega)) Z<|laO Z<|lN<|gB<|gT<|aL<|lgI Z<|lmI Z<|nG ?_
      have ha:(x.chans.take k).any (pastC e.ch)=true:=by simpa using h11
      refine⟨k+1,hk,by omega,⟨(Eq.trans (b:=boo ((x.chans.take k).any (pastC e.ch))) rfl (congrArg boo (by rw[any_take hk,ha,Bool.true_or]))),(iq rfl),trivial⟩,⟨(Eq.trans (b:=AO.arr 57 7 (rowsOf encChan (putG (pastC e.ch) (newC e) (x.chans.take k)++[x.chans[k]]))) (congrArg (AO.arr 57 7) (rowsOf_app encChan _ [_]).symm) (congrArg (fun l=>AO.arr 57 7 (rowsOf encChan l)) (putG_old hk ha).symm)),trivial⟩,rfl,rfl⟩
    ·intro h10
     refine aE<|eT<|eT<|eB<|gT ?_
     refine aJ [0,3,6] [0,1,2,3,4,2003,2008] (D:=Unit) (fun jd=>[]) (fun jd=>[(2056,AO.arr 57 7 (rowsOf encChan (insC x.chans (newC e))))]) (fun jd=>True) ?_ ?_
     ·refine aS ?_
      have hke:k=x.chans.length:=by have h:=h10;simp only[length_rowsOf,decide_eq_false_iff_not]at h;omega
      have htk:x.chans.take k=x.chans:=by rw[hke,List.take_length]
      refine aL<|lmB Z<|luB Z<|nG ?_
      refine AW.cond rfl ?_ ?_
      ·intro h13
       refine aL<|lmO Z<|loX (.agg [vI _ _,vI _ _,vI _ _,vI _ _,vI _ _,vI _ _,vI _ _]) ty.kd57 Z<|lst (zS 2097 (rowsOf encChan [newC e]) ty.el23 ty.ze57 rfl) Z<|lst (zP 2056 ty.el23 ty.ze57 ty.by57 rfl (Src.own rfl rfl) (by have:=putG_len (p:=(pastC e.ch)) (x:=newC e) (x.chans.take k);simp[rowsOf]at *;omega)) Z<|laO Z<|nG ?_
       refine⟨(),trivial,trivial,⟨(Eq.trans (b:=AO.arr 57 7 (rowsOf encChan (putG (pastC e.ch) (newC e) (x.chans.take k)++[newC e]))) (congrArg (AO.arr 57 7) (rowsOf_app encChan _ [_]).symm) (congrArg (fun l=>AO.arr 57 7 (rowsOf encChan l)) (by have h:=h13;rw[htk]at h ⊢;exact putG_none (by simpa using h)))),trivial⟩,rfl,rfl⟩
      ·intro h13
       refine aK<|gT ?_
       refine⟨(),trivial,trivial,⟨(congrArg (fun l=>AO.arr 57 7 (rowsOf encChan l)) (by have h:=h13;rw[htk]at h ⊢;exact putG_all (by simpa using h))),trivial⟩,rfl,rfl⟩
     ·intro jd hJ
      refine sL<|lmP Z<|lmO Z<|lc Z<|lf 0 ty.F125_0 Z<|lf 3 ty.F27_3 Z<|lst (zB 0 ty.co23 ty.inf23 Z) Z<|nG<|aS ?_
      refine AW.swap 2056 1 ?_
      refine aT [0,3] [0,1,2,3,4,2003,2008] ?_
      refine aF [12]<|pq 0 (qmP Z)<|pq 1 (qmP Z)<|pq 2 (qc Z)<|pq 3 (qf 0 ty.F125_0 Z)<|pq 4 (qf 2 ty.F27_2 Z)<|sq 5 (roI ty.kd3 Z)<|vq 6 (rf 4 ty.F111_4 Z)<|vq 7 (roI ty.kd3 Z) ?_
      refine vq 8 (rhI rfl ⟨rfl,fits_i64 (by have:=es.amt;have:=es.fee;have:=sm.wallet;unfold A50 at *;unfold i64;omega)⟩)<|vq 9 (rc rfl)<|vq 10 (rf 0 ty.F125_0 rfl)<|vq 11 (rf 2 ty.F27_2 rfl)<|vst 12 rfl (zB 0 ty.co3 ty.inf3 rfl) (.inl rfl)<|fD<|gA<|lmP Z<|lf 4 ty.F111_4 Z<|loI ty.kd3 Z<|lq (rd (x:=vI _ _) (rd_un rfl rfl (fits_i64 (by have:=es.amt;have:=es.fee;have:=sm.wallet;unfold A50 at *;unfold i64;omega))) rfl) ?_
      refine lst (z5a Try.func78 (sline_e _ _ _ _ _ _ _ _ _ _ _ _ _ _ ([]) 0 (LG.nil) (by decide) _ _ _ (Fresh.nil _ _) (rangeA_neg es.amt)) (⟨stays.box (Eq.refl 8),trivial⟩) rfl rfl) Z<|lT [0,3] [0,1,2,3,4,2003,2008] ?_
      refine nG<|aL<|lmP Z<|lf 2 ty.F111_2 Z<|loI ty.kd3 Z<|lf 4 ty.F111_4 Z<|loI ty.kd3 Z ?_
      refine lst (z5a Try.func78 (sline_e _ _ _ _ _ _ _ _ _ _ _ _ _ _ (addL [] 1 0 (-e.amt)) 1 (LG.nil.add (rangeA_neg es.amt)) (by decide) _ _ _ ((Fresh.nil _ _).add (.inl (by decide))) (rangeA_of es.amt)) (⟨stays.box (Eq.refl 8),trivial⟩) rfl rfl) Z<|lN ?_
      rw[openR_yes hc0]
      refine end_go ?_ ⟨(Eq.trans (b:=sBox g x.tick x.next (x.wallet-e.amt) _) rfl (congrArg (sBox g x.tick x.next (x.wallet-e.amt)) (by first|exact hc0|(have h:=hc0;unfold openC at h;rw[f0];exact h)))),rfl,rfl,rfl,(congrArg lAr (addL_swap (by omega))),trivial⟩
      rfl
theorem delC_take{l:List Chan}{ch:Int}{k:Nat}(hk:k<l.length):delC (l.take (k+1)) ch=delC (l.take k) ch++(if l[k].id=ch then []else [l[k]]):=by
 unfold delC
 rw[List.take_succ_eq_append_getElem hk,List.filter_append]
 by_cases q:l[k].id=ch<;>simp[q]
theorem delC_len{l:List Chan}{ch:Int}:(delC l ch).length≤l.length:=List.length_filter_le _ _
theorem sshut_e(g:Value)(x:Book)(e:Event)(fi:BookFi x)(es:EvSm e)(fn0:0≤e.fee):GC Try.prog 80 [.ptr 0 0 0,evV e] (sIn g x [] 0) (.tup []) (sOut g (shutR x e)):=by
 have sm:=fi.sm
 have hm:x.chans.length≤1000000000:=by have:=sm.lc;omega
 have hmh:x.htlcs.length≤1000000000:=by have:=sm.lh;omega
 have hmc:x.circles.length≤1000000000:=by have:=sm.li;omega
 have hlc:=sm.lc
 have hL:decide ((x.chans.length:Int)=20)=decide ((20:Int)≤(x.chans.length:Int)):=by have:=sm.lc;apply decide_eq_decide.2;omega

 refine GC.intro (rs:=[]) Try.func80 rfl Try.ntmps80 (Nat.le_of_ble_eq_true rfl) trivial ?_
 intro L O w0
 refine sL<|lst (zX 2003 Z) Z<|nG<|aS<|aF []<|pq 0 (qmP Z)<|pq 1 (qc Z)<|pq 2 (qf 0 ty.F125_0 Z)<|sq 3 (roX (.agg [vI _ _,vI _ _,vI _ _,.own _,.own _,.own _]) ty.kd27 Z)<|vq 4 (rf 2 ty.F111_2 Z)<|vq 5 (roI ty.kd3 Z) ?_
 rcases chan_find x.chans e.ch with⟨hi,ho⟩|⟨i,c,hi,hc,ho,hid⟩
 ·skip
  refine vst 6 rfl (zL Try.func29 (sAt_e x _ hm) rfl) (.inr rfl)<|vq 7 (raI rfl)<|fD<|gT<|aS<|sL<|lmP Z<|lmI Z<|lbB Z<|lsB 18 true rfl (by rw[show atI (fun c=>c.id==e.ch) x.chans=_ from hi];simp) ?_
  refine lst (z5a Try.func76 (scode_e _ _ _ _ _ _ _ _ _ _ _ _ _ _ _ _ _ _ _ ) (⟨stays.box (Eq.refl 8),trivial⟩) rfl rfl) rfl ?_
  have f0:failC false 0 6=0:=rfl
  refine lsB 19 true rfl (by rfl)<|nG<|aY Z<|aR<|rT ?_
  have hcd:shutC x e=6:=by unfold shutC;rw[missC_none hi,failC_old (failC_keep (failC_set (by decide))),failC_old (failC_set (by decide))];rfl
  have hc0:shutC x e≠0:=by rw[hcd];decide
  rw[shutR_no hc0,hcd]
  refine end_ret ?_ ⟨rfl,rfl,rfl,rfl,rfl,trivial⟩
  rfl
 ·have hcm:=sm.chans c (mem_of_get hc)
  refine vst 6 Z (zL Try.func29 (sAt_e x _ hm) Z) (.inr Z)<|fT [0,3,15] [0,1,2,3,4,2003] ?_
  refine vq 7 (raI rfl)<|fD<|gT<|aS<|sL<|lmP Z<|lmI Z<|lbB Z<|lsB 18 false rfl (by rw[show atI (fun c=>c.id==e.ch) x.chans=_ from hi];simp) ?_
  refine lst (z5a Try.func76 (scode_e _ _ _ _ _ _ _ _ _ _ _ _ _ _ _ _ _ _ _ ) (⟨stays.box (Eq.refl 8),trivial⟩) rfl rfl) rfl ?_
  have f0:failC false 0 6=0:=rfl
  refine lsB 19 false rfl (by rfl)<|nG<|aN Z<|aK<|gA<|lmP Z<|lc Z<|lf 0 ty.F125_0 Z<|lf 3 ty.F27_3 Z<|loO ty.kd23 Z<|lmI Z<|lq (rd (x:=.ptr 1 _ 0) (rd_iaddr_own (i:=i) rfl ty.el23 rfl rfl rfl ?hn1 (by rw[length_rowsOf];exact(List.getElem?_eq_some_iff.1 hc).1)) rfl) ?_
  case hn1=>rw[←chanAt_atI];exact hi
  refine lq (rd (x:=.agg [vI _ _,vI _ _,vI _ _,vI _ _,vI _ _,vI _ _,vI _ _]) (rd_load_arr Z ty.kd57 Z Z Z (rows_some hc) Z) Z)<|lst (zA 2005 ty.ze57 Z) Z<|lT [0,3,5,27] [0,1,2,3,4,2003,2005] ?_
  refine lst (zB 2005 ty.co57 ty.inf57 Z) Z<|nG<|aS<|aS<|aF [8,16]<|pq 0 (qmP Z)<|pq 1 (qmP Z)<|pq 2 (qc Z)<|pq 3 (qf 0 ty.F125_0 Z)<|sq 4 (roX (.agg [vI _ _,vI _ _,vI _ _,.own _,.own _,.own _]) ty.kd27 Z)<|vq 5 (rf 2 ty.F111_2 Z)<|vq 6 (roI ty.kd3 Z)<|vst 7 Z (zL Try.func90 (sused_e x _ hmh hmc) Z) (.inr Z) ?_
  refine vst 8 rfl (z5a Try.func76 (scode_e _ _ _ _ _ _ _ _ _ _ _ _ _ _ _ _ _ _ _ ) (⟨stays.box (Eq.refl 8),trivial⟩) rfl rfl) (.inl rfl)<|vq 9 (rmB rfl) ?_
  refine AF.bool (t:=37) rfl ?_ ?_
  ·intro h1
   refine pno 10 Z<|pno 11 Z<|pno 12 Z<|vno 13 Z<|vno 14 Z<|vno 15 Z<|vno 16 Z<|vq 17 (rkT Z)<|fD<|gT<|aY Z<|aR<|rT ?_
   have hcd:shutC x e=failC (usedB x e.ch) 0 7:=by
    have h:=h1
    unfold shutC
    rw[missC_some hi,ho]
    simp only[f0,Bool.not_eq_true',decide_eq_false_iff_not]at h
    exact failC_old h
   have hc0:shutC x e≠0:=by
    have h:=h1
    rw[hcd]
    simp only[f0,Bool.not_eq_true',decide_eq_false_iff_not]at h
    exact h
   rw[shutR_no hc0,hcd]
   refine end_ret ?_ ⟨rfl,rfl,rfl,rfl,rfl,trivial⟩
   rfl
  ·intro h1
   refine pq 10 (qmP Z)<|pq 11 (qf 5 ty.F111_5 Z)<|sq 12 (roI ty.kd3 Z)<|vq 13 (rf 2 ty.F57_2 Z)<|vq 14 (roI ty.kd3 Z)<|vq 15 (rbB Z) ?_
   refine vst 16 rfl (z5a Try.func76 (scode_e _ _ _ _ _ _ _ _ _ _ _ _ _ _ _ _ _ _ _ ) (⟨stays.box (Eq.refl 8),trivial⟩) rfl rfl) (.inl rfl)<|fT [0,3,5,37,44] [0,1,2,3,4,2003,2005] ?_
   refine vq 17 (rkB Z)<|fD<|gT ?_
   refine AW.cond rfl ?_ ?_
   ·intro h2
    refine aR<|rT ?_
    have hcd:shutC x e=failC (decide (c.loc<e.fee)) (failC (usedB x e.ch) 0 7) 8:=by unfold shutC;rw[missC_some hi,ho]
    have hc0:shutC x e≠0:=by
     have h:=h2
     rw[hcd]
     simp only[f0,Bool.not_eq_true',decide_eq_false_iff_not]at h
     exact h
    rw[shutR_no hc0,hcd]
    refine end_ret ?_ ⟨rfl,rfl,rfl,rfl,rfl,trivial⟩
    rfl
   ·intro h2
    refine aK<|gT<|aS ?_
    have hc0:shutC x e=0:=by
     have h:=h2
     unfold shutC
     rw[missC_some hi,ho]
     simp only[f0,Bool.not_eq_false',decide_eq_true_eq]at h
     exact h
    refine aL<|lst (zS 2046 [] ty.el23 ty.ze57 rfl (by simp)) Z<|laO Z<|nG<|aS<|sL<|lmP Z<|lc Z<|lf 0 ty.F125_0 Z<|lf 3 ty.F27_3 Z<|loO ty.kd23 Z<|lnI ty.sl23 Z<|lmI Z<|nG<|aB ?_
    refine aW [0,3,5,6,51,52] [0,1,2,3,4,2003,2005] (D:=Nat) (fun k=>[(53,int (k:Int))]) (fun k=>[(2046,AO.arr 57 7 (rowsOf encChan (delC (x.chans.take k) e.ch)))]) (fun k=>k≤x.chans.length) (fun k=>x.chans.length-k) (0) (Nat.zero_le _) ⟨rfl,trivial⟩ ⟨rfl,trivial⟩ ?_
    intro k hI
    refine sL<|lbB Z<|nG<|aS ?_
    refine AW.cond rfl ?_ ?_
    ·intro h3
     refine aK<|gT<|aS<|aB<|sL ?_
     have hk:k<x.chans.length:=by simpa[length_rowsOf]using h3
     refine lq (rj k ty.el23 rfl (by rw[length_rowsOf];exact hk))<|lq (rd (x:=.agg [vI _ _,vI _ _,vI _ _,vI _ _,vI _ _,vI _ _,vI _ _]) (rd_load_arr rfl ty.kd57 rfl rfl rfl (row_map hk) rfl) rfl)<|lst (zA 2008 ty.ze57 rfl) Z<|lT [0,3,5,6,8,51,52,53,56] [0,1,2,3,4,2003,2005,2008,2046] ?_
     refine lst (zB 2008 ty.co57 ty.inf57 Z) Z<|nA<|lf 0 ty.F57_0 Z<|loI ty.kd3 Z<|lf 2 ty.F111_2 Z<|loI ty.kd3 Z<|lbB Z<|nG ?_
     refine AW.cond rfl ?_ ?_
     ·intro h4
      refine aL<|lmO Z<|loX (.agg [vI _ _,vI _ _,vI _ _,vI _ _,vI _ _,vI _ _,vI _ _]) ty.kd57 Z<|lst (zS 2064 (rowsOf encChan [x.chans[k]]) ty.el23 ty.ze57 rfl) Z<|lst (zP 2046 ty.el23 ty.ze57 ty.by57 rfl (Src.own rfl rfl) (by have:=delC_len (l:=x.chans.take k) (ch:=e.ch);simp[rowsOf]at *;omega)) Z<|laO Z<|lN<|gB<|gT<|aL<|lgI Z<|lmI Z<|nG ?_
      refine⟨k+1,hk,by omega,⟨(iq rfl),trivial⟩,⟨(Eq.trans (b:=AO.arr 57 7 (rowsOf encChan (delC (x.chans.take k) e.ch++[x.chans[k]]))) (congrArg (AO.arr 57 7) (rowsOf_app encChan _ [_]).symm) (congrArg (fun l=>AO.arr 57 7 (rowsOf encChan l)) (by have h:=h4;rw[delC_take hk,if_neg (by simpa using h)]))),trivial⟩,rfl,rfl⟩
     ·intro h4
      refine aK<|gB<|gT<|aL<|lgI Z<|lmI Z<|nG ?_
      refine⟨k+1,hk,by omega,⟨(iq rfl),trivial⟩,⟨(congrArg (fun l=>AO.arr 57 7 (rowsOf encChan l)) (by have h:=h4;rw[delC_take hk,if_pos (by simpa using h),List.append_nil])),trivial⟩,rfl,rfl⟩
    ·intro h3
     refine aE<|eT<|eT<|eB<|gT<|aS ?_
     have hke:k=x.chans.length:=by have h:=h3;simp only[length_rowsOf,decide_eq_false_iff_not]at h;omega
     refine AW.obj 2046 (AO.arr 57 7 (rowsOf encChan (delC x.chans e.ch))) (congrArg (fun l=>AO.arr 57 7 (rowsOf encChan l)) (by rw[hke,List.take_length])) ?_
     refine aL<|lmP Z<|lmO Z<|lc Z<|lf 0 ty.F125_0 Z<|lf 3 ty.F27_3 Z<|lst (zB 0 ty.co23 ty.inf23 Z) Z<|lT [0,3,5] [0,1,2,3,4,2003,2005,2046] ?_
     refine nG<|aS ?_
     refine AW.swap 2046 1 ?_
     refine aT [0,3,5] [0,1,2,3,4,2003,2005] ?_
     refine aF [15]<|pq 0 (qmP Z)<|pq 1 (qmP Z)<|pq 2 (qc Z)<|pq 3 (qf 0 ty.F125_0 Z)<|pq 4 (qf 2 ty.F27_2 Z)<|sq 5 (roI ty.kd3 Z)<|pq 6 (qf 2 ty.F57_2 Z)<|sq 7 (roI ty.kd3 Z) ?_
     refine sq 8 (rhI rfl ⟨rfl,fits_i64 (by have:=hcm.1;have:=es.amt;have:=es.fee;have:=sm.wallet;unfold A50 at *;unfold i64;omega)⟩)<|vq 9 (rf 5 ty.F111_5 rfl)<|vq 10 (roI ty.kd3 rfl) ?_
     refine vq 11 (rhI rfl ⟨rfl,fits_i64 (by have:=hcm.1;have:=es.amt;have:=es.fee;have:=sm.wallet;unfold A50 at *;unfold i64;omega)⟩)<|fsN 83 (x.wallet+(c.loc-e.fee)) rfl (by omega)<|vq 12 (rc rfl)<|vq 13 (rf 0 ty.F125_0 rfl)<|vq 14 (rf 2 ty.F27_2 rfl)<|vst 15 rfl (zB 0 ty.co3 ty.inf3 rfl) (.inl rfl)<|fT [0,3,5] [0,1,2,3,4,2003,2005] ?_
     refine fD<|gA<|lmP Z<|lf 2 ty.F57_2 Z<|loI ty.kd3 Z<|lf 5 ty.F111_5 Z<|loI ty.kd3 Z ?_
     refine lhI rfl ⟨rfl,fits_i64 (by have:=hcm.1;have:=es.amt;have:=es.fee;have:=sm.wallet;unfold A50 at *;unfold i64;omega)⟩ ?_
     have hnl:¬c.loc<e.fee∧0≤e.fee:=⟨fun q=>by
      have h:=hc0;unfold shutC at h;rw[missC_some hi,ho]at h;exact absurd h (by rw[decide_eq_true q];exact failC_set (by decide)),fn0⟩
     refine lst (z5a Try.func78 (sline_e _ _ _ _ _ _ _ _ _ _ _ _ _ _ ([]) 0 (LG.nil) (by decide) _ _ _ (Fresh.nil _ _) (rangeA_of (by have:=hcm.1;have:=es.fee;have:=hnl;unfold A50 at *;omega))) (⟨stays.box (Eq.refl 8),trivial⟩) rfl rfl) Z<|nA<|lmP Z<|lf 5 ty.F111_5 Z<|loI ty.kd3 rfl ?_
     refine lst (z5a Try.func78 (sline_e _ _ _ _ _ _ _ _ _ _ _ _ _ _ (addL [] 1 0 (c.loc-e.fee)) 1 (LG.nil.add (rangeA_of (by have:=hcm.1;have:=es.fee;have:=hnl;unfold A50 at *;omega))) (by decide) _ _ _ ((Fresh.nil _ _).add (.inl (by decide))) (rangeA_of es.fee)) (⟨stays.box (Eq.refl 8),trivial⟩) rfl rfl) Z<|nG<|aL<|lmP Z<|lf 2 ty.F111_2 Z<|loI ty.kd3 Z<|lf 2 ty.F57_2 Z<|loI ty.kd3 Z<|lq (rd (x:=vI _ _) (rd_un rfl rfl (fits_i64 (by have:=hcm.1;have:=es.amt;have:=es.fee;have:=sm.wallet;unfold A50 at *;unfold i64;omega))) rfl) ?_
     refine lst (z5a Try.func78 (sline_e _ _ _ _ _ _ _ _ _ _ _ _ _ _ (addL (addL [] 1 0 (c.loc-e.fee)) 5 0 e.fee) 2 ((LG.nil.add (rangeA_of (by have:=hcm.1;have:=es.fee;have:=hnl;unfold A50 at *;omega))).add (rangeA_of es.fee)) (by decide) _ _ _ (((Fresh.nil _ _).add (.inl (by decide))).add (.inl (by decide))) (rangeA_neg hcm.1)) (⟨stays.box (Eq.refl 8),trivial⟩) rfl rfl) Z<|lT [] [0,1,2,3,4,2003,2005] ?_
     refine lN ?_
     rw[shutR_yes hc0]
     unfold shutY
     rw[ho]
     refine end_go ?_ ⟨(Eq.trans (b:=sBox g x.tick x.next (x.wallet+(c.loc-e.fee)) _) rfl (congrArg (sBox g x.tick x.next (x.wallet+(c.loc-e.fee))) (by have h:=hc0;unfold shutC at h;rw[missC_some hi,ho]at h;exact h))),rfl,rfl,rfl,rfl,trivial⟩
     rfl

theorem chanAt_ids{l l':List Chan}{ch:Int}(h:l.map (·.id)=l'.map (·.id)):chanAt l ch=chanAt l' ch:=by
 have e:∀l:List Chan,l.findIdx? (fun c=>c.id==ch)=(l.map (·.id)).findIdx? (fun k=>k==ch):=fun l=>by rw[List.findIdx?_map];rfl
 unfold chanAt
 rw[e,e,h]
theorem chanAt_set{l:List Chan}{i:Nat}{c c':Chan}{ch:Int}(hc:l[i]? = some c)(h:c'.id=c.id):chanAt (l.set i c') ch=chanAt l ch:=by
 refine chanAt_ids ?_
 obtain⟨hi,rfl⟩:=List.getElem?_eq_some_iff.1 hc
 rw[List.map_set,h]
 apply List.ext_getElem?
 intro j
 rw[List.getElem?_set]
 split
 ·rename_i e;subst e;simp[hi]
 ·rfl
theorem miss_two{l:List Chan}{a b c:Int}(hab:a≠b):missC l b (missC l a c)=failC (!two l a b) c 6:=by
 have h1:=chan_find l a
 have h2:=chan_find l b
 unfold missC two failC
 rcases h1 with⟨q1,_⟩|⟨i,_,q1,_⟩<;>rcases h2 with⟨q2,_⟩|⟨j,_,q2,_⟩<;>rw[q1,q2]<;>by_cases hc:c=0<;>simp[hab,hc]<;>omega
theorem admC_one{x:Book}{e:Event}(h:admC1 x e≠0):admC x e=admC1 x e:=if_neg h
theorem admC_two{x:Book}{e:Event}(h:admC1 x e=0):admC x e=failC (decide (admRoom x e=0)) (admC1 x e) 13:=if_pos h
theorem sadm_e(g:Value)(x:Book)(e:Event)(fi:BookFi x)(es:EvSm e)(hne:e.ch≠e.to):GC Try.prog 81 [.ptr 0 0 0,evV e] (sIn g x [] 0) (.tup []) (sOut g (admR x e)):=by
 have sm:=fi.sm
 have hm:x.chans.length≤1000000000:=by have:=sm.lc;omega
 have hlh:=sm.lh
 have hli:=sm.li
 have hmh1:x.htlcs.length≤1000:=by omega
 have hmc1:x.circles.length≤1000:=by omega
 have hLh:decide ((x.htlcs.length:Int)=60)=decide ((60:Int)≤(x.htlcs.length:Int)):=by apply decide_eq_decide.2;omega
 have hLi:decide ((x.circles.length:Int)=20)=decide ((20:Int)≤(x.circles.length:Int)):=by apply decide_eq_decide.2;omega

 refine GC.intro (rs:=[]) Try.func81 rfl Try.ntmps81 (Nat.le_of_ble_eq_true rfl) trivial ?_
 intro L O w0
 refine sL<|lst (zX 2003 rfl) Z<|nG<|aS<|aS<|aF [9,22,33]<|pq 0 (qmP rfl)<|pq 1 (qmP rfl)<|pq 2 (qc rfl)<|pq 3 (qf 0 ty.F125_0 rfl)<|sq 4 (roX (.agg [vI _ _,vI _ _,vI _ _,.own _,.own _,.own _]) ty.kd27 rfl)<|pq 6 (qf 1 ty.F111_1 rfl)<|sq 7 (roI ty.kd3 rfl)<|vst 5 rfl (St.lendO 2016 rfl (by intro s hs;cases hs;decide) rfl Try.func72 rfl rfl (skeys_e x hmh1 hmc1) flat_rowsOf rfl) (.inr rfl)<|vst 8 rfl (zL Try.func73 (shasInt_e (keyL x) _ (by unfold keyL;simp;omega)) rfl) (.inr rfl)<|fsB 19 (knownB x e.key) rfl (any_keys x e.key) ?_
 refine vst 9 rfl (z5a Try.func76 (scode_e _ _ _ _ _ _ _ _ _ _ _ _ _ _ _ _ _ _ _ ) (⟨stays.box (Eq.refl 8),trivial⟩) rfl rfl) (.inl rfl)<|vq 10 (rmB rfl) ?_
 refine AF.bool (t:=21) rfl ?_ ?_
 ·intro h1
  refine pno 11 Z<|pno 12 Z<|pno 13 Z<|pno 14 Z<|pno 15 Z<|pno 16 Z<|pno 17 Z<|vno 18 Z<|vno 19 Z<|vno 20 Z<|vno 21 Z<|vno 22 Z<|vq 23 (rkT Z)<|vq 24 (rmT Z)<|pno 25 Z<|vno 26 Z<|vno 27 Z<|vno 28 Z<|vno 29 Z<|vno 30 Z<|vno 31 Z<|vno 32 Z<|vno 33 Z<|vq 34 (rkT Z)<|fD<|gT<|aY Z<|aR<|rT ?_
  have hcd:admC0 x e=failC (knownB x e.key) 0 9:=by
   have h:=h1
   unfold admC0
   rw[miss_two hne]
   simp only[zb1,zb2,zb3,zb4]at h
   rw[failC_old (c:=failC (!two x.chans e.ch e.to) (failC (knownB x e.key) 0 9) 6) (failC_keep h),failC_old h]
  have hn:admC0 x e≠0:=by
   have h:=h1
   simp only[zb1,zb2,zb3,zb4]at h
   rw[hcd];exact h
  have hcd2:admC x e=admC0 x e:=by
   rw[admC_one (failC_keep (failC_keep (failC_keep hn)))]
   unfold admC1
   rw[failC_old (failC_keep (failC_keep hn)),failC_old (failC_keep hn),failC_old hn]
  rw[admR_no (by rw[hcd2];exact hn),hcd2,hcd]
  refine end_ret ?_ ⟨rfl,rfl,rfl,rfl,rfl,trivial⟩
  rfl
 ·intro h1
  refine pq 11 (qmP Z)<|pq 12 (qmP Z)<|pq 13 (qc Z)<|pq 14 (qf 0 ty.F125_0 Z)<|sq 15 (roX (.agg [vI _ _,vI _ _,vI _ _,.own _,.own _,.own _]) ty.kd27 Z)<|pq 16 (qf 2 ty.F111_2 Z)<|sq 17 (roI ty.kd3 Z)<|vq 18 (rf 3 ty.F111_3 Z)<|vq 19 (roI ty.kd3 Z)<|vst 20 Z (zL Try.func45 (stwo_e x _ _ hm) Z) (.inr Z)<|vq 21 (ruB Z) ?_
  refine vst 22 rfl (z5a Try.func76 (scode_e _ _ _ _ _ _ _ _ _ _ _ _ _ _ _ _ _ _ _ ) (⟨stays.box (Eq.refl 8),trivial⟩) rfl rfl) (.inl rfl)<|vq 23 (rkB rfl)<|vq 24 (rmB rfl) ?_
  refine AF.bool (t:=35) rfl ?_ ?_
  ·intro h2
   refine pno 25 Z<|vno 26 Z<|vno 27 Z<|vno 28 Z<|vno 29 Z<|vno 30 Z<|vno 31 Z<|vno 32 Z<|vno 33 Z<|vq 34 (rkT Z)<|fD<|gT<|aT [0,3,45] [0,1,2,3,4,2003,2016] ?_
   refine aY Z<|aR<|rT ?_
   have hcd:admC0 x e=failC (!two x.chans e.ch e.to) (failC (knownB x e.key) 0 9) 6:=by
    have h:=h2
    unfold admC0
    rw[miss_two hne]
    simp only[zb1,zb2,zb3,zb4]at h
    rw[failC_old h]
   have hn:admC0 x e≠0:=by
    have h:=h2
    simp only[zb1,zb2,zb3,zb4]at h
    rw[hcd];exact h
   have hcd2:admC x e=admC0 x e:=by
    rw[admC_one (failC_keep (failC_keep (failC_keep hn)))]
    unfold admC1
    rw[failC_old (failC_keep (failC_keep hn)),failC_old (failC_keep hn),failC_old hn]
   rw[admR_no (by rw[hcd2];exact hn),hcd2,hcd]
   refine end_ret ?_ ⟨rfl,rfl,rfl,rfl,rfl,trivial⟩
   rfl
  ·intro h2
   refine pq 25 (qmP rfl)<|vq 26 (rmP rfl)<|vq 27 (rc rfl)<|vq 28 (rf 0 ty.F125_0 rfl)<|vq 29 (rf 4 ty.F27_4 rfl)<|vq 30 (roO ty.kd24 rfl)<|vq 31 (rnI ty.sl24 rfl)<|vq 32 (rbB rfl)<|fsB 43 (decide ((60:Int)≤(x.htlcs.length:Int))) rfl (by rw[length_rowsOf];exact hLh) ?_
   refine vst 33 rfl (z5a Try.func76 (scode_e _ _ _ _ _ _ _ _ _ _ _ _ _ _ _ _ _ _ _ ) (⟨stays.box (Eq.refl 8),trivial⟩) rfl rfl) (.inl rfl)<|vq 34 (rkB rfl)<|fD<|gT ?_
   refine AW.cond rfl ?_ ?_
   ·intro h3
    refine aR<|rT ?_
    have hcd:admC0 x e=failC (decide ((60:Int)≤(x.htlcs.length:Int))) (failC (!two x.chans e.ch e.to) (failC (knownB x e.key) 0 9) 6) 14:=by
     unfold admC0
     rw[miss_two hne]
    have hn:admC0 x e≠0:=by
     have h:=h3
     simp only[zb1,zb2,zb3,zb4]at h
     rw[hcd];exact h
    have hcd2:admC x e=admC0 x e:=by
     rw[admC_one (failC_keep (failC_keep (failC_keep hn)))]
     unfold admC1
     rw[failC_old (failC_keep (failC_keep hn)),failC_old (failC_keep hn),failC_old hn]
    rw[admR_no (by rw[hcd2];exact hn),hcd2,hcd]
    refine end_ret ?_ ⟨rfl,rfl,rfl,rfl,rfl,trivial⟩
    rfl
   ·intro h3
    refine aK<|gT<|aS ?_
    have hz0:admC0 x e=0:=by
     have h:=h3
     unfold admC0
     rw[miss_two hne]
     simp only[zb1,zb2,zb3,zb4]at h
     exact h
    have htw:two x.chans e.ch e.to=true:=by
     rcases q:two x.chans e.ch e.to with _|_
     ·exfalso
      have h:=hz0
      unfold admC0 at h
      rw[miss_two hne,q]at h
      exact failC_keep (failC_set (by decide)) h
     ·rfl
    obtain⟨hne2,hca,hda⟩:=two_parts (show two x.chans e.ch e.to=true by first|(simpa using htw))
    obtain⟨i,c,hi,hc,ho,hid⟩:=chan_there hca
    obtain⟨j,d,hj,hd,hp,hjd⟩:=chan_there hda
    have hcm:=sm.chans c (mem_of_get hc)
    have hdm:=sm.chans d (mem_of_get hd)
    have hij:i≠j:=idx_ne hc hd (by rw[hid,hjd];exact hne)
    refine AW.obj 0 (sBox g x.tick x.next x.wallet 0) (Eq.trans (b:=sBox g x.tick x.next x.wallet _) rfl (congrArg (sBox g x.tick x.next x.wallet) (by have h:=hz0;unfold admC0 at h;rw[miss_two hne]at h;exact h))) ?_
    have hA:admC1 x e=failC (decide (d.loc<e.amt)) (failC (decide (c.remote<admSum x e)) (failC (admBad x e) 0 10) 11) 12:=by unfold admC1;rw[ho,hp,hz0]
    refine aF [15]<|pq 0 (qmP Z)<|pq 1 (qc Z)<|pq 2 (qf 0 ty.F125_0 Z)<|pq 3 (qf 3 ty.F27_3 Z)<|sq 4 (roO ty.kd23 Z)<|pq 5 (qmP Z)<|pq 6 (qc Z)<|pq 7 (qf 0 ty.F125_0 Z)<|sq 8 (roX (.agg [vI _ _,vI _ _,vI _ _,.own _,.own _,.own _]) ty.kd27 Z)<|pq 9 (qf 2 ty.F111_2 Z)<|sq 10 (roI ty.kd3 Z) ?_
    refine AF.two (i:=11) (j:=14) (by kernel_rfl) ?_ ?_
    ·refine v1 11 rfl (zL Try.func29 (sAt_e x _ hm) rfl) (.inr rfl)<|sq 12 (rd (x:=.ptr 1 _ 0) (rd_iaddr_own (i:=i) rfl ty.el23 rfl rfl rfl ?hn1 (by rw[length_rowsOf];exact(List.getElem?_eq_some_iff.1 hc).1)) rfl) ?_
     case hn1=>rw[←chanAt_atI];exact hi
     refine sq 13 (rd (x:=.agg [vI _ _,vI _ _,vI _ _,vI _ _,vI _ _,vI _ _,vI _ _]) (rd_load_arr Z ty.kd57 Z Z Z (rows_some hc) Z) Z)<|vst 14 Z (zA 2004 ty.ze57 Z) (.inr Z)<|vst 15 Z (zB 2004 ty.co57 ty.inf57 Z) (.inl Z)<|fD<|gT<|aS<|aF [15]<|pq 0 (qmP Z)<|pq 1 (qc Z)<|pq 2 (qf 0 ty.F125_0 Z)<|pq 3 (qf 3 ty.F27_3 Z)<|sq 4 (roO ty.kd23 Z)<|pq 5 (qmP Z)<|pq 6 (qc Z)<|pq 7 (qf 0 ty.F125_0 Z)<|sq 8 (roX (.agg [vI _ _,vI _ _,vI _ _,.own _,.own _,.own _]) ty.kd27 Z)<|pq 9 (qf 3 ty.F111_3 Z)<|sq 10 (roI ty.kd3 Z) ?_
     refine AF.two (i:=11) (j:=14) (by kernel_rfl) ?_ ?_
     ·refine v1 11 rfl (zL Try.func29 (sAt_e x _ hm) rfl) (.inr rfl)<|sq 12 (rd (x:=.ptr 1 _ 0) (rd_iaddr_own (i:=j) rfl ty.el23 rfl rfl rfl ?hn2 (by rw[length_rowsOf];exact(List.getElem?_eq_some_iff.1 hd).1)) rfl) ?_
      case hn2=>rw[←chanAt_atI];exact hj
      refine sq 13 (rd (x:=.agg [vI _ _,vI _ _,vI _ _,vI _ _,vI _ _,vI _ _,vI _ _]) (rd_load_arr Z ty.kd57 Z Z Z (rows_some hd) Z) Z)<|vst 14 Z (zA 2005 ty.ze57 Z) (.inr Z)<|vst 15 Z (zB 2005 ty.co57 ty.inf57 Z) (.inl Z)<|fD<|gT<|aT [0,3,4,5] [0,1,2,3,4,2003,2004,2005,2016] ?_
      refine sL<|lf 4 ty.F57_4 Z<|loI ty.kd3 Z<|lf 5 ty.F57_5 Z<|loI ty.kd3 Z<|lf 4 ty.F111_4 Z<|loI ty.kd3 Z<|lst (zL Try.func91 (sfeeUp_e _ _ _) Z) Z<|lmX (.tup [vI _ _,vB _]) Z<|lxI Z<|lxB Z<|laI Z<|laB Z<|nA<|lf 4 ty.F111_4 Z<|loI ty.kd3 Z<|lmI Z<|lst (zL Try.func77 (saddAmt_e _ _) Z) Z<|lT [0,3,4,5,7,88] [0,1,2,3,4,2003,2004,2005,2016] ?_
      refine lmX (.tup [vI _ _,vB _]) Z<|lxI Z<|lsN 89 (admSum x e) rfl (by unfold admSum;rw[hp])<|lxB Z<|laI Z<|laB Z<|nG<|aS<|aF []<|pq 0 (qmP rfl)<|pq 1 (qc rfl)<|pq 2 (qf 0 ty.F125_0 rfl)<|sq 3 (roX (.agg [vI _ _,vI _ _,vI _ _,.own _,.own _,.own _]) ty.kd27 rfl)<|sq 4 (roX (.agg [vI _ _,vI _ _,vI _ _,vI _ _,vI _ _,vI _ _,vI _ _]) ty.kd57 rfl)<|sq 5 (roX (.agg [vI _ _,vI _ _,vI _ _,vI _ _,vI _ _,vI _ _,vI _ _]) ty.kd57 rfl)<|pq 6 (qf 4 ty.F111_4 rfl)<|sq 7 (roI ty.kd3 rfl)<|vq 8 (rf 6 ty.F111_6 rfl)<|vq 9 (roB ty.kd4 rfl)<|vst 10 rfl (zL Try.func92 (sroom_e x c d _ _ sm.hs) rfl) (.inr rfl)<|fsN 101 (admRoom x e) rfl (by unfold admRoom;rw[ho,hp,hjd])<|vq 11 (raI rfl)<|fD<|gT ?_
      refine aJ [0,3,8,10] [1,2,3,4,2003,2004,2005,2016] (D:=Unit) (fun jd=>[]) (fun jd=>[(0,sBox g x.tick x.next x.wallet 0)]) (fun jd=>admC x e=0) ?_ ?_
      ·refine sL<|lmP Z<|lmB Z<|luB Z<|lmB Z ?_
       refine lor rfl rfl rfl ?_
       refine lsB 108 (admBad x e) rfl (by unfold admBad;rw[hp]) ?_
       refine lst (z5a Try.func76 (scode_e _ _ _ _ _ _ _ _ _ _ _ _ _ _ _ _ _ _ _ ) (⟨stays.box (Eq.refl 8),trivial⟩) rfl rfl) Z<|lmB rfl ?_
       refine AL.bool (t:=110) rfl ?_ ?_
       ·intro h4
        refine lno Z<|lno Z<|lno Z<|lno Z<|lno Z<|lno Z<|lkT Z<|lmT Z<|lno Z<|lno Z<|lno Z<|lno Z<|lno Z<|lno Z<|lno Z<|lkT Z<|lmT Z<|lno Z<|lno Z<|lno Z<|lno Z<|lkT Z<|nG<|aY Z<|aR<|rT ?_
        have hcd:admC1 x e=failC (admBad x e) 0 10:=by
         have h:=h4
         simp only[zb1,zb2,zb3,zb4]at h
         rw[hA]
         rw[failC_old (failC_keep h),failC_old h]
        have hn:admC1 x e≠0:=by
         have h:=h4
         simp only[zb1,zb2,zb3,zb4]at h
         rw[hcd];exact h
        rw[admR_no (by rw[admC_one hn];exact hn),admC_one hn,hcd]
        refine end_ret ?_ ⟨rfl,rfl,rfl,rfl,rfl,trivial⟩
        rfl
       ·intro h4
        refine lmP Z<|lf 3 ty.F57_3 Z<|loI ty.kd3 Z<|lmI Z<|lbB Z ?_
        refine lst (z5a Try.func76 (scode_e _ _ _ _ _ _ _ _ _ _ _ _ _ _ _ _ _ _ _ ) (⟨stays.box (Eq.refl 8),trivial⟩) rfl rfl) Z<|lkB Z<|lmB rfl ?_
        refine AL.bool (t:=118) rfl ?_ ?_
        ·intro h5
         refine lno Z<|lno Z<|lno Z<|lno Z<|lno Z<|lno Z<|lno Z<|lkT Z<|lmT Z<|lno Z<|lno Z<|lno Z<|lno Z<|lkT Z<|nG<|aT [0,3,8,10,132] [0,1,2,3,4,2003,2004,2005,2016] ?_
         refine aY Z<|aR<|rT ?_
         have hcd:admC1 x e=failC (decide (c.remote<admSum x e)) (failC (admBad x e) 0 10) 11:=by
          have h:=h5
          simp only[zb1,zb2,zb3,zb4]at h
          rw[hA]
          rw[failC_old h]
         have hn:admC1 x e≠0:=by
          have h:=h5
          simp only[zb1,zb2,zb3,zb4]at h
          rw[hcd];exact h
         rw[admR_no (by rw[admC_one hn];exact hn),admC_one hn,hcd]
         refine end_ret ?_ ⟨rfl,rfl,rfl,rfl,rfl,trivial⟩
         rfl
        ·intro h5
         refine lmP Z<|lf 2 ty.F57_2 Z<|loI ty.kd3 Z<|lf 4 ty.F111_4 Z<|loI ty.kd3 Z<|lbB Z ?_
         refine lst (z5a Try.func76 (scode_e _ _ _ _ _ _ _ _ _ _ _ _ _ _ _ _ _ _ _ ) (⟨stays.box (Eq.refl 8),trivial⟩) rfl rfl) Z<|lkB Z<|lmB rfl ?_
         refine AL.bool (t:=127) rfl ?_ ?_
         ·intro h6
          refine lno Z<|lno Z<|lno Z<|lno Z<|lkT Z<|nG<|aY Z<|aR<|rT ?_
          have hcd:admC1 x e=failC (decide (d.loc<e.amt)) (failC (decide (c.remote<admSum x e)) (failC (admBad x e) 0 10) 11) 12:=by
           have h:=h6
           simp only[zb1,zb2,zb3,zb4]at h
           rw[hA]
           skip
          have hn:admC1 x e≠0:=by
           have h:=h6
           simp only[zb1,zb2,zb3,zb4]at h
           rw[hcd];exact h
          rw[admR_no (by rw[admC_one hn];exact hn),admC_one hn,hcd]
          refine end_ret ?_ ⟨rfl,rfl,rfl,rfl,rfl,trivial⟩
          rfl
         ·intro h6
          refine lmP Z<|lmI Z<|lbB Z ?_
          refine lst (z5a Try.func76 (scode_e _ _ _ _ _ _ _ _ _ _ _ _ _ _ _ _ _ _ _ ) (⟨stays.box (Eq.refl 8),trivial⟩) rfl rfl) Z<|lkB Z<|nG ?_
          refine AW.cond rfl ?_ ?_
          ·intro h7
           refine aR<|rT ?_
           have hz1:admC1 x e=0:=by
            rw[hA]
            have h:=h6
            simp only[zb1,zb2,zb3,zb4]at h
            exact h
           have hcd:admC x e=failC (decide (admRoom x e=0)) (failC (decide (d.loc<e.amt)) (failC (decide (c.remote<admSum x e)) (failC (admBad x e) 0 10) 11) 12) 13:=by rw[admC_two hz1,hA]
           have hn:admC x e≠0:=by
            have h:=h7
            simp only[zb1,zb2,zb3,zb4]at h
            rw[hcd];exact h
           rw[admR_no hn,hcd]
           refine end_ret ?_ ⟨rfl,rfl,rfl,rfl,rfl,trivial⟩
           rfl
          ·intro h7
           refine aK<|gT ?_
           have hz1:admC1 x e=0:=by
            rw[hA]
            have h:=h6
            simp only[zb1,zb2,zb3,zb4]at h
            exact h
           have hy0:admC x e=0:=by
            have h:=h7
            simp only[zb1,zb2,zb3,zb4]at h
            rw[admC_two hz1,hA]
            exact h
           refine⟨(),hy0,trivial,⟨(Eq.trans (b:=sBox g x.tick x.next x.wallet _) rfl (congrArg (sBox g x.tick x.next x.wallet) (by rw[admC_two hz1,hA]at hy0;exact hy0))),trivial⟩,rfl,rfl⟩
      ·intro jd hy0
       refine aS<|aF [19,23]<|pq 0 (qmP Z)<|pq 1 (qmP Z)<|pq 2 (qc Z)<|pq 3 (qf 0 ty.F125_0 Z)<|pq 4 (qf 4 ty.F27_4 Z)<|sq 5 (roO ty.kd24 Z)<|pq 6 (qf 1 ty.F111_1 Z)<|sq 7 (roI ty.kd3 Z)<|pq 8 (qf 2 ty.F111_2 Z)<|sq 9 (roI ty.kd3 Z)<|pq 10 (qf 3 ty.F111_3 Z)<|sq 11 (roI ty.kd3 Z)<|pq 12 (qmX (vI _ _) Z)<|pq 13 (qf 4 ty.F111_4 Z)<|sq 14 (roI ty.kd3 Z)<|vq 15 (rmI Z)<|vq 16 (rbB Z)<|vq 17 (rd (x:=.agg [vI _ _,vI _ _,vI _ _,vI _ _,vI _ _,vB _,vI _ _]) (rd_build Z ty.sa101 Z Z Z) Z) ?_
       refine vst 18 rfl (zS 2151 (rowsOf encHtlc [⟨e.key,e.ch,e.to,admSum x e,e.amt,decide (admRoom x e=2),0⟩]) ty.el24 ty.ze101 rfl) (.inr rfl)<|vst 19 rfl (zP 2 ty.el24 ty.ze101 ty.by101 rfl (Src.own rfl rfl) (by have:=sm.lh;simp[rowsOf];omega)) (.inl rfl)<|vq 20 (rc rfl)<|vq 21 (rf 0 ty.F125_0 rfl)<|vq 22 (rf 4 ty.F27_4 rfl)<|vst 23 rfl (zB 0 ty.co24 ty.inf24 rfl) (.inl rfl)<|fD<|gT ?_
       refine AW.obj 2 (hAr (x.htlcs++[⟨e.key,e.ch,e.to,admSum x e,e.amt,decide (admRoom x e=2),0⟩])) ((congrArg (AO.arr 101 7) (rowsOf_app encHtlc _ [_]).symm)) ?_
       refine sL<|lmP Z<|lf 2 ty.F111_2 Z<|loI ty.kd3 Z<|lmI Z<|lq (rd (x:=vI _ _) (rd_un rfl rfl (fits_i64 (by have h2:A50 (admSum x e):=addV_A50 _ _;unfold A50 at *;unfold i64;omega))) rfl) ?_
       refine lst (z5a Try.func93 (smove_e _ ({ x with htlcs:=x.htlcs++[⟨e.key,e.ch,e.to,admSum x e,e.amt,decide (admRoom x e=2),0⟩] }) _ _ _ _ _ (hm) i c (hi) (hc) (by have h1:=hcm.1;unfold A50 at h1;unfold i64;omega) (by have h1:=hcm.2.1;have h2:A50 (admSum x e):=addV_A50 _ _;unfold A50 at *;unfold i64;omega)) (⟨stays.box (Eq.refl 8),trivial⟩) rfl rfl) Z<|lT [0,3] [0,1,2,3,4,2003,2004,2005,2016,2151] ?_
       refine nA<|lmP Z<|lf 3 ty.F111_3 Z<|loI ty.kd3 Z<|lf 4 ty.F111_4 Z<|loI ty.kd3 Z<|lq (rd (x:=vI _ _) (rd_un rfl rfl (fits_i64 (by have h2:=es.amt;unfold A50 at *;unfold i64;omega))) rfl) ?_
       refine lst (z5a Try.func93 (smove_e _ ({ x with htlcs:=x.htlcs++[⟨e.key,e.ch,e.to,admSum x e,e.amt,decide (admRoom x e=2),0⟩],chans:=x.chans.set i { c with loc:=c.loc+0,remote:=c.remote+-admSum x e } }) _ _ _ _ _ ((by rw[List.length_set];exact hm)) j d ((chanAt_set (c':={ c with loc:=c.loc+0,remote:=c.remote+-admSum x e }) hc rfl).trans hj) (set_get hd hij _) (by have h1:=hdm.1;have h2:=es.amt;unfold A50 at *;unfold i64;omega) (by have h1:=hdm.2.1;unfold A50 at h1;unfold i64;omega)) (⟨stays.box (Eq.refl 8),trivial⟩) rfl rfl) Z<|nG ?_
       refine AW.obj 1 (AO.arr 57 7 (rowsOf encChan (updC (updC x.chans e.ch fun c=>{ c with remote:=c.remote-admSum x e }) e.to fun c=>{ c with loc:=c.loc-e.amt }))) (congrArg (fun l=>AO.arr 57 7 (rowsOf encChan l)) ((by simp only[Int.add_zero,Int.sub_eq_add_neg]:_=((x.chans.set i { c with remote:=c.remote-admSum x e }).set j { d with loc:=d.loc-e.amt })).trans (set_two' fi.ids hc hd hid hjd hne (fun c=>{ c with remote:=c.remote-admSum x e }) (fun d=>{ d with loc:=d.loc-e.amt }) (fun _=>rfl)))) ?_
       refine sL<|lmP Z<|lf 3 ty.F111_3 Z<|loI ty.kd3 Z<|lf 4 ty.F111_4 Z<|loI ty.kd3 Z<|lq (rd (x:=vI _ _) (rd_un rfl rfl (fits_i64 (by have h2:=es.amt;unfold A50 at *;unfold i64;omega))) rfl) ?_
       refine lst (z5a Try.func78 (sline_e _ _ _ _ _ _ _ _ _ _ _ _ _ _ ([]) 0 (LG.nil) (by decide) _ _ _ (Fresh.nil _ _) (rangeA_neg es.amt)) (⟨stays.box (Eq.refl 8),trivial⟩) rfl rfl) Z<|lT [0,3] [0,1,2,3,4,2003,2004,2005,2016,2151] ?_
       refine nG<|aL<|lmP Z<|lf 3 ty.F111_3 Z<|loI ty.kd3 Z<|lf 4 ty.F111_4 Z<|loI ty.kd3 Z ?_
       refine lst (z5a Try.func78 (sline_e _ _ _ _ _ _ _ _ _ _ _ _ _ _ (addL [] 6 e.to (-e.amt)) 1 (LG.nil.add (rangeA_neg es.amt)) (by decide) _ _ _ ((Fresh.nil _ _).add (.inl (by decide))) (rangeA_of es.amt)) (⟨stays.box (Eq.refl 8),trivial⟩) rfl rfl) Z<|lN ?_
       rw[admR_yes hy0]
       unfold admY
       refine end_go ?_ ⟨rfl,rfl,rfl,rfl,rfl,trivial⟩
       rfl
     ·refine v1 14 rfl (zA 2005 ty.ze57 rfl) (.inr rfl)<|vst 11 rfl (zL Try.func29 (sAt_e x _ hm) rfl) (.inr rfl)<|vq 12 (rd (x:=.ptr 1 _ 0) (rd_iaddr_own (i:=j) rfl ty.el23 rfl rfl rfl ?hn3 (by rw[length_rowsOf];exact(List.getElem?_eq_some_iff.1 hd).1)) rfl) ?_
      case hn3=>rw[←chanAt_atI];exact hj
      refine vq 13 (rd (x:=.agg [vI _ _,vI _ _,vI _ _,vI _ _,vI _ _,vI _ _,vI _ _]) (rd_load_arr Z ty.kd57 Z Z Z (rows_some hd) Z) Z)<|vst 15 Z (zB 2005 ty.co57 ty.inf57 Z) (.inl Z)<|fD<|gA<|lf 4 ty.F57_4 Z<|loI ty.kd3 Z<|lf 5 ty.F57_5 Z<|loI ty.kd3 Z<|lf 4 ty.F111_4 Z<|loI ty.kd3 Z<|lst (zL Try.func91 (sfeeUp_e _ _ _) Z) Z<|lT [0,3,4,5,81] [0,1,2,3,4,2003,2004,2005,2016] ?_
      refine lmX (.tup [vI _ _,vB _]) Z<|lxI Z<|lxB Z<|laI Z<|laB Z<|nA<|lf 4 ty.F111_4 Z<|loI ty.kd3 Z<|lmI Z<|lst (zL Try.func77 (saddAmt_e _ _) rfl) Z<|lmX (.tup [vI _ _,vB _]) Z<|lxI Z<|lsN 89 (admSum x e) rfl (by unfold admSum;rw[hp])<|lxB Z<|laI Z<|laB Z<|nG<|aS<|aF []<|pq 0 (qmP rfl)<|pq 1 (qc rfl)<|pq 2 (qf 0 ty.F125_0 rfl)<|sq 3 (roX (.agg [vI _ _,vI _ _,vI _ _,.own _,.own _,.own _]) ty.kd27 rfl)<|sq 4 (roX (.agg [vI _ _,vI _ _,vI _ _,vI _ _,vI _ _,vI _ _,vI _ _]) ty.kd57 rfl)<|sq 5 (roX (.agg [vI _ _,vI _ _,vI _ _,vI _ _,vI _ _,vI _ _,vI _ _]) ty.kd57 rfl)<|pq 6 (qf 4 ty.F111_4 rfl) ?_
      refine sq 7 (roI ty.kd3 rfl)<|vq 8 (rf 6 ty.F111_6 rfl)<|vq 9 (roB ty.kd4 rfl)<|vst 10 rfl (zL Try.func92 (sroom_e x c d _ _ sm.hs) rfl) (.inr rfl)<|fsN 101 (admRoom x e) rfl (by unfold admRoom;rw[ho,hp,hjd])<|vq 11 (raI rfl)<|fD<|gT ?_
      refine aJ [0,3,8,10] [1,2,3,4,2003,2004,2005,2016] (D:=Unit) (fun jd=>[]) (fun jd=>[(0,sBox g x.tick x.next x.wallet 0)]) (fun jd=>admC x e=0) ?_ ?_
      ·refine sL<|lmP Z<|lmB Z<|luB Z<|lmB Z ?_
       refine lor rfl rfl rfl ?_
       refine lsB 108 (admBad x e) rfl (by unfold admBad;rw[hp]) ?_
       refine lst (z5a Try.func76 (scode_e _ _ _ _ _ _ _ _ _ _ _ _ _ _ _ _ _ _ _ ) (⟨stays.box (Eq.refl 8),trivial⟩) rfl rfl) Z<|lmB rfl ?_
       refine AL.bool (t:=110) rfl ?_ ?_
       ·intro h8
        refine lno Z<|lno Z<|lno Z<|lno Z<|lno Z<|lno Z<|lkT Z<|lmT Z<|lno Z<|lno Z<|lno Z<|lno Z<|lno Z<|lno Z<|lno Z<|lkT Z<|lmT Z<|lno Z<|lno Z<|lno Z<|lno Z<|lkT Z<|nG<|aT [0,3,8,10,132] [0,1,2,3,4,2003,2004,2005,2016] ?_
        refine aY Z<|aR<|rT ?_
        have hcd:admC1 x e=failC (admBad x e) 0 10:=by
         have h:=h8
         simp only[zb1,zb2,zb3,zb4]at h
         rw[hA]
         rw[failC_old (failC_keep h),failC_old h]
        have hn:admC1 x e≠0:=by
         have h:=h8
         simp only[zb1,zb2,zb3,zb4]at h
         rw[hcd];exact h
        rw[admR_no (by rw[admC_one hn];exact hn),admC_one hn,hcd]
        refine end_ret ?_ ⟨rfl,rfl,rfl,rfl,rfl,trivial⟩
        rfl
       ·intro h8
        refine lmP Z<|lf 3 ty.F57_3 Z<|loI ty.kd3 Z<|lmI Z<|lbB Z ?_
        refine lst (z5a Try.func76 (scode_e _ _ _ _ _ _ _ _ _ _ _ _ _ _ _ _ _ _ _ ) (⟨stays.box (Eq.refl 8),trivial⟩) rfl rfl) Z<|lkB Z<|lmB rfl ?_
        refine AL.bool (t:=118) rfl ?_ ?_
        ·intro h9
         refine lno Z<|lno Z<|lno Z<|lno Z<|lno Z<|lno Z<|lno Z<|lkT Z<|lmT Z<|lno Z<|lno Z<|lno Z<|lno Z<|lkT Z<|nG<|aY Z<|aR<|rT ?_
         have hcd:admC1 x e=failC (decide (c.remote<admSum x e)) (failC (admBad x e) 0 10) 11:=by
          have h:=h9
          simp only[zb1,zb2,zb3,zb4]at h
          rw[hA]
          rw[failC_old h]
         have hn:admC1 x e≠0:=by
          have h:=h9
          simp only[zb1,zb2,zb3,zb4]at h
          rw[hcd];exact h
         rw[admR_no (by rw[admC_one hn];exact hn),admC_one hn,hcd]
         refine end_ret ?_ ⟨rfl,rfl,rfl,rfl,rfl,trivial⟩
         rfl
        ·intro h9
         refine lmP Z<|lf 2 ty.F57_2 Z<|loI ty.kd3 Z<|lf 4 ty.F111_4 Z<|loI ty.kd3 Z<|lbB Z ?_
         refine lst (z5a Try.func76 (scode_e _ _ _ _ _ _ _ _ _ _ _ _ _ _ _ _ _ _ _ ) (⟨stays.box (Eq.refl 8),trivial⟩) rfl rfl) Z<|lkB Z<|lmB rfl ?_
         refine AL.bool (t:=127) rfl ?_ ?_
         ·intro h10
          refine lno Z<|lno Z<|lno Z<|lno Z<|lkT Z<|nG<|aY Z<|aR<|rT ?_
          have hcd:admC1 x e=failC (decide (d.loc<e.amt)) (failC (decide (c.remote<admSum x e)) (failC (admBad x e) 0 10) 11) 12:=by
           have h:=h10
           simp only[zb1,zb2,zb3,zb4]at h
           rw[hA]
           skip
          have hn:admC1 x e≠0:=by
           have h:=h10
           simp only[zb1,zb2,zb3,zb4]at h
           rw[hcd];exact h
          rw[admR_no (by rw[admC_one hn];exact hn),admC_one hn,hcd]
          refine end_ret ?_ ⟨rfl,rfl,rfl,rfl,rfl,trivial⟩
          rfl
         ·intro h10
          refine lmP Z<|lmI Z<|lbB Z ?_
          refine lst (z5a Try.func76 (scode_e _ _ _ _ _ _ _ _ _ _ _ _ _ _ _ _ _ _ _ ) (⟨stays.box (Eq.refl 8),trivial⟩) rfl rfl) Z<|lkB Z<|nG ?_
          refine AW.cond rfl ?_ ?_
          ·intro h11
           refine aR<|rT ?_
           have hz1:admC1 x e=0:=by
            rw[hA]
            have h:=h10
            simp only[zb1,zb2,zb3,zb4]at h
            exact h
           have hcd:admC x e=failC (decide (admRoom x e=0)) (failC (decide (d.loc<e.amt)) (failC (decide (c.remote<admSum x e)) (failC (admBad x e) 0 10) 11) 12) 13:=by rw[admC_two hz1,hA]
           have hn:admC x e≠0:=by
            have h:=h11
            simp only[zb1,zb2,zb3,zb4]at h
            rw[hcd];exact h
           rw[admR_no hn,hcd]
           refine end_ret ?_ ⟨rfl,rfl,rfl,rfl,rfl,trivial⟩
           rfl
          ·intro h11
           refine aK<|gT ?_
           have hz1:admC1 x e=0:=by
            rw[hA]
            have h:=h10
            simp only[zb1,zb2,zb3,zb4]at h
            exact h
           have hy0:admC x e=0:=by
            have h:=h11
            simp only[zb1,zb2,zb3,zb4]at h
            rw[admC_two hz1,hA]
            exact h
           refine⟨(),hy0,trivial,⟨(Eq.trans (b:=sBox g x.tick x.next x.wallet _) rfl (congrArg (sBox g x.tick x.next x.wallet) (by rw[admC_two hz1,hA]at hy0;exact hy0))),trivial⟩,rfl,rfl⟩
      ·intro jd hy0
       refine aS<|aF [19,23]<|pq 0 (qmP Z)<|pq 1 (qmP Z)<|pq 2 (qc Z)<|pq 3 (qf 0 ty.F125_0 Z)<|pq 4 (qf 4 ty.F27_4 Z)<|sq 5 (roO ty.kd24 Z)<|pq 6 (qf 1 ty.F111_1 Z)<|sq 7 (roI ty.kd3 Z)<|pq 8 (qf 2 ty.F111_2 Z)<|sq 9 (roI ty.kd3 Z)<|pq 10 (qf 3 ty.F111_3 Z)<|sq 11 (roI ty.kd3 Z)<|pq 12 (qmX (vI _ _) Z)<|pq 13 (qf 4 ty.F111_4 Z)<|sq 14 (roI ty.kd3 Z)<|vq 15 (rmI Z)<|vq 16 (rbB Z)<|vq 17 (rd (x:=.agg [vI _ _,vI _ _,vI _ _,vI _ _,vI _ _,vB _,vI _ _]) (rd_build Z ty.sa101 Z Z Z) Z) ?_
       refine vst 18 rfl (zS 2151 (rowsOf encHtlc [⟨e.key,e.ch,e.to,admSum x e,e.amt,decide (admRoom x e=2),0⟩]) ty.el24 ty.ze101 rfl) (.inr rfl)<|vst 19 rfl (zP 2 ty.el24 ty.ze101 ty.by101 rfl (Src.own rfl rfl) (by have:=sm.lh;simp[rowsOf];omega)) (.inl rfl)<|vq 20 (rc rfl)<|vq 21 (rf 0 ty.F125_0 rfl)<|vq 22 (rf 4 ty.F27_4 rfl)<|vst 23 rfl (zB 0 ty.co24 ty.inf24 rfl) (.inl rfl)<|fD<|gT ?_
       refine AW.obj 2 (hAr (x.htlcs++[⟨e.key,e.ch,e.to,admSum x e,e.amt,decide (admRoom x e=2),0⟩])) ((congrArg (AO.arr 101 7) (rowsOf_app encHtlc _ [_]).symm)) ?_
       refine sL<|lmP Z<|lf 2 ty.F111_2 Z<|loI ty.kd3 Z<|lmI Z<|lq (rd (x:=vI _ _) (rd_un rfl rfl (fits_i64 (by have h2:A50 (admSum x e):=addV_A50 _ _;unfold A50 at *;unfold i64;omega))) rfl) ?_
       refine lst (z5a Try.func93 (smove_e _ ({ x with htlcs:=x.htlcs++[⟨e.key,e.ch,e.to,admSum x e,e.amt,decide (admRoom x e=2),0⟩] }) _ _ _ _ _ (hm) i c (hi) (hc) (by have h1:=hcm.1;unfold A50 at h1;unfold i64;omega) (by have h1:=hcm.2.1;have h2:A50 (admSum x e):=addV_A50 _ _;unfold A50 at *;unfold i64;omega)) (⟨stays.box (Eq.refl 8),trivial⟩) rfl rfl) Z<|lT [0,3] [0,1,2,3,4,2003,2004,2005,2016,2151] ?_
       refine nA<|lmP Z<|lf 3 ty.F111_3 Z<|loI ty.kd3 Z<|lf 4 ty.F111_4 Z<|loI ty.kd3 Z<|lq (rd (x:=vI _ _) (rd_un rfl rfl (fits_i64 (by have h2:=es.amt;unfold A50 at *;unfold i64;omega))) rfl) ?_
       refine lst (z5a Try.func93 (smove_e _ ({ x with htlcs:=x.htlcs++[⟨e.key,e.ch,e.to,admSum x e,e.amt,decide (admRoom x e=2),0⟩],chans:=x.chans.set i { c with loc:=c.loc+0,remote:=c.remote+-admSum x e } }) _ _ _ _ _ ((by rw[List.length_set];exact hm)) j d ((chanAt_set (c':={ c with loc:=c.loc+0,remote:=c.remote+-admSum x e }) hc rfl).trans hj) (set_get hd hij _) (by have h1:=hdm.1;have h2:=es.amt;unfold A50 at *;unfold i64;omega) (by have h1:=hdm.2.1;unfold A50 at h1;unfold i64;omega)) (⟨stays.box (Eq.refl 8),trivial⟩) rfl rfl) Z<|nG ?_
       refine AW.obj 1 (AO.arr 57 7 (rowsOf encChan (updC (updC x.chans e.ch fun c=>{ c with remote:=c.remote-admSum x e }) e.to fun c=>{ c with loc:=c.loc-e.amt }))) (congrArg (fun l=>AO.arr 57 7 (rowsOf encChan l)) ((by simp only[Int.add_zero,Int.sub_eq_add_neg]:_=((x.chans.set i { c with remote:=c.remote-admSum x e }).set j { d with loc:=d.loc-e.amt })).trans (set_two' fi.ids hc hd hid hjd hne (fun c=>{ c with remote:=c.remote-admSum x e }) (fun d=>{ d with loc:=d.loc-e.amt }) (fun _=>rfl)))) ?_
       refine sL<|lmP Z<|lf 3 ty.F111_3 Z<|loI ty.kd3 Z<|lf 4 ty.F111_4 Z<|loI ty.kd3 Z<|lq (rd (x:=vI _ _) (rd_un rfl rfl (fits_i64 (by have h2:=es.amt;unfold A50 at *;unfold i64;omega))) rfl) ?_
       refine lst (z5a Try.func78 (sline_e _ _ _ _ _ _ _ _ _ _ _ _ _ _ ([]) 0 (LG.nil) (by decide) _ _ _ (Fresh.nil _ _) (rangeA_neg es.amt)) (⟨stays.box (Eq.refl 8),trivial⟩) rfl rfl) Z<|lT [0,3] [0,1,2,3,4,2003,2004,2005,2016,2151] ?_
       refine nG<|aL<|lmP Z<|lf 3 ty.F111_3 Z<|loI ty.kd3 Z<|lf 4 ty.F111_4 Z<|loI ty.kd3 Z ?_
       refine lst (z5a Try.func78 (sline_e _ _ _ _ _ _ _ _ _ _ _ _ _ _ (addL [] 6 e.to (-e.amt)) 1 (LG.nil.add (rangeA_neg es.amt)) (by decide) _ _ _ ((Fresh.nil _ _).add (.inl (by decide))) (rangeA_of es.amt)) (⟨stays.box (Eq.refl 8),trivial⟩) rfl rfl) Z<|lN ?_
       rw[admR_yes hy0]
       unfold admY
       refine end_go ?_ ⟨rfl,rfl,rfl,rfl,rfl,trivial⟩
       rfl
    ·refine v1 14 rfl (zA 2004 ty.ze57 rfl) (.inr rfl)<|vst 11 rfl (zL Try.func29 (sAt_e x _ hm) rfl) (.inr rfl)<|vq 12 (rd (x:=.ptr 1 _ 0) (rd_iaddr_own (i:=i) rfl ty.el23 rfl rfl rfl ?hn4 (by rw[length_rowsOf];exact(List.getElem?_eq_some_iff.1 hc).1)) rfl) ?_
     case hn4=>rw[←chanAt_atI];exact hi
     refine vq 13 (rd (x:=.agg [vI _ _,vI _ _,vI _ _,vI _ _,vI _ _,vI _ _,vI _ _]) (rd_load_arr Z ty.kd57 Z Z Z (rows_some hc) Z) Z)<|vst 15 Z (zB 2004 ty.co57 ty.inf57 Z) (.inl Z)<|fD<|gT<|aS<|aF [15]<|pq 0 (qmP Z)<|pq 1 (qc Z)<|pq 2 (qf 0 ty.F125_0 Z)<|pq 3 (qf 3 ty.F27_3 Z)<|sq 4 (roO ty.kd23 Z)<|pq 5 (qmP Z)<|pq 6 (qc Z)<|pq 7 (qf 0 ty.F125_0 Z)<|sq 8 (roX (.agg [vI _ _,vI _ _,vI _ _,.own _,.own _,.own _]) ty.kd27 Z)<|pq 9 (qf 3 ty.F111_3 Z)<|sq 10 (roI ty.kd3 Z) ?_
     refine AF.two (i:=11) (j:=14) (by kernel_rfl) ?_ ?_
     ·refine v1 11 rfl (zL Try.func29 (sAt_e x _ hm) rfl) (.inr rfl)<|sq 12 (rd (x:=.ptr 1 _ 0) (rd_iaddr_own (i:=j) rfl ty.el23 rfl rfl rfl ?hn5 (by rw[length_rowsOf];exact(List.getElem?_eq_some_iff.1 hd).1)) rfl) ?_
      case hn5=>rw[←chanAt_atI];exact hj
      refine sq 13 (rd (x:=.agg [vI _ _,vI _ _,vI _ _,vI _ _,vI _ _,vI _ _,vI _ _]) (rd_load_arr Z ty.kd57 Z Z Z (rows_some hd) Z) Z)<|vst 14 Z (zA 2005 ty.ze57 Z) (.inr Z)<|vst 15 Z (zB 2005 ty.co57 ty.inf57 Z) (.inl Z)<|fD<|gA<|lf 4 ty.F57_4 Z<|loI ty.kd3 Z<|lf 5 ty.F57_5 Z<|lT [0,3,4,5,76,77] [0,1,2,3,4,2003,2004,2005,2016] ?_
      refine loI ty.kd3 Z<|lf 4 ty.F111_4 Z<|loI ty.kd3 Z<|lst (zL Try.func91 (sfeeUp_e _ _ _) rfl) Z<|lmX (.tup [vI _ _,vB _]) Z<|lxI Z<|lxB Z<|laI Z<|laB Z<|nA<|lf 4 ty.F111_4 Z<|loI ty.kd3 Z<|lmI Z<|lst (zL Try.func77 (saddAmt_e _ _) rfl) Z<|lmX (.tup [vI _ _,vB _]) Z<|lxI Z<|lsN 89 (admSum x e) rfl (by unfold admSum;rw[hp])<|lxB Z<|laI Z<|laB Z<|nG<|aS<|aF []<|pq 0 (qmP rfl)<|pq 1 (qc rfl)<|pq 2 (qf 0 ty.F125_0 rfl) ?_
      refine sq 3 (roX (.agg [vI _ _,vI _ _,vI _ _,.own _,.own _,.own _]) ty.kd27 rfl)<|sq 4 (roX (.agg [vI _ _,vI _ _,vI _ _,vI _ _,vI _ _,vI _ _,vI _ _]) ty.kd57 rfl)<|sq 5 (roX (.agg [vI _ _,vI _ _,vI _ _,vI _ _,vI _ _,vI _ _,vI _ _]) ty.kd57 rfl)<|pq 6 (qf 4 ty.F111_4 rfl)<|sq 7 (roI ty.kd3 rfl)<|vq 8 (rf 6 ty.F111_6 rfl)<|vq 9 (roB ty.kd4 rfl)<|vst 10 rfl (zL Try.func92 (sroom_e x c d _ _ sm.hs) rfl) (.inr rfl)<|fsN 101 (admRoom x e) rfl (by unfold admRoom;rw[ho,hp,hjd])<|vq 11 (raI rfl)<|fD<|gT<|aT [0,3,4,5,7,8,9,10] [0,1,2,3,4,2003,2004,2005,2016] ?_
      refine aJ [0,3,8,10] [1,2,3,4,2003,2004,2005,2016] (D:=Unit) (fun jd=>[]) (fun jd=>[(0,sBox g x.tick x.next x.wallet 0)]) (fun jd=>admC x e=0) ?_ ?_
      ·refine sL<|lmP Z<|lmB Z<|luB Z<|lmB Z ?_
       refine lor rfl rfl rfl ?_
       refine lsB 108 (admBad x e) rfl (by unfold admBad;rw[hp]) ?_
       refine lst (z5a Try.func76 (scode_e _ _ _ _ _ _ _ _ _ _ _ _ _ _ _ _ _ _ _ ) (⟨stays.box (Eq.refl 8),trivial⟩) rfl rfl) Z<|lmB rfl ?_
       refine AL.bool (t:=110) rfl ?_ ?_
       ·intro h12
        refine lno Z<|lno Z<|lno Z<|lno Z<|lno Z<|lno Z<|lkT Z<|lmT Z<|lno Z<|lno Z<|lno Z<|lno Z<|lno Z<|lno Z<|lno Z<|lkT Z<|lmT Z<|lno Z<|lno Z<|lno Z<|lno Z<|lkT Z<|nG<|aY Z<|aR<|rT ?_
        have hcd:admC1 x e=failC (admBad x e) 0 10:=by
         have h:=h12
         simp only[zb1,zb2,zb3,zb4]at h
         rw[hA]
         rw[failC_old (failC_keep h),failC_old h]
        have hn:admC1 x e≠0:=by
         have h:=h12
         simp only[zb1,zb2,zb3,zb4]at h
         rw[hcd];exact h
        rw[admR_no (by rw[admC_one hn];exact hn),admC_one hn,hcd]
        refine end_ret ?_ ⟨rfl,rfl,rfl,rfl,rfl,trivial⟩
        rfl
       ·intro h12
        refine lmP Z<|lf 3 ty.F57_3 Z<|loI ty.kd3 Z<|lmI Z<|lbB Z ?_
        refine lst (z5a Try.func76 (scode_e _ _ _ _ _ _ _ _ _ _ _ _ _ _ _ _ _ _ _ ) (⟨stays.box (Eq.refl 8),trivial⟩) rfl rfl) Z<|lkB Z<|lmB rfl ?_
        refine AL.bool (t:=118) rfl ?_ ?_
        ·intro h13
         refine lno Z<|lno Z<|lno Z<|lno Z<|lno Z<|lno Z<|lno Z<|lkT Z<|lmT Z<|lno Z<|lno Z<|lno Z<|lno Z<|lkT Z<|nG<|aY Z<|aR<|rT ?_
         have hcd:admC1 x e=failC (decide (c.remote<admSum x e)) (failC (admBad x e) 0 10) 11:=by
          have h:=h13
          simp only[zb1,zb2,zb3,zb4]at h
          rw[hA]
          rw[failC_old h]
         have hn:admC1 x e≠0:=by
          have h:=h13
          simp only[zb1,zb2,zb3,zb4]at h
          rw[hcd];exact h
         rw[admR_no (by rw[admC_one hn];exact hn),admC_one hn,hcd]
         refine end_ret ?_ ⟨rfl,rfl,rfl,rfl,rfl,trivial⟩
         rfl
        ·intro h13
         refine lmP Z<|lf 2 ty.F57_2 Z<|loI ty.kd3 Z<|lf 4 ty.F111_4 Z<|loI ty.kd3 Z<|lbB Z ?_
         refine lst (z5a Try.func76 (scode_e _ _ _ _ _ _ _ _ _ _ _ _ _ _ _ _ _ _ _ ) (⟨stays.box (Eq.refl 8),trivial⟩) rfl rfl) Z<|lkB Z<|lmB rfl ?_
         refine AL.bool (t:=127) rfl ?_ ?_
         ·intro h14
          refine lno Z<|lno Z<|lno Z<|lno Z<|lkT Z<|nG<|aT [0,3,8,10,132] [0,1,2,3,4,2003,2004,2005,2016] ?_
          refine aY Z<|aR<|rT ?_
          have hcd:admC1 x e=failC (decide (d.loc<e.amt)) (failC (decide (c.remote<admSum x e)) (failC (admBad x e) 0 10) 11) 12:=by
           have h:=h14
           simp only[zb1,zb2,zb3,zb4]at h
           rw[hA]
           skip
          have hn:admC1 x e≠0:=by
           have h:=h14
           simp only[zb1,zb2,zb3,zb4]at h
           rw[hcd];exact h
          rw[admR_no (by rw[admC_one hn];exact hn),admC_one hn,hcd]
          refine end_ret ?_ ⟨rfl,rfl,rfl,rfl,rfl,trivial⟩
          rfl
         ·intro h14
          refine lmP Z<|lmI Z<|lbB Z ?_
          refine lst (z5a Try.func76 (scode_e _ _ _ _ _ _ _ _ _ _ _ _ _ _ _ _ _ _ _ ) (⟨stays.box (Eq.refl 8),trivial⟩) rfl rfl) Z<|lkB Z<|nG ?_
          refine AW.cond rfl ?_ ?_
          ·intro h15
           refine aR<|rT ?_
           have hz1:admC1 x e=0:=by
            rw[hA]
            have h:=h14
            simp only[zb1,zb2,zb3,zb4]at h
            exact h
           have hcd:admC x e=failC (decide (admRoom x e=0)) (failC (decide (d.loc<e.amt)) (failC (decide (c.remote<admSum x e)) (failC (admBad x e) 0 10) 11) 12) 13:=by rw[admC_two hz1,hA]
           have hn:admC x e≠0:=by
            have h:=h15
            simp only[zb1,zb2,zb3,zb4]at h
            rw[hcd];exact h
           rw[admR_no hn,hcd]
           refine end_ret ?_ ⟨rfl,rfl,rfl,rfl,rfl,trivial⟩
           rfl
          ·intro h15
           refine aK<|gT ?_
           have hz1:admC1 x e=0:=by
            rw[hA]
            have h:=h14
            simp only[zb1,zb2,zb3,zb4]at h
            exact h
           have hy0:admC x e=0:=by
            have h:=h15
            simp only[zb1,zb2,zb3,zb4]at h
            rw[admC_two hz1,hA]
            exact h
           refine⟨(),hy0,trivial,⟨(Eq.trans (b:=sBox g x.tick x.next x.wallet _) rfl (congrArg (sBox g x.tick x.next x.wallet) (by rw[admC_two hz1,hA]at hy0;exact hy0))),trivial⟩,rfl,rfl⟩
      ·intro jd hy0
       refine aS<|aF [19,23]<|pq 0 (qmP Z)<|pq 1 (qmP Z)<|pq 2 (qc Z)<|pq 3 (qf 0 ty.F125_0 Z)<|pq 4 (qf 4 ty.F27_4 Z)<|sq 5 (roO ty.kd24 Z)<|pq 6 (qf 1 ty.F111_1 Z)<|sq 7 (roI ty.kd3 Z)<|pq 8 (qf 2 ty.F111_2 Z)<|sq 9 (roI ty.kd3 Z)<|pq 10 (qf 3 ty.F111_3 Z)<|sq 11 (roI ty.kd3 Z)<|pq 12 (qmX (vI _ _) Z)<|pq 13 (qf 4 ty.F111_4 Z)<|sq 14 (roI ty.kd3 Z)<|vq 15 (rmI Z)<|vq 16 (rbB Z)<|vq 17 (rd (x:=.agg [vI _ _,vI _ _,vI _ _,vI _ _,vI _ _,vB _,vI _ _]) (rd_build Z ty.sa101 Z Z Z) Z) ?_
       refine vst 18 rfl (zS 2151 (rowsOf encHtlc [⟨e.key,e.ch,e.to,admSum x e,e.amt,decide (admRoom x e=2),0⟩]) ty.el24 ty.ze101 rfl) (.inr rfl)<|vst 19 rfl (zP 2 ty.el24 ty.ze101 ty.by101 rfl (Src.own rfl rfl) (by have:=sm.lh;simp[rowsOf];omega)) (.inl rfl)<|vq 20 (rc rfl)<|vq 21 (rf 0 ty.F125_0 rfl)<|vq 22 (rf 4 ty.F27_4 rfl)<|vst 23 rfl (zB 0 ty.co24 ty.inf24 rfl) (.inl rfl)<|fD<|gT ?_
       refine AW.obj 2 (hAr (x.htlcs++[⟨e.key,e.ch,e.to,admSum x e,e.amt,decide (admRoom x e=2),0⟩])) ((congrArg (AO.arr 101 7) (rowsOf_app encHtlc _ [_]).symm)) ?_
       refine sL<|lmP Z<|lf 2 ty.F111_2 Z<|loI ty.kd3 Z<|lmI Z<|lq (rd (x:=vI _ _) (rd_un rfl rfl (fits_i64 (by have h2:A50 (admSum x e):=addV_A50 _ _;unfold A50 at *;unfold i64;omega))) rfl) ?_
       refine lst (z5a Try.func93 (smove_e _ ({ x with htlcs:=x.htlcs++[⟨e.key,e.ch,e.to,admSum x e,e.amt,decide (admRoom x e=2),0⟩] }) _ _ _ _ _ (hm) i c (hi) (hc) (by have h1:=hcm.1;unfold A50 at h1;unfold i64;omega) (by have h1:=hcm.2.1;have h2:A50 (admSum x e):=addV_A50 _ _;unfold A50 at *;unfold i64;omega)) (⟨stays.box (Eq.refl 8),trivial⟩) rfl rfl) Z<|lT [0,3] [0,1,2,3,4,2003,2004,2005,2016,2151] ?_
       refine nA<|lmP Z<|lf 3 ty.F111_3 Z<|loI ty.kd3 Z<|lf 4 ty.F111_4 Z<|loI ty.kd3 Z<|lq (rd (x:=vI _ _) (rd_un rfl rfl (fits_i64 (by have h2:=es.amt;unfold A50 at *;unfold i64;omega))) rfl) ?_
       refine lst (z5a Try.func93 (smove_e _ ({ x with htlcs:=x.htlcs++[⟨e.key,e.ch,e.to,admSum x e,e.amt,decide (admRoom x e=2),0⟩],chans:=x.chans.set i { c with loc:=c.loc+0,remote:=c.remote+-admSum x e } }) _ _ _ _ _ ((by rw[List.length_set];exact hm)) j d ((chanAt_set (c':={ c with loc:=c.loc+0,remote:=c.remote+-admSum x e }) hc rfl).trans hj) (set_get hd hij _) (by have h1:=hdm.1;have h2:=es.amt;unfold A50 at *;unfold i64;omega) (by have h1:=hdm.2.1;unfold A50 at h1;unfold i64;omega)) (⟨stays.box (Eq.refl 8),trivial⟩) rfl rfl) Z<|nG ?_
       refine AW.obj 1 (AO.arr 57 7 (rowsOf encChan (updC (updC x.chans e.ch fun c=>{ c with remote:=c.remote-admSum x e }) e.to fun c=>{ c with loc:=c.loc-e.amt }))) (congrArg (fun l=>AO.arr 57 7 (rowsOf encChan l)) ((by simp only[Int.add_zero,Int.sub_eq_add_neg]:_=((x.chans.set i { c with remote:=c.remote-admSum x e }).set j { d with loc:=d.loc-e.amt })).trans (set_two' fi.ids hc hd hid hjd hne (fun c=>{ c with remote:=c.remote-admSum x e }) (fun d=>{ d with loc:=d.loc-e.amt }) (fun _=>rfl)))) ?_
       refine sL<|lmP Z<|lf 3 ty.F111_3 Z<|loI ty.kd3 Z<|lf 4 ty.F111_4 Z<|loI ty.kd3 Z<|lq (rd (x:=vI _ _) (rd_un rfl rfl (fits_i64 (by have h2:=es.amt;unfold A50 at *;unfold i64;omega))) rfl) ?_
       refine lst (z5a Try.func78 (sline_e _ _ _ _ _ _ _ _ _ _ _ _ _ _ ([]) 0 (LG.nil) (by decide) _ _ _ (Fresh.nil _ _) (rangeA_neg es.amt)) (⟨stays.box (Eq.refl 8),trivial⟩) rfl rfl) Z<|lT [0,3] [0,1,2,3,4,2003,2004,2005,2016,2151] ?_
       refine nG<|aL<|lmP Z<|lf 3 ty.F111_3 Z<|loI ty.kd3 Z<|lf 4 ty.F111_4 Z<|loI ty.kd3 Z ?_
       refine lst (z5a Try.func78 (sline_e _ _ _ _ _ _ _ _ _ _ _ _ _ _ (addL [] 6 e.to (-e.amt)) 1 (LG.nil.add (rangeA_neg es.amt)) (by decide) _ _ _ ((Fresh.nil _ _).add (.inl (by decide))) (rangeA_of es.amt)) (⟨stays.box (Eq.refl 8),trivial⟩) rfl rfl) Z<|lN ?_
       rw[admR_yes hy0]
       unfold admY
       refine end_go ?_ ⟨rfl,rfl,rfl,rfl,rfl,trivial⟩
       rfl
     ·refine v1 14 rfl (zA 2005 ty.ze57 rfl) (.inr rfl)<|vst 11 rfl (zL Try.func29 (sAt_e x _ hm) rfl) (.inr rfl)<|vq 12 (rd (x:=.ptr 1 _ 0) (rd_iaddr_own (i:=j) rfl ty.el23 rfl rfl rfl ?hn6 (by rw[length_rowsOf];exact(List.getElem?_eq_some_iff.1 hd).1)) rfl) ?_
      case hn6=>rw[←chanAt_atI];exact hj
      refine vq 13 (rd (x:=.agg [vI _ _,vI _ _,vI _ _,vI _ _,vI _ _,vI _ _,vI _ _]) (rd_load_arr Z ty.kd57 Z Z Z (rows_some hd) Z) Z)<|vst 15 Z (zB 2005 ty.co57 ty.inf57 Z) (.inl Z)<|fD<|gA<|lf 4 ty.F57_4 Z<|loI ty.kd3 Z<|lf 5 ty.F57_5 Z<|loI ty.kd3 Z<|lf 4 ty.F111_4 Z<|loI ty.kd3 Z<|lst (zL Try.func91 (sfeeUp_e _ _ _) Z) Z<|lT [0,3,4,5,81] [0,1,2,3,4,2003,2004,2005,2016] ?_
      refine lmX (.tup [vI _ _,vB _]) Z<|lxI Z<|lxB Z<|laI Z<|laB Z<|nA<|lf 4 ty.F111_4 Z<|loI ty.kd3 Z<|lmI Z<|lst (zL Try.func77 (saddAmt_e _ _) rfl) Z<|lmX (.tup [vI _ _,vB _]) Z<|lxI Z<|lsN 89 (admSum x e) rfl (by unfold admSum;rw[hp])<|lxB Z<|laI Z<|laB Z<|nG<|aS<|aF []<|pq 0 (qmP rfl)<|pq 1 (qc rfl)<|pq 2 (qf 0 ty.F125_0 rfl)<|sq 3 (roX (.agg [vI _ _,vI _ _,vI _ _,.own _,.own _,.own _]) ty.kd27 rfl)<|sq 4 (roX (.agg [vI _ _,vI _ _,vI _ _,vI _ _,vI _ _,vI _ _,vI _ _]) ty.kd57 rfl)<|sq 5 (roX (.agg [vI _ _,vI _ _,vI _ _,vI _ _,vI _ _,vI _ _,vI _ _]) ty.kd57 rfl)<|pq 6 (qf 4 ty.F111_4 rfl) ?_
      refine sq 7 (roI ty.kd3 rfl)<|vq 8 (rf 6 ty.F111_6 rfl)<|vq 9 (roB ty.kd4 rfl)<|vst 10 rfl (zL Try.func92 (sroom_e x c d _ _ sm.hs) rfl) (.inr rfl)<|fsN 101 (admRoom x e) rfl (by unfold admRoom;rw[ho,hp,hjd])<|vq 11 (raI rfl)<|fD<|gT ?_
      refine aJ [0,3,8,10] [1,2,3,4,2003,2004,2005,2016] (D:=Unit) (fun jd=>[]) (fun jd=>[(0,sBox g x.tick x.next x.wallet 0)]) (fun jd=>admC x e=0) ?_ ?_
      ·refine sL<|lmP Z<|lmB Z<|luB Z<|lmB Z ?_
       refine lor rfl rfl rfl ?_
       refine lsB 108 (admBad x e) rfl (by unfold admBad;rw[hp]) ?_
       refine lst (z5a Try.func76 (scode_e _ _ _ _ _ _ _ _ _ _ _ _ _ _ _ _ _ _ _ ) (⟨stays.box (Eq.refl 8),trivial⟩) rfl rfl) Z<|lmB rfl ?_
       refine AL.bool (t:=110) rfl ?_ ?_
       ·intro h16
        refine lno Z<|lno Z<|lno Z<|lno Z<|lno Z<|lno Z<|lkT Z<|lmT Z<|lno Z<|lno Z<|lno Z<|lno Z<|lno Z<|lno Z<|lno Z<|lkT Z<|lmT Z<|lno Z<|lno Z<|lno Z<|lno Z<|lkT Z<|nG<|aT [0,3,8,10,132] [0,1,2,3,4,2003,2004,2005,2016] ?_
        refine aY Z<|aR<|rT ?_
        have hcd:admC1 x e=failC (admBad x e) 0 10:=by
         have h:=h16
         simp only[zb1,zb2,zb3,zb4]at h
         rw[hA]
         rw[failC_old (failC_keep h),failC_old h]
        have hn:admC1 x e≠0:=by
         have h:=h16
         simp only[zb1,zb2,zb3,zb4]at h
         rw[hcd];exact h
        rw[admR_no (by rw[admC_one hn];exact hn),admC_one hn,hcd]
        refine end_ret ?_ ⟨rfl,rfl,rfl,rfl,rfl,trivial⟩
        rfl
       ·intro h16
        refine lmP Z<|lf 3 ty.F57_3 Z<|loI ty.kd3 Z<|lmI Z<|lbB Z ?_
        refine lst (z5a Try.func76 (scode_e _ _ _ _ _ _ _ _ _ _ _ _ _ _ _ _ _ _ _ ) (⟨stays.box (Eq.refl 8),trivial⟩) rfl rfl) Z<|lkB Z<|lmB rfl ?_
        refine AL.bool (t:=118) rfl ?_ ?_
        ·intro h17
         refine lno Z<|lno Z<|lno Z<|lno Z<|lno Z<|lno Z<|lno Z<|lkT Z<|lmT Z<|lno Z<|lno Z<|lno Z<|lno Z<|lkT Z<|nG<|aY Z<|aR<|rT ?_
         have hcd:admC1 x e=failC (decide (c.remote<admSum x e)) (failC (admBad x e) 0 10) 11:=by
          have h:=h17
          simp only[zb1,zb2,zb3,zb4]at h
          rw[hA]
          rw[failC_old h]
         have hn:admC1 x e≠0:=by
          have h:=h17
          simp only[zb1,zb2,zb3,zb4]at h
          rw[hcd];exact h
         rw[admR_no (by rw[admC_one hn];exact hn),admC_one hn,hcd]
         refine end_ret ?_ ⟨rfl,rfl,rfl,rfl,rfl,trivial⟩
         rfl
        ·intro h17
         refine lmP Z<|lf 2 ty.F57_2 Z<|loI ty.kd3 Z<|lf 4 ty.F111_4 Z<|loI ty.kd3 Z<|lbB Z ?_
         refine lst (z5a Try.func76 (scode_e _ _ _ _ _ _ _ _ _ _ _ _ _ _ _ _ _ _ _ ) (⟨stays.box (Eq.refl 8),trivial⟩) rfl rfl) Z<|lkB Z<|lmB rfl ?_
         refine AL.bool (t:=127) rfl ?_ ?_
         ·intro h18
          refine lno Z<|lno Z<|lno Z<|lno Z<|lkT Z<|nG<|aY Z<|aR<|rT ?_
          have hcd:admC1 x e=failC (decide (d.loc<e.amt)) (failC (decide (c.remote<admSum x e)) (failC (admBad x e) 0 10) 11) 12:=by
           have h:=h18
           simp only[zb1,zb2,zb3,zb4]at h
           rw[hA]
           skip
          have hn:admC1 x e≠0:=by
           have h:=h18
           simp only[zb1,zb2,zb3,zb4]at h
           rw[hcd];exact h
          rw[admR_no (by rw[admC_one hn];exact hn),admC_one hn,hcd]
          refine end_ret ?_ ⟨rfl,rfl,rfl,rfl,rfl,trivial⟩
          rfl
         ·intro h18
          refine lmP Z<|lmI Z<|lbB Z ?_
          refine lst (z5a Try.func76 (scode_e _ _ _ _ _ _ _ _ _ _ _ _ _ _ _ _ _ _ _ ) (⟨stays.box (Eq.refl 8),trivial⟩) rfl rfl) Z<|lkB Z<|nG ?_
          refine AW.cond rfl ?_ ?_
          ·intro h19
           refine aR<|rT ?_
           have hz1:admC1 x e=0:=by
            rw[hA]
            have h:=h18
            simp only[zb1,zb2,zb3,zb4]at h
            exact h
           have hcd:admC x e=failC (decide (admRoom x e=0)) (failC (decide (d.loc<e.amt)) (failC (decide (c.remote<admSum x e)) (failC (admBad x e) 0 10) 11) 12) 13:=by rw[admC_two hz1,hA]
           have hn:admC x e≠0:=by
            have h:=h19
            simp only[zb1,zb2,zb3,zb4]at h
            rw[hcd];exact h
           rw[admR_no hn,hcd]
           refine end_ret ?_ ⟨rfl,rfl,rfl,rfl,rfl,trivial⟩
           rfl
          ·intro h19
           refine aK<|gT ?_
           have hz1:admC1 x e=0:=by
            rw[hA]
            have h:=h18
            simp only[zb1,zb2,zb3,zb4]at h
            exact h
           have hy0:admC x e=0:=by
            have h:=h19
            simp only[zb1,zb2,zb3,zb4]at h
            rw[admC_two hz1,hA]
            exact h
           refine⟨(),hy0,trivial,⟨(Eq.trans (b:=sBox g x.tick x.next x.wallet _) rfl (congrArg (sBox g x.tick x.next x.wallet) (by rw[admC_two hz1,hA]at hy0;exact hy0))),trivial⟩,rfl,rfl⟩
      ·intro jd hy0
       refine aS<|aF [19,23]<|pq 0 (qmP Z)<|pq 1 (qmP Z)<|pq 2 (qc Z)<|pq 3 (qf 0 ty.F125_0 Z)<|pq 4 (qf 4 ty.F27_4 Z)<|sq 5 (roO ty.kd24 Z)<|pq 6 (qf 1 ty.F111_1 Z)<|sq 7 (roI ty.kd3 Z)<|pq 8 (qf 2 ty.F111_2 Z)<|sq 9 (roI ty.kd3 Z)<|pq 10 (qf 3 ty.F111_3 Z)<|sq 11 (roI ty.kd3 Z)<|pq 12 (qmX (vI _ _) Z)<|pq 13 (qf 4 ty.F111_4 Z)<|sq 14 (roI ty.kd3 Z)<|vq 15 (rmI Z)<|vq 16 (rbB Z)<|vq 17 (rd (x:=.agg [vI _ _,vI _ _,vI _ _,vI _ _,vI _ _,vB _,vI _ _]) (rd_build Z ty.sa101 Z Z Z) Z) ?_
       refine vst 18 rfl (zS 2151 (rowsOf encHtlc [⟨e.key,e.ch,e.to,admSum x e,e.amt,decide (admRoom x e=2),0⟩]) ty.el24 ty.ze101 rfl) (.inr rfl)<|vst 19 rfl (zP 2 ty.el24 ty.ze101 ty.by101 rfl (Src.own rfl rfl) (by have:=sm.lh;simp[rowsOf];omega)) (.inl rfl)<|vq 20 (rc rfl)<|vq 21 (rf 0 ty.F125_0 rfl)<|vq 22 (rf 4 ty.F27_4 rfl)<|vst 23 rfl (zB 0 ty.co24 ty.inf24 rfl) (.inl rfl)<|fD<|gT ?_
       refine AW.obj 2 (hAr (x.htlcs++[⟨e.key,e.ch,e.to,admSum x e,e.amt,decide (admRoom x e=2),0⟩])) ((congrArg (AO.arr 101 7) (rowsOf_app encHtlc _ [_]).symm)) ?_
       refine sL<|lmP Z<|lf 2 ty.F111_2 Z<|loI ty.kd3 Z<|lmI Z<|lq (rd (x:=vI _ _) (rd_un rfl rfl (fits_i64 (by have h2:A50 (admSum x e):=addV_A50 _ _;unfold A50 at *;unfold i64;omega))) rfl) ?_
       refine lst (z5a Try.func93 (smove_e _ ({ x with htlcs:=x.htlcs++[⟨e.key,e.ch,e.to,admSum x e,e.amt,decide (admRoom x e=2),0⟩] }) _ _ _ _ _ (hm) i c (hi) (hc) (by have h1:=hcm.1;unfold A50 at h1;unfold i64;omega) (by have h1:=hcm.2.1;have h2:A50 (admSum x e):=addV_A50 _ _;unfold A50 at *;unfold i64;omega)) (⟨stays.box (Eq.refl 8),trivial⟩) rfl rfl) Z<|lT [0,3] [0,1,2,3,4,2003,2004,2005,2016,2151] ?_
       refine nA<|lmP Z<|lf 3 ty.F111_3 Z<|loI ty.kd3 Z<|lf 4 ty.F111_4 Z<|loI ty.kd3 Z<|lq (rd (x:=vI _ _) (rd_un rfl rfl (fits_i64 (by have h2:=es.amt;unfold A50 at *;unfold i64;omega))) rfl) ?_
       refine lst (z5a Try.func93 (smove_e _ ({ x with htlcs:=x.htlcs++[⟨e.key,e.ch,e.to,admSum x e,e.amt,decide (admRoom x e=2),0⟩],chans:=x.chans.set i { c with loc:=c.loc+0,remote:=c.remote+-admSum x e } }) _ _ _ _ _ ((by rw[List.length_set];exact hm)) j d ((chanAt_set (c':={ c with loc:=c.loc+0,remote:=c.remote+-admSum x e }) hc rfl).trans hj) (set_get hd hij _) (by have h1:=hdm.1;have h2:=es.amt;unfold A50 at *;unfold i64;omega) (by have h1:=hdm.2.1;unfold A50 at h1;unfold i64;omega)) (⟨stays.box (Eq.refl 8),trivial⟩) rfl rfl) Z<|nG ?_
       refine AW.obj 1 (AO.arr 57 7 (rowsOf encChan (updC (updC x.chans e.ch fun c=>{ c with remote:=c.remote-admSum x e }) e.to fun c=>{ c with loc:=c.loc-e.amt }))) (congrArg (fun l=>AO.arr 57 7 (rowsOf encChan l)) ((by simp only[Int.add_zero,Int.sub_eq_add_neg]:_=((x.chans.set i { c with remote:=c.remote-admSum x e }).set j { d with loc:=d.loc-e.amt })).trans (set_two' fi.ids hc hd hid hjd hne (fun c=>{ c with remote:=c.remote-admSum x e }) (fun d=>{ d with loc:=d.loc-e.amt }) (fun _=>rfl)))) ?_
       refine sL<|lmP Z<|lf 3 ty.F111_3 Z<|loI ty.kd3 Z<|lf 4 ty.F111_4 Z<|loI ty.kd3 Z<|lq (rd (x:=vI _ _) (rd_un rfl rfl (fits_i64 (by have h2:=es.amt;unfold A50 at *;unfold i64;omega))) rfl) ?_
       refine lst (z5a Try.func78 (sline_e _ _ _ _ _ _ _ _ _ _ _ _ _ _ ([]) 0 (LG.nil) (by decide) _ _ _ (Fresh.nil _ _) (rangeA_neg es.amt)) (⟨stays.box (Eq.refl 8),trivial⟩) rfl rfl) Z<|lT [0,3] [0,1,2,3,4,2003,2004,2005,2016,2151] ?_
       refine nG<|aL<|lmP Z<|lf 3 ty.F111_3 Z<|loI ty.kd3 Z<|lf 4 ty.F111_4 Z<|loI ty.kd3 Z ?_
       refine lst (z5a Try.func78 (sline_e _ _ _ _ _ _ _ _ _ _ _ _ _ _ (addL [] 6 e.to (-e.amt)) 1 (LG.nil.add (rangeA_neg es.amt)) (by decide) _ _ _ ((Fresh.nil _ _).add (.inl (by decide))) (rangeA_of es.amt)) (⟨stays.box (Eq.refl 8),trivial⟩) rfl rfl) Z<|lN ?_
       rw[admR_yes hy0]
       unfold admY
       refine end_go ?_ ⟨rfl,rfl,rfl,rfl,rfl,trivial⟩
       rfl

theorem slau_e(g:Value)(x:Book)(e:Event)(fi:BookFi x)(es:EvSm e)(hne:e.ch≠e.to):GC Try.prog 84 [.ptr 0 0 0,evV e] (sIn g x [] 0) (.tup []) (sOut g (lauR x e)):=by
 have sm:=fi.sm
 have hm:x.chans.length≤1000000000:=by have:=sm.lc;omega
 have hlh:=sm.lh
 have hli:=sm.li
 have hmh1:x.htlcs.length≤1000:=by omega
 have hmc1:x.circles.length≤1000:=by omega
 have hLh:decide ((x.htlcs.length:Int)=60)=decide ((60:Int)≤(x.htlcs.length:Int)):=by apply decide_eq_decide.2;omega
 have hLi:decide ((x.circles.length:Int)=20)=decide ((20:Int)≤(x.circles.length:Int)):=by apply decide_eq_decide.2;omega

 refine GC.intro (rs:=[]) Try.func84 rfl Try.ntmps84 (Nat.le_of_ble_eq_true rfl) trivial ?_
 intro L O w0
 refine sL<|lst (zX 2003 rfl) Z<|nG<|aS<|aS<|aF [9,22,33]<|pq 0 (qmP rfl)<|pq 1 (qmP rfl)<|pq 2 (qc rfl)<|pq 3 (qf 0 ty.F125_0 rfl)<|sq 4 (roX (.agg [vI _ _,vI _ _,vI _ _,.own _,.own _,.own _]) ty.kd27 rfl)<|pq 6 (qf 1 ty.F111_1 rfl)<|sq 7 (roI ty.kd3 rfl)<|vst 5 rfl (St.lendO 2011 rfl (by intro s hs;cases hs;decide) rfl Try.func72 rfl rfl (skeys_e x hmh1 hmc1) flat_rowsOf rfl) (.inr rfl)<|vst 8 rfl (zL Try.func73 (shasInt_e (keyL x) _ (by unfold keyL;simp;omega)) rfl) (.inr rfl)<|fsB 14 (knownB x e.key) rfl (any_keys x e.key) ?_
 refine vst 9 rfl (z5a Try.func76 (scode_e _ _ _ _ _ _ _ _ _ _ _ _ _ _ _ _ _ _ _ ) (⟨stays.box (Eq.refl 8),trivial⟩) rfl rfl) (.inl rfl)<|vq 10 (rmB rfl) ?_
 refine AF.bool (t:=16) rfl ?_ ?_
 ·intro h1
  refine pno 11 Z<|pno 12 Z<|pno 13 Z<|pno 14 Z<|pno 15 Z<|pno 16 Z<|pno 17 Z<|vno 18 Z<|vno 19 Z<|vno 20 Z<|vno 21 Z<|vno 22 Z<|vq 23 (rkT Z)<|vq 24 (rmT Z)<|pno 25 Z<|vno 26 Z<|vno 27 Z<|vno 28 Z<|vno 29 Z<|vno 30 Z<|vno 31 Z<|vno 32 Z<|vno 33 Z<|vq 34 (rkT Z)<|fD<|gT<|aY Z<|aR<|rT ?_
  have hcd:lauC0 x e=failC (knownB x e.key) 0 9:=by
   have h:=h1
   unfold lauC0
   rw[miss_two hne]
   simp only[zb1,zb2,zb3,zb4]at h
   rw[failC_old (c:=failC (!two x.chans e.ch e.to) (failC (knownB x e.key) 0 9) 6) (failC_keep h),failC_old h]
  have hn:lauC0 x e≠0:=by
   have h:=h1
   simp only[zb1,zb2,zb3,zb4]at h
   rw[hcd];exact h
  have hcd2:lauC x e=lauC0 x e:=by
   unfold lauC
   rw[failC_old (failC_keep (failC_keep hn)),failC_old (failC_keep hn),failC_old hn]
  rw[lauR_no (by rw[hcd2];exact hn),hcd2,hcd]
  refine end_ret ?_ ⟨rfl,rfl,rfl,rfl,rfl,trivial⟩
  rfl
 ·intro h1
  refine pq 11 (qmP Z)<|pq 12 (qmP Z)<|pq 13 (qc Z)<|pq 14 (qf 0 ty.F125_0 Z)<|sq 15 (roX (.agg [vI _ _,vI _ _,vI _ _,.own _,.own _,.own _]) ty.kd27 Z)<|pq 16 (qf 2 ty.F111_2 Z)<|sq 17 (roI ty.kd3 Z)<|vq 18 (rf 3 ty.F111_3 Z)<|vq 19 (roI ty.kd3 Z)<|vst 20 Z (zL Try.func45 (stwo_e x _ _ hm) Z) (.inr Z)<|vq 21 (ruB Z) ?_
  refine vst 22 rfl (z5a Try.func76 (scode_e _ _ _ _ _ _ _ _ _ _ _ _ _ _ _ _ _ _ _ ) (⟨stays.box (Eq.refl 8),trivial⟩) rfl rfl) (.inl rfl)<|vq 23 (rkB rfl)<|vq 24 (rmB rfl) ?_
  refine AF.bool (t:=30) rfl ?_ ?_
  ·intro h2
   refine pno 25 Z<|vno 26 Z<|vno 27 Z<|vno 28 Z<|vno 29 Z<|vno 30 Z<|vno 31 Z<|vno 32 Z<|vno 33 Z<|vq 34 (rkT Z)<|fD<|gT<|aT [0,3,40] [0,1,2,3,4,2003,2011] ?_
   refine aY Z<|aR<|rT ?_
   have hcd:lauC0 x e=failC (!two x.chans e.ch e.to) (failC (knownB x e.key) 0 9) 6:=by
    have h:=h2
    unfold lauC0
    rw[miss_two hne]
    simp only[zb1,zb2,zb3,zb4]at h
    rw[failC_old h]
   have hn:lauC0 x e≠0:=by
    have h:=h2
    simp only[zb1,zb2,zb3,zb4]at h
    rw[hcd];exact h
   have hcd2:lauC x e=lauC0 x e:=by
    unfold lauC
    rw[failC_old (failC_keep (failC_keep hn)),failC_old (failC_keep hn),failC_old hn]
   rw[lauR_no (by rw[hcd2];exact hn),hcd2,hcd]
   refine end_ret ?_ ⟨rfl,rfl,rfl,rfl,rfl,trivial⟩
   rfl
  ·intro h2
   refine pq 25 (qmP rfl)<|vq 26 (rmP rfl)<|vq 27 (rc rfl)<|vq 28 (rf 0 ty.F125_0 rfl)<|vq 29 (rf 5 ty.F27_5 rfl)<|vq 30 (roO ty.kd25 rfl)<|vq 31 (rnI ty.sl25 rfl)<|vq 32 (rbB rfl)<|fsB 38 (decide ((20:Int)≤(x.circles.length:Int))) rfl (by rw[length_rowsOf];exact hLi) ?_
   refine vst 33 rfl (z5a Try.func76 (scode_e _ _ _ _ _ _ _ _ _ _ _ _ _ _ _ _ _ _ _ ) (⟨stays.box (Eq.refl 8),trivial⟩) rfl rfl) (.inl rfl)<|vq 34 (rkB rfl)<|fD<|gT ?_
   refine AW.cond rfl ?_ ?_
   ·intro h3
    refine aR<|rT ?_
    have hcd:lauC0 x e=failC (decide ((20:Int)≤(x.circles.length:Int))) (failC (!two x.chans e.ch e.to) (failC (knownB x e.key) 0 9) 6) 14:=by
     unfold lauC0
     rw[miss_two hne]
    have hn:lauC0 x e≠0:=by
     have h:=h3
     simp only[zb1,zb2,zb3,zb4]at h
     rw[hcd];exact h
    have hcd2:lauC x e=lauC0 x e:=by
     unfold lauC
     rw[failC_old (failC_keep (failC_keep hn)),failC_old (failC_keep hn),failC_old hn]
    rw[lauR_no (by rw[hcd2];exact hn),hcd2,hcd]
    refine end_ret ?_ ⟨rfl,rfl,rfl,rfl,rfl,trivial⟩
    rfl
   ·intro h3
    refine aK<|gT<|aS ?_
    have hz0:lauC0 x e=0:=by
     have h:=h3
     unfold lauC0
     rw[miss_two hne]
     simp only[zb1,zb2,zb3,zb4]at h
     exact h
    have htw:two x.chans e.ch e.to=true:=by
     rcases q:two x.chans e.ch e.to with _|_
     ·exfalso
      have h:=hz0
      unfold lauC0 at h
      rw[miss_two hne,q]at h
      exact failC_keep (failC_set (by decide)) h
     ·rfl
    obtain⟨hne2,hca,hda⟩:=two_parts (show two x.chans e.ch e.to=true by first|(simpa using htw))
    obtain⟨i,c,hi,hc,ho,hid⟩:=chan_there hca
    obtain⟨j,d,hj,hd,hp,hjd⟩:=chan_there hda
    have hcm:=sm.chans c (mem_of_get hc)
    have hdm:=sm.chans d (mem_of_get hd)
    have hij:i≠j:=idx_ne hc hd (by rw[hid,hjd];exact hne)
    refine AW.obj 0 (sBox g x.tick x.next x.wallet 0) (Eq.trans (b:=sBox g x.tick x.next x.wallet _) rfl (congrArg (sBox g x.tick x.next x.wallet) (by have h:=hz0;unfold lauC0 at h;rw[miss_two hne]at h;exact h))) ?_
    have hA:lauC x e=failC (decide (d.remote<e.amt)) (failC (decide (c.loc<addV e.amt e.fee)) (failC (!addOk e.amt e.fee) 0 10) 12) 11:=by unfold lauC;rw[ho,hp,hz0]
    refine aL<|lf 4 ty.F111_4 Z<|loI ty.kd3 Z<|lf 5 ty.F111_5 Z<|loI ty.kd3 Z<|lst (zL Try.func77 (saddAmt_e _ _) Z) Z<|lmX (.tup [vI _ _,vB _]) Z<|lxI Z<|lxB Z<|laI Z<|laB Z<|nG<|aS<|aS<|aF [3,23,45]<|pq 0 (qmP Z)<|vq 1 (rmB Z)<|vq 2 (ruB Z) ?_
    refine vst 3 rfl (z5a Try.func76 (scode_e _ _ _ _ _ _ _ _ _ _ _ _ _ _ _ _ _ _ _ ) (⟨stays.box (Eq.refl 8),trivial⟩) rfl rfl) (.inl rfl)<|vq 4 (rmB rfl) ?_
    refine AF.bool (t:=53) rfl ?_ ?_
    ·intro h4
     refine pno 5 Z<|pno 6 Z<|pno 7 Z<|pno 8 Z<|pno 9 Z<|pno 10 Z<|pno 11 Z<|pno 12 Z<|pno 13 Z<|pno 14 Z<|pno 15 Z<|pno 16 Z<|pno 17 Z<|pno 18 Z<|pno 19 Z<|pno 20 Z<|vno 21 Z<|vno 22 Z<|vno 23 Z<|vq 24 (rkT Z)<|vq 25 (rmT Z)<|pno 26 Z<|pno 27 Z<|pno 28 Z<|pno 29 Z<|pno 30 Z<|pno 31 Z<|pno 32 Z<|pno 33 Z<|pno 34 Z ?_
     refine pno 35 Z<|pno 36 Z<|pno 37 Z<|pno 38 Z<|pno 39 Z<|pno 40 Z<|pno 41 Z<|vno 42 Z<|vno 43 Z<|vno 44 Z<|vno 45 Z<|vq 46 (rkT Z)<|fD<|gT<|aY Z<|aR<|rT ?_
     have hcd:lauC x e=failC (!addOk e.amt e.fee) 0 10:=by
      have h:=h4
      simp only[zb1,zb2,zb3,zb4]at h
      rw[hA]
      rw[failC_old (failC_keep h),failC_old h]
     have hn:lauC x e≠0:=by
      have h:=h4
      simp only[zb1,zb2,zb3,zb4]at h
      rw[hcd];exact h
     rw[lauR_no hn,hcd]
     refine end_ret ?_ ⟨rfl,rfl,rfl,rfl,rfl,trivial⟩
     rfl
    ·intro h4
     refine pq 5 (qmP rfl)<|pq 6 (qmP rfl)<|pq 7 (qc rfl)<|pq 8 (qf 0 ty.F125_0 rfl)<|pq 9 (qf 3 ty.F27_3 rfl)<|sq 10 (roO ty.kd23 rfl)<|pq 11 (qmP rfl)<|pq 12 (qc rfl)<|pq 13 (qf 0 ty.F125_0 rfl)<|sq 14 (roX (.agg [vI _ _,vI _ _,vI _ _,.own _,.own _,.own _]) ty.kd27 rfl)<|pq 15 (qf 2 ty.F111_2 rfl)<|sq 16 (roI ty.kd3 rfl)<|pq 21 (qmX (vI _ _) rfl)<|vst 17 rfl (zL Try.func29 (sAt_e x _ hm) rfl) (.inr rfl)<|vq 18 (rd (x:=.ptr 1 _ 0) (rd_iaddr_own (i:=i) rfl ty.el23 rfl rfl rfl ?hn1 (by rw[length_rowsOf];exact(List.getElem?_eq_some_iff.1 hc).1)) rfl) ?_
     case hn1=>rw[←chanAt_atI];exact hi
     refine vq 19 (rf 2 ty.F57_2 Z)<|vq 20 (rd (x:=vI _ _) (rd_load_arr Z ty.kd3 Z Z Z (rows_some hc) Z) Z)<|vq 22 (rbB Z) ?_
     refine vst 23 rfl (z5a Try.func76 (scode_e _ _ _ _ _ _ _ _ _ _ _ _ _ _ _ _ _ _ _ ) (⟨stays.box (Eq.refl 8),trivial⟩) rfl rfl) (.inl rfl)<|vq 24 (rkB rfl)<|vq 25 (rmB rfl) ?_
     refine AF.bool (t:=74) rfl ?_ ?_
     ·intro h5
      refine pno 26 Z<|pno 27 Z<|pno 28 Z<|pno 29 Z<|pno 30 Z<|pno 31 Z<|pno 32 Z<|pno 33 Z<|pno 34 Z<|pno 35 Z<|pno 36 Z<|pno 37 Z<|pno 38 Z<|pno 39 Z<|pno 40 Z<|pno 41 Z<|vno 42 Z<|vno 43 Z<|vno 44 Z<|vno 45 Z<|vq 46 (rkT Z)<|fD<|gT<|aT [0,3,4,95] [0,1,2,3,4,2003,2011] ?_
      refine aY Z<|aR<|rT ?_
      have hcd:lauC x e=failC (decide (c.loc<addV e.amt e.fee)) (failC (!addOk e.amt e.fee) 0 10) 12:=by
       have h:=h5
       simp only[zb1,zb2,zb3,zb4]at h
       rw[hA]
       rw[failC_old h]
      have hn:lauC x e≠0:=by
       have h:=h5
       simp only[zb1,zb2,zb3,zb4]at h
       rw[hcd];exact h
      rw[lauR_no hn,hcd]
      refine end_ret ?_ ⟨rfl,rfl,rfl,rfl,rfl,trivial⟩
      rfl
     ·intro h5
      refine pq 26 (qmP rfl)<|pq 27 (qmP rfl)<|pq 28 (qc rfl)<|pq 29 (qf 0 ty.F125_0 rfl)<|pq 30 (qf 3 ty.F27_3 rfl)<|sq 31 (roO ty.kd23 rfl)<|pq 32 (qmP rfl)<|pq 33 (qc rfl)<|pq 34 (qf 0 ty.F125_0 rfl)<|sq 35 (roX (.agg [vI _ _,vI _ _,vI _ _,.own _,.own _,.own _]) ty.kd27 rfl)<|pq 36 (qf 3 ty.F111_3 rfl)<|sq 37 (roI ty.kd3 rfl)<|pq 42 (qf 4 ty.F111_4 rfl)<|sq 43 (roI ty.kd3 rfl)<|vst 38 rfl (zL Try.func29 (sAt_e x _ hm) rfl) (.inr rfl)<|vq 39 (rd (x:=.ptr 1 _ 0) (rd_iaddr_own (i:=j) rfl ty.el23 rfl rfl rfl ?hn2 (by rw[length_rowsOf];exact(List.getElem?_eq_some_iff.1 hd).1)) rfl) ?_
      case hn2=>rw[←chanAt_atI];exact hj
      refine vq 40 (rf 3 ty.F57_3 Z)<|vq 41 (rd (x:=vI _ _) (rd_load_arr Z ty.kd3 Z Z Z (rows_some hd) Z) Z)<|vq 44 (rbB Z) ?_
      refine vst 45 rfl (z5a Try.func76 (scode_e _ _ _ _ _ _ _ _ _ _ _ _ _ _ _ _ _ _ _ ) (⟨stays.box (Eq.refl 8),trivial⟩) rfl rfl) (.inl rfl)<|vq 46 (rkB rfl)<|fD<|gT ?_
      refine AW.cond rfl ?_ ?_
      ·intro h6
       refine aR<|rT ?_
       have hcd:lauC x e=failC (decide (d.remote<e.amt)) (failC (decide (c.loc<addV e.amt e.fee)) (failC (!addOk e.amt e.fee) 0 10) 12) 11:=hA
       have hn:lauC x e≠0:=by
        have h:=h6
        simp only[zb1,zb2,zb3,zb4]at h
        rw[hcd];exact h
       rw[lauR_no hn,hcd]
       refine end_ret ?_ ⟨rfl,rfl,rfl,rfl,rfl,trivial⟩
       rfl
      ·intro h6
       refine aK<|gT<|aS ?_
       have hy0:lauC x e=0:=by
        rw[hA]
        have h:=h6
        simp only[zb1,zb2,zb3,zb4]at h
        exact h
       refine aF [18,22]<|pq 0 (qmP Z)<|pq 1 (qmP Z)<|pq 2 (qc Z)<|pq 3 (qf 0 ty.F125_0 Z)<|pq 4 (qf 5 ty.F27_5 Z)<|sq 5 (roO ty.kd25 Z)<|pq 6 (qf 1 ty.F111_1 Z)<|sq 7 (roI ty.kd3 Z)<|pq 8 (qf 2 ty.F111_2 Z)<|fT [0,3,4,96,101,103,104] [0,1,2,3,4,2003,2011] ?_
       refine sq 9 (roI ty.kd3 Z)<|pq 10 (qf 3 ty.F111_3 Z)<|sq 11 (roI ty.kd3 Z)<|pq 12 (qf 4 ty.F111_4 Z)<|sq 13 (roI ty.kd3 Z)<|vq 14 (rf 5 ty.F111_5 Z)<|vq 15 (roI ty.kd3 Z)<|vq 16 (rd (x:=.agg [vI _ _,vI _ _,vI _ _,vI _ _,vI _ _]) (rd_build Z ty.sa103 Z Z Z) Z) ?_
       refine vst 17 rfl (zS 2113 (rowsOf encCircle [⟨e.key,e.ch,e.to,e.amt,e.fee⟩]) ty.el25 ty.ze103 rfl) (.inr rfl)<|vst 18 rfl (zP 3 ty.el25 ty.ze103 ty.by103 rfl (Src.own rfl rfl) (by have:=sm.li;simp[rowsOf];omega)) (.inl rfl)<|vq 19 (rc rfl)<|vq 20 (rf 0 ty.F125_0 rfl)<|vq 21 (rf 5 ty.F27_5 rfl)<|vst 22 rfl (zB 0 ty.co25 ty.inf25 rfl) (.inl rfl)<|fT [0,3,4] [0,1,2,3,4,2003,2011,2113] ?_
       refine fD<|gT ?_
       refine AW.obj 3 (iAr (x.circles++[⟨e.key,e.ch,e.to,e.amt,e.fee⟩])) ((congrArg (AO.arr 103 5) (rowsOf_app encCircle _ [_]).symm)) ?_
       refine sL<|lmP Z<|lf 2 ty.F111_2 Z<|loI ty.kd3 Z<|lmI Z<|lq (rd (x:=vI _ _) (rd_un rfl rfl (fits_i64 (by have h2:A50 (addV e.amt e.fee):=addV_A50 _ _;unfold A50 at *;unfold i64;omega))) rfl) ?_
       refine lst (z5a Try.func93 (smove_e _ ({ x with circles:=x.circles++[⟨e.key,e.ch,e.to,e.amt,e.fee⟩] }) _ _ _ _ _ (hm) i c (hi) (hc) (by have h1:=hcm.1;have h2:A50 (addV e.amt e.fee):=addV_A50 _ _;unfold A50 at *;unfold i64;omega) (by have h1:=hcm.2.1;unfold A50 at h1;unfold i64;omega)) (⟨stays.box (Eq.refl 8),trivial⟩) rfl rfl) Z<|nA<|lmP Z<|lf 3 ty.F111_3 Z<|loI ty.kd3 Z<|lf 4 ty.F111_4 Z<|loI ty.kd3 Z<|lq (rd (x:=vI _ _) (rd_un rfl rfl (fits_i64 (by have h2:=es.amt;unfold A50 at *;unfold i64;omega))) rfl) ?_
       refine lst (z5a Try.func93 (smove_e _ ({ x with circles:=x.circles++[⟨e.key,e.ch,e.to,e.amt,e.fee⟩],chans:=x.chans.set i { c with loc:=c.loc+-addV e.amt e.fee,remote:=c.remote+0 } }) _ _ _ _ _ ((by rw[List.length_set];exact hm)) j d ((chanAt_set (c':={ c with loc:=c.loc+-addV e.amt e.fee,remote:=c.remote+0 }) hc rfl).trans hj) (set_get hd hij _) (by have h1:=hdm.1;unfold A50 at h1;unfold i64;omega) (by have h1:=hdm.2.1;have h2:=es.amt;unfold A50 at *;unfold i64;omega)) (⟨stays.box (Eq.refl 8),trivial⟩) rfl rfl) Z<|nG ?_
       refine AW.obj 1 (AO.arr 57 7 (rowsOf encChan (updC (updC x.chans e.ch fun c=>{ c with loc:=c.loc-addV e.amt e.fee }) e.to fun c=>{ c with remote:=c.remote-e.amt }))) (congrArg (fun l=>AO.arr 57 7 (rowsOf encChan l)) ((by simp only[Int.add_zero,Int.sub_eq_add_neg]:_=((x.chans.set i { c with loc:=c.loc-addV e.amt e.fee }).set j { d with remote:=d.remote-e.amt })).trans (set_two' fi.ids hc hd hid hjd hne (fun c=>{ c with loc:=c.loc-addV e.amt e.fee }) (fun d=>{ d with remote:=d.remote-e.amt }) (fun _=>rfl)))) ?_
       refine sL<|lmP Z<|lf 2 ty.F111_2 Z<|loI ty.kd3 Z<|lmI Z<|lq (rd (x:=vI _ _) (rd_un rfl rfl (fits_i64 (by have h2:A50 (addV e.amt e.fee):=addV_A50 _ _;unfold A50 at *;unfold i64;omega))) rfl) ?_
       refine lst (z5a Try.func78 (sline_e _ _ _ _ _ _ _ _ _ _ _ _ _ _ ([]) 0 (LG.nil) (by decide) _ _ _ (Fresh.nil _ _) (rangeA_neg (addV_A50 _ _))) (⟨stays.box (Eq.refl 8),trivial⟩) rfl rfl) Z<|nG<|aL<|lmP Z<|lf 2 ty.F111_2 Z<|loI ty.kd3 Z<|lmI rfl ?_
       refine lst (z5a Try.func78 (sline_e _ _ _ _ _ _ _ _ _ _ _ _ _ _ (addL [] 6 e.ch (-addV e.amt e.fee)) 1 (LG.nil.add (rangeA_neg (addV_A50 _ _))) (by decide) _ _ _ ((Fresh.nil _ _).add (.inl (by decide))) (rangeA_of (addV_A50 _ _))) (⟨stays.box (Eq.refl 8),trivial⟩) rfl rfl) Z<|lN ?_
       rw[lauR_yes hy0]
       unfold lauY
       refine end_go ?_ ⟨(Eq.trans (b:=sBox g x.tick x.next x.wallet _) rfl (congrArg (sBox g x.tick x.next x.wallet) (by rw[hA]at hy0;exact hy0))),rfl,rfl,rfl,rfl,trivial⟩
       rfl
end Go.Proofs.Ytnlpbgljaecdmaa

