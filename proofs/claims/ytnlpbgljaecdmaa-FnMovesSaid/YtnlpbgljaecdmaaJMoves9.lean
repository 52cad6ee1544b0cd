/- Texts of the proof of FnMoves, joined: All, AllN, EN1, ED4, E26, E27, GrE, MovE. -/
import Derived.Test.YtnlpbgljaecdmaaJMoves8
import Derived.Test.YtnlpbgljaecdmaaJMoves4
import Derived.Test.YtnlpbgljaecdmaaJMoves6
import Derived.Test.YtnlpbgljaecdmaaJMoves5
import Derived.Test.YtnlpbgljaecdmaaKMovC
namespace Go.Proofs.Ytnlpbgljaecdmaa
open Go.RowKit
set_option linter.unusedSimpArgs false
set_option linter.unusedVariables false
structure AllS where
 now:Book
 codes:List Int
 ps:List Posting
def allF(s:AllS)(e:Event):AllS:=⟨if applyC s.now e=0 then appB s.now e else s.now,s.codes++[applyC s.now e],if applyC s.now e=0∧(appP s.now e).lines≠[]then s.ps++[appP s.now e]else s.ps⟩
def allS(x:Book)(es:List Event):AllS:=es.foldl allF ⟨x,[],[]⟩
theorem allS_succ{x:Book}{es:List Event}{k:Nat}(h:k<es.length):allS x (es.take (k+1))=allF (allS x (es.take k)) es[k]:=by
 unfold allS
 rw[List.take_succ_eq_append_getElem h,List.foldl_append]
 rfl
theorem appB_wf{x:Book}{e:Event}(hw:BookWf x)(we:wfEvent e):BookWf (appB x e):=by
 by_cases q:applyC x e=0
 ·have w:=wr_apply hw we q
  have hl:=w.lc
  by_cases r:(workR x e).l=[]
  ·rw[(appB_nil q r).1]
   exact⟨w.chans,w.htlcs,w.circles,by omega⟩
  ·rw[(appB_yes q r).1]
   exact⟨w.chans,w.htlcs,w.circles,by show (workR x e).b.chans.length≤_;omega⟩
 ·rw[(appB_no q).1]
  unfold zeroBook
  exact⟨by simp,by simp,by simp,by simp⟩
theorem allF_wf{s:AllS}{e:Event}(hw:BookWf s.now)(we:wfEvent e):BookWf (allF s e).now:=by
 unfold allF
 dsimp only
 split
 ·exact appB_wf hw we
 ·exact hw
theorem allS_wf{x:Book}{es:List Event}(hw:BookWf x)(we:∀e∈es,wfEvent e):∀k,k≤es.length→BookWf (allS x (es.take k)).now
 |0,_=>by rw[List.take_zero];exact hw
 |k+1,h=>by
  rw[allS_succ (by omega)]
  exact allF_wf (allS_wf hw we k (by omega)) (we _ (List.getElem_mem _))
theorem allS_codes{x:Book}{es:List Event}:∀k,k≤es.length→(allS x (es.take k)).codes.length=k
 |0,_=>by rw[List.take_zero];rfl
 |k+1,h=>by
  rw[allS_succ (by omega)]
  have:=allS_codes (x:=x) k (by omega:k≤es.length)
  unfold allF
  simp
  exact this
theorem allS_ps{x:Book}{es:List Event}:∀k,k≤es.length→(allS x (es.take k)).ps.length≤k
 |0,_=>by rw[List.take_zero];exact Nat.le_refl _
 |k+1,h=>by
  rw[allS_succ (by omega)]
  have:=allS_ps (x:=x) k (by omega:k≤es.length)
  unfold allF
  dsimp only
  split
  ·simp;omega
  ·omega
theorem appP_id{x:Book}{e:Event}(hb:applyC x e=0):decide (0<(appP x e).id)=!decide ((appP x e).lines=[]):=by
 obtain⟨h1,h2,h3⟩:=applyC_ok hb
 have hn:=(bookOk_parts h1).2.2.1
 have:=inB_true.1 hn
 by_cases r:(workR x e).l=[]
 ·rw[(appB_nil hb r).2];simp
 ·rw[(appB_yes hb r).2]
  simp[r]
  omega
theorem allF_ok{s:AllS}{e:Event}(h:applyC s.now e=0):(allF s e).now=appB s.now e:=if_pos h
theorem allF_no{s:AllS}{e:Event}(h:applyC s.now e≠0):(allF s e).now=s.now:=if_neg h
theorem allF_ps{s:AllS}{e:Event}(h:applyC s.now e=0)(h2:(appP s.now e).lines≠[]):(allF s e).ps=s.ps++[appP s.now e]:=if_pos ⟨h,h2⟩
theorem allF_ps1{s:AllS}{e:Event}(h:applyC s.now e≠0):(allF s e).ps=s.ps:=if_neg fun q=>h q.1
theorem allF_ps2{s:AllS}{e:Event}(h2:(appP s.now e).lines=[]):(allF s e).ps=s.ps:=if_neg fun q=>q.2 h2

def rowsV(vs:List Value)(ps:List Posting):List (List PV):=List.zipWith (fun v (p:Posting)=>[.v (.int .i64 p.id),.v v]) vs ps
def famP(vs:List Value)(ps:List Posting):List AO:=List.zipWith (fun v (p:Posting)=>.arr ⟨139,some v⟩ 3 (rowsOf encLine p.lines)) vs ps
theorem rowsV_len{vs:List Value}{ps:List Posting}(h:vs.length=ps.length):(rowsV vs ps).length=ps.length:=by unfold rowsV;rw[List.length_zipWith];omega
theorem famP_len{vs:List Value}{ps:List Posting}(h:vs.length=ps.length):(famP vs ps).length=ps.length:=by unfold famP;rw[List.length_zipWith];omega
theorem rowsV_app{vs:List Value}{ps:List Posting}{u:Value}{p:Posting}(h:vs.length=ps.length):rowsV (vs++[u]) (ps++[p])=rowsV vs ps++[[.v (.int .i64 p.id),.v u]]:=by unfold rowsV;rw[List.zipWith_append h];rfl
theorem famP_app{vs:List Value}{ps:List Posting}{u:Value}{p:Posting}(h:vs.length=ps.length):famP (vs++[u]) (ps++[p])=famP vs ps++[.arr ⟨139,some u⟩ 3 (rowsOf encLine p.lines)]:=by unfold famP;rw[List.zipWith_append h];rfl
theorem famP_row:∀ {vs:List Value} {ps:List Posting},rowF (famP vs ps)
 |[],_=>by unfold famP;simp;exact rowF.nil
 |_::_,[]=>by unfold famP;simp;exact rowF.nil
 |v::vs,p::ps=>fun o ho=>by
  unfold famP at ho
  rw[List.zipWith_cons_cons]at ho
  rcases List.mem_cons.1 ho with rfl|ho
  ·rfl
  ·exact famP_row (vs:=vs) (ps:=ps) o ho

set_option maxHeartbeats 16000000
set_option maxRecDepth 100000
def allA(x:Book)(es:List Event):AllS:=if bookOk x=true then allS x es else ⟨zeroBook,[],[]⟩
theorem allA_ok{x:Book}{es:List Event}(h:bookOk x=true):allA x es=allS x es:=if_pos h
theorem allA_no{x:Book}{es:List Event}(h:bookOk x=false):allA x es=⟨zeroBook,[],[]⟩:=if_neg (by simp[h])
abbrev nAr(l:List Int):AO:=.arr 3 1 (rowsOf encKey l)
abbrev bBox(x:Book):AO:=.box 27 none [int x.tick,int x.next,int x.wallet,.own 1,.own 2,.own 3]
abbrev allOb(r:AllS)(vs:List Value):List (Nat×AO):=[(1,.arr 57 7 (rowsOf encChan r.now.chans)),(2,hAr r.now.htlcs),(3,iAr r.now.circles),(14,.arr 114 2 (rowsV vs r.ps)),(15,nAr r.codes)]
abbrev allV(r:AllS):AV:=.tup [.agg [int r.now.tick,int r.now.next,int r.now.wallet,.own 1,.own 2,.own 3],.own 14,.own 15]
def allRel(r:AllS):AV→List (Nat×AO)→List AO→Prop:=fun y l1 F1=>∃vs:List Value,vs.length=r.ps.length∧y=allV r∧l1=allOb r vs∧F1=famP vs r.ps
theorem sapplyAll_e(x:Book)(es:List Event)(hw:BookWf x)(we:∀e∈es,wfEvent e)(hm:es.length≤1048576):GN Try.prog 56 [bookV x,.p (.lst 111 7 (rowsOf encEvent es))] [] ([]) (allRel (allA x es)):=by
 refine GN.intro (rs:=[.cell 4 27 (some 6),.tmp 5,.tmp 6]) Try.func56 rfl Try.ntmps56 (Nat.le_of_ble_eq_true rfl) ⟨rfl,rfl,ty.kd27,rfl,rfl,trivial⟩ rfl ?_
 intro L O w0
 refine sL<|lst (zX 2002 Z) Z<|lst (zA 2004 ty.ze27 Z) Z<|laV Z<|laV Z<|nG<|aS<|sL<|loX (.agg [vI _ _,vI _ _,vI _ _,vL _ _ _,vL _ _ _,vL _ _ _]) ty.kd27 Z<|lst (zL Try.func44 (spec_BookOk_e x hw) Z) Z<|luB Z<|nG ?_
 refine AW.cond rfl ?_ ?_
 ·intro h1
  refine sL<|lq (rd (x:=.agg [vI _ _,vI _ _,vI _ _,vV _,vV _,vV _]) (rd_build Z ty.sa27 Z Z Z) Z)<|lst (zB 2004 ty.co27 ty.inf27 Z) Z<|laV Z<|laV Z<|nG ?_
  refine AW.adoptB 1 2004 3 57 7 rfl (by decide) rfl ?_
  refine AW.adoptB 2 2004 4 101 7 rfl (by decide) rfl ?_
  refine AW.adoptB 3 2004 5 103 5 rfl (by decide) rfl ?_
  refine AW.adoptT 14 5 114 2 rfl ?_
  refine AW.adoptT 15 6 3 1 rfl ?_
  refine aR<|rT ?_
  have hbk:bookOk x=false:=by simpa using h1
  rw[allA_no hbk]
  refine end_nret (F1:=[]) (allV ⟨zeroBook,[],[]⟩) (allOb ⟨zeroBook,[],[]⟩ []) ?_ (by simp) rfl rfl ⟨rfl,rfl,rfl,rfl,rfl,trivial⟩ tlp
  exact⟨[],rfl,rfl,rfl,rfl⟩
 ·intro h1
  refine aK<|gT<|aS ?_
  have hbk:bookOk x=true:=by simpa using h1
  have fi:=bookOk_fi hbk
  have sm:=fi.sm
  have hw0:=allS_wf hw we
  refine aL<|loX (.agg [vI _ _,vI _ _,vI _ _,vL _ _ _,vL _ _ _,vL _ _ _]) ty.kd27 Z<|lst (zC [(2003,1),(2008,2),(2013,3)] [1,2,3] [] Try.func69 (scopy_e x (by have:=sm.lc;have:=sm.lh;have:=sm.li;omega)) (trivial) rfl rfl) Z<|lst (zA 2007 ty.ze27 rfl) rfl ?_
  refine lTt ([]) [1,4,5,6,7,20] [1,2,3,2002,2004,2007] ?_
  refine lst (zB 2007 ty.co27 ty.inf27 rfl) Z<|nA<|lst (zS 14 [] ty.el94 ty.ze114 rfl (by simp)) Z<|laO Z<|nA<|lst (zS 15 [] ty.el46 ty.ze3 rfl (by simp)) Z<|laO Z<|nG<|aS<|sL<|lmL Z<|lnI ty.sl98 Z<|lmI Z<|nG<|aB ?_
  refine AW.loopT (D:=Nat×List Value) [(4,.ptr 2004 _ 0),(5,vV _),(6,vV _),(7,.ptr 2007 _ 0),(8,.own _),(9,.own _),(23,vL _ _ _),(24,vI _ _)] [(2002,.box _ _ [vI _ _,vI _ _,vI _ _,vL _ _ _,vL _ _ _,vL _ _ _]),(2004,.box _ _ [vI _ _,vI _ _,vI _ _,vV _,vV _,vV _])] (fun d=>[(25,int (d.1:Int))]) (fun d=>[(2007,bBox (allS x (es.take d.1)).now),(1,.arr 57 7 (rowsOf encChan (allS x (es.take d.1)).now.chans)),(2,hAr (allS x (es.take d.1)).now.htlcs),(3,iAr (allS x (es.take d.1)).now.circles),(14,.arr 114 2 (rowsV d.2 (allS x (es.take d.1)).ps)),(15,nAr (allS x (es.take d.1)).codes)]) (fun d=>famP d.2 (allS x (es.take d.1)).ps) (fun d=>d.1≤es.length∧d.2.length=(allS x (es.take d.1)).ps.length) (fun d=>es.length-d.1) ((0,[])) (⟨Nat.zero_le _,by rw[List.take_zero];rfl⟩) ⟨rfl,trivial⟩ ⟨(by rw[List.take_zero];rfl),(by rw[List.take_zero];rfl),(by rw[List.take_zero];rfl),(by rw[List.take_zero];rfl),(by rw[List.take_zero];rfl),(by rw[List.take_zero];rfl),trivial⟩ ⟨rfl,rfl,rfl,rfl,rfl,rfl,rfl,rfl,trivial⟩ ⟨rfl,rfl,trivial⟩ (by rw[List.take_zero];exact tlp) ?_
  intro ⟨k,vs⟩ hI
  obtain⟨hkl,hvl⟩:=hI
  replace hkl:k≤es.length:=hkl
  replace hvl:vs.length=(allS x (es.take k)).ps.length:=hvl
  have hfr:rowF (famP vs (allS x (es.take k)).ps):=famP_row
  refine sL<|lbB Z<|nG<|aS ?_
  refine AW.cond rfl ?_ ?_
  ·intro h2
   refine aK<|gT<|aS<|aB<|sL ?_
   have hk:k<es.length:=by simpa[length_rowsOf]using h2
   have hwk:=hw0 k hkl
   have hlc:=allS_codes (x:=x) k hkl
   have hlp:=allS_ps (x:=x) k hkl
   refine li k ty.el98 Z (row_map hk)<|lrX (.agg [vI _ _,vI _ _,vI _ _,vI _ _,vI _ _,vI _ _,vB _]) ty.kd111 Z<|lst (zA 2011 ty.ze111 Z) Z<|lst (zB 2011 ty.co111 ty.inf111 Z) Z<|nG<|aS ?_
   refine AW.pinA 1 rfl ?_
   intro u1
   refine AW.pinA 2 rfl ?_
   intro u2
   refine AW.pinA 3 rfl ?_
   intro u3
   refine aL<|loX (.agg [vI _ _,vI _ _,vI _ _,.own _,.own _,.own _]) ty.kd27 Z<|loX (.agg [vI _ _,vI _ _,vI _ _,vI _ _,vI _ _,vI _ _,vB _]) ty.kd111 Z ?_
   refine lst (zC [(1,1),(2,2),(3,3),(11,61),(12,62),(13,63),(14,64)] [61,62,63,64] [1,2,3] Try.func70 (lentBk (sapply_g _ es[k] hwk)) (⟨stays.arr rfl,stays.arr rfl,stays.arr rfl,trivial⟩) rfl rfl) rfl ?_
   refine lTt (famP vs (allS x (es.take k)).ps) [4,5,6,7,8,9,23,24,25,32] [1,2,3,14,15,61,62,63,64,2002,2004,2007,2011] ?_
   refine lmX (.tup [.agg [vI _ _,vI _ _,vI _ _,.own _,.own _,.own _],.agg [vI _ _,.own _],vI _ _]) Z<|lxX (.agg [vI _ _,vI _ _,vI _ _,.own _,.own _,.own _]) Z<|lxX (.agg [vI _ _,.own _]) Z<|lxI Z<|lst (zA 2012 ty.ze27 Z) Z<|lst (zA 2013 ty.ze114 Z) Z<|lst (zB 2012 ty.co27 ty.inf27 Z) Z<|lst (zB 2013 ty.co114 ty.inf114 Z) Z<|laI Z<|nG<|aS<|sL<|lmI Z<|lbB Z<|nG ?_
   refine AW.cond rfl ?_ ?_
   ·intro h3
    refine sL<|loX (.agg [vI _ _,vI _ _,vI _ _,.own _,.own _,.own _]) ty.kd27 Z<|lst (zB 2007 ty.co27 ty.inf27 Z) Z<|nA<|lf 0 ty.F114_0 Z<|loI ty.kd3 Z<|lbB Z<|nG ?_
    refine AW.cond rfl ?_ ?_
    ·intro h4
     refine aTt (famP vs (allS x (es.take k)).ps) [4,5,6,7,8,9,13,14,23,24,25] [1,2,3,14,15,61,62,63,64,2002,2004,2007,2011,2012,2013] ?_
     refine AW.pinA 64 rfl ?_
     intro u64
     refine aTt (famP vs (allS x (es.take k)).ps) [4,5,6,7,8,9,13,14,23,24,25] [1,2,3,14,15,61,62,63,64,2002,2004,2007,2011,2012,2013] ?_
     refine AW.absorb 64 rfl rfl famP_row ?_
     have hrf:rowF (famP vs (allS x (es.take k)).ps++[.arr ⟨139,some u64⟩ 3 (rowsOf encLine (appP (allS x (es.take k)).now es[k]).lines)]):=famP_row.app (fun o ho=>by rw[List.mem_singleton.1 ho];rfl)
     refine aL<|lmO Z<|loX (.agg [vI _ _,vV _]) ty.kd114 Z<|lst (zS 2044 [[.v (.int .i64 (appP (allS x (es.take k)).now es[k]).id),.v u64]] ty.el94 ty.ze114 rfl (by intro r hr;simp at hr;subst hr;rfl)) Z<|lst (zP 14 ty.el94 ty.ze114 ty.by114 rfl (Src.own rfl rfl) (by simp[rowsOf,rowsV_len hvl];omega)) Z<|laO Z<|nG<|aL<|lmO Z<|lmI Z<|lst (zS 2048 (rowsOf encKey [applyC (allS x (es.take k)).now es[k]]) ty.el46 ty.ze3 rfl) Z<|lst (zP 15 ty.el46 ty.ze3 ty.by3 rfl (Src.own rfl rfl) (by simp[rowsOf,rowsV_len hvl];omega)) Z<|laO Z<|lN<|gB<|gT ?_
     have hc0:applyC (allS x (es.take k)).now es[k]=0:=by simpa using h3
     refine AW.swap 61 1 ?_
     refine aTt ((famP vs (allS x (es.take k)).ps++[.arr ⟨139,some u64⟩ 3 (rowsOf encLine (appP (allS x (es.take k)).now es[k]).lines)])) [4,5,6,7,8,9,23,24,25] [1,2,3,14,15,61,62,63,2002,2004,2007,2011,2012,2013,2044,2048] ?_
     refine AW.swap 62 2 ?_
     refine aTt ((famP vs (allS x (es.take k)).ps++[.arr ⟨139,some u64⟩ 3 (rowsOf encLine (appP (allS x (es.take k)).now es[k]).lines)])) [4,5,6,7,8,9,23,24,25] [1,2,3,14,15,61,62,63,2002,2004,2007,2011,2012,2013,2044,2048] ?_
     refine AW.swap 63 3 ?_
     refine aTt ((famP vs (allS x (es.take k)).ps++[.arr ⟨139,some u64⟩ 3 (rowsOf encLine (appP (allS x (es.take k)).now es[k]).lines)])) [4,5,6,7,8,9,23,24,25] [1,2,3,14,15,61,62,63,2002,2004,2007,2011,2012,2013,2044,2048] ?_
     refine aTt ((famP vs (allS x (es.take k)).ps++[.arr ⟨139,some u64⟩ 3 (rowsOf encLine (appP (allS x (es.take k)).now es[k]).lines)])) [4,5,6,7,8,9,23,24,25] [1,2,3,14,15,2002,2004,2007,2011,2012,2013,2044,2048] ?_
     refine aL<|lgI Z<|lmI Z<|nG ?_
     have hn:(allF (allS x (es.take k)) es[k]).now=appB (allS x (es.take k)).now es[k]:=allF_ok hc0
     have hid:=appP_id hc0
     have hl0:(appP (allS x (es.take k)).now es[k]).lines≠[]:=by have h:=h4;rw[hid]at h;simpa using h
     have hp:(allF (allS x (es.take k)) es[k]).ps=(allS x (es.take k)).ps++[appP (allS x (es.take k)).now es[k]]:=allF_ps hc0 hl0
     refine⟨(k+1,vs++[u64]),⟨hk,(by rw[allS_succ hk,hp];simp;omega)⟩,by show es.length-(k+1)<es.length-k;omega,⟨(iq rfl),trivial⟩,⟨(Eq.trans (congrArg bBox hn.symm) (congrArg (fun s:AllS=>bBox s.now) (allS_succ hk).symm)),(Eq.trans (congrArg (fun b:Book=>AO.arr 57 7 (rowsOf encChan b.chans)) hn.symm) (congrArg (fun s:AllS=>AO.arr 57 7 (rowsOf encChan s.now.chans)) (allS_succ hk).symm)),(Eq.trans (congrArg (fun b:Book=>hAr b.htlcs) hn.symm) (congrArg (fun s:AllS=>hAr s.now.htlcs) (allS_succ hk).symm)),(Eq.trans (congrArg (fun b:Book=>iAr b.circles) hn.symm) (congrArg (fun s:AllS=>iAr s.now.circles) (allS_succ hk).symm)),(Eq.trans (congrArg (AO.arr 114 2) (show _=rowsV (vs++[u64]) (allF (allS x (es.take k)) es[k]).ps by rw[hp,rowsV_app hvl])) (congrArg (fun s:AllS=>AO.arr 114 2 (rowsV (vs++[u64]) s.ps)) (allS_succ hk).symm)),(Eq.trans (Eq.trans (b:=nAr ((allS x (es.take k)).codes++[applyC (allS x (es.take k)).now es[k]])) (congrArg (AO.arr 3 1) (rowsOf_app encKey _ [_]).symm) rfl) (congrArg (fun s:AllS=>nAr s.codes) (allS_succ hk).symm)),trivial⟩,⟨rfl,rfl,rfl,rfl,rfl,rfl,rfl,rfl,trivial⟩,⟨rfl,rfl,trivial⟩,(by rw[allS_succ hk,hp,famP_app hvl];exact tlp)⟩
    ·intro h4
     refine aK<|gT<|aL<|lmO Z<|lmI Z<|lst (zS 2048 (rowsOf encKey [applyC (allS x (es.take k)).now es[k]]) ty.el46 ty.ze3 rfl) Z<|lst (zP 15 ty.el46 ty.ze3 ty.by3 rfl (Src.own rfl rfl) (by simp[rowsOf,rowsV_len hvl];omega)) Z<|laO Z<|lN<|gB<|gT ?_
     have hc0:applyC (allS x (es.take k)).now es[k]=0:=by simpa using h3
     refine AW.swap 61 1 ?_
     refine aTt (famP vs (allS x (es.take k)).ps) [4,5,6,7,8,9,23,24,25] [1,2,3,14,15,61,62,63,64,2002,2004,2007,2011,2012,2013,2048] ?_
     refine AW.swap 62 2 ?_
     refine aTt (famP vs (allS x (es.take k)).ps) [4,5,6,7,8,9,23,24,25] [1,2,3,14,15,61,62,63,64,2002,2004,2007,2011,2012,2013,2048] ?_
     refine AW.swap 63 3 ?_
     refine aTt (famP vs (allS x (es.take k)).ps) [4,5,6,7,8,9,23,24,25] [1,2,3,14,15,61,62,63,64,2002,2004,2007,2011,2012,2013,2048] ?_
     refine aTt (famP vs (allS x (es.take k)).ps) [4,5,6,7,8,9,23,24,25] [1,2,3,14,15,2002,2004,2007,2011,2012,2013,2048] ?_
     refine aL<|lgI Z<|lmI Z<|nG ?_
     have hn:(allF (allS x (es.take k)) es[k]).now=appB (allS x (es.take k)).now es[k]:=allF_ok hc0
     have hid:=appP_id hc0
     have hl0:(appP (allS x (es.take k)).now es[k]).lines=[]:=by have h:=h4;rw[hid]at h;simpa using h
     have hp:(allF (allS x (es.take k)) es[k]).ps=(allS x (es.take k)).ps:=allF_ps2 hl0
     refine⟨(k+1,vs),⟨hk,(by rw[allS_succ hk,hp];exact hvl)⟩,by show es.length-(k+1)<es.length-k;omega,⟨(iq rfl),trivial⟩,⟨(Eq.trans (congrArg bBox hn.symm) (congrArg (fun s:AllS=>bBox s.now) (allS_succ hk).symm)),(Eq.trans (congrArg (fun b:Book=>AO.arr 57 7 (rowsOf encChan b.chans)) hn.symm) (congrArg (fun s:AllS=>AO.arr 57 7 (rowsOf encChan s.now.chans)) (allS_succ hk).symm)),(Eq.trans (congrArg (fun b:Book=>hAr b.htlcs) hn.symm) (congrArg (fun s:AllS=>hAr s.now.htlcs) (allS_succ hk).symm)),(Eq.trans (congrArg (fun b:Book=>iAr b.circles) hn.symm) (congrArg (fun s:AllS=>iAr s.now.circles) (allS_succ hk).symm)),(Eq.trans (congrArg (fun p=>AO.arr 114 2 (rowsV vs p)) hp.symm) (congrArg (fun s:AllS=>AO.arr 114 2 (rowsV vs s.ps)) (allS_succ hk).symm)),(Eq.trans (Eq.trans (b:=nAr ((allS x (es.take k)).codes++[applyC (allS x (es.take k)).now es[k]])) (congrArg (AO.arr 3 1) (rowsOf_app encKey _ [_]).symm) rfl) (congrArg (fun s:AllS=>nAr s.codes) (allS_succ hk).symm)),trivial⟩,⟨rfl,rfl,rfl,rfl,rfl,rfl,rfl,rfl,trivial⟩,⟨rfl,rfl,trivial⟩,(by rw[allS_succ hk,hp];exact tlp)⟩
   ·intro h3
    refine aK<|gT<|aL<|lmO Z<|lmI Z<|lst (zS 2048 (rowsOf encKey [applyC (allS x (es.take k)).now es[k]]) ty.el46 ty.ze3 rfl) Z<|lst (zP 15 ty.el46 ty.ze3 ty.by3 rfl (Src.own rfl rfl) (by simp[rowsOf,rowsV_len hvl];omega)) Z<|laO Z<|lN<|gB<|gT ?_
    have hc0:applyC (allS x (es.take k)).now es[k]≠0:=by simpa using h3
    refine AW.unpin 1 rfl ?_
    refine AW.unpin 2 rfl ?_
    refine AW.unpin 3 rfl ?_
    refine aTt (famP vs (allS x (es.take k)).ps) [4,5,6,7,8,9,23,24,25] [1,2,3,14,15,2002,2004,2007,2011,2012,2013,2048] ?_
    refine aL<|lgI Z<|lmI Z<|nG ?_
    have hn:(allF (allS x (es.take k)) es[k]).now=(allS x (es.take k)).now:=allF_no hc0
    have hp:(allF (allS x (es.take k)) es[k]).ps=(allS x (es.take k)).ps:=allF_ps1 hc0
    refine⟨(k+1,vs),⟨hk,(by rw[allS_succ hk,hp];exact hvl)⟩,by show es.length-(k+1)<es.length-k;omega,⟨(iq rfl),trivial⟩,⟨(Eq.trans (congrArg bBox hn.symm) (congrArg (fun s:AllS=>bBox s.now) (allS_succ hk).symm)),(Eq.trans (congrArg (fun b:Book=>AO.arr 57 7 (rowsOf encChan b.chans)) hn.symm) (congrArg (fun s:AllS=>AO.arr 57 7 (rowsOf encChan s.now.chans)) (allS_succ hk).symm)),(Eq.trans (congrArg (fun b:Book=>hAr b.htlcs) hn.symm) (congrArg (fun s:AllS=>hAr s.now.htlcs) (allS_succ hk).symm)),(Eq.trans (congrArg (fun b:Book=>iAr b.circles) hn.symm) (congrArg (fun s:AllS=>iAr s.now.circles) (allS_succ hk).symm)),(Eq.trans (congrArg (fun p=>AO.arr 114 2 (rowsV vs p)) hp.symm) (congrArg (fun s:AllS=>AO.arr 114 2 (rowsV vs s.ps)) (allS_succ hk).symm)),(Eq.trans (Eq.trans (b:=nAr ((allS x (es.take k)).codes++[applyC (allS x (es.take k)).now es[k]])) (congrArg (AO.arr 3 1) (rowsOf_app encKey _ [_]).symm) rfl) (congrArg (fun s:AllS=>nAr s.codes) (allS_succ hk).symm)),trivial⟩,⟨rfl,rfl,rfl,rfl,rfl,rfl,rfl,rfl,trivial⟩,⟨rfl,rfl,trivial⟩,(by rw[allS_succ hk,hp];exact tlp)⟩
  ·intro h2
   refine aE<|eT<|eT<|eB<|gA<|loX (.agg [vI _ _,vI _ _,vI _ _,.own _,.own _,.own _]) ty.kd27 Z<|lmO Z<|lmO Z<|lst (zB 2004 ty.co27 ty.inf27 Z) Z<|laO Z<|laO Z<|nG<|aR ?_
   have hke:k=es.length:=by have h:=h2;simp only[length_rowsOf,decide_eq_false_iff_not]at h;omega
   subst hke
   rw[allA_ok hbk]
   rw[List.take_length]at hvl hfr
   have hlp:=allS_ps (x:=x) (es:=es) es.length (Nat.le_refl _)
   rw[List.take_length]at hlp ⊢
   refine end_nret (F1:=(famP vs (allS x es).ps)) (allV (allS x es)) (allOb (allS x es) vs) ?_ (by rw[famP_len hvl];omega) rfl rfl ⟨rfl,rfl,rfl,rfl,rfl,trivial⟩ tlp
   exact⟨vs,hvl,rfl,rfl,rfl⟩

abbrev newBook:Book:=⟨0,1,0,[],[],[]⟩
theorem newBook_wf:BookWf newBook:=⟨by simp,by simp,by simp,by simp⟩
theorem allA_wf{x:Book}{es:List Event}(hw:BookWf x)(we:∀e∈es,wfEvent e):BookWf (allA x es).now:=by
 unfold allA
 split
 ·have:=allS_wf hw we es.length (Nat.le_refl _)
  rwa [List.take_length]at this
 ·exact⟨by simp[zeroBook],by simp[zeroBook],by simp[zeroBook],by simp[zeroBook]⟩
abbrev obB(l:List Chan)(h:List Htlc)(i:List Circle):List (Nat×AO):=[(1,.arr 57 7 (rowsOf encChan l)),(2,.arr 101 7 (rowsOf encHtlc h)),(3,.arr 103 5 (rowsOf encCircle i))]
def DrB:AV→List (Nat×AO)→Prop:=fun x ob2=>∃a b c l h i,BookWf ⟨a,b,c,l,h,i⟩∧x=ownB a b c∧ob2=obB l h i
section
variable {a b c:Int}{l:List Chan}{h:List Htlc}{i:List Circle}
theorem mem_set{α:Type}{l:List α}{k:Nat}{x:α}{p:α→Prop}(h:∀y∈l,p y)(hx:p x):∀y∈l.set k x,p y:=fun y hy=>by
 rcases List.mem_or_eq_of_mem_set hy with q|rfl
 ·exact h y q
 ·exact hx
theorem BookWf.nums(w:BookWf ⟨a,b,c,l,h,i⟩){a' b' c':Int}:BookWf ⟨a',b',c',l,h,i⟩:=⟨w.chans,w.htlcs,w.circles,w.len⟩
theorem BookWf.setC(w:BookWf ⟨a,b,c,l,h,i⟩){k:Nat}{x:Chan}(hx:wfChan x):BookWf ⟨a,b,c,l.set k x,h,i⟩:=⟨mem_set w.chans hx,w.htlcs,w.circles,by show (l.set k x).length≤_;rw[List.length_set];exact w.len⟩
theorem BookWf.setH(w:BookWf ⟨a,b,c,l,h,i⟩){k:Nat}{x:Htlc}(hx:wfHtlc x):BookWf ⟨a,b,c,l,h.set k x,i⟩:=⟨w.chans,mem_set w.htlcs hx,w.circles,w.len⟩
theorem BookWf.setI(w:BookWf ⟨a,b,c,l,h,i⟩){k:Nat}{x:Circle}(hx:wfCircle x):BookWf ⟨a,b,c,l,h,i.set k x⟩:=⟨w.chans,w.htlcs,mem_set w.circles hx,w.len⟩
theorem BookWf.loc(w:BookWf ⟨a,b,c,l,h,i⟩){k:Nat}(hk:k<l.length){n:Int}(hn:i64 n):BookWf ⟨a,b,c,l.set k { l[k]with loc:=n },h,i⟩:=w.setC (by have:=w.chans _ (List.getElem_mem hk);unfold wfChan at *;dsimp only at *;simp_all)
theorem BookWf.score(w:BookWf ⟨a,b,c,l,h,i⟩){k:Nat}(hk:k<l.length){n:Int}(hn:i64 n):BookWf ⟨a,b,c,l.set k { l[k]with score:=n },h,i⟩:=w.setC (by have:=w.chans _ (List.getElem_mem hk);unfold wfChan at *;dsimp only at *;simp_all)
theorem BookWf.key(w:BookWf ⟨a,b,c,l,h,i⟩){k:Nat}(hk:k<h.length){n:Int}(hn:i64 n):BookWf ⟨a,b,c,l,h.set k { h[k]with key:=n },i⟩:=w.setH (by have:=w.htlcs _ (List.getElem_mem hk);unfold wfHtlc at *;dsimp only at *;simp_all)
theorem BookWf.to(w:BookWf ⟨a,b,c,l,h,i⟩){k:Nat}(hk:k<i.length):BookWf ⟨a,b,c,l,h,i.set k { i[k]with to:=i[k].frm }⟩:=w.setI (by have:=w.circles _ (List.getElem_mem hk);unfold wfCircle at *;dsimp only at *;simp_all)
theorem BookWf.swap(w:BookWf ⟨a,b,c,l,h,i⟩)(hk:1<l.length):BookWf ⟨a,b,c,(l.set 0 l[1]).set 1 (l[0]'(by omega)),h,i⟩:=(w.setC (w.chans _ (List.getElem_mem hk))).setC (w.chans _ (List.getElem_mem _))
end
theorem bookNew_0:GC Try.prog 57 [] [] (.agg [int 0,int 1,int 0,.p (.v (.slice none 0 0)),.p (.v (.slice none 0 0)),.p (.v (.slice none 0 0))]) []:=by
 refine GC.intro (rs:=[.cell 0 27 (some 6)]) Try.func57 rfl Try.ntmps57 (Nat.le_of_ble_eq_true rfl) ⟨rfl,rfl,ty.kd27,trivial⟩ ?_
 intro L O w0
 refine sL<|lst (zA 2000 ty.ze27 Z) Z<|nA<|lq (rd (x:=.agg [vI _ _,vI _ _,vI _ _,vV _,vV _,vV _]) (rd_build Z ty.sa27 Z Z Z) Z)<|lst (zB 2000 ty.co27 ty.inf27 Z) Z<|nG<|aR ?_
 refine end_ret ?_ trivial
 rfl
theorem bookNew_e:GC Try.prog 57 [] [] (bookV newBook) []:=GX.imp bookNew_0 (fun x ob1 ⟨e1,e2⟩=>by
 subst e1 e2
 exact⟨bookV newBook,Imp.agg (ImpL.cons (Imp.refl _) (ImpL.cons (Imp.refl _) (ImpL.cons (Imp.refl _) (ImpL.cons (Imp.nil _ _) (ImpL.cons (Imp.nil _ _) (ImpL.cons (Imp.nil _ _) ImpL.nil)))))),rfl,rfl⟩)
theorem l07Draw_e(g:Value)(code:List Int)(i:Nat)(h m:Int)(hc:CurOk code i)(hm:0≤m∧m≤100):GX Try.prog 36 [.ptr 0 0 0,int m] [(0,curO g code i h)] (DrX g code DrB):=by
 refine GX.intro (rs:=[.cell 4 27 (some 6)]) Try.func36 rfl Try.ntmps36 (Nat.le_of_ble_eq_true rfl) ⟨rfl,rfl,ty.kd27,trivial⟩ ?_
 intro L O w0
 refine sL<|lst (zA 2004 ty.ze27 Z) Z<|nA<|lst (zC [] [] [] Try.func57 (bookNew_e) (trivial) Z Z) Z<|lmP Z<|lmI Z ?_
 refine lX [(0,0),(50,50)] [50] [0] Try.func58 (l07Events_e g code _ _ (m) hc hm) (⟨⟨0,rfl,rfl⟩,trivial⟩) (pins_curX) Z ?_
 intro xz1 oz1 hz1
 obtain⟨i1,q1,_,hc1,⟨es1,hes1,rfl,rfl⟩,rfl⟩:=hz1
 refine AL.freeze 50 rfl ?_
 refine AL.stx (StX.callN (F:=[]) [(1,1),(2,2),(3,3),(14,14),(15,15)] [1,2,3,14,15] [] ([]).length Try.func56 (sapplyAll_e newBook es1 newBook_wf hes1.1 (by have:=hes1.2;omega)) tlp List.drop_length List.take_length (Nat.le_refl _) (by simp) (fun _ _ _ _=>trivial) rfl rfl) rfl ?_
 rintro _ _ ⟨xz2,oz2,Fz2,hz2,hF2,hM2,rfl,rfl⟩
 obtain⟨vs2,hv2,rfl,rfl,rfl⟩:=hz2
 have hrf2:rowF ([]++famP vs2 (allA newBook es1).ps):=rowF.app (by first|assumption|exact rowF.nil) hF2
 refine lmX (.tup [.agg [vI _ _,vI _ _,vI _ _,.own _,.own _,.own _],.own _,.own _]) Z<|lxX (.agg [vI _ _,vI _ _,vI _ _,.own _,.own _,.own _]) Z<|lxO Z<|lxO Z<|lst (zA 2005 ty.ze27 Z) Z<|lst (zB 2005 ty.co27 ty.inf27 Z) Z<|laO Z<|laO Z<|nA<|loX (.agg [vI _ _,vI _ _,vI _ _,.own _,.own _,.own _]) ty.kd27 Z<|lst (zB 2004 ty.co27 ty.inf27 Z) Z ?_
 refine lTt (([]++famP vs2 (allA newBook es1).ps)) [4] [0,1,2,3,14,15,2004,2005] ?_
 refine nG<|aR ?_
 refine end_xret ((ownB _ _ _)) ((0,curO g code i1 q1)::obB _ _ _) ?_ rfl ⟨rfl,rfl,rfl,rfl,trivial⟩
 exact⟨_,_,_,hc1,⟨_,_,_,_,_,_,allA_wf newBook_wf hes1.1,rfl,rfl⟩,rfl⟩
theorem l07Any_e(g:Value)(code:List Int)(i:Nat)(h:Int)(hc:CurOk code i):GX Try.prog 38 [.ptr 0 0 0] [(0,curO g code i h)] (DrX g code DrB):=by
 refine GX.intro (rs:=[.cell 2 27 (some 6)]) Try.func38 rfl Try.ntmps38 (Nat.le_of_ble_eq_true rfl) ⟨rfl,rfl,ty.kd27,trivial⟩ ?_
 intro L O w0
 refine sL<|lst (zA 2002 ty.ze27 Z) Z<|nA<|lmP Z ?_
 refine lX [(0,0),(1,1),(2,2),(3,3)] [1,2,3] [0] Try.func36 (l07Draw_e g code _ _ _ hc (by omega)) (⟨⟨0,rfl,rfl⟩,trivial⟩) (pins_curX) Z ?_
 intro xz1 oz1 hz1
 obtain⟨i1,q1,_,hc1,⟨_,_,_,_,_,_,hw1,rfl,rfl⟩,rfl⟩:=hz1
 refine lst (zA 2003 ty.ze27 Z) Z<|lst (zB 2003 ty.co27 ty.inf27 Z) Z<|nA<|lmP Z ?_
 refine lX [(0,0)] [] [0] Try.func20 (l01Below_e g code _ _ _ hc1) (⟨⟨0,rfl,rfl⟩,trivial⟩) (pins_cur) Z ?_
 intro xz2 oz2 hz2
 obtain⟨i2,q2,hc2,⟨n2,⟨na2,nb2⟩,rfl⟩,rfl⟩:=hz2
 refine laI Z<|nG ?_
 refine aJ [0,2,3,4] [2002] (D:=Nat×Int×Int×Int×Int×List Chan×List Htlc×List Circle) (fun d=>[]) (fun d=>[(0,curO g code d.1 d.2.1),(2003,.box 27 none [int d.2.2.1,int d.2.2.2.1,int d.2.2.2.2.1,.own 1,.own 2,.own 3]),(1,.arr 57 7 (rowsOf encChan d.2.2.2.2.2.1)),(2,.arr 101 7 (rowsOf encHtlc d.2.2.2.2.2.2.1)),(3,.arr 103 5 (rowsOf encCircle d.2.2.2.2.2.2.2))]) (fun d=>CurOk code d.1∧BookWf ⟨d.2.2.1,d.2.2.2.1,d.2.2.2.2.1,d.2.2.2.2.2.1,d.2.2.2.2.2.2.1,d.2.2.2.2.2.2.2⟩) ?_ ?_
 ·refine sL<|lmI Z<|lbB Z<|nG ?_
  refine AW.cond rfl ?_ ?_
  ·intro h1
   refine aL<|lmP Z ?_
   refine lX [(0,0)] [] [0] Try.func21 (l01Raw_e g code _ _ hc2) (⟨⟨0,rfl,rfl⟩,trivial⟩) (pins_cur) Z ?_
   intro xz3 oz3 hz3
   obtain⟨i3,q3,hc3,⟨n3,hn3,rfl⟩,rfl⟩:=hz3
   refine lf 1 ty.F27_1 Z<|lst (zB 2003 ty.co3 ty.inf3 Z) Z<|lT [0,2,3,4] [0,1,2,3,2002,2003] ?_
   refine nG ?_
   refine⟨(_,_,_,_,_,_,_,_),⟨by assumption,by first|assumption|exact BookWf.nums (by assumption)|exact BookWf.loc (by assumption) _ (by assumption)|exact BookWf.key (by assumption) _ (by assumption)|exact BookWf.to (by assumption) _|exact BookWf.score (by assumption) _ (by assumption)|exact BookWf.swap (by assumption) _⟩,trivial,⟨rfl,rfl,rfl,rfl,rfl,trivial⟩,rfl,rfl⟩
  ·intro h1
   refine aK<|gT ?_
   refine⟨(_,_,_,_,_,_,_,_),⟨by assumption,by first|assumption|exact BookWf.nums (by assumption)|exact BookWf.loc (by assumption) _ (by assumption)|exact BookWf.key (by assumption) _ (by assumption)|exact BookWf.to (by assumption) _|exact BookWf.score (by assumption) _ (by assumption)|exact BookWf.swap (by assumption) _⟩,trivial,⟨rfl,rfl,rfl,rfl,rfl,trivial⟩,rfl,rfl⟩
 ·intro ⟨iJ5,qJ5,aJ5,bJ5,cJ5,lJ5,xJ5,yJ5⟩ hJ5
  dsimp only
  obtain⟨hcJ5,hwJ5⟩:=hJ5
  simp only at hcJ5 hwJ5
  refine aJ [0,2,3,4] [2002] (D:=Nat×Int×Int×Int×Int×List Chan×List Htlc×List Circle) (fun d=>[]) (fun d=>[(0,curO g code d.1 d.2.1),(2003,.box 27 none [int d.2.2.1,int d.2.2.2.1,int d.2.2.2.2.1,.own 1,.own 2,.own 3]),(1,.arr 57 7 (rowsOf encChan d.2.2.2.2.2.1)),(2,.arr 101 7 (rowsOf encHtlc d.2.2.2.2.2.2.1)),(3,.arr 103 5 (rowsOf encCircle d.2.2.2.2.2.2.2))]) (fun d=>CurOk code d.1∧BookWf ⟨d.2.2.1,d.2.2.2.1,d.2.2.2.2.1,d.2.2.2.2.2.1,d.2.2.2.2.2.2.1,d.2.2.2.2.2.2.2⟩) ?_ ?_
  ·refine sL<|lmI Z<|lbB Z<|nG ?_
   refine AW.cond rfl ?_ ?_
   ·intro h2
    refine aL<|lmP Z ?_
    refine lX [(0,0)] [] [0] Try.func21 (l01Raw_e g code _ _ hcJ5) (⟨⟨0,rfl,rfl⟩,trivial⟩) (pins_cur) Z ?_
    intro xz4 oz4 hz4
    obtain⟨i4,q4,hc4,⟨n4,hn4,rfl⟩,rfl⟩:=hz4
    refine lf 2 ty.F27_2 Z<|lst (zB 2003 ty.co3 ty.inf3 Z) Z<|nG ?_
    refine⟨(_,_,_,_,_,_,_,_),⟨by assumption,by first|assumption|exact BookWf.nums (by assumption)|exact BookWf.loc (by assumption) _ (by assumption)|exact BookWf.key (by assumption) _ (by assumption)|exact BookWf.to (by assumption) _|exact BookWf.score (by assumption) _ (by assumption)|exact BookWf.swap (by assumption) _⟩,trivial,⟨rfl,rfl,rfl,rfl,rfl,trivial⟩,rfl,rfl⟩
   ·intro h2
    refine aK<|gT ?_
    refine⟨(_,_,_,_,_,_,_,_),⟨by assumption,by first|assumption|exact BookWf.nums (by assumption)|exact BookWf.loc (by assumption) _ (by assumption)|exact BookWf.key (by assumption) _ (by assumption)|exact BookWf.to (by assumption) _|exact BookWf.score (by assumption) _ (by assumption)|exact BookWf.swap (by assumption) _⟩,trivial,⟨rfl,rfl,rfl,rfl,rfl,trivial⟩,rfl,rfl⟩
  ·intro ⟨iJ7,qJ7,aJ7,bJ7,cJ7,lJ7,xJ7,yJ7⟩ hJ7
   dsimp only
   obtain⟨hcJ7,hwJ7⟩:=hJ7
   simp only at hcJ7 hwJ7
   refine aJ [0,2,3,4] [2002] (D:=Nat×Int×Int×Int×Int×List Chan×List Htlc×List Circle) (fun d=>[]) (fun d=>[(0,curO g code d.1 d.2.1),(2003,.box 27 none [int d.2.2.1,int d.2.2.2.1,int d.2.2.2.2.1,.own 1,.own 2,.own 3]),(1,.arr 57 7 (rowsOf encChan d.2.2.2.2.2.1)),(2,.arr 101 7 (rowsOf encHtlc d.2.2.2.2.2.2.1)),(3,.arr 103 5 (rowsOf encCircle d.2.2.2.2.2.2.2))]) (fun d=>CurOk code d.1∧BookWf ⟨d.2.2.1,d.2.2.2.1,d.2.2.2.2.1,d.2.2.2.2.2.1,d.2.2.2.2.2.2.1,d.2.2.2.2.2.2.2⟩) ?_ ?_
   ·refine sL<|lmI Z<|lbB Z<|lmB Z ?_
    refine AL.bool (t:=22) rfl ?_ ?_
    ·intro h3
     refine lf 3 ty.F27_3 Z<|loO ty.kd23 Z<|lnI ty.sl23 Z<|lbB Z<|lkB Z<|nG ?_
     refine AW.cond rfl ?_ ?_
     ·intro h4
      have hl:0<lJ7.length:=by have h:=h4;simp[length_rowsOf]at h;omega
      refine aG 6 [0]<|tq 0 (rf 3 ty.F27_3 Z)<|tq 1 (roO ty.kd23 Z)<|yq 2 (rmP Z) ?_
      refine AG.stx (i:=3) rfl (by kernel_rfl) (St.callX [(0,0)] [] [0] rfl (by intro s hs;cases hs;decide) rfl Try.func21 rfl rfl (l01Raw_e g code _ _ hcJ7) ⟨rfl,rfl,rfl⟩ (⟨⟨0,rfl,rfl⟩,trivial⟩) (pins_cur) rfl) (exK (l:=[0]) rfl rfl) rfl ?_
      rintro _ _ ⟨xz6,oz6,hz6,rfl,rfl⟩
      obtain⟨i6,q6,hc6,⟨n6,hn6,rfl⟩,rfl⟩:=hz6
      refine yq 4 (rj 0 ty.el23 rfl (by rw[length_rowsOf];omega))<|yq 5 (rf 2 ty.F57_2 rfl)<|yl rfl (zQ 1 [.v (.int .i64 n6)] ty.co3 ty.inf3 rfl (row_map (by omega)))<|gT ?_
      refine⟨(_,_,_,_,_,_,_,_),⟨by assumption,by first|assumption|exact BookWf.nums (by assumption)|exact BookWf.loc (by assumption) _ (by assumption)|exact BookWf.key (by assumption) _ (by assumption)|exact BookWf.to (by assumption) _|exact BookWf.score (by assumption) _ (by assumption)|exact BookWf.swap (by assumption) _⟩,trivial,⟨rfl,rfl,(Eq.trans (b:=AO.arr 57 7 ((rowsOf encChan (lJ7)).set 0 ((encChan { lJ7[0]with loc:=n6 }).map PV.v))) rfl (congrArg (AO.arr 57 7) rows_set)),rfl,rfl,trivial⟩,rfl,rfl⟩
     ·intro h4
      refine aK<|gT ?_
      refine⟨(_,_,_,_,_,_,_,_),⟨by assumption,by first|assumption|exact BookWf.nums (by assumption)|exact BookWf.loc (by assumption) _ (by assumption)|exact BookWf.key (by assumption) _ (by assumption)|exact BookWf.to (by assumption) _|exact BookWf.score (by assumption) _ (by assumption)|exact BookWf.swap (by assumption) _⟩,trivial,⟨rfl,rfl,rfl,rfl,rfl,trivial⟩,rfl,rfl⟩
    ·intro h3
     refine lno Z<|lno Z<|lno Z<|lno Z<|lkZ Z<|nG<|aN Z<|aK<|gT ?_
     refine⟨(_,_,_,_,_,_,_,_),⟨by assumption,by first|assumption|exact BookWf.nums (by assumption)|exact BookWf.loc (by assumption) _ (by assumption)|exact BookWf.key (by assumption) _ (by assumption)|exact BookWf.to (by assumption) _|exact BookWf.score (by assumption) _ (by assumption)|exact BookWf.swap (by assumption) _⟩,trivial,⟨rfl,rfl,rfl,rfl,rfl,trivial⟩,rfl,rfl⟩
   ·intro ⟨iJ9,qJ9,aJ9,bJ9,cJ9,lJ9,xJ9,yJ9⟩ hJ9
    dsimp only
    obtain⟨hcJ9,hwJ9⟩:=hJ9
    simp only at hcJ9 hwJ9
    refine aJ [0,2,3,4] [2002] (D:=Nat×Int×Int×Int×Int×List Chan×List Htlc×List Circle) (fun d=>[]) (fun d=>[(0,curO g code d.1 d.2.1),(2003,.box 27 none [int d.2.2.1,int d.2.2.2.1,int d.2.2.2.2.1,.own 1,.own 2,.own 3]),(1,.arr 57 7 (rowsOf encChan d.2.2.2.2.2.1)),(2,.arr 101 7 (rowsOf encHtlc d.2.2.2.2.2.2.1)),(3,.arr 103 5 (rowsOf encCircle d.2.2.2.2.2.2.2))]) (fun d=>CurOk code d.1∧BookWf ⟨d.2.2.1,d.2.2.2.1,d.2.2.2.2.1,d.2.2.2.2.2.1,d.2.2.2.2.2.2.1,d.2.2.2.2.2.2.2⟩) ?_ ?_
    ·refine sL<|lmI Z<|lbB Z<|lmB Z ?_
     refine AL.bool (t:=36) rfl ?_ ?_
     ·intro h5
      refine lf 4 ty.F27_4 Z<|loO ty.kd24 Z<|lnI ty.sl24 Z<|lbB Z<|lkB Z<|nG ?_
      refine AW.cond rfl ?_ ?_
      ·intro h6
       have hl:0<xJ9.length:=by have h:=h6;simp[length_rowsOf]at h;omega
       refine aG 6 [0]<|tq 0 (rf 4 ty.F27_4 Z)<|tq 1 (roO ty.kd24 Z)<|yq 2 (rmP Z) ?_
       refine AG.stx (i:=3) rfl (by kernel_rfl) (St.callX [(0,0)] [] [0] rfl (by intro s hs;cases hs;decide) rfl Try.func21 rfl rfl (l01Raw_e g code _ _ hcJ9) ⟨rfl,rfl,rfl⟩ (⟨⟨0,rfl,rfl⟩,trivial⟩) (pins_cur) rfl) (exK (l:=[0]) rfl rfl) rfl ?_
       rintro _ _ ⟨xz8,oz8,hz8,rfl,rfl⟩
       obtain⟨i8,q8,hc8,⟨n8,hn8,rfl⟩,rfl⟩:=hz8
       refine yq 4 (rj 0 ty.el24 rfl (by rw[length_rowsOf];omega))<|yq 5 (rf 0 ty.F101_0 rfl)<|yl rfl (zQ 2 [.v (.int .i64 n8)] ty.co3 ty.inf3 rfl (row_map (by omega)))<|gT ?_
       refine⟨(_,_,_,_,_,_,_,_),⟨by assumption,by first|assumption|exact BookWf.nums (by assumption)|exact BookWf.loc (by assumption) _ (by assumption)|exact BookWf.key (by assumption) _ (by assumption)|exact BookWf.to (by assumption) _|exact BookWf.score (by assumption) _ (by assumption)|exact BookWf.swap (by assumption) _⟩,trivial,⟨rfl,rfl,rfl,(Eq.trans (b:=AO.arr 101 7 ((rowsOf encHtlc (xJ9)).set 0 ((encHtlc { xJ9[0]with key:=n8 }).map PV.v))) rfl (congrArg (AO.arr 101 7) rows_set)),rfl,trivial⟩,rfl,rfl⟩
      ·intro h6
       refine aK<|gT ?_
       refine⟨(_,_,_,_,_,_,_,_),⟨by assumption,by first|assumption|exact BookWf.nums (by assumption)|exact BookWf.loc (by assumption) _ (by assumption)|exact BookWf.key (by assumption) _ (by assumption)|exact BookWf.to (by assumption) _|exact BookWf.score (by assumption) _ (by assumption)|exact BookWf.swap (by assumption) _⟩,trivial,⟨rfl,rfl,rfl,rfl,rfl,trivial⟩,rfl,rfl⟩
     ·intro h5
      refine lno Z<|lno Z<|lno Z<|lno Z<|lkZ Z<|nG<|aN Z<|aK<|gT ?_
      refine⟨(_,_,_,_,_,_,_,_),⟨by assumption,by first|assumption|exact BookWf.nums (by assumption)|exact BookWf.loc (by assumption) _ (by assumption)|exact BookWf.key (by assumption) _ (by assumption)|exact BookWf.to (by assumption) _|exact BookWf.score (by assumption) _ (by assumption)|exact BookWf.swap (by assumption) _⟩,trivial,⟨rfl,rfl,rfl,rfl,rfl,trivial⟩,rfl,rfl⟩
    ·intro ⟨iJ11,qJ11,aJ11,bJ11,cJ11,lJ11,xJ11,yJ11⟩ hJ11
     dsimp only
     obtain⟨hcJ11,hwJ11⟩:=hJ11
     simp only at hcJ11 hwJ11
     refine aJ [0,2,3,4] [2002] (D:=Nat×Int×Int×Int×Int×List Chan×List Htlc×List Circle) (fun d=>[]) (fun d=>[(0,curO g code d.1 d.2.1),(2003,.box 27 none [int d.2.2.1,int d.2.2.2.1,int d.2.2.2.2.1,.own 1,.own 2,.own 3]),(1,.arr 57 7 (rowsOf encChan d.2.2.2.2.2.1)),(2,.arr 101 7 (rowsOf encHtlc d.2.2.2.2.2.2.1)),(3,.arr 103 5 (rowsOf encCircle d.2.2.2.2.2.2.2))]) (fun d=>CurOk code d.1∧BookWf ⟨d.2.2.1,d.2.2.2.1,d.2.2.2.2.1,d.2.2.2.2.2.1,d.2.2.2.2.2.2.1,d.2.2.2.2.2.2.2⟩) ?_ ?_
     ·refine sL<|lmI Z<|lbB Z<|nG ?_
      refine AW.cond rfl ?_ ?_
      ·intro h7
       refine aL<|lmP Z ?_
       refine lX [(0,0)] [] [0] Try.func20 (l01Below_e g code _ _ _ hcJ11) (⟨⟨0,rfl,rfl⟩,trivial⟩) (pins_cur) Z ?_
       intro xz9 oz9 hz9
       obtain⟨i9,q9,hc9,⟨n9,⟨na9,nb9⟩,rfl⟩,rfl⟩:=hz9
       refine lgI Z<|lf 0 ty.F27_0 Z<|lst (zB 2003 ty.co3 ty.inf3 Z) Z<|nG ?_
       refine⟨(_,_,_,_,_,_,_,_),⟨by assumption,by first|assumption|exact BookWf.nums (by assumption)|exact BookWf.loc (by assumption) _ (by assumption)|exact BookWf.key (by assumption) _ (by assumption)|exact BookWf.to (by assumption) _|exact BookWf.score (by assumption) _ (by assumption)|exact BookWf.swap (by assumption) _⟩,trivial,⟨rfl,rfl,rfl,rfl,rfl,trivial⟩,rfl,rfl⟩
      ·intro h7
       refine aK<|gT ?_
       refine⟨(_,_,_,_,_,_,_,_),⟨by assumption,by first|assumption|exact BookWf.nums (by assumption)|exact BookWf.loc (by assumption) _ (by assumption)|exact BookWf.key (by assumption) _ (by assumption)|exact BookWf.to (by assumption) _|exact BookWf.score (by assumption) _ (by assumption)|exact BookWf.swap (by assumption) _⟩,trivial,⟨rfl,rfl,rfl,rfl,rfl,trivial⟩,rfl,rfl⟩
     ·intro ⟨iJ13,qJ13,aJ13,bJ13,cJ13,lJ13,xJ13,yJ13⟩ hJ13
      dsimp only
      obtain⟨hcJ13,hwJ13⟩:=hJ13
      simp only at hcJ13 hwJ13
      refine aJ [0,2,3,4] [2002] (D:=Nat×Int×Int×Int×Int×List Chan×List Htlc×List Circle) (fun d=>[]) (fun d=>[(0,curO g code d.1 d.2.1),(2003,.box 27 none [int d.2.2.1,int d.2.2.2.1,int d.2.2.2.2.1,.own 1,.own 2,.own 3]),(1,.arr 57 7 (rowsOf encChan d.2.2.2.2.2.1)),(2,.arr 101 7 (rowsOf encHtlc d.2.2.2.2.2.2.1)),(3,.arr 103 5 (rowsOf encCircle d.2.2.2.2.2.2.2))]) (fun d=>CurOk code d.1∧BookWf ⟨d.2.2.1,d.2.2.2.1,d.2.2.2.2.1,d.2.2.2.2.2.1,d.2.2.2.2.2.2.1,d.2.2.2.2.2.2.2⟩) ?_ ?_
      ·refine sL<|lmI Z<|lbB Z<|lmB Z ?_
       refine AL.bool (t:=56) rfl ?_ ?_
       ·intro h8
        refine lf 3 ty.F27_3 Z<|loO ty.kd23 Z<|lnI ty.sl23 Z<|lbB Z<|lkB Z<|nG ?_
        refine AW.cond rfl ?_ ?_
        ·intro h9
         refine aS ?_
         have hl:1<lJ13.length:=by have h:=h9;simp[length_rowsOf]at h;omega
         refine aL<|lf 3 ty.F27_3 Z<|loO ty.kd23 Z<|lq (rj 0 ty.el23 rfl (by rw[length_rowsOf];omega))<|lq (rd (x:=.agg [vI _ _,vI _ _,vI _ _,vI _ _,vI _ _,vI _ _,vI _ _]) (rd_load_arr rfl ty.kd57 rfl rfl rfl (row_map (by omega)) rfl) rfl)<|lst (zA 2005 ty.ze57 rfl) Z<|lst (zB 2005 ty.co57 ty.inf57 rfl) Z<|lT [0,2,3,4,5] [0,1,2,3,2002,2003,2005] ?_
         refine nG<|aS<|aF [7]<|pq 0 (qf 3 ty.F27_3 rfl)<|sq 1 (roO ty.kd23 rfl)<|vq 2 (rf 3 ty.F27_3 rfl)<|vq 3 (roO ty.kd23 rfl)<|vq 4 (rj 1 ty.el23 rfl (by rw[length_rowsOf];omega))<|vq 5 (rd (x:=.agg [vI _ _,vI _ _,vI _ _,vI _ _,vI _ _,vI _ _,vI _ _]) (rd_load_arr rfl ty.kd57 rfl rfl rfl (row_map (by omega)) rfl) rfl)<|vq 6 (rj 0 ty.el23 rfl (by rw[length_rowsOf];omega))<|vst 7 rfl (zQ 1 (((encChan lJ13[1]).map PV.v)) ty.co57 ty.inf57 rfl (row_map (by omega))) (.inl rfl)<|fD<|gT ?_
         refine AW.obj 1 (.arr 57 7 (rowsOf encChan ((lJ13).set 0 lJ13[1]))) (Eq.trans (b:=AO.arr 57 7 ((rowsOf encChan (lJ13)).set 0 ((encChan lJ13[1]).map PV.v))) rfl (congrArg (AO.arr 57 7) rows_set)) ?_
         refine aL<|lf 3 ty.F27_3 Z<|loO ty.kd23 Z<|loX (.agg [vI _ _,vI _ _,vI _ _,vI _ _,vI _ _,vI _ _,vI _ _]) ty.kd57 Z<|lq (rj 1 ty.el23 rfl (by rw[length_rowsOf,List.length_set];omega))<|lst (zQ 1 (((encChan lJ13[0]).map PV.v)) ty.co57 ty.inf57 rfl (row_map (by rw[List.length_set];omega))) Z<|nG ?_
         refine⟨(_,_,_,_,_,_,_,_),⟨by assumption,by first|assumption|exact BookWf.nums (by assumption)|exact BookWf.loc (by assumption) _ (by assumption)|exact BookWf.key (by assumption) _ (by assumption)|exact BookWf.to (by assumption) _|exact BookWf.score (by assumption) _ (by assumption)|exact BookWf.swap (by assumption) _⟩,trivial,⟨rfl,rfl,(Eq.trans (b:=AO.arr 57 7 ((rowsOf encChan (lJ13.set 0 lJ13[1])).set 1 ((encChan lJ13[0]).map PV.v))) rfl (congrArg (AO.arr 57 7) rows_set)),rfl,rfl,trivial⟩,rfl,rfl⟩
        ·intro h9
         refine aK<|gT ?_
         refine⟨(_,_,_,_,_,_,_,_),⟨by assumption,by first|assumption|exact BookWf.nums (by assumption)|exact BookWf.loc (by assumption) _ (by assumption)|exact BookWf.key (by assumption) _ (by assumption)|exact BookWf.to (by assumption) _|exact BookWf.score (by assumption) _ (by assumption)|exact BookWf.swap (by assumption) _⟩,trivial,⟨rfl,rfl,rfl,rfl,rfl,trivial⟩,rfl,rfl⟩
       ·intro h8
        refine lno Z<|lno Z<|lno Z<|lno Z<|lkZ Z<|nG<|aN Z<|aK<|gT ?_
        refine⟨(_,_,_,_,_,_,_,_),⟨by assumption,by first|assumption|exact BookWf.nums (by assumption)|exact BookWf.loc (by assumption) _ (by assumption)|exact BookWf.key (by assumption) _ (by assumption)|exact BookWf.to (by assumption) _|exact BookWf.score (by assumption) _ (by assumption)|exact BookWf.swap (by assumption) _⟩,trivial,⟨rfl,rfl,rfl,rfl,rfl,trivial⟩,rfl,rfl⟩
      ·intro ⟨iJ17,qJ17,aJ17,bJ17,cJ17,lJ17,xJ17,yJ17⟩ hJ17
       dsimp only
       obtain⟨hcJ17,hwJ17⟩:=hJ17
       simp only at hcJ17 hwJ17
       refine aJ [0,2,3,4] [2002] (D:=Nat×Int×Int×Int×Int×List Chan×List Htlc×List Circle) (fun d=>[]) (fun d=>[(0,curO g code d.1 d.2.1),(2003,.box 27 none [int d.2.2.1,int d.2.2.2.1,int d.2.2.2.2.1,.own 1,.own 2,.own 3]),(1,.arr 57 7 (rowsOf encChan d.2.2.2.2.2.1)),(2,.arr 101 7 (rowsOf encHtlc d.2.2.2.2.2.2.1)),(3,.arr 103 5 (rowsOf encCircle d.2.2.2.2.2.2.2))]) (fun d=>CurOk code d.1∧BookWf ⟨d.2.2.1,d.2.2.2.1,d.2.2.2.2.1,d.2.2.2.2.2.1,d.2.2.2.2.2.2.1,d.2.2.2.2.2.2.2⟩) ?_ ?_
       ·refine sL<|lmI Z<|lbB Z<|lmB Z ?_
        refine AL.bool (t:=79) rfl ?_ ?_
        ·intro h10
         refine lf 5 ty.F27_5 Z<|loO ty.kd25 Z<|lnI ty.sl25 Z<|lbB Z<|lkB Z<|nG ?_
         refine AW.cond rfl ?_ ?_
         ·intro h11
          have hl:0<yJ17.length:=by have h:=h11;simp[length_rowsOf]at h;omega
          refine aF [9]<|pq 0 (qf 5 ty.F27_5 rfl)<|sq 1 (roO ty.kd25 rfl)<|vq 2 (rf 5 ty.F27_5 rfl)<|vq 3 (roO ty.kd25 rfl)<|vq 4 (rj 0 ty.el25 rfl (by rw[length_rowsOf];omega))<|vq 5 (rf 1 ty.F103_1 rfl)<|vq 6 (rd (x:=vI _ _) (rd_load_arr rfl ty.kd3 rfl rfl rfl (row_map (by omega)) rfl) rfl)<|vq 7 (rj 0 ty.el25 rfl (by rw[length_rowsOf];omega))<|vq 8 (rf 2 ty.F103_2 rfl)<|vst 9 rfl (zQ 3 [.v (.int .i64 yJ17[0].frm)] ty.co3 ty.inf3 rfl (row_map (by omega))) (.inl rfl)<|fT [0,2,3,4] [0,1,2,3,2002,2003] ?_
          refine fD<|gT ?_
          refine⟨(_,_,_,_,_,_,_,_),⟨by assumption,by first|assumption|exact BookWf.nums (by assumption)|exact BookWf.loc (by assumption) _ (by assumption)|exact BookWf.key (by assumption) _ (by assumption)|exact BookWf.to (by assumption) _|exact BookWf.score (by assumption) _ (by assumption)|exact BookWf.swap (by assumption) _⟩,trivial,⟨rfl,rfl,rfl,rfl,(Eq.trans (b:=AO.arr 103 5 ((rowsOf encCircle (yJ17)).set 0 ((encCircle { yJ17[0]with to:=yJ17[0].frm }).map PV.v))) rfl (congrArg (AO.arr 103 5) rows_set)),trivial⟩,rfl,rfl⟩
         ·intro h11
          refine aK<|gT ?_
          refine⟨(_,_,_,_,_,_,_,_),⟨by assumption,by first|assumption|exact BookWf.nums (by assumption)|exact BookWf.loc (by assumption) _ (by assumption)|exact BookWf.key (by assumption) _ (by assumption)|exact BookWf.to (by assumption) _|exact BookWf.score (by assumption) _ (by assumption)|exact BookWf.swap (by assumption) _⟩,trivial,⟨rfl,rfl,rfl,rfl,rfl,trivial⟩,rfl,rfl⟩
        ·intro h10
         refine lno Z<|lno Z<|lno Z<|lno Z<|lkZ Z<|nG<|aN Z<|aK<|gT ?_
         refine⟨(_,_,_,_,_,_,_,_),⟨by assumption,by first|assumption|exact BookWf.nums (by assumption)|exact BookWf.loc (by assumption) _ (by assumption)|exact BookWf.key (by assumption) _ (by assumption)|exact BookWf.to (by assumption) _|exact BookWf.score (by assumption) _ (by assumption)|exact BookWf.swap (by assumption) _⟩,trivial,⟨rfl,rfl,rfl,rfl,rfl,trivial⟩,rfl,rfl⟩
       ·intro ⟨iJ19,qJ19,aJ19,bJ19,cJ19,lJ19,xJ19,yJ19⟩ hJ19
        dsimp only
        obtain⟨hcJ19,hwJ19⟩:=hJ19
        simp only at hcJ19 hwJ19
        refine aJ [2,3] [2002] (D:=Nat×Int×Int×Int×Int×List Chan×List Htlc×List Circle) (fun d=>[]) (fun d=>[(0,curO g code d.1 d.2.1),(2003,.box 27 none [int d.2.2.1,int d.2.2.2.1,int d.2.2.2.2.1,.own 1,.own 2,.own 3]),(1,.arr 57 7 (rowsOf encChan d.2.2.2.2.2.1)),(2,.arr 101 7 (rowsOf encHtlc d.2.2.2.2.2.2.1)),(3,.arr 103 5 (rowsOf encCircle d.2.2.2.2.2.2.2))]) (fun d=>CurOk code d.1∧BookWf ⟨d.2.2.1,d.2.2.2.1,d.2.2.2.2.1,d.2.2.2.2.2.1,d.2.2.2.2.2.2.1,d.2.2.2.2.2.2.2⟩) ?_ ?_
        ·refine sL<|lmI Z<|lbB Z<|lmB Z ?_
         refine AL.bool (t:=96) rfl ?_ ?_
         ·intro h12
          refine lf 3 ty.F27_3 Z<|loO ty.kd23 Z<|lnI ty.sl23 Z<|lbB Z<|lkB Z<|nG ?_
          refine AW.cond rfl ?_ ?_
          ·intro h13
           have hl:0<lJ19.length:=by have h:=h13;simp[length_rowsOf]at h;omega
           refine aG 6 [0]<|tq 0 (rf 3 ty.F27_3 Z)<|tq 1 (roO ty.kd23 Z)<|yq 2 (rmP Z) ?_
           refine AG.stx (i:=3) rfl (by kernel_rfl) (St.callX [(0,0)] [] [0] rfl (by intro s hs;cases hs;decide) rfl Try.func59 rfl rfl (l06Score_e g code _ _ hcJ19) ⟨rfl,rfl,rfl⟩ (⟨⟨0,rfl,rfl⟩,trivial⟩) (pins_cur) rfl) (exK (l:=[0]) rfl rfl) rfl ?_
           rintro _ _ ⟨xz11,oz11,hz11,rfl,rfl⟩
           obtain⟨i11,q11,hc11,⟨n11,hn11,rfl⟩,rfl⟩:=hz11
           refine yq 4 (rj 0 ty.el23 rfl (by rw[length_rowsOf];omega))<|yq 5 (rf 6 ty.F57_6 rfl)<|yl rfl (zQ 1 [.v (.int .i64 n11)] ty.co3 ty.inf3 rfl (row_map (by omega)))<|gT ?_
           refine⟨(_,_,_,_,_,_,_,_),⟨by assumption,by first|assumption|exact BookWf.nums (by assumption)|exact BookWf.loc (by assumption) _ (by assumption)|exact BookWf.key (by assumption) _ (by assumption)|exact BookWf.to (by assumption) _|exact BookWf.score (by assumption) _ (by assumption)|exact BookWf.swap (by assumption) _⟩,trivial,⟨rfl,rfl,(Eq.trans (b:=AO.arr 57 7 ((rowsOf encChan (lJ19)).set 0 ((encChan { lJ19[0]with score:=n11 }).map PV.v))) rfl (congrArg (AO.arr 57 7) rows_set)),rfl,rfl,trivial⟩,rfl,rfl⟩
          ·intro h13
           refine aK<|gT ?_
           refine⟨(_,_,_,_,_,_,_,_),⟨by assumption,by first|assumption|exact BookWf.nums (by assumption)|exact BookWf.loc (by assumption) _ (by assumption)|exact BookWf.key (by assumption) _ (by assumption)|exact BookWf.to (by assumption) _|exact BookWf.score (by assumption) _ (by assumption)|exact BookWf.swap (by assumption) _⟩,trivial,⟨rfl,rfl,rfl,rfl,rfl,trivial⟩,rfl,rfl⟩
         ·intro h12
          refine lno Z<|lno Z<|lno Z<|lno Z<|lkZ Z<|nG<|aN Z<|aK<|gT ?_
          refine⟨(_,_,_,_,_,_,_,_),⟨by assumption,by first|assumption|exact BookWf.nums (by assumption)|exact BookWf.loc (by assumption) _ (by assumption)|exact BookWf.key (by assumption) _ (by assumption)|exact BookWf.to (by assumption) _|exact BookWf.score (by assumption) _ (by assumption)|exact BookWf.swap (by assumption) _⟩,trivial,⟨rfl,rfl,rfl,rfl,rfl,trivial⟩,rfl,rfl⟩
        ·intro ⟨iJ21,qJ21,aJ21,bJ21,cJ21,lJ21,xJ21,yJ21⟩ hJ21
         dsimp only
         obtain⟨hcJ21,hwJ21⟩:=hJ21
         simp only at hcJ21 hwJ21
         refine sL<|loX (.agg [vI _ _,vI _ _,vI _ _,.own _,.own _,.own _]) ty.kd27 Z<|lst (zB 2002 ty.co27 ty.inf27 Z) Z<|nG<|aR ?_
         refine end_xret ((ownB _ _ _)) ((0,curO g code _ _)::obB _ _ _) ?_ rfl ⟨rfl,rfl,rfl,rfl,trivial⟩
         exact⟨_,_,_,hcJ21,⟨_,_,_,_,_,_,hwJ21,rfl,rfl⟩,rfl⟩

theorem no_liveN{L:Nat→Prop}{ρ:Nat→Value}{b:Nat}(h:¬L b):¬live L ρ (ofO []) b:=by
 rintro(q|⟨_,q,_⟩)
 ·exact h q
 ·cases q
theorem GC.of_row{P:Program}{f:FuncId}{args:List AV}{x:AV}{R:World→Nat→Value→Prop}
 (ho:∀ {L:Nat→Prop} {ρ:Nat→Value} {w:World} {lo:Nat} {v:Value},(∀b,L b→b<lo)→R w lo v→RV L ρ (ofO []) w x v)
 (h:∀(L:Nat→Prop) (ρ:Nat→Value) (w:World) (cs:List Value),RVL L ρ (ofO []) w args cs→Calls P f cs.toArray w fun e w'=>∃v,e=.returned v∧Grow w w'∧R w' w.heap.size v):GC P f args [] x []:=by
 intro L w cs ρ fp hL hargs hob hdj hLf
 refine Calls.mono (h L ρ w cs hargs) ?_
 rintro e w' ⟨v,rfl,g,hR⟩
 refine⟨x,[],⟨rfl,rfl⟩,v,ρ,fun _=>[],rfl,⟨g.below.os,g.below.tape,g.below.output,g.size,fun b hb _=>g.below.block b hb,fun b o hb hlt=>?_⟩,ho hL hR,fun i=>rfl,by simp,by simp⟩
 rcases hb with⟨i,hi⟩|hb
 ·have:=(hob i).only hi
  cases this.1
 ·exact g.nf b o hb hlt
def RowN{α:Type}(sz:Nat)(rep:World→Nat→Nat→List Value→α→Prop)(xs:List α)(w:World)(lo:Nat)(v:Value):Prop:=SlR sz rep w lo w.heap.size v xs
theorem RowN.rv{α:Type}{enc:α→List Value}{e:TypeId}{sz:Nat}{rep:World→Nat→Nat→List Value→α→Prop}{xs:List α}(hrep:∀w lo hi cs x,rep w lo hi cs x→cs=enc x)(hs:∀x,(enc x).length=sz)(h1:∀x,∀u∈enc x,u.oneCell'=true)
 {L:Nat→Prop} {ρ:Nat→Value} {w:World} {lo:Nat} {v:Value} (hL:∀b,L b→b<lo) (h:RowN sz rep xs w lo v):RV L ρ (ofO []) w (.p (.lst e sz (rowsOf enc xs))) v:=
 RV.of_slr h (fun _ _ q=>hrep _ _ _ _ _ q) hs h1 (Nat.le_refl _) (fun b q _=>no_liveN fun z=>by have:=hL b z;omega)
theorem GC.of_slb{α:Type}{P:Program}{f:FuncId}{args:List AV}{enc:α→List Value}{e:TypeId}{sz:Nat}{rep:World→Nat→Nat→List Value→α→Prop}{xs:List α}{b:Bool}(hrep:∀w lo hi cs x,rep w lo hi cs x→cs=enc x)(hs:∀x,(enc x).length=sz)(h1:∀x,∀u∈enc x,u.oneCell'=true)
 (h:∀(L:Nat→Prop) (ρ:Nat→Value) (w:World) (cs:List Value),RVL L ρ (ofO []) w args cs→Calls P f cs.toArray w fun en w'=>∃v,en=.returned (.tuple #[v,.bool b])∧Grow w w'∧RowN sz rep xs w' w.heap.size v):GC P f args [] (.tup [.p (.lst e sz (rowsOf enc xs)),boo b]) []:=
 GC.of_row (R:=fun w lo u=>∃v,u=.tuple #[v,.bool b]∧RowN sz rep xs w lo v) (fun hL ⟨v,e1,q⟩=>by
  rw[RV]
  exact⟨[v,.bool b],e1,v,[.bool b],rfl,q.rv hrep hs h1 hL,_,[],rfl,RV.v_mk rfl,rfl⟩) fun L ρ w cs q=>Calls.mono (h L ρ w cs q) fun en w' ⟨v,e1,g,r⟩=>⟨_,e1,g,v,rfl,r⟩
section
variable {L:Nat→Prop}{ρ:Nat→Value}{H:Nat→AO}{w:World}{S:Nat→Prop}
def Lie(L:Nat→Prop)(ρ:Nat→Value)(H:Nat→AO)(w:World)(S:Nat→Prop):Prop:=(∀id,∃f,OB L ρ H w (ρ id) f (H id)∧∀b∈f,S b)∧∀b,¬live L ρ H b→S b
theorem Lie.row(hl:Lie L ρ H w S){id:Nat}{e:Pin}{sz:Nat}{rows rows':List (List PV)}(hH:H id=.arr e sz rows)(h:∀ {xs fp},RWR w false sz rows xs fp→(∀b∈fp,S b)→∃g,RWR w false sz rows' xs g∧∀b∈g,S b)(hlen:rows'.length=rows.length) :
 ∃g,RW w false (.lst e.ty sz rows') (ρ id) g∧∀b∈g,S b:=by
 obtain⟨f,ho,hf⟩:=hl.1 id
 rw[hH]at ho
 obtain⟨xs,fr,b1,b2,b3,b4,b5⟩:=ho
 obtain⟨g,k1,k2⟩:=h b1 (fun b hb=>hl.2 b (b2 b hb))
 rcases b3.2 with⟨q,q2⟩|⟨gb,cap,cur,q,_,hg,hnc,hcm,_⟩
 ·refine⟨[]++g,?_,fun b hb=>k2 b (by simpa using hb)⟩
  rw[RW]
  refine⟨xs,[],g,k1,?_,rfl⟩
  unfold SlAt
  simp only[Bool.false_eq_true,if_false]
  exact⟨none,0,by rw[q,hlen,q2],by omega,by simp[maxLen],.inl ⟨by omega,trivial⟩⟩
 ·have b3':=b3
  rw[q]at b3'
  refine⟨[gb]++g,?_,fun b hb=>?_⟩
  ·rw[RW]
   refine⟨xs,[gb],g,k1,?_,rfl⟩
   unfold SlAt
   simp only[Bool.false_eq_true,if_false]
   exact⟨_,cap,by rw[q,hlen],by omega,hcm,.inr ⟨gb,0,rfl,cellsAt_of_own b3',(Array.getElem?_eq_some_iff.1 hg).1,rfl⟩⟩
  ·rcases List.mem_append.1 hb with hb|hb
   ·refine hf b ?_
    rw[List.mem_singleton.1 hb,b4,q]
    simp[Value.ownBlock]
   ·exact k2 b hb
theorem Lie.self(hl:Lie L ρ H w S){id:Nat}{e:Pin}{sz:Nat}{rows:List (List PV)}(hH:H id=.arr e sz rows):∃g,RW w false (.lst e.ty sz rows) (ρ id) g∧∀b∈g,S b:=hl.row hH (fun h hs=>⟨_,h,hs⟩) rfl
theorem RWL.deepS(hl:Lie L ρ H w S):∀ {x y:List PV} {c:List Value} {fp:List Nat},All2 (dpC H) x y→RWL w false x c fp→(∀b∈fp,S b)→∃fp',RWL w false y c fp'∧∀b∈fp',S b
 |_,_,c,fp,.nil,h,hs=>⟨fp,h,hs⟩
 |_,_,c,fp,.cons h1 h2,h,hs=>by
  rw[RWL]at h
  obtain⟨c,r,f1,f2,rfl,rfl,k1,k2⟩:=h
  obtain⟨g2,k3,k4⟩:=RWL.deepS hl h2 k2 (fun b hb=>hs b (List.mem_append_right _ hb))
  rcases h1 with rfl|⟨v,m,e,sz,rows,rfl,hm,rfl⟩
  ·refine⟨f1++g2,by rw[RWL];exact⟨c,r,f1,g2,rfl,rfl,k1,k3⟩,fun b hb=>?_⟩
   rcases List.mem_append.1 hb with q|q
   ·exact hs b (List.mem_append_left _ q)
   ·exact k4 b q
  ·obtain⟨g1,k5,k6⟩:=hl.self hm
   have hv:ρ m=v:=by
    obtain⟨f,ho,_⟩:=hl.1 m
    rw[hm]at ho
    obtain⟨_,_,_,_,_,_,k⟩:=ho
    exact k v rfl
   rw[RW]at k1
   rw[k1.1,←hv]
   refine⟨g1++g2,by rw[RWL];exact⟨ρ m,r,g1,g2,rfl,rfl,k5,k3⟩,fun b hb=>?_⟩
   rcases List.mem_append.1 hb with q|q
   ·exact k6 b q
   ·exact k4 b q
theorem RWR.deepS(hl:Lie L ρ H w S){sz:Nat}:∀ {x y:List (List PV)} {c:List Value} {fp:List Nat},All2 (All2 (dpC H)) x y→RWR w false sz x c fp→(∀b∈fp,S b)→∃fp',RWR w false sz y c fp'∧∀b∈fp',S b
 |_,_,c,fp,.nil,h,hs=>⟨fp,h,hs⟩
 |_,_,c,fp,.cons h1 h2,h,hs=>by
  rw[RWR]at h
  obtain⟨hn,c,r,f1,f2,rfl,rfl,k1,k2⟩:=h
  obtain⟨g1,k3,k5⟩:=RWL.deepS hl h1 k1 (fun b hb=>hs b (List.mem_append_left _ hb))
  obtain⟨g2,k4,k6⟩:=RWR.deepS hl h2 k2 (fun b hb=>hs b (List.mem_append_right _ hb))
  refine⟨g1++g2,by rw[RWR];exact⟨by rw[←h1.len];exact hn,c,r,g1,g2,rfl,rfl,k3,k4⟩,fun b hb=>?_⟩
  rcases List.mem_append.1 hb with q|q
  ·exact k5 b q
  ·exact k6 b q
end
structure Still(H:Nat→AO)(x y:AV):Prop where
 to:∀ {L:Nat→Prop} {ρ:Nat→Value} {w:World} {c:Value},Lie L ρ H w (fun b=>¬L b)→RV L ρ H w x c→RV L ρ (ofO []) w y c
theorem Still.p{H:Nat→AO}(x:PV):Still H (.p x) (.p x):=.mk fun{L ρ w c} hl h=>by
 rw[RV]at *
 obtain⟨fp,h1,h2⟩:=h
 exact⟨fp,h1,fun b hb=>no_liveN (hl.2 b (h2 b hb))⟩
theorem Still.own{H:Nat→AO}{id:Nat}{e:Pin}{sz:Nat}{rows rows':List (List PV)}(hH:H id=.arr e sz rows)(h:All2 (All2 (dpC H)) rows rows'):Still H (.own id) (.p (.lst e.ty sz rows')):=.mk fun{L ρ w c} hl hx=>by
 rw[RV]at hx
 have hc:=hx.2 (by rw[hH];rfl)
 obtain⟨g,k1,k2⟩:=hl.row hH (fun q hs=>RWR.deepS hl h q hs) h.len.symm
 rw[hc,RV]
 exact⟨g,k1,fun b hb=>no_liveN (k2 b hb)⟩
theorem Still.row{H:Nat→AO}{id:Nat}{e:Pin}{sz:Nat}{rows:List (List PV)}(hH:H id=.arr e sz rows):Still H (.own id) (.p (.lst e.ty sz rows)):=.mk fun{L ρ w c} hl hx=>by
 rw[RV]at hx
 have hc:=hx.2 (by rw[hH];rfl)
 obtain⟨g,k1,k2⟩:=hl.self hH
 rw[hc,RV]
 exact⟨g,k1,fun b hb=>no_liveN (k2 b hb)⟩
theorem RVL.still{H:Nat→AO}{L:Nat→Prop}{ρ:Nat→Value}{w:World}(hl:Lie L ρ H w (fun b=>¬L b)):∀ {l m:List AV} {cs:List Value},All2 (Still H) l m→RVL L ρ H w l cs→RVL L ρ (ofO []) w m cs
 |_,_,cs,.nil,h=>by rw[RVL]at *;exact h
 |_,_,cs,.cons h1 h2,h=>by
  rw[RVL]at *
  obtain⟨c,r,rfl,k1,k2⟩:=h
  exact⟨c,r,rfl,h1.to hl k1,RVL.still hl h2 k2⟩
theorem Still.agg{H:Nat→AO}{l m:List AV}(h:All2 (Still H) l m):Still H (.agg l) (.agg m):=.mk fun hl hx=>by
 rw[RV]at *
 obtain⟨cs,rfl,h1⟩:=hx
 exact⟨cs,rfl,RVL.still hl h h1⟩
theorem Still.tup{H:Nat→AO}{l m:List AV}(h:All2 (Still H) l m):Still H (.tup l) (.tup m):=.mk fun hl hx=>by
 rw[RV]at *
 obtain⟨cs,rfl,h1⟩:=hx
 exact⟨cs,rfl,RVL.still hl h h1⟩
theorem GX.frozen{P:Program}{f:FuncId}{args:List AV}{R:AV→List (Nat×AO)→Prop}{Z:AV→Prop}(h:GX P f args [] R)(hR:∀x ob1,R x ob1→∃y,Still (ofO ob1) x y∧Z y):GX P f args [] fun y ob=>ob=[]∧Z y:=fun L w cs ρ fp h1 h2 h3 h4 h5=>
 Calls.mono (h L w cs ρ fp h1 h2 h3 h4 h5) fun e w' ⟨x,ob1,q,v,ρ',fp',q1,q2,q3,q4,q5,q6⟩=>by
  obtain⟨y,hy,hz⟩:=hR x ob1 q
  have hl:Lie L ρ' (ofO ob1) w' (fun b=>¬L b):=⟨fun id=>⟨fp' id,q4 id,fun b hb=>(q6 id b hb).2⟩,fun b hb=>fun z=>hb (.inl z)⟩
  exact⟨y,[],⟨rfl,hz⟩,v,ρ',fun _=>[],q1,q2,hy.to hl q3,fun i=>rfl,by simp,by simp⟩

section
variable {P:Program}
variable {o:Oper}{τ:Nat→AV}{H:Nat→AO}{X:Nat→Bool}
end
section
variable {P:Program}{L O:Nat→Prop}{w0:World}{N:Nat}{ops:Array Oper}{F:List Nat}{n:Nat}{listed:Array Bool}{o:Oper}{τ:Nat→AV}{H:Nat→AO}{Q:AQ}
theorem AF1.stx{i:Nat}{E:List Nat}{Z:(Nat→AV)→(Nat→AO)→Prop}(ho:ops[i]? = some o)(hs:StX P o N τ H E Z)(hF:F.contains i=true∨E=[])(hg:gv τ ops o=some true)
 (h:∀τ' H',Z τ' H'→AF P L O w0 N ops F n (listed.setIfInBounds i true) τ' H' Q):AF1 P L O w0 N ops F n listed i τ H Q:=fun ρ fp a w hrr=>
 wpOp_step ho fun K hK=>by
  rw[hrr.wanted hg,if_pos rfl]
  exact hs.run hrr (fun τ' H' a' w' ρ' fp' hz hr' hmv=>hK _ _ ⟨keepA_of hF hmv,h τ' H' hz ρ' fp' a' w' hr'⟩)
end

abbrev graphV(x:Graph):AV:=.agg [int x.n,.p (.lst 40 4 (rowsOf encEdge x.edges))]
abbrev intsV(l:List Int):AV:=.p (.lst 3 1 (rowsOf encInt l))
def GraphWf(x:Graph):Prop:=∀e∈x.edges,wfEdge e
def IntsWf(l:List Int):Prop:=∀n∈l,i64 n
theorem slice_form{α:Type}{sz:Nat}{rep:World→Nat→Nat→List Value→α→Prop}{w:World}{lo hi:Nat}{v:Value}{xs:List α}(h:SlR sz rep w lo hi v xs):∃a c,v=.slice a xs.length c:=by
 obtain⟨a,c,rfl,_⟩:=h
 exact⟨a,c,rfl⟩
theorem graphArg{L:Nat→Prop}{ρ:Nat→Value}{H:Nat→AO}{x:Graph}{w:World}{c:Value}(h:RV L ρ H w (graphV x) c)(hw:GraphWf x) :
 ∃a0 c0,c=.agg #[.int .i64 x.n,.slice a0 x.edges.length c0]∧SlR 4 repEdge w 0 w.heap.size (.slice a0 x.edges.length c0) x.edges:=by
 unfold graphV at h
 rw[RV]at h
 obtain⟨cs,rfl,h⟩:=h
 simp only[RVL]at h
 obtain⟨v0,r0,rfl,h0,v3,r3,rfl,h3,rfl⟩:=h
 have s3:=h3.slr (rep:=repEdge) (fun x=>rfl) (fun c hc=>⟨rfl,hw c hc⟩)
 obtain⟨a0,c0,rfl⟩:=slice_form s3
 exact⟨a0,c0,by rw[h0.v_eq],s3⟩
theorem args1{L:Nat→Prop}{ρ:Nat→Value}{H:Nat→AO}{w:World}{x:AV}{cs:List Value}(h:RVL L ρ H w [x] cs):∃c,cs=[c]∧RV L ρ H w x c:=by
 simp only[RVL]at h
 obtain⟨c,r,rfl,h1,rfl⟩:=h
 exact⟨c,rfl,h1⟩
theorem args2{L:Nat→Prop}{ρ:Nat→Value}{H:Nat→AO}{w:World}{x y:AV}{cs:List Value}(h:RVL L ρ H w [x,y] cs):∃c d,cs=[c,d]∧RV L ρ H w x c∧RV L ρ H w y d:=by
 simp only[RVL]at h
 obtain⟨c,r,rfl,h1,d,r',rfl,h2,rfl⟩:=h
 exact⟨c,d,rfl,h1,h2⟩
theorem args3{L:Nat→Prop}{ρ:Nat→Value}{H:Nat→AO}{w:World}{x y z:AV}{cs:List Value}(h:RVL L ρ H w [x,y,z] cs):∃c d e,cs=[c,d,e]∧RV L ρ H w x c∧RV L ρ H w y d∧RV L ρ H w z e:=by
 simp only[RVL]at h
 obtain⟨c,r,rfl,h1,d,r',rfl,h2,e,r2,rfl,h3,rfl⟩:=h
 exact⟨c,d,e,rfl,h1,h2,h3⟩
theorem GC.told{P:Program}{f:FuncId}{args:List AV}{x:AV}{r:Value}(hx:valA x=some r)(ho:∀ {L:Nat→Prop} {ρ:Nat→Value} {w:World},RV L ρ (ofO []) w x r)
 (h:∀(L:Nat→Prop) (ρ:Nat→Value) (w:World) (cs:List Value),RVL L ρ (ofO []) w args cs→Calls P f cs.toArray w fun e w'=>e=.returned r∧Grow w w'):GC P f args [] x []:=GC.of_calls hx ho h
section
variable (x:Graph)(f r:List Int)(hw:GraphWf x)(hf:IntsWf f)
theorem repInt_enc:∀w lo hi cs x,repInt w lo hi cs x→cs=encInt x:=fun _ _ _ _ _ h=>h.1
theorem encInt_one:∀x,∀u∈encInt x,u.oneCell'=true:=fun x u hu=>by simp[encInt]at hu;subst hu;rfl
theorem cheap_e(hw:GraphWf x):GC Try.prog 11 [graphV x] [] (.tup [intsV (cheapL x),boo (cheapOk x)]) []:=GC.of_slb repInt_enc (fun _=>rfl) encInt_one fun L ρ w cs h=>by
 obtain⟨c,rfl,hc⟩:=args1 h
 obtain⟨a0,c0,rfl,s0⟩:=graphArg hc hw
 exact(impl_Cheapest_c x _ _ w s0).mono fun e w' ⟨a,c,e1,g,s⟩=>⟨_,e1,g,s⟩
theorem scheap_e(hw:GraphWf x):GC Try.prog 13 [graphV x] [] (.tup [intsV (cheapL x),boo (cheapOk x)]) []:=GC.of_slb repInt_enc (fun _=>rfl) encInt_one fun L ρ w cs h=>by
 obtain⟨c,rfl,hc⟩:=args1 h
 obtain⟨a0,c0,rfl,s0⟩:=graphArg hc hw
 exact(spec_Cheapest_c x _ _ w s0).mono fun e w' ⟨a,c,e1,g,s⟩=>⟨_,e1,g,s⟩
end

abbrev pricesV(l:List Price):AV:=.p (.lst 50 3 (rowsOf encPrice l))
abbrev movesV(l:List Move):AV:=.p (.lst 52 4 (rowsOf encMove l))
def PricesWf(l:List Price):Prop:=∀p∈l,wfPrice p
theorem pricesArg{L:Nat→Prop}{ρ:Nat→Value}{H:Nat→AO}{l:List Price}{w:World}{c:Value}(h:RV L ρ H w (pricesV l) c)(hw:PricesWf l) :
 ∃a0 c0,c=.slice a0 l.length c0∧SlR 3 repPrice w 0 w.heap.size (.slice a0 l.length c0) l:=by
 have s3:=h.slr (rep:=repPrice) (fun x=>rfl) (fun c hc=>⟨rfl,hw c hc⟩)
 obtain⟨a0,c0,rfl⟩:=slice_form s3
 exact⟨a0,c0,rfl,s3⟩
abbrev chnV(c:Chan):AV:=.agg [int c.id,int c.size,int c.loc,int c.remote,int c.base,int c.ppm,int c.score]
theorem chArg{L:Nat→Prop}{ρ:Nat→Value}{H:Nat→AO}{c:Chan}{w:World}{v:Value}(h:RV L ρ H w (chnV c) v):v=.agg #[.int .i64 c.id,.int .i64 c.size,.int .i64 c.loc,.int .i64 c.remote,.int .i64 c.base,.int .i64 c.ppm,.int .i64 c.score]:=by
 unfold chnV at h
 rw[RV]at h
 obtain⟨cs,rfl,h⟩:=h
 simp only[RVL]at h
 obtain⟨v0,_,rfl,h0,v1,_,rfl,h1,v2,_,rfl,h2,v3,_,rfl,h3,v4,_,rfl,h4,v5,_,rfl,h5,v6,_,rfl,h6,rfl⟩:=h
 rw[h0.v_eq,h1.v_eq,h2.v_eq,h3.v_eq,h4.v_eq,h5.v_eq,h6.v_eq]
section
variable (x:Book)(lo hi n:Int)(l:List Price)(c:Chan)
theorem pricesOk_e(hw:BookWf x)(hl:PricesWf l)(hn:l.length≤1048576):GC Try.prog 14 [bookV x,pricesV l] [] (boo (pricesOk x l)) []:=GC.told rfl (RV.v_mk rfl) fun L ρ w cs h=>by
 obtain⟨a,e,rfl,ha,he⟩:=args2 h
 obtain⟨a0,c0,a1,c1,a2,c2,rfl,s0,s1,s2⟩:=bookArg ha hw
 obtain⟨a3,c3,rfl,s3⟩:=pricesArg he hl
 exact impl_PricesOk_c x _ _ _ _ _ _ l _ _ w s0 s1 s2 s3 hw.len hn
theorem spricesOk_e(hw:BookWf x)(hl:PricesWf l)(hn:l.length≤1048576):GC Try.prog 25 [bookV x,pricesV l] [] (boo (pricesOk x l)) []:=GC.told rfl (RV.v_mk rfl) fun L ρ w cs h=>by
 obtain⟨a,e,rfl,ha,he⟩:=args2 h
 obtain⟨a0,c0,a1,c1,a2,c2,rfl,s0,s1,s2⟩:=bookArg ha hw
 obtain⟨a3,c3,rfl,s3⟩:=pricesArg he hl
 exact spec_PricesOk_c x _ _ _ _ _ _ l _ _ w s0 s1 s2 s3 hw.len hn
theorem band_e:GC Try.prog 15 [int lo,int hi] [] (boo (band lo hi)) []:=GC.told rfl (RV.v_mk rfl) fun L ρ w cs h=>by
 obtain⟨a,b,rfl,ha,hb⟩:=args2 h
 rw[ha.v_eq,hb.v_eq]
 exact(impl_isBand_c lo hi w).mono fun e w' h=>⟨h.1,h.2▸Grow.refl _⟩
theorem sband_e:GC Try.prog 26 [int lo,int hi] [] (boo (band lo hi)) []:=GC.told rfl (RV.v_mk rfl) fun L ρ w cs h=>by
 obtain⟨a,b,rfl,ha,hb⟩:=args2 h
 rw[ha.v_eq,hb.v_eq]
 exact(spec_Band_c lo hi w).mono fun e w' h=>⟨h.1,h.2▸Grow.refl _⟩
theorem inb_e:GC Try.prog 16 [int n,int lo,int hi] [] (boo (inB n lo hi)) []:=GC.told rfl (RV.v_mk rfl) fun L ρ w cs h=>by
 obtain⟨a,b,c,rfl,ha,hb,hc⟩:=args3 h
 rw[ha.v_eq,hb.v_eq,hc.v_eq]
 exact(in_c n lo hi w).mono fun e w' h=>⟨h.1,h.2▸Grow.refl _⟩
theorem clamp_e:GC Try.prog 48 [int n,int lo,int hi] [] (int (clamp n lo hi)) []:=GC.told rfl (RV.v_mk rfl) fun L ρ w cs h=>by
 obtain⟨a,b,c,rfl,ha,hb,hc⟩:=args3 h
 rw[ha.v_eq,hb.v_eq,hc.v_eq]
 exact(spec_Clamp_c n lo hi w).mono fun e w' h=>⟨h.1,h.2▸Grow.refl _⟩
theorem rv_two{L:Nat→Prop}{ρ:Nat→Value}{H:Nat→AO}{w:World}{a b:Int}:RV L ρ H w (.tup [int a,int b]) (.tuple #[.int .i64 a,.int .i64 b]):=by
 rw[RV]
 refine⟨[.int .i64 a,.int .i64 b],rfl,?_⟩
 simp only[RVL]
 exact⟨_,_,rfl,RV.v_mk rfl,_,_,rfl,RV.v_mk rfl,rfl⟩
theorem ends_e:GC Try.prog 17 [chnV c,int lo,int hi] [] (.tup [int (ends1 c.size lo hi),int (ends2 c.size lo hi)]) []:=GC.of_old (r:=.tuple #[.int .i64 (ends1 c.size lo hi),.int .i64 (ends2 c.size lo hi)]) rv_two fun L ρ w cs h=>by
 obtain⟨a,b,d,rfl,ha,hb,hd⟩:=args3 h
 rw[chArg ha,hb.v_eq,hd.v_eq]
 exact impl_Ends_c c lo hi w
theorem sends_e:GC Try.prog 27 [chnV c,int lo,int hi] [] (.tup [int (ends1 c.size lo hi),int (ends2 c.size lo hi)]) []:=GC.of_old (r:=.tuple #[.int .i64 (ends1 c.size lo hi),.int .i64 (ends2 c.size lo hi)]) rv_two fun L ρ w cs h=>by
 obtain⟨a,b,d,rfl,ha,hb,hd⟩:=args3 h
 rw[chArg ha,hb.v_eq,hd.v_eq]
 exact spec_Ends_c c lo hi w
theorem movesCost_e(m:List Move)(hm:∀y∈m,wfMove y):GC Try.prog 8 [movesV m] [] (int (movesCost m)) []:=GC.told rfl (RV.v_mk rfl) fun L ρ w cs h=>by
 obtain⟨c,rfl,hc⟩:=args1 h
 have s3:=hc.slr (rep:=repMove) (fun x=>rfl) (fun c hc=>⟨rfl,hm c hc⟩)
 obtain⟨a0,c0,rfl⟩:=slice_form s3
 have s4:SlR 4 repMove w 0 w.heap.size (.slice a0 m.length c0) m:=s3
 exact impl_MovesCost_c m _ _ w s4
end
end Go.Proofs.Ytnlpbgljaecdmaa

