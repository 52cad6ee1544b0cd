/- Texts of the proof of FnForward, joined: EN1, BkOk, BkStep, BkStep2, BkStep3, BkStep4, PoOk, SzOk, ED6, BalW. -/
import Derived.Test.YtogkbcmfoalpiaaGreatJForward10
import Derived.Test.YtogkbcmfoalpiaaGreatJForward4
namespace Go.Proofs.YtogkbcmfoalpiaaGreat
open Go.RowKit
set_option maxHeartbeats 16000000
set_option maxRecDepth 100000
set_option linter.unusedSimpArgs false
set_option linter.unusedVariables false
def allA(x:Book)(es:List Event):AllS:=if bookOk x=true then allS x es else ⟨zeroBook,[],[]⟩
theorem allA_ok{x:Book}{es:List Event}(h:bookOk x=true):allA x es=allS x es:=if_pos h
theorem allA_no{x:Book}{es:List Event}(h:bookOk x=false):allA x es=⟨zeroBook,[],[]⟩:=if_neg (by simp[h])
abbrev nAr(l:List Int):AO:=.arr 3 1 (rowsOf encKey l)
abbrev bBox(x:Book):AO:=.box 27 none [int x.tick,int x.next,int x.wallet,.own 1,.own 2,.own 3]
abbrev allOb(r:AllS)(vs:List Value):List (Nat×AO):=[(1,.arr 40 7 (rowsOf encChan r.now.chans)),(2,hAr r.now.htlcs),(3,iAr r.now.circles),(14,.arr 34 2 (rowsV vs r.ps)),(15,nAr r.codes)]
abbrev allV(r:AllS):AV:=.tup [.agg [int r.now.tick,int r.now.next,int r.now.wallet,.own 1,.own 2,.own 3],.own 14,.own 15]
def allRel(r:AllS):AV→List (Nat×AO)→List AO→Prop:=fun y l1 F1=>∃vs:List Value,vs.length=r.ps.length∧y=allV r∧l1=allOb r vs∧F1=famP vs r.ps
theorem sapplyAll_e(x:Book)(es:List Event)(hw:BookWf x)(we:∀e∈es,wfEvent e)(hm:es.length≤1048576):GN Tryz.prog 87 [bookV x,.p (.lst 29 7 (rowsOf encEvent es))] [] ([]) (allRel (allA x es)):=by
 refine GN.intro (rs:=[.cell 4 27 (some 6),.tmp 5,.tmp 6]) Tryz.func87 rfl Tryz.ntmps87 (Nat.le_of_ble_eq_true rfl) ⟨rfl,rfl,ty.kd27,rfl,rfl,trivial⟩ rfl ?_
 intro L O w0
 refine sL<|lst (zX 2002 Z) Z<|lst (zA 2004 ty.ze27 Z) Z<|laV Z<|laV Z<|nG<|aS<|sL<|loX (.agg [vI _ _,vI _ _,vI _ _,vL _ _ _,vL _ _ _,vL _ _ _]) ty.kd27 Z<|lst (zL Tryz.func22 (spec_BookOk_e x hw) Z) Z<|luB Z<|nG ?_
 refine AW.cond rfl ?_ ?_
 ·intro h1
  refine sL<|lq (rd (x:=.agg [vI _ _,vI _ _,vI _ _,vV _,vV _,vV _]) (rd_build Z ty.sa27 Z Z Z) Z)<|lst (zB 2004 ty.co27 ty.inf27 Z) Z<|laV Z<|laV Z<|nG ?_
  refine AW.adoptB 1 2004 3 40 7 rfl (by decide) rfl ?_
  refine AW.adoptB 2 2004 4 68 7 rfl (by decide) rfl ?_
  refine AW.adoptB 3 2004 5 78 5 rfl (by decide) rfl ?_
  refine AW.adoptT 14 5 34 2 rfl ?_
  refine AW.adoptT 15 6 3 1 rfl ?_
  refine aR<|rT ?_
  have hbk:bookOk x=false:=by simpa using h1
  rw[allA_no hbk]
  refine end_nret (F1:=[]) (allV ⟨zeroBook,[],[]⟩) (allOb ⟨zeroBook,[],[]⟩ []) ?_ (by simp) rfl rfl ⟨rfl,rfl,rfl,rfl,rfl,trivial⟩ tlp
  exact⟨[],rfl,rfl,rfl,rfl⟩
 ·intro h1
  refine aK<|gT<|aS ?_
  have hbk:bookOk x=true:=by simpa using h1
  have fi:=bookOk_fi hbk
  have sm:=fi.sm
  have hw0:=allS_wf hw we
  refine aL<|loX (.agg [vI _ _,vI _ _,vI _ _,vL _ _ _,vL _ _ _,vL _ _ _]) ty.kd27 Z<|lst (zC [(2003,1),(2008,2),(2013,3)] [1,2,3] [] Tryz.func50 (scopy_e x (by have:=sm.lc;have:=sm.lh;have:=sm.li;omega)) (trivial) rfl rfl) Z<|lst (zA 2007 ty.ze27 rfl) rfl ?_
  refine lTt ([]) [1,4,5,6,7,20] [1,2,3,2002,2004,2007] ?_
  refine lst (zB 2007 ty.co27 ty.inf27 rfl) Z<|nA<|lst (zS 14 [] ty.el49 ty.ze34 rfl (by simp)) Z<|laO Z<|nA<|lst (zS 15 [] ty.el50 ty.ze3 rfl (by simp)) Z<|laO Z<|nG<|aS<|sL<|lmL Z<|lnI ty.sl44 Z<|lmI Z<|nG<|aB ?_
  refine AW.loopT (D:=Nat×List Value) [(4,.ptr 2004 _ 0),(5,vV _),(6,vV _),(7,.ptr 2007 _ 0),(8,.own _),(9,.own _),(23,vL _ _ _),(24,vI _ _)] [(2002,.box _ _ [vI _ _,vI _ _,vI _ _,vL _ _ _,vL _ _ _,vL _ _ _]),(2004,.box _ _ [vI _ _,vI _ _,vI _ _,vV _,vV _,vV _])] (fun d=>[(25,int (d.1:Int))]) (fun d=>[(2007,bBox (allS x (es.take d.1)).now),(1,.arr 40 7 (rowsOf encChan (allS x (es.take d.1)).now.chans)),(2,hAr (allS x (es.take d.1)).now.htlcs),(3,iAr (allS x (es.take d.1)).now.circles),(14,.arr 34 2 (rowsV d.2 (allS x (es.take d.1)).ps)),(15,nAr (allS x (es.take d.1)).codes)]) (fun d=>famP d.2 (allS x (es.take d.1)).ps) (fun d=>d.1≤es.length∧d.2.length=(allS x (es.take d.1)).ps.length) (fun d=>es.length-d.1) ((0,[])) (⟨Nat.zero_le _,by rw[List.take_zero];rfl⟩) ⟨rfl,trivial⟩ ⟨(by rw[List.take_zero];rfl),(by rw[List.take_zero];rfl),(by rw[List.take_zero];rfl),(by rw[List.take_zero];rfl),(by rw[List.take_zero];rfl),(by rw[List.take_zero];rfl),trivial⟩ ⟨rfl,rfl,rfl,rfl,rfl,rfl,rfl,rfl,trivial⟩ ⟨rfl,rfl,trivial⟩ (by rw[List.take_zero];exact tlp) ?_
  intro ⟨k,vs⟩ hI
  obtain⟨hkl,hvl⟩:=hI
  replace hkl:k≤es.length:=hkl
  replace hvl:vs.length=(allS x (es.take k)).ps.length:=hvl
  have hfr:rowF (famP vs (allS x (es.take k)).ps):=famP_row
  refine sL<|lbB Z<|nG<|aS ?_
  refine AW.cond rfl ?_ ?_
  ·intro h2
   refine aK<|gT<|aS<|aB<|sL ?_
   have hk:k<es.length:=by simpa[length_rowsOf]using h2
   have hwk:=hw0 k hkl
   have hlc:=allS_codes (x:=x) k hkl
   have hlp:=allS_ps (x:=x) k hkl
   refine li k ty.el44 Z (row_map hk)<|lrX (.agg [vI _ _,vI _ _,vI _ _,vI _ _,vI _ _,vI _ _,vB _]) ty.kd29 Z<|lst (zA 2011 ty.ze29 Z) Z<|lst (zB 2011 ty.co29 ty.inf29 Z) Z<|nG<|aS ?_
   refine AW.pinA 1 rfl ?_
   intro u1
   refine AW.pinA 2 rfl ?_
   intro u2
   refine AW.pinA 3 rfl ?_
   intro u3
   refine aL<|loX (.agg [vI _ _,vI _ _,vI _ _,.own _,.own _,.own _]) ty.kd27 Z<|loX (.agg [vI _ _,vI _ _,vI _ _,vI _ _,vI _ _,vI _ _,vB _]) ty.kd29 Z ?_
   refine lst (zC [(1,1),(2,2),(3,3),(11,61),(12,62),(13,63),(14,64)] [61,62,63,64] [1,2,3] Tryz.func10 (lentBk (sapply_g _ es[k] hwk)) (⟨stays.arr rfl,stays.arr rfl,stays.arr rfl,trivial⟩) rfl rfl) rfl ?_
   refine lTt (famP vs (allS x (es.take k)).ps) [4,5,6,7,8,9,23,24,25,32] [1,2,3,14,15,61,62,63,64,2002,2004,2007,2011] ?_
   refine lmX (.tup [.agg [vI _ _,vI _ _,vI _ _,.own _,.own _,.own _],.agg [vI _ _,.own _],vI _ _]) Z<|lxX (.agg [vI _ _,vI _ _,vI _ _,.own _,.own _,.own _]) Z<|lxX (.agg [vI _ _,.own _]) Z<|lxI Z<|lst (zA 2012 ty.ze27 Z) Z<|lst (zA 2013 ty.ze34 Z) Z<|lst (zB 2012 ty.co27 ty.inf27 Z) Z<|lst (zB 2013 ty.co34 ty.inf34 Z) Z<|laI Z<|nG<|aS<|sL<|lmI Z<|lbB Z<|nG ?_
   refine AW.cond rfl ?_ ?_
   ·intro h3
    refine sL<|loX (.agg [vI _ _,vI _ _,vI _ _,.own _,.own _,.own _]) ty.kd27 Z<|lst (zB 2007 ty.co27 ty.inf27 Z) Z<|nA<|lf 0 ty.F34_0 Z<|loI ty.kd3 Z<|lbB Z<|nG ?_
    refine AW.cond rfl ?_ ?_
    ·intro h4
     refine aTt (famP vs (allS x (es.take k)).ps) [4,5,6,7,8,9,13,14,23,24,25] [1,2,3,14,15,61,62,63,64,2002,2004,2007,2011,2012,2013] ?_
     refine AW.pinA 64 rfl ?_
     intro u64
     refine aTt (famP vs (allS x (es.take k)).ps) [4,5,6,7,8,9,13,14,23,24,25] [1,2,3,14,15,61,62,63,64,2002,2004,2007,2011,2012,2013] ?_
     refine AW.absorb 64 rfl rfl famP_row ?_
     have hrf:rowF (famP vs (allS x (es.take k)).ps++[.arr ⟨120,some u64⟩ 3 (rowsOf encLine (appP (allS x (es.take k)).now es[k]).lines)]):=famP_row.app (fun o ho=>by rw[List.mem_singleton.1 ho];rfl)
     refine aL<|lmO Z<|loX (.agg [vI _ _,vV _]) ty.kd34 Z<|lst (zS 2044 [[.v (.int .i64 (appP (allS x (es.take k)).now es[k]).id),.v u64]] ty.el49 ty.ze34 rfl (by intro r hr;simp at hr;subst hr;rfl)) Z<|lst (zP 14 ty.el49 ty.ze34 ty.by34 rfl (Src.own rfl rfl) (by simp[rowsOf,rowsV_len hvl];omega)) Z<|laO Z<|nG<|aL<|lmO Z<|lmI Z<|lst (zS 2048 (rowsOf encKey [applyC (allS x (es.take k)).now es[k]]) ty.el50 ty.ze3 rfl) Z<|lst (zP 15 ty.el50 ty.ze3 ty.by3 rfl (Src.own rfl rfl) (by simp[rowsOf,rowsV_len hvl];omega)) Z<|laO Z<|lN<|gB<|gT ?_
     have hc0:applyC (allS x (es.take k)).now es[k]=0:=by simpa using h3
     refine AW.swap 61 1 ?_
     refine aTt ((famP vs (allS x (es.take k)).ps++[.arr ⟨120,some u64⟩ 3 (rowsOf encLine (appP (allS x (es.take k)).now es[k]).lines)])) [4,5,6,7,8,9,23,24,25] [1,2,3,14,15,61,62,63,2002,2004,2007,2011,2012,2013,2044,2048] ?_
     refine AW.swap 62 2 ?_
     refine aTt ((famP vs (allS x (es.take k)).ps++[.arr ⟨120,some u64⟩ 3 (rowsOf encLine (appP (allS x (es.take k)).now es[k]).lines)])) [4,5,6,7,8,9,23,24,25] [1,2,3,14,15,61,62,63,2002,2004,2007,2011,2012,2013,2044,2048] ?_
     refine AW.swap 63 3 ?_
     refine aTt ((famP vs (allS x (es.take k)).ps++[.arr ⟨120,some u64⟩ 3 (rowsOf encLine (appP (allS x (es.take k)).now es[k]).lines)])) [4,5,6,7,8,9,23,24,25] [1,2,3,14,15,61,62,63,2002,2004,2007,2011,2012,2013,2044,2048] ?_
     refine aTt ((famP vs (allS x (es.take k)).ps++[.arr ⟨120,some u64⟩ 3 (rowsOf encLine (appP (allS x (es.take k)).now es[k]).lines)])) [4,5,6,7,8,9,23,24,25] [1,2,3,14,15,2002,2004,2007,2011,2012,2013,2044,2048] ?_
     refine aL<|lgI Z<|lmI Z<|nG ?_
     have hn:(allF (allS x (es.take k)) es[k]).now=appB (allS x (es.take k)).now es[k]:=allF_ok hc0
     have hid:=appP_id hc0
     have hl0:(appP (allS x (es.take k)).now es[k]).lines≠[]:=by have h:=h4;rw[hid]at h;simpa using h
     have hp:(allF (allS x (es.take k)) es[k]).ps=(allS x (es.take k)).ps++[appP (allS x (es.take k)).now es[k]]:=allF_ps hc0 hl0
     refine⟨(k+1,vs++[u64]),⟨hk,(by rw[allS_succ hk,hp];simp;omega)⟩,by show es.length-(k+1)<es.length-k;omega,⟨(iq rfl),trivial⟩,⟨(Eq.trans (congrArg bBox hn.symm) (congrArg (fun s:AllS=>bBox s.now) (allS_succ hk).symm)),(Eq.trans (congrArg (fun b:Book=>AO.arr 40 7 (rowsOf encChan b.chans)) hn.symm) (congrArg (fun s:AllS=>AO.arr 40 7 (rowsOf encChan s.now.chans)) (allS_succ hk).symm)),(Eq.trans (congrArg (fun b:Book=>hAr b.htlcs) hn.symm) (congrArg (fun s:AllS=>hAr s.now.htlcs) (allS_succ hk).symm)),(Eq.trans (congrArg (fun b:Book=>iAr b.circles) hn.symm) (congrArg (fun s:AllS=>iAr s.now.circles) (allS_succ hk).symm)),(Eq.trans (congrArg (AO.arr 34 2) (show _=rowsV (vs++[u64]) (allF (allS x (es.take k)) es[k]).ps by rw[hp,rowsV_app hvl])) (congrArg (fun s:AllS=>AO.arr 34 2 (rowsV (vs++[u64]) s.ps)) (allS_succ hk).symm)),(Eq.trans (Eq.trans (b:=nAr ((allS x (es.take k)).codes++[applyC (allS x (es.take k)).now es[k]])) (congrArg (AO.arr 3 1) (rowsOf_app encKey _ [_]).symm) rfl) (congrArg (fun s:AllS=>nAr s.codes) (allS_succ hk).symm)),trivial⟩,⟨rfl,rfl,rfl,rfl,rfl,rfl,rfl,rfl,trivial⟩,⟨rfl,rfl,trivial⟩,(by rw[allS_succ hk,hp,famP_app hvl];exact tlp)⟩
    ·intro h4
     refine aK<|gT<|aL<|lmO Z<|lmI Z<|lst (zS 2048 (rowsOf encKey [applyC (allS x (es.take k)).now es[k]]) ty.el50 ty.ze3 rfl) Z<|lst (zP 15 ty.el50 ty.ze3 ty.by3 rfl (Src.own rfl rfl) (by simp[rowsOf,rowsV_len hvl];omega)) Z<|laO Z<|lN<|gB<|gT ?_
     have hc0:applyC (allS x (es.take k)).now es[k]=0:=by simpa using h3
     refine AW.swap 61 1 ?_
     refine aTt (famP vs (allS x (es.take k)).ps) [4,5,6,7,8,9,23,24,25] [1,2,3,14,15,61,62,63,64,2002,2004,2007,2011,2012,2013,2048] ?_
     refine AW.swap 62 2 ?_
     refine aTt (famP vs (allS x (es.take k)).ps) [4,5,6,7,8,9,23,24,25] [1,2,3,14,15,61,62,63,64,2002,2004,2007,2011,2012,2013,2048] ?_
     refine AW.swap 63 3 ?_
     refine aTt (famP vs (allS x (es.take k)).ps) [4,5,6,7,8,9,23,24,25] [1,2,3,14,15,61,62,63,64,2002,2004,2007,2011,2012,2013,2048] ?_
     refine aTt (famP vs (allS x (es.take k)).ps) [4,5,6,7,8,9,23,24,25] [1,2,3,14,15,2002,2004,2007,2011,2012,2013,2048] ?_
     refine aL<|lgI Z<|lmI Z<|nG ?_
     have hn:(allF (allS x (es.take k)) es[k]).now=appB (allS x (es.take k)).now es[k]:=allF_ok hc0
     have hid:=appP_id hc0
     have hl0:(appP (allS x (es.take k)).now es[k]).lines=[]:=by have h:=h4;rw[hid]at h;simpa using h
     have hp:(allF (allS x (es.take k)) es[k]).ps=(allS x (es.take k)).ps:=allF_ps2 hl0
     refine⟨(k+1,vs),⟨hk,(by rw[allS_succ hk,hp];exact hvl)⟩,by show es.length-(k+1)<es.length-k;omega,⟨(iq rfl),trivial⟩,⟨(Eq.trans (congrArg bBox hn.symm) (congrArg (fun s:AllS=>bBox s.now) (allS_succ hk).symm)),(Eq.trans (congrArg (fun b:Book=>AO.arr 40 7 (rowsOf encChan b.chans)) hn.symm) (congrArg (fun s:AllS=>AO.arr 40 7 (rowsOf encChan s.now.chans)) (allS_succ hk).symm)),(Eq.trans (congrArg (fun b:Book=>hAr b.htlcs) hn.symm) (congrArg (fun s:AllS=>hAr s.now.htlcs) (allS_succ hk).symm)),(Eq.trans (congrArg (fun b:Book=>iAr b.circles) hn.symm) (congrArg (fun s:AllS=>iAr s.now.circles) (allS_succ hk).symm)),(Eq.trans (congrArg (fun p=>AO.arr 34 2 (rowsV vs p)) hp.symm) (congrArg (fun s:AllS=>AO.arr 34 2 (rowsV vs s.ps)) (allS_succ hk).symm)),(Eq.trans (Eq.trans (b:=nAr ((allS x (es.take k)).codes++[applyC (allS x (es.take k)).now es[k]])) (congrArg (AO.arr 3 1) (rowsOf_app encKey _ [_]).symm) rfl) (congrArg (fun s:AllS=>nAr s.codes) (allS_succ hk).symm)),trivial⟩,⟨rfl,rfl,rfl,rfl,rfl,rfl,rfl,rfl,trivial⟩,⟨rfl,rfl,trivial⟩,(by rw[allS_succ hk,hp];exact tlp)⟩
   ·intro h3
    refine aK<|gT<|aL<|lmO Z<|lmI Z<|lst (zS 2048 (rowsOf encKey [applyC (allS x (es.take k)).now es[k]]) ty.el50 ty.ze3 rfl) Z<|lst (zP 15 ty.el50 ty.ze3 ty.by3 rfl (Src.own rfl rfl) (by simp[rowsOf,rowsV_len hvl];omega)) Z<|laO Z<|lN<|gB<|gT ?_
    have hc0:applyC (allS x (es.take k)).now es[k]≠0:=by simpa using h3
    refine AW.unpin 1 rfl ?_
    refine AW.unpin 2 rfl ?_
    refine AW.unpin 3 rfl ?_
    refine aTt (famP vs (allS x (es.take k)).ps) [4,5,6,7,8,9,23,24,25] [1,2,3,14,15,2002,2004,2007,2011,2012,2013,2048] ?_
    refine aL<|lgI Z<|lmI Z<|nG ?_
    have hn:(allF (allS x (es.take k)) es[k]).now=(allS x (es.take k)).now:=allF_no hc0
    have hp:(allF (allS x (es.take k)) es[k]).ps=(allS x (es.take k)).ps:=allF_ps1 hc0
    refine⟨(k+1,vs),⟨hk,(by rw[allS_succ hk,hp];exact hvl)⟩,by show es.length-(k+1)<es.length-k;omega,⟨(iq rfl),trivial⟩,⟨(Eq.trans (congrArg bBox hn.symm) (congrArg (fun s:AllS=>bBox s.now) (allS_succ hk).symm)),(Eq.trans (congrArg (fun b:Book=>AO.arr 40 7 (rowsOf encChan b.chans)) hn.symm) (congrArg (fun s:AllS=>AO.arr 40 7 (rowsOf encChan s.now.chans)) (allS_succ hk).symm)),(Eq.trans (congrArg (fun b:Book=>hAr b.htlcs) hn.symm) (congrArg (fun s:AllS=>hAr s.now.htlcs) (allS_succ hk).symm)),(Eq.trans (congrArg (fun b:Book=>iAr b.circles) hn.symm) (congrArg (fun s:AllS=>iAr s.now.circles) (allS_succ hk).symm)),(Eq.trans (congrArg (fun p=>AO.arr 34 2 (rowsV vs p)) hp.symm) (congrArg (fun s:AllS=>AO.arr 34 2 (rowsV vs s.ps)) (allS_succ hk).symm)),(Eq.trans (Eq.trans (b:=nAr ((allS x (es.take k)).codes++[applyC (allS x (es.take k)).now es[k]])) (congrArg (AO.arr 3 1) (rowsOf_app encKey _ [_]).symm) rfl) (congrArg (fun s:AllS=>nAr s.codes) (allS_succ hk).symm)),trivial⟩,⟨rfl,rfl,rfl,rfl,rfl,rfl,rfl,rfl,trivial⟩,⟨rfl,rfl,trivial⟩,(by rw[allS_succ hk,hp];exact tlp)⟩
  ·intro h2
   refine aE<|eT<|eT<|eB<|gA<|loX (.agg [vI _ _,vI _ _,vI _ _,.own _,.own _,.own _]) ty.kd27 Z<|lmO Z<|lmO Z<|lst (zB 2004 ty.co27 ty.inf27 Z) Z<|laO Z<|laO Z<|nG<|aR ?_
   have hke:k=es.length:=by have h:=h2;simp only[length_rowsOf,decide_eq_false_iff_not]at h;omega
   subst hke
   rw[allA_ok hbk]
   rw[List.take_length]at hvl hfr
   have hlp:=allS_ps (x:=x) (es:=es) es.length (Nat.le_refl _)
   rw[List.take_length]at hlp ⊢
   refine end_nret (F1:=(famP vs (allS x es).ps)) (allV (allS x es)) (allOb (allS x es) vs) ?_ (by rw[famP_len hvl];omega) rfl rfl ⟨rfl,rfl,rfl,rfl,rfl,trivial⟩ tlp
   exact⟨vs,hvl,rfl,rfl,rfl⟩

def Amt(n:Int):Prop:=0≤n∧n≤1125899906842624
def There(l:List Chan)(ch:Int):Prop:=∃c∈l,c.id=ch
structure COk(c:Chan):Prop where
 id:1≤c.id∧c.id≤99
 loc:Amt c.loc
 remote:Amt c.remote
 base:Amt c.base
 ppm:0≤c.ppm∧c.ppm≤1000000
 score:-100≤c.score∧c.score≤100
 size:Amt c.size
structure HOk(l:List Chan)(h:Htlc):Prop where
 inn:Amt h.amtIn
 out:1≤h.amtOut∧h.amtOut≤h.amtIn
 age:Amt h.age
 ne:h.inn≠h.out
 ti:There l h.inn
 to:There l h.out
structure IOk(l:List Chan)(h:Circle):Prop where
 amt:1≤h.amt∧h.amt≤1125899906842624
 fee:Amt h.fee
 ne:h.frm≠h.to
 ti:There l h.frm
 to:There l h.to
structure BOk(x:Book):Prop where
 tick:Amt x.tick
 wallet:Amt x.wallet
 next:1≤x.next∧x.next≤1125899906842624
 lc:x.chans.length≤20
 lh:x.htlcs.length≤60
 li:x.circles.length≤20
 hs:∀h∈x.htlcs,HOk x.chans h
 cs:∀h∈x.circles,IOk x.chans h
 kr:∀k∈keysOf x,1≤k∧k≤1000000
 kn:(keysOf x).Pairwise (·≠·)
 asc:x.chans.Pairwise fun a b=>a.id<b.id
 ch:∀c∈x.chans,COk c
 sum:∀c∈x.chans,c.size=c.loc+c.remote+outOf x c.id+intoOf x c.id
theorem there_at{l:List Chan}{ch:Int}:0≤chanAt l ch↔There l ch:=by
 constructor
 ·intro h
  obtain⟨i,c,_,q,_,r⟩:=chan_there h
  exact⟨c,mem_of_get q,r⟩
 ·rintro⟨c,hc,rfl⟩
  rcases chan_find l c.id with⟨q,_⟩|⟨i,d,q,_⟩
  ·exact absurd rfl (no_chan q c hc)
  ·omega
theorem two_iff{l:List Chan}{a b:Int}:two l a b=true↔a≠b∧There l a∧There l b:=by
 unfold two
 simp only[Bool.and_eq_true,Bool.not_eq_true',beq_eq_false_iff_ne,decide_eq_true_eq,there_at]
 constructor
 ·rintro⟨⟨h1,h2⟩,h3⟩;exact⟨h1,h2,h3⟩
 ·rintro⟨h1,h2,h3⟩;exact⟨⟨h1,h2⟩,h3⟩
theorem keysOk_iff{ks:List Int}:keysOk ks=true↔(∀k∈ks,1≤k∧k≤1000000)∧ks.Pairwise (·≠·):=by
 constructor
 ·intro h
  refine⟨fun k hk=>?_,keys_pair h⟩
  obtain⟨j,hj,rfl⟩:=List.getElem_of_mem hk
  have:=List.all_eq_true.1 h j (by simpa using hj)
  unfold keyAt at this
  rw[Bool.and_eq_true]at this
  have h1:=this.1
  rw[List.getD_eq_getElem?_getD,List.getElem?_eq_getElem hj]at h1
  exact inB_true.1 h1
 ·rintro⟨h1,h2⟩
  refine keysOk_yes fun j hj=>?_
  unfold keyAt
  rw[Bool.and_eq_true,List.getD_eq_getElem?_getD,List.getElem?_eq_getElem hj]
  refine⟨inB_true.2 (h1 _ (List.getElem_mem hj)),?_⟩
  unfold hasI
  simp only[Option.getD_some,Bool.not_eq_true',List.any_eq_false,beq_iff_eq]
  intro y hy e
  obtain⟨i,hi,rfl⟩:=List.getElem_of_mem hy
  rw[List.length_take]at hi
  rw[List.getElem_take]at e
  exact List.pairwise_iff_getElem.1 h2 i j (by omega) hj (by omega) e
theorem chanOk1_iff{c:Chan}:chanOk1 c=true↔COk c:=by
 constructor
 ·intro h
  obtain⟨h1,h2,h3,h4,h5,h6,h7⟩:=chanOk1_parts h
  exact⟨h1,h2,h3,h4,h5,h6,h7⟩
 ·rintro⟨h1,h2,h3,h4,h5,h6,h7⟩
  unfold chanOk1 chOk scOk
  simp only[Bool.and_eq_true,amtOk_true,inB_true]
  exact⟨⟨⟨⟨⟨⟨h1,h2⟩,h3⟩,h4⟩,h5⟩,h6⟩,h7⟩
theorem bOk_of{x:Book}(h:bookOk x=true):BOk x:=by
 obtain⟨h1,h2,h3,h4,h5,h6⟩:=bookOk_parts h
 obtain⟨p1,p2,p3,p4,p5⟩:=parts_all h5
 obtain⟨k1,k2⟩:=keysOk_iff.1 p5
 refine⟨amtOk_true.1 h1,amtOk_true.1 h2,inB_true.1 h3,h4,p1,p2,fun y hy=>?_,fun y hy=>?_,k1,k2,?_,fun c hc=>chanOk1_iff.1 (chan_all h6 hc).1,fun c hc=>?_⟩
 ·obtain⟨q1,q2,q3,q4,q5⟩:=hOk_iff.1 (p3 y hy)
  obtain⟨r1,r2,r3⟩:=two_iff.1 q5
  exact⟨amtOk_true.1 q1,⟨q2,q3⟩,amtOk_true.1 q4,r1,r2,r3⟩
 ·obtain⟨q1,q2,q3,q5⟩:=cOk_iff.1 (p4 y hy)
  obtain⟨r1,r2,r3⟩:=two_iff.1 q5
  exact⟨⟨q2,(amtOk_true.1 q1).2⟩,amtOk_true.1 q3,r1,r2,r3⟩
 ·rw[List.pairwise_iff_getElem]
  intro i j hi hj hij
  exact asc_lt (fun k hk=>(chansOk_at h6 hk).2.1) j i hj hij
 ·have:=(chan_all h6 hc).2
  unfold chanSum at this
  exact beq_iff_eq.1 this
theorem bOk_to{x:Book}(b:BOk x):bookOk x=true:=by
 unfold bookOk partsOk
 simp only[Bool.and_eq_true,amtOk_true,inB_true,decide_eq_true_eq,List.all_eq_true]
 refine⟨⟨⟨⟨⟨b.tick,b.wallet⟩,b.next⟩,b.lc⟩,⟨⟨⟨b.lh,b.li⟩,fun y hy=>?_⟩,fun y hy=>?_⟩,keysOk_iff.2 ⟨b.kr,b.kn⟩⟩,chansOk_yes fun j hj=>?_⟩
 ·have q:=b.hs y hy
  exact hOk_iff.2 ⟨amtOk_true.2 q.inn,q.out.1,q.out.2,amtOk_true.2 q.age,two_iff.2 ⟨q.ne,q.ti,q.to⟩⟩
 ·have q:=b.cs y hy
  have:=q.amt
  exact cOk_iff.2 ⟨amtOk_true.2 ⟨by omega,q.amt.2⟩,q.amt.1,amtOk_true.2 q.fee,two_iff.2 ⟨q.ne,q.ti,q.to⟩⟩
 ·unfold chanAtOk
  rw[List.getElem?_eq_getElem hj]
  dsimp only
  have hm:=List.getElem_mem hj
  rw[Bool.and_eq_true,Bool.and_eq_true]
  refine⟨⟨chanOk1_iff.2 (b.ch _ hm),?_⟩,?_⟩
  ·unfold ascAt
   cases j with
   |zero=>rfl
   |succ j=>
    dsimp only
    rw[List.getElem?_eq_getElem (by omega:j<x.chans.length),List.getElem?_eq_getElem hj]
    simpa using List.pairwise_iff_getElem.1 b.asc j (j+1) (by omega) hj (by omega)
  ·unfold chanSum
   exact beq_iff_eq.2 (b.sum _ hm)

theorem tot_cons{α:Type}(f:α→Int)(x:α)(l:List α):tot f (x::l)=f x+tot f l:=by unfold tot;rw[List.map_cons,List.sum_cons]
theorem tot_snoc{α:Type}(f:α→Int)(l:List α)(x:α):tot f (l++[x])=tot f l+f x:=by unfold tot;rw[List.map_append,List.sum_append];simp
theorem tot_same{α β:Type}{f:α→Int}{g:β→Int}{m:α→β}{l:List α}(h:∀x∈l,g (m x)=f x):tot g (l.map m)=tot f l:=by
 unfold tot
 rw[List.map_map]
 congr 1
 exact List.map_congr_left h
theorem tot_none{α:Type}{f:α→Int}{l:List α}(h:∀x∈l,f x=0):tot f l=0:=by
 induction l with
 |nil=>rfl
 |cons a l ih=>rw[tot_cons,h a (by simp),ih (fun x hx=>h x (by simp[hx]))];rfl
theorem tot_filter{α:Type}{g:α→Int}{f:α→Int}{l:List α}(hnd:l.Pairwise fun a b=>g a≠g b){h:α}(hm:h∈l):tot f (l.filter fun d=>!(g d==g h))+f h=tot f l:=by
 induction l with
 |nil=>cases hm
 |cons a l ih=>
  rw[List.pairwise_cons]at hnd
  rcases List.mem_cons.1 hm with rfl|hm'
  ·have e:l.filter (fun d=>!(g d==g h))=l:=List.filter_eq_self.2 fun d hd=>by
    have:=hnd.1 d hd
    simp
    exact fun q=>this q.symm
   rw[List.filter_cons_of_neg (by simp),e,tot_cons]
   omega
  ·have:=hnd.1 h hm'
   rw[List.filter_cons_of_pos (by simpa using this),tot_cons,tot_cons]
   have:=ih hnd.2 hm'
   omega
theorem there_upd{l:List Chan}{a ch:Int}{f:Chan→Chan}(hf:∀c,(f c).id=c.id)(h:There l ch):There (updC l a f) ch:=by
 obtain⟨c,hc,rfl⟩:=h
 refine⟨_,List.mem_map_of_mem hc,?_⟩
 split<;>simp[hf]
theorem asc_upd{l:List Chan}{a:Int}{f:Chan→Chan}(hf:∀c,(f c).id=c.id)(h:l.Pairwise fun a b=>a.id<b.id):(updC l a f).Pairwise fun a b=>a.id<b.id:=by
 unfold updC
 rw[List.pairwise_map]
 refine h.imp fun{c d} q=>?_
 have e:∀c:Chan,(if c.id=a then f c else c).id=c.id:=fun c=>by split<;>simp[hf]
 rw[e,e];exact q
theorem mem_upd{l:List Chan}{a:Int}{f:Chan→Chan}{c:Chan}(h:c∈updC l a f):∃d∈l,c=if d.id=a then f d else d:=by
 unfold updC at h
 obtain⟨d,hd,rfl⟩:=List.mem_map.1 h
 exact⟨d,hd,rfl⟩
theorem BOk.setNext{x:Book}(b:BOk x){n:Int}(hn:1≤n∧n≤1125899906842624):BOk { x with next:=n }:=⟨b.tick,b.wallet,hn,b.lc,b.lh,b.li,b.hs,b.cs,b.kr,b.kn,b.asc,b.ch,b.sum⟩
theorem BOk.setWallet{x:Book}(b:BOk x){n:Int}(hn:Amt n):BOk { x with wallet:=n }:=⟨b.tick,hn,b.next,b.lc,b.lh,b.li,b.hs,b.cs,b.kr,b.kn,b.asc,b.ch,b.sum⟩
theorem BOk.parts{x y:Book}(b:BOk x)(ht:Amt y.tick)(hw:Amt y.wallet)(hn:y.next=x.next)(lc:y.chans.length≤20)(lh:y.htlcs.length≤60)(li:y.circles.length≤20)(hs:∀h∈y.htlcs,HOk y.chans h)(cs:∀h∈y.circles,IOk y.chans h)(kr:∀k∈keysOf y,1≤k∧k≤1000000)(kn:(keysOf y).Pairwise (·≠·))
 (asc:y.chans.Pairwise fun a b=>a.id<b.id) (ch:∀c∈y.chans,COk c) (sum:∀c∈y.chans,c.size=c.loc+c.remote+outOf y c.id+intoOf y c.id):BOk y:=⟨ht,hw,hn▸b.next,lc,lh,li,hs,cs,kr,kn,asc,ch,sum⟩
theorem HOk.chans{l l':List Chan}{h:Htlc}(q:HOk l h)(k:∀ch,There l ch→There l' ch):HOk l' h:=⟨q.inn,q.out,q.age,q.ne,k _ q.ti,k _ q.to⟩
theorem IOk.chans{l l':List Chan}{h:Circle}(q:IOk l h)(k:∀ch,There l ch→There l' ch):IOk l' h:=⟨q.amt,q.fee,q.ne,k _ q.ti,k _ q.to⟩
theorem bk_dep{x:Book}{e:Event}(b:BOk x)(ho:overB x e=false)(hk:e.kind=1)(ha:0≤e.amt):BOk (depR x e).b:=by
 refine b.setWallet ?_
 have hw:=b.wallet
 unfold overB at ho
 by_cases hn:x.next=1125899906842624
 ·rw[if_pos hn]at ho;cases ho
 ·rw[if_neg hn,if_pos hk]at ho
  simp only[decide_eq_false_iff_not]at ho
  unfold Amt at *
  omega
theorem fadeC_id(t:Int)(c:Chan):(fadeC t c).id=c.id:=by unfold fadeC;split<;>rfl
theorem bk_tick{x:Book}(b:BOk x)(ho:x.tick≠1125899906842624):BOk (tickR x).b:=by
 have ht:=b.tick
 have key:∀ch,There x.chans ch→There (x.chans.map (fadeC x.tick)) ch:=fun ch ⟨c,hc,q⟩=>⟨_,List.mem_map_of_mem hc,by rw[fadeC_id,q]⟩
 have o1:∀ch,tot (hOut ch) (x.htlcs.map ageH)=tot (hOut ch) x.htlcs:=fun ch=>tot_same fun h _=>rfl
 have o2:∀ch,tot (hIn ch) (x.htlcs.map ageH)=tot (hIn ch) x.htlcs:=fun ch=>tot_same fun h _=>rfl
 have hks:keysOf (tickR x).b=keysOf x:=by
  unfold keysOf tickR
  dsimp only
  rw[List.map_map]
  rfl
 refine b.parts ?_ b.wallet rfl ?_ ?_ b.li ?_ (fun h hh=>(b.cs h hh).chans key) ?_ ?_ ?_ ?_ ?_
 ·show Amt (x.tick+1)
  unfold Amt at *;omega
 ·show (x.chans.map _).length≤_
  rw[List.length_map];exact b.lc
 ·show (x.htlcs.map _).length≤_
  rw[List.length_map];exact b.lh
 ·intro h hh
  obtain⟨d,hd,rfl⟩:=List.mem_map.1 hh
  have q:=(b.hs d hd).chans key
  refine⟨q.inn,q.out,?_,q.ne,q.ti,q.to⟩
  have:=q.age
  unfold ageH Amt at *
  dsimp only
  omega
 ·rw[hks];exact b.kr
 ·rw[hks];exact b.kn
 ·show (x.chans.map _).Pairwise _
  rw[List.pairwise_map]
  exact b.asc.imp fun{c d} q=>by rw[fadeC_id,fadeC_id];exact q
 ·intro c hc
  obtain⟨d,hd,rfl⟩:=List.mem_map.1 hc
  have q:=b.ch d hd
  unfold fadeC
  split
  ·exact⟨q.id,q.loc,q.remote,q.base,q.ppm,fade_le _,q.size⟩
  ·exact q
 ·intro c hc
  obtain⟨d,hd,rfl⟩:=List.mem_map.1 hc
  have q:=b.sum d hd
  have e:∀ch,outOf (tickR x).b ch=outOf x ch∧intoOf (tickR x).b ch=intoOf x ch:=fun ch=>by
   unfold outOf intoOf tickR
   exact⟨by rw[←o1],by rw[←o2]⟩
  rw[fadeC_id,(e d.id).1,(e d.id).2]
  unfold fadeC
  split<;>exact q
theorem bk_pri{x:Book}{e:Event}(b:BOk x)(ha:Amt e.amt)(hf:0≤e.fee∧e.fee≤1000000):BOk (priR x e).b:=by
 unfold priR
 split
 ·exact b
 ·have hf':∀c:Chan,({ c with base:=e.amt,ppm:=e.fee }:Chan).id=c.id:=fun _=>rfl
  refine b.parts b.tick b.wallet rfl (by show (updC _ _ _).length≤_;rw[upd_len];exact b.lc) b.lh b.li (fun h hh=>(b.hs h hh).chans fun ch q=>there_upd hf' q) (fun h hh=>(b.cs h hh).chans fun ch q=>there_upd hf' q) b.kr b.kn (asc_upd hf' b.asc) (fun c hc=>?_) (fun c hc=>?_)
  ·obtain⟨d,hd,rfl⟩:=mem_upd hc
   have q:=b.ch d hd
   split
   ·exact⟨q.id,q.loc,q.remote,ha,hf,q.score,q.size⟩
   ·exact q
  ·obtain⟨d,hd,rfl⟩:=mem_upd hc
   have q:=b.sum d hd
   split<;>exact q
theorem insC_mem{l:List Chan}{c d:Chan}(h:d∈l∨d=c):d∈insC l c:=by
 unfold insC
 simp only[List.mem_append,List.mem_singleton]
 rcases h with h|h
 ·have:=List.take_append_drop (posC l c.id) l
  rw[←this,List.mem_append]at h
  rcases h with h|h
  ·exact .inl (.inl h)
  ·exact .inr h
 ·exact .inl (.inr h)
theorem insC_asc{l:List Chan}{c:Chan}(h:l.Pairwise fun a b=>a.id<b.id)(hn:∀d∈l,d.id≠c.id):(insC l c).Pairwise fun a b=>a.id<b.id:=by
 have hp:posC l c.id≤l.length:=List.findIdx_le_length
 have h1:∀d∈l.take (posC l c.id),d.id<c.id:=fun d hd=>by
  obtain⟨i,hi,rfl⟩:=List.getElem_of_mem hd
  rw[List.length_take]at hi
  rw[List.getElem_take]
  have:=List.not_of_lt_findIdx (p:=fun d:Chan=>!decide (d.id<c.id)) (xs:=l) (i:=i) (by unfold posC at hi;omega)
  simpa using this
 have h2:∀d∈l.drop (posC l c.id),c.id<d.id:=fun d hd=>by
  obtain⟨i,hi,rfl⟩:=List.getElem_of_mem hd
  rw[List.length_drop]at hi
  rw[List.getElem_drop]
  have hlt:posC l c.id<l.length:=by omega
  have q0:¬l[posC l c.id].id<c.id:=by
   have:=List.findIdx_getElem (xs:=l) (p:=fun d:Chan=>!decide (d.id<c.id)) (w:=hlt)
   intro r
   rw[show (l[List.findIdx (fun d:Chan=>!decide (d.id<c.id)) l]'hlt)=l[posC l c.id]from rfl]at this
   simp[r]at this
  have q1:=hn _ (List.getElem_mem hlt)
  rcases Nat.eq_zero_or_pos i with r|r
  ·subst r
   simp only[Nat.add_zero]
   omega
  ·have:=List.pairwise_iff_getElem.1 h (posC l c.id) (posC l c.id+i) hlt (by omega) (by omega)
   omega
 unfold insC
 rw[List.pairwise_append,List.pairwise_append]
 refine⟨⟨h.sublist (List.take_sublist _ _),List.pairwise_singleton _ _,fun a ha d hd=>?_⟩,h.sublist (List.drop_sublist _ _),fun a ha d hd=>?_⟩
 ·rw[List.mem_singleton]at hd;subst hd;exact h1 a ha
 ·rw[List.mem_append,List.mem_singleton]at ha
  rcases ha with ha|rfl
  ·have:=h1 a ha;have:=h2 d hd;omega
  ·exact h2 d hd
theorem BOk.none{x:Book}(b:BOk x){ch:Int}(h:¬There x.chans ch):outOf x ch=0∧intoOf x ch=0:=by
 unfold outOf intoOf
 rw[tot_none fun y hy=>?_,tot_none fun y hy=>?_,tot_none fun y hy=>?_,tot_none fun y hy=>?_]
 ·exact⟨rfl,rfl⟩
 ·unfold cIn;split
  ·rename_i q;exact absurd (q▸(b.cs y hy).to) h
  ·rfl
 ·unfold hIn;split
  ·rename_i q;exact absurd (q▸(b.hs y hy).ti) h
  ·rfl
 ·unfold cOut;split
  ·rename_i q;exact absurd (q▸(b.cs y hy).ti) h
  ·rfl
 ·unfold hOut;split
  ·rename_i q;exact absurd (q▸(b.hs y hy).to) h
  ·rfl
theorem bk_open{x:Book}{e:Event}(b:BOk x)(hsum:e.amt+e.fee≤1125899906842624)(ha:0≤e.amt)(hf:0≤e.fee)(hid:1≤e.ch∧e.ch≤99)(hc:openC x e=0):BOk (openR x e).b:=by
 rw[openR_yes hc]
 have hno:=no_chan (opC_no hc)
 have hnt:¬There x.chans e.ch:=fun⟨c,q1,q2⟩=>hno c q1 q2
 have hlc:¬(20:Int)≤(x.chans.length:Int):=fun q=>by
  unfold openC at hc
  rw[decide_eq_true q,Bool.or_true]at hc
  exact failC_keep (failC_set (by decide)) hc
 have hwl:¬x.wallet<e.amt:=fun q=>by
  unfold openC at hc
  rw[decide_eq_true q]at hc
  exact failC_set (by decide) hc
 have hw:=b.wallet
 have key:∀ch,There x.chans ch→There (insC x.chans (newC e)) ch:=fun ch ⟨c,q1,q2⟩=>⟨c,insC_mem (.inl q1),q2⟩
 refine b.parts b.tick ?_ rfl ?_ b.lh b.li (fun h hh=>(b.hs h hh).chans key) (fun h hh=>(b.cs h hh).chans key) b.kr b.kn (insC_asc b.asc hno) (fun c hc=>?_) (fun c hc=>?_)
 ·show Amt (x.wallet-e.amt)
  unfold Amt at *;omega
 ·show (insC x.chans _).length≤_
  rw[insC_len];omega
 ·rcases mem_insC hc with q|rfl
  ·exact b.ch c q
  ·exact⟨hid,⟨ha,by dsimp only;omega⟩,⟨hf,by dsimp only;omega⟩,⟨Int.le_refl _,by dsimp only;omega⟩,⟨Int.le_refl _,by dsimp only;omega⟩,⟨by dsimp only;omega,by dsimp only;omega⟩,⟨by dsimp only;omega,hsum⟩⟩
 ·rcases mem_insC hc with q|rfl
  ·exact b.sum c q
  ·obtain⟨q1,q2⟩:=b.none hnt
   show e.amt+e.fee=e.amt+e.fee+outOf x e.ch+intoOf x e.ch
   rw[q1,q2];omega

theorem failC_zero{b:Bool}{c k:Int}(hk:k≠0)(h:failC b c k=0):c=0∧b=false:=by
 unfold failC at h
 split at h
 ·exact absurd h hk
 ·rename_i q
  subst h
  exact⟨rfl,by simpa using q⟩
theorem chanOr_eq{l:List Chan}(ha:l.Pairwise fun a b=>a.id<b.id){d:Chan}(hd:d∈l):chanOr l d.id=d:=by
 rcases chan_find l d.id with⟨q,_⟩|⟨i,c,q1,q2,q3,q4⟩
 ·exact absurd rfl (no_chan q d hd)
 ·rw[q3]
  have hp:l.Pairwise fun a b=>a.id≠b.id:=ha.imp fun h=>by omega
  obtain⟨j,hj,e⟩:=List.getElem_of_mem hd
  have:i=j:=pair_at (g:=fun c=>c.id) hp q2 (by rw[List.getElem?_eq_getElem hj,e]) q4
  subst this
  rw[List.getElem?_eq_getElem hj,e]at q2
  injection q2 with q2
  exact q2.symm
theorem known_no{x:Book}{k:Int}(h:knownB x k=false):∀y∈keysOf x,k≠y:=fun y hy e=>by
 have:=any_keys x k
 rw[h]at this
 unfold keyL at this
 unfold keysOf at hy
 have:=List.any_eq_false.1 this y hy
 simp[e]at this
theorem upd2_cases{l:List Chan}{a b:Int}{f g:Chan→Chan}(hf:∀c,(f c).id=c.id)(hab:a≠b){c:Chan}(h:c∈updC (updC l a f) b g):∃d∈l,(d.id=a∧c=f d)∨(d.id=b∧c=g d)∨(d.id≠a∧d.id≠b∧c=d):=by
 obtain⟨d',hd',rfl⟩:=mem_upd h
 obtain⟨d,hd,rfl⟩:=mem_upd hd'
 refine⟨d,hd,?_⟩
 by_cases q1:d.id=a
 ·rw[if_pos q1,if_neg (by rw[hf];omega)]
  exact .inl ⟨q1,rfl⟩
 ·rw[if_neg q1]
  by_cases q2:d.id=b
  ·rw[if_pos q2];exact .inr (.inl ⟨q2,rfl⟩)
  ·rw[if_neg q2];exact .inr (.inr ⟨q1,q2,rfl⟩)
theorem bk_adm{x:Book}{e:Event}(b:BOk x)(hne:e.ch≠e.to)(hkey:1≤e.key∧e.key≤1000000)(ha:1≤e.amt)(hc:admC x e=0):BOk (admR x e).b:=by
 rw[admR_yes hc]
 have h1:admC1 x e=0:=by
  by_cases q:admC1 x e=0
  ·exact q
  ·rw[admC_one q]at hc;exact hc
 unfold admC1 at h1
 obtain⟨h2,g1⟩:=failC_zero (by decide) h1
 obtain⟨h3,g2⟩:=failC_zero (by decide) h2
 obtain⟨h4,g3⟩:=failC_zero (by decide) h3
 unfold admC0 at h4
 rw[miss_two hne]at h4
 obtain⟨h5,g4⟩:=failC_zero (by decide) h4
 obtain⟨h6,g5⟩:=failC_zero (by decide) h5
 obtain⟨_,g6⟩:=failC_zero (by decide) h6
 have g5':two x.chans e.ch e.to=true:=by simpa using g5
 obtain⟨_,t1,t2⟩:=two_iff.1 g5'
 simp only[decide_eq_false_iff_not]at g1 g2 g4
 unfold admBad at g3
 rw[Bool.or_eq_false_iff,Bool.not_eq_false',Bool.not_eq_false']at g3
 have hs:admSum x e=e.amt+feeV (chanOr x.chans e.to).base (chanOr x.chans e.to).ppm e.amt:=addV_yes g3.2
 have hok:=g3.2
 unfold addOk at hok
 simp only[Bool.and_eq_true,amtOk_true]at hok
 have hsum:Amt (admSum x e)∧e.amt≤admSum x e:=by rw[hs];unfold Amt;omega
 have f1:∀c:Chan,({ c with remote:=c.remote-admSum x e }:Chan).id=c.id:=fun _=>rfl
 have f2:∀c:Chan,({ c with loc:=c.loc-e.amt }:Chan).id=c.id:=fun _=>rfl
 have key:∀ch,There x.chans ch→There (admY x e).b.chans ch:=fun ch q=>there_upd f2 (there_upd f1 q)
 have ho:∀ch,outOf (admY x e).b ch=outOf x ch+(if e.to=ch then e.amt else 0):=fun ch=>by
  unfold outOf admY
  dsimp only
  rw[tot_snoc]
  unfold hOut
  dsimp only
  omega
 have hi:∀ch,intoOf (admY x e).b ch=intoOf x ch+(if e.ch=ch then admSum x e else 0):=fun ch=>by
  unfold intoOf admY
  dsimp only
  rw[tot_snoc]
  unfold hIn
  dsimp only
  omega
 have hkn:=known_no g6
 have hks:(keysOf (admY x e).b).Perm (e.key::keysOf x):=by
  unfold keysOf admY
  dsimp only
  rw[List.map_append,List.append_assoc]
  exact List.perm_middle
 refine b.parts b.tick b.wallet rfl ?_ ?_ b.li (fun h hh=>?_) (fun h hh=>(b.cs h hh).chans key) (fun k hk=>?_) ?_ (asc_upd f2 (asc_upd f1 b.asc)) (fun c hc=>?_) (fun c hc=>?_)
 ·show (updC (updC _ _ _) _ _).length≤_
  rw[upd_len,upd_len];exact b.lc
 ·show (x.htlcs++[_]).length≤_
  simp
  omega
 ·rcases List.mem_append.1 hh with hh|hh
  ·exact(b.hs h hh).chans key
  ·rw[List.mem_singleton]at hh
   subst hh
   exact⟨hsum.1,⟨ha,hsum.2⟩,⟨Int.le_refl _,by dsimp only;omega⟩,hne,key _ t1,key _ t2⟩
 ·rcases List.mem_cons.1 (hks.mem_iff.1 hk)with rfl|hk
  ·exact hkey
  ·exact b.kr k hk
 ·exact(List.Perm.pairwise_iff (fun h=>Ne.symm h) hks).2 (List.pairwise_cons.2 ⟨hkn,b.kn⟩)
 ·obtain⟨d,hd,q|q|q⟩:=upd2_cases f1 hne hc
  ·have k:=b.ch d hd
   have e1:=chanOr_eq b.asc hd
   rw[q.1]at e1
   rw[e1]at g2
   have:=k.remote
   rw[q.2]
   refine⟨k.id,k.loc,?_,k.base,k.ppm,k.score,k.size⟩
   have:=hsum.1
   unfold Amt at *
   dsimp only
   omega
  ·have k:=b.ch d hd
   have e1:=chanOr_eq b.asc hd
   rw[q.1]at e1
   rw[e1]at g1
   have:=k.loc
   rw[q.2]
   refine⟨k.id,?_,k.remote,k.base,k.ppm,k.score,k.size⟩
   unfold Amt at *
   dsimp only
   omega
  ·rw[q.2.2];exact b.ch d hd
 ·obtain⟨d,hd,q|q|q⟩:=upd2_cases f1 hne hc
  ·have k:=b.sum d hd
   rw[q.2]
   dsimp only
   rw[ho,hi,if_neg (by omega),if_pos q.1.symm]
   omega
  ·have k:=b.sum d hd
   rw[q.2]
   dsimp only
   rw[ho,hi,if_pos q.1.symm,if_neg (by omega)]
   omega
  ·have k:=b.sum d hd
   rw[q.2.2,ho,hi,if_neg (fun r=>q.2.1 r.symm),if_neg (fun r=>q.1 r.symm)]
   omega
theorem bk_lau{x:Book}{e:Event}(b:BOk x)(hne:e.ch≠e.to)(hkey:1≤e.key∧e.key≤1000000)(ha:1≤e.amt)(hc:lauC x e=0):BOk (lauR x e).b:=by
 rw[lauR_yes hc]
 unfold lauC at hc
 obtain⟨h2,g1⟩:=failC_zero (by decide) hc
 obtain⟨h3,g2⟩:=failC_zero (by decide) h2
 obtain⟨h4,g3⟩:=failC_zero (by decide) h3
 unfold lauC0 at h4
 rw[miss_two hne]at h4
 obtain⟨h5,g4⟩:=failC_zero (by decide) h4
 obtain⟨h6,g5⟩:=failC_zero (by decide) h5
 obtain⟨_,g6⟩:=failC_zero (by decide) h6
 have g5':two x.chans e.ch e.to=true:=by simpa using g5
 obtain⟨_,t1,t2⟩:=two_iff.1 g5'
 simp only[decide_eq_false_iff_not]at g1 g2 g4
 have g3':addOk e.amt e.fee=true:=by simpa using g3
 have hs:=addV_yes g3'
 unfold addOk at g3'
 simp only[Bool.and_eq_true,amtOk_true]at g3'
 rw[hs]at g2
 have f1:∀c:Chan,({ c with loc:=c.loc-addV e.amt e.fee }:Chan).id=c.id:=fun _=>rfl
 have f2:∀c:Chan,({ c with remote:=c.remote-e.amt }:Chan).id=c.id:=fun _=>rfl
 have key:∀ch,There x.chans ch→There (lauY x e).b.chans ch:=fun ch q=>there_upd f2 (there_upd f1 q)
 have ho:∀ch,outOf (lauY x e).b ch=outOf x ch+(if e.ch=ch then e.amt+e.fee else 0):=fun ch=>by
  unfold outOf lauY
  dsimp only
  rw[tot_snoc]
  unfold cOut
  dsimp only
  omega
 have hi:∀ch,intoOf (lauY x e).b ch=intoOf x ch+(if e.to=ch then e.amt else 0):=fun ch=>by
  unfold intoOf lauY
  dsimp only
  rw[tot_snoc]
  unfold cIn
  dsimp only
  omega
 have hkn:=known_no g6
 have hks:(keysOf (lauY x e).b).Perm (e.key::keysOf x):=by
  unfold keysOf lauY
  dsimp only
  rw[List.map_append,←List.append_assoc]
  exact List.perm_append_singleton _ _
 refine b.parts b.tick b.wallet rfl ?_ b.lh ?_ (fun h hh=>(b.hs h hh).chans key) (fun h hh=>?_) (fun k hk=>?_) ?_ (asc_upd f2 (asc_upd f1 b.asc)) (fun c hc=>?_) (fun c hc=>?_)
 ·show (updC (updC _ _ _) _ _).length≤_
  rw[upd_len,upd_len];exact b.lc
 ·show (x.circles++[_]).length≤_
  simp
  omega
 ·rcases List.mem_append.1 hh with hh|hh
  ·exact(b.cs h hh).chans key
  ·rw[List.mem_singleton]at hh
   subst hh
   exact⟨⟨ha,by dsimp only;omega⟩,⟨g3'.1.2.1,g3'.1.2.2⟩,hne,key _ t1,key _ t2⟩
 ·rcases List.mem_cons.1 (hks.mem_iff.1 hk)with rfl|hk
  ·exact hkey
  ·exact b.kr k hk
 ·exact(List.Perm.pairwise_iff (fun h=>Ne.symm h) hks).2 (List.pairwise_cons.2 ⟨hkn,b.kn⟩)
 ·obtain⟨d,hd,q|q|q⟩:=upd2_cases f1 hne hc
  ·have k:=b.ch d hd
   have e1:=chanOr_eq b.asc hd
   rw[q.1]at e1
   rw[e1]at g2
   have:=k.loc
   rw[q.2]
   refine⟨k.id,?_,k.remote,k.base,k.ppm,k.score,k.size⟩
   unfold Amt at *
   dsimp only
   rw[hs]
   omega
  ·have k:=b.ch d hd
   have e1:=chanOr_eq b.asc hd
   rw[q.1]at e1
   rw[e1]at g1
   have:=k.remote
   rw[q.2]
   refine⟨k.id,k.loc,?_,k.base,k.ppm,k.score,k.size⟩
   unfold Amt at *
   dsimp only
   omega
  ·rw[q.2.2];exact b.ch d hd
 ·obtain⟨d,hd,q|q|q⟩:=upd2_cases f1 hne hc
  ·have k:=b.sum d hd
   rw[q.2]
   dsimp only
   rw[ho,hi,if_pos q.1.symm,if_neg (by omega),hs]
   omega
  ·have k:=b.sum d hd
   rw[q.2]
   dsimp only
   rw[ho,hi,if_neg (by omega),if_pos q.1.symm]
   omega
  ·have k:=b.sum d hd
   rw[q.2.2,ho,hi,if_neg (fun r=>q.1 r.symm),if_neg (fun r=>q.2.1 r.symm)]
   omega

theorem outs_l{L:List Chan}{l:List Htlc}{m:List Circle}(hs:∀h∈l,HOk L h)(cs:∀h∈m,IOk L h)(ch:Int):0≤tot (hOut ch) l∧0≤tot (hIn ch) l∧0≤tot (cOut ch) m∧0≤tot (cIn ch) m:=by
 refine⟨?_,?_,?_,?_⟩
 ·refine(tot_le (hOut ch) 1125899906842624 (by decide) l fun y hy=>?_).1
  have:=(hs y hy).out
  have:=(hs y hy).inn
  unfold Amt at this
  unfold hOut;split<;>omega
 ·refine(tot_le (hIn ch) 1125899906842624 (by decide) l fun y hy=>?_).1
  have:=(hs y hy).inn
  unfold Amt at this
  unfold hIn;split<;>omega
 ·refine(tot_le (cOut ch) 2251799813685248 (by decide) m fun y hy=>?_).1
  have:=(cs y hy).amt
  have:=(cs y hy).fee
  unfold Amt at this
  unfold cOut;split<;>omega
 ·refine(tot_le (cIn ch) 1125899906842624 (by decide) m fun y hy=>?_).1
  have:=(cs y hy).amt
  unfold cIn;split<;>omega
theorem hks_of{x:Book}(b:BOk x):(x.htlcs.Pairwise fun a b=>a.key≠b.key)∧x.circles.Pairwise fun a b=>a.key≠b.key:=by
 have h:=b.kn
 unfold keysOf at h
 rw[List.pairwise_append]at h
 exact⟨List.pairwise_map.1 h.1,List.pairwise_map.1 h.2.1⟩
theorem bk_end{x y:Book}(b:BOk x){h:Htlc}(hm:h∈x.htlcs){f g:Chan→Chan}(hy1:y.htlcs=delH x.htlcs h.key)(hy2:y.circles=x.circles)(hy3:y.chans=updC (updC x.chans h.inn f) h.out g)(hy4:y.tick=x.tick)(hy5:y.wallet=x.wallet)(hy6:y.next=x.next)
 (f1:∀c,(f c).id=c.id∧(f c).size=c.size∧(f c).base=c.base∧(f c).ppm=c.ppm∧(f c).loc+(f c).remote=c.loc+c.remote+h.amtIn∧c.loc≤(f c).loc∧c.remote≤(f c).remote∧(-100≤(f c).score∧(f c).score≤100))
 (g1:∀c,(g c).id=c.id∧(g c).size=c.size∧(g c).base=c.base∧(g c).ppm=c.ppm∧(g c).loc+(g c).remote=c.loc+c.remote+h.amtOut∧c.loc≤(g c).loc∧c.remote≤(g c).remote∧(g c).score=c.score):BOk y:=by
 have q:=b.hs h hm
 have hne:=q.ne
 have fi:∀c,(f c).id=c.id:=fun c=>(f1 c).1
 have gi:∀c,(g c).id=c.id:=fun c=>(g1 c).1
 have key:∀ch,There x.chans ch→There y.chans ch:=fun ch r=>by rw[hy3];exact there_upd gi (there_upd fi r)
 have hsub:∀z∈y.htlcs,z∈x.htlcs:=fun z hz=>by rw[hy1]at hz;exact(List.mem_filter.1 hz).1
 have hs':∀z∈y.htlcs,HOk x.chans z:=fun z hz=>b.hs z (hsub z hz)
 have cs':∀z∈y.circles,IOk x.chans z:=fun z hz=>b.cs z (hy2▸hz)
 have ho:∀ch,outOf y ch+hOut ch h=outOf x ch:=fun ch=>by
  unfold outOf
  have:=tot_filter (g:=fun z:Htlc=>z.key) (f:=hOut ch) (hks_of b).1 hm
  rw[hy1,hy2]
  unfold delH
  omega
 have hi:∀ch,intoOf y ch+hIn ch h=intoOf x ch:=fun ch=>by
  unfold intoOf
  have:=tot_filter (g:=fun z:Htlc=>z.key) (f:=hIn ch) (hks_of b).1 hm
  rw[hy1,hy2]
  unfold delH
  omega
 have hsl:(keysOf y).Sublist (keysOf x):=by
  unfold keysOf
  rw[hy1,hy2]
  exact(List.filter_sublist.map _).append (List.Sublist.refl _)
 have hlen:y.htlcs.length≤60:=by
  rw[hy1]
  have h1:(delH x.htlcs h.key).length≤x.htlcs.length:=List.length_filter_le _ _
  have:=b.lh
  omega
 refine b.parts (hy4▸b.tick) (hy5▸b.wallet) hy6 (by rw[hy3,upd_len,upd_len];exact b.lc) hlen (hy2▸b.li) (fun z hz=>(hs' z hz).chans key) (fun z hz=>(cs' z hz).chans key) (fun k hk=>b.kr k (hsl.subset hk)) (b.kn.sublist hsl) (by rw[hy3];exact asc_upd gi (asc_upd fi b.asc)) (fun c hc=>?_) (fun c hc=>?_)
 ·rw[hy3]at hc
  obtain⟨d,hd,r|r|r⟩:=upd2_cases fi hne hc
  ·have k:=b.ch d hd
   have s:=b.sum d hd
   have o:=outs_l hs' cs' d.id
   have e1:=ho d.id
   have e2:=hi d.id
   unfold hOut at e1
   unfold hIn at e2
   rw[if_neg (by omega)]at e1
   rw[if_pos r.1.symm]at e2
   unfold outOf at e1 s
   unfold intoOf at e2 s
   obtain⟨w1,w2,w3,w4,w5,w6,w7,w8⟩:=f1 d
   have k2:=k.loc
   have k3:=k.remote
   have k4:=k.size
   have k5:=outs_l b.hs b.cs d.id
   rw[r.2]
   unfold Amt at *
   exact⟨w1▸k.id,by unfold Amt;omega,by unfold Amt;omega,w3▸k.base,w4▸k.ppm,w8,w2▸k.size⟩
  ·have k:=b.ch d hd
   have s:=b.sum d hd
   have o:=outs_l hs' cs' d.id
   have e1:=ho d.id
   have e2:=hi d.id
   unfold hOut at e1
   unfold hIn at e2
   rw[if_pos r.1.symm]at e1
   rw[if_neg (by omega)]at e2
   unfold outOf at e1 s
   unfold intoOf at e2 s
   obtain⟨w1,w2,w3,w4,w5,w6,w7,w8⟩:=g1 d
   have k2:=k.loc
   have k3:=k.remote
   have k4:=k.size
   have k5:=outs_l b.hs b.cs d.id
   rw[r.2]
   unfold Amt at *
   exact⟨w1▸k.id,by unfold Amt;omega,by unfold Amt;omega,w3▸k.base,w4▸k.ppm,w8▸k.score,w2▸k.size⟩
  ·rw[r.2.2];exact b.ch d hd
 ·rw[hy3]at hc
  obtain⟨d,hd,r|r|r⟩:=upd2_cases fi hne hc
  ·have s:=b.sum d hd
   have e1:=ho d.id
   have e2:=hi d.id
   unfold hOut at e1
   unfold hIn at e2
   rw[if_neg (by omega)]at e1
   rw[if_pos r.1.symm]at e2
   obtain⟨w1,w2,w3,w4,w5,_⟩:=f1 d
   rw[r.2,w1,w2]
   omega
  ·have s:=b.sum d hd
   have e1:=ho d.id
   have e2:=hi d.id
   unfold hOut at e1
   unfold hIn at e2
   rw[if_pos r.1.symm]at e1
   rw[if_neg (by omega)]at e2
   obtain⟨w1,w2,w3,w4,w5,_⟩:=g1 d
   rw[r.2,w1,w2]
   omega
  ·have s:=b.sum d hd
   have e1:=ho d.id
   have e2:=hi d.id
   unfold hOut at e1
   unfold hIn at e2
   rw[if_neg (fun z=>r.2.1 z.symm)]at e1
   rw[if_neg (fun z=>r.1 z.symm)]at e2
   rw[r.2.2]
   omega
theorem bk_set{x:Book}{e:Event}(b:BOk x):BOk (setR x e).b:=by
 unfold setR
 split
 ·rename_i h hf
  have hm:=List.mem_of_find?_eq_some hf
  have q:=b.hs h hm
  have q1:=q.inn
  have q2:=q.out
  unfold Amt at q1
  unfold setY
  split
  ·exact bk_end b hm rfl rfl rfl rfl rfl rfl (fun c=>⟨rfl,rfl,rfl,rfl,by dsimp only;omega,by dsimp only;omega,Int.le_refl _,scoreUp_le _⟩) (fun c=>⟨rfl,rfl,rfl,rfl,by dsimp only;omega,Int.le_refl _,by dsimp only;omega,rfl⟩)
  ·exact bk_end b hm rfl rfl rfl rfl rfl rfl (fun c=>⟨rfl,rfl,rfl,rfl,by dsimp only;omega,Int.le_refl _,by dsimp only;omega,scoreDown_le _⟩) (fun c=>⟨rfl,rfl,rfl,rfl,by dsimp only;omega,by dsimp only;omega,Int.le_refl _,rfl⟩)
 ·exact b

theorem bk_endI{x y:Book}(b:BOk x){h:Circle}(hm:h∈x.circles){f g:Chan→Chan}(hy1:y.circles=delI x.circles h.key)(hy2:y.htlcs=x.htlcs)(hy3:y.chans=updC (updC x.chans h.frm f) h.to g)(hy4:y.tick=x.tick)(hy5:y.wallet=x.wallet)(hy6:y.next=x.next)
 (f1:∀c,(f c).id=c.id∧(f c).size=c.size∧(f c).base=c.base∧(f c).ppm=c.ppm∧(f c).loc+(f c).remote=c.loc+c.remote+(h.amt+h.fee)∧c.loc≤(f c).loc∧c.remote≤(f c).remote∧(f c).score=c.score)
 (g1:∀c,(g c).id=c.id∧(g c).size=c.size∧(g c).base=c.base∧(g c).ppm=c.ppm∧(g c).loc+(g c).remote=c.loc+c.remote+h.amt∧c.loc≤(g c).loc∧c.remote≤(g c).remote∧(g c).score=c.score):BOk y:=by
 have q:=b.cs h hm
 have hne:=q.ne
 have fi:∀c,(f c).id=c.id:=fun c=>(f1 c).1
 have gi:∀c,(g c).id=c.id:=fun c=>(g1 c).1
 have key:∀ch,There x.chans ch→There y.chans ch:=fun ch r=>by rw[hy3];exact there_upd gi (there_upd fi r)
 have hsub:∀z∈y.circles,z∈x.circles:=fun z hz=>by rw[hy1]at hz;exact(List.mem_filter.1 hz).1
 have hs':∀z∈y.htlcs,HOk x.chans z:=fun z hz=>b.hs z (hy2▸hz)
 have cs':∀z∈y.circles,IOk x.chans z:=fun z hz=>b.cs z (hsub z hz)
 have ho:∀ch,outOf y ch+cOut ch h=outOf x ch:=fun ch=>by
  unfold outOf
  have:=tot_filter (g:=fun z:Circle=>z.key) (f:=cOut ch) (hks_of b).2 hm
  rw[hy1,hy2]
  unfold delI
  omega
 have hi:∀ch,intoOf y ch+cIn ch h=intoOf x ch:=fun ch=>by
  unfold intoOf
  have:=tot_filter (g:=fun z:Circle=>z.key) (f:=cIn ch) (hks_of b).2 hm
  rw[hy1,hy2]
  unfold delI
  omega
 have hsl:(keysOf y).Sublist (keysOf x):=by
  unfold keysOf
  rw[hy1,hy2]
  exact(List.Sublist.refl _).append (List.filter_sublist.map _)
 have hlen:y.circles.length≤20:=by
  rw[hy1]
  have h1:(delI x.circles h.key).length≤x.circles.length:=List.length_filter_le _ _
  have:=b.li
  omega
 refine b.parts (hy4▸b.tick) (hy5▸b.wallet) hy6 (by rw[hy3,upd_len,upd_len];exact b.lc) (hy2▸b.lh) hlen (fun z hz=>(hs' z hz).chans key) (fun z hz=>(cs' z hz).chans key) (fun k hk=>b.kr k (hsl.subset hk)) (b.kn.sublist hsl) (by rw[hy3];exact asc_upd gi (asc_upd fi b.asc)) (fun c hc=>?_) (fun c hc=>?_)
 ·rw[hy3]at hc
  obtain⟨d,hd,r|r|r⟩:=upd2_cases fi hne hc
  ·have k:=b.ch d hd
   have s:=b.sum d hd
   have o:=outs_l hs' cs' d.id
   have e1:=ho d.id
   have e2:=hi d.id
   unfold cOut at e1
   unfold cIn at e2
   rw[if_pos r.1.symm]at e1
   rw[if_neg (by omega)]at e2
   unfold outOf at e1 s
   unfold intoOf at e2 s
   obtain⟨w1,w2,w3,w4,w5,w6,w7,w8⟩:=f1 d
   have k2:=k.loc
   have k3:=k.remote
   have k4:=k.size
   have k5:=outs_l b.hs b.cs d.id
   rw[r.2]
   unfold Amt at *
   exact⟨w1▸k.id,by unfold Amt;omega,by unfold Amt;omega,w3▸k.base,w4▸k.ppm,w8▸k.score,w2▸k.size⟩
  ·have k:=b.ch d hd
   have s:=b.sum d hd
   have o:=outs_l hs' cs' d.id
   have e1:=ho d.id
   have e2:=hi d.id
   unfold cOut at e1
   unfold cIn at e2
   rw[if_neg (by omega)]at e1
   rw[if_pos r.1.symm]at e2
   unfold outOf at e1 s
   unfold intoOf at e2 s
   obtain⟨w1,w2,w3,w4,w5,w6,w7,w8⟩:=g1 d
   have k2:=k.loc
   have k3:=k.remote
   have k4:=k.size
   have k5:=outs_l b.hs b.cs d.id
   rw[r.2]
   unfold Amt at *
   exact⟨w1▸k.id,by unfold Amt;omega,by unfold Amt;omega,w3▸k.base,w4▸k.ppm,w8▸k.score,w2▸k.size⟩
  ·rw[r.2.2];exact b.ch d hd
 ·rw[hy3]at hc
  obtain⟨d,hd,r|r|r⟩:=upd2_cases fi hne hc
  ·have s:=b.sum d hd
   have e1:=ho d.id
   have e2:=hi d.id
   unfold cOut at e1
   unfold cIn at e2
   rw[if_pos r.1.symm]at e1
   rw[if_neg (by omega)]at e2
   obtain⟨w1,w2,w3,w4,w5,_⟩:=f1 d
   rw[r.2,w1,w2]
   omega
  ·have s:=b.sum d hd
   have e1:=ho d.id
   have e2:=hi d.id
   unfold cOut at e1
   unfold cIn at e2
   rw[if_neg (by omega)]at e1
   rw[if_pos r.1.symm]at e2
   obtain⟨w1,w2,w3,w4,w5,_⟩:=g1 d
   rw[r.2,w1,w2]
   omega
  ·have s:=b.sum d hd
   have e1:=ho d.id
   have e2:=hi d.id
   unfold cOut at e1
   unfold cIn at e2
   rw[if_neg (fun z=>r.1 z.symm)]at e1
   rw[if_neg (fun z=>r.2.1 z.symm)]at e2
   rw[r.2.2]
   omega
theorem bk_land{x:Book}{e:Event}(b:BOk x):BOk (landR x e).b:=by
 unfold landR
 split
 ·rename_i h hf
  have hm:=List.mem_of_find?_eq_some hf
  have q:=b.cs h hm
  have q1:=q.amt
  have q2:=q.fee
  unfold Amt at q2
  unfold landY
  split
  ·exact bk_endI b hm rfl rfl rfl rfl rfl rfl (fun c=>⟨rfl,rfl,rfl,rfl,by dsimp only;omega,Int.le_refl _,by dsimp only;omega,rfl⟩) (fun c=>⟨rfl,rfl,rfl,rfl,by dsimp only;omega,by dsimp only;omega,Int.le_refl _,rfl⟩)
  ·exact bk_endI b hm rfl rfl rfl rfl rfl rfl (fun c=>⟨rfl,rfl,rfl,rfl,by dsimp only;omega,by dsimp only;omega,Int.le_refl _,rfl⟩) (fun c=>⟨rfl,rfl,rfl,rfl,by dsimp only;omega,Int.le_refl _,by dsimp only;omega,rfl⟩)
 ·exact b
theorem bk_shut{x:Book}{e:Event}(b:BOk x)(hf:0≤e.fee)(hk:e.kind=3)(ho:overB x e=false)(hc:shutC x e=0):BOk (shutR x e).b:=by
 rw[shutR_yes hc]
 unfold shutC at hc
 obtain⟨h2,g1⟩:=failC_zero (by decide) hc
 obtain⟨h3,g2⟩:=failC_zero (by decide) h2
 simp only[decide_eq_false_iff_not]at g1
 rcases chan_find x.chans e.ch with⟨q,_⟩|⟨i,c,q,q2,q3,q4⟩
 ·rw[missC_none q]at h3;exact absurd h3 (failC_set (by decide))
 have hcm:=mem_of_get q2
 have hcc:=b.ch c hcm
 have hl:=hcc.loc
 rw[q3]at g1
 have hov:¬1125899906842624<x.wallet+c.loc-e.fee:=by
  unfold overB at ho
  by_cases hn:x.next=1125899906842624
  ·rw[if_pos hn]at ho;cases ho
  ·rw[if_neg hn,if_neg (by omega),if_neg (by omega),if_pos ⟨hk,by omega⟩,q3]at ho
   simpa using ho
 have hw:=b.wallet
 unfold usedB at g2
 rw[Bool.or_eq_false_iff]at g2
 have u1:∀h∈x.htlcs,h.inn≠e.ch∧h.out≠e.ch:=fun h hh=>by
  have:=List.any_eq_false.1 g2.1 h hh
  unfold hUses at this
  simpa[not_or]using this
 have u2:∀h∈x.circles,h.frm≠e.ch∧h.to≠e.ch:=fun h hh=>by
  have:=List.any_eq_false.1 g2.2 h hh
  unfold cUses at this
  simpa[not_or]using this
 have key:∀ch,ch≠e.ch→There x.chans ch→There (delC x.chans e.ch) ch:=fun ch hne ⟨d,hd,r⟩=>⟨d,List.mem_filter.2 ⟨hd,by simpa[r]using hne⟩,r⟩
 have hsub:∀d∈delC x.chans e.ch,d∈x.chans:=fun d hd=>(List.mem_filter.1 hd).1
 refine b.parts b.tick ?_ rfl ?_ b.lh b.li (fun h hh=>?_) (fun h hh=>?_) b.kr b.kn (b.asc.sublist List.filter_sublist) (fun d hd=>b.ch d (hsub d hd)) (fun d hd=>b.sum d (hsub d hd))
 ·show Amt (x.wallet+((chanOr x.chans e.ch).loc-e.fee))
  rw[q3]
  unfold Amt at *
  omega
 ·have h1:(delC x.chans e.ch).length≤x.chans.length:=List.length_filter_le _ _
  have:=b.lc
  show (delC x.chans e.ch).length≤_
  omega
 ·have q:=b.hs h hh
  have u:=u1 h hh
  exact⟨q.inn,q.out,q.age,q.ne,key _ u.1 q.ti,key _ u.2 q.to⟩
 ·have q:=b.cs h hh
  have u:=u2 h hh
  exact⟨q.amt,q.fee,q.ne,key _ u.1 q.ti,key _ u.2 q.to⟩
theorem ev_parts{e:Event}(h:eventOk e=true):(hK e.kind=true→1≤e.key∧e.key≤1000000)∧(hC e.kind=true→1≤e.ch∧e.ch≤99)∧(hA e.kind=true→e.kind≠4→1≤e.amt)∧(e.kind=4→e.fee≤1000000):=by
 unfold eventOk at h
 simp only[Bool.and_eq_true]at h
 obtain⟨⟨⟨⟨⟨⟨⟨h1,h2⟩,h3⟩,h4⟩,h5⟩,h6⟩,h7⟩,h8⟩:=h
 unfold fieldB at h2 h3 h6 h7
 refine⟨fun q=>?_,fun q=>?_,fun q r=>?_,fun q=>?_⟩
 ·rw[if_pos q]at h2;exact inB_true.1 h2
 ·rw[if_pos q]at h3;exact inB_true.1 h3
 ·rw[if_pos q,if_neg r]at h6;exact(inB_true.1 h6).1
 ·rw[if_pos (by rw[q];rfl),if_pos q]at h7;exact(inB_true.1 h7).2
theorem bk_work{x:Book}{e:Event}(h:applyC x e=0):BOk (workR x e).b:=by
 obtain⟨h1,h2,h3⟩:=applyC_ok h
 have b:=bOk_of h1
 have hbe:(bookOk x&&eventOk e)=true:=by rw[h1,h2];rfl
 have hw:(workR x e).c=0:=by rw[←applyC_work hbe h3];exact h
 obtain⟨_,a0,f0⟩:=evSm_of h2
 have am:=evAmt h2
 rw[amtOk_true,amtOk_true]at am
 obtain⟨p1,p2,p3,p4⟩:=ev_parts h2
 have hn:=over_next h3
 by_cases k1:e.kind=1
 ·rw[←wk1 k1];exact bk_dep b h3 k1 a0
 by_cases k2:e.kind=2
 ·rw[←wk2 k2]at hw ⊢
  have hs:=over_2 hn k2
  rw[h3]at hs
  by_cases q:openC x e=0
  ·exact bk_open b (by simpa using hs.symm) a0 f0 (p2 (by rw[k2];rfl)) q
  ·rw[openR_no q]at hw;exact absurd hw q
 by_cases k3:e.kind=3
 ·rw[←wk3 k3]at hw ⊢
  by_cases q:shutC x e=0
  ·exact bk_shut b f0 k3 h3 q
  ·rw[shutR_no q]at hw;exact absurd hw q
 by_cases k4:e.kind=4
 ·rw[←wk4 k4];exact bk_pri b am.1 ⟨f0,p4 k4⟩
 by_cases k5:e.kind=5
 ·rw[←wk5 k5]at hw ⊢
  by_cases q:admC x e=0
  ·exact bk_adm b (ev_ne h2 (.inl k5)) (p1 (by rw[k5];rfl)) (p3 (by rw[k5];rfl) (by omega)) q
  ·rw[admR_no q]at hw;exact absurd hw q
 by_cases k6:e.kind=6∨e.kind=7
 ·rw[←wk6 k6];exact bk_set b
 by_cases k8:e.kind=8
 ·rw[←wk8 k8]
  have hs:=over_8 hn k8
  rw[h3]at hs
  exact bk_tick b (by simpa using hs.symm)
 by_cases k9:e.kind=9
 ·rw[←wk9 k9]at hw ⊢
  by_cases q:lauC x e=0
  ·exact bk_lau b (ev_ne h2 (.inr k9)) (p1 (by rw[k9];rfl)) (p3 (by rw[k9];rfl) (by omega)) q
  ·rw[lauR_no q]at hw;exact absurd hw q
 ·have:=ev_kind h2
  rw[←wk10 (by omega)]
  exact bk_land b
theorem bookOk_appB{x:Book}{e:Event}(h:applyC x e=0):bookOk (appB x e)=true:=by
 have b:=bk_work h
 by_cases r:(workR x e).l=[]
 ·rw[(appB_nil h r).1];exact bOk_to b
 ·rw[(appB_yes h r).1]
  have hn:=over_next (applyC_ok h).2.2
  have h2:=b.next
  rw[workR_next]at h2 ⊢
  exact bOk_to (b.setNext ⟨by omega,by omega⟩)

theorem lessA_trans{a b c:Acc}(h:lessA a b=true)(h2:lessA b c=true):lessA a c=true:=by
 unfold lessA at *
 simp only[Bool.or_eq_true,Bool.and_eq_true,decide_eq_true_eq,beq_iff_eq]at *
 omega
def lamt(x:Line):Int:=x.amt
theorem insL_asc{x:Line}:∀ {l:List Line},(l.Pairwise fun a b=>lessA a.acc b.acc=true)→Fresh l x.acc.kind x.acc.ch→(insL l x).Pairwise fun a b=>lessA a.acc b.acc=true
 |[],_,_=>by unfold insL;exact List.pairwise_singleton _ _
 |y::l,h,hf=>by
  rw[List.pairwise_cons]at h
  unfold insL
  by_cases q:lessA y.acc x.acc=true
  ·rw[if_pos q,List.pairwise_cons]
   refine⟨fun z hz=>?_,insL_asc h.2 fun z hz=>hf z (by simp[hz])⟩
   rcases mem_insL hz with r|rfl
   ·exact h.1 z r
   ·exact q
  ·rw[if_neg q]
   have q':=lessA_or (hf y (by simp)) (by simpa using q)
   rw[List.pairwise_cons]
   refine⟨fun z hz=>?_,List.pairwise_cons.2 h⟩
   rcases List.mem_cons.1 hz with rfl|r
   ·exact q'
   ·exact lessA_trans q' (h.1 z r)
theorem insL_tot{x:Line}:∀(l:List Line),tot lamt (insL l x)=tot lamt l+x.amt
 |[]=>by unfold insL;rw[tot_cons,tot_nil];unfold lamt;omega
 |y::l=>by
  unfold insL
  split
  ·rw[tot_cons,tot_cons,insL_tot l];omega
  ·rw[tot_cons];unfold lamt;omega
def AccV(a:Acc):Prop:=(1≤a.kind∧a.kind≤5∧a.ch=0)∨(6≤a.kind∧a.kind≤8∧1≤a.ch∧a.ch≤99)
structure LnS(l:List Line)(s:Int)(m:Nat):Prop where
 asc:l.Pairwise fun a b=>lessA a.acc b.acc=true
 acc:∀y∈l,AccV y.acc
 amt:∀y∈l,y.amt≠0∧-1125899906842624≤y.amt∧y.amt≤1125899906842624
 sum:tot lamt l=s
 len:l.length≤m
theorem LnS.nil:LnS [] 0 0:=⟨List.Pairwise.nil,by simp,by simp,rfl,Nat.le_refl _⟩
theorem LnS.add{l:List Line}{s n k c:Int}{m:Nat}(h:LnS l s m)(hv:AccV ⟨k,c⟩)(hf:Fresh l k c)(hn:-1125899906842624≤n∧n≤1125899906842624):LnS (addL l k c n) (s+n) (m+1):=by
 by_cases q:n=0
 ·rw[addL_zero q,q,Int.add_zero]
  exact⟨h.asc,h.acc,h.amt,h.sum,Nat.le_succ_of_le h.len⟩
 ·rw[addL_pos q]
  refine⟨insL_asc h.asc hf,fun y hy=>?_,fun y hy=>?_,?_,?_⟩
  ·rcases mem_insL hy with r|rfl
   ·exact h.acc y r
   ·exact hv
  ·rcases mem_insL hy with r|rfl
   ·exact h.amt y r
   ·exact⟨q,hn⟩
  ·rw[insL_tot,h.sum]
  ·rw[insL_length];have:=h.len;omega
theorem LnS.eq{l:List Line}{s t:Int}{m:Nat}(h:LnS l s m)(e:s=t):LnS l t m:=e▸h
theorem LnS.two{l:List Line}{m:Nat}(h:LnS l 0 m)(hl:l≠[]):2≤l.length:=by
 match l,hl with
 |[y],_=>
  have h1:=h.sum
  rw[tot_cons,tot_nil]at h1
  have h2:=(h.amt y (by simp)).1
  unfold lamt at h1
  omega
 |_::_::_,_=>simp
theorem There.ok{x:Book}(b:BOk x){ch:Int}(h:There x.chans ch):1≤ch∧ch≤99:=by
 obtain⟨c,hc,rfl⟩:=h
 exact(b.ch c hc).id
theorem av0{k:Int}(h:1≤k∧k≤5):AccV ⟨k,0⟩:=.inl ⟨h.1,h.2,rfl⟩
theorem av1{k ch:Int}(h:6≤k∧k≤8)(hc:1≤ch∧ch≤99):AccV ⟨k,ch⟩:=.inr ⟨h.1,h.2,hc.1,hc.2⟩
theorem fr2{l:List Line}{a b c k ch:Int}(h:Fresh l k ch)(hd:a≠k∨b≠ch):Fresh (addL l a b c) k ch:=h.add hd
theorem ln_work{x:Book}{e:Event}(h:applyC x e=0):LnS (workR x e).l 0 3:=by
 obtain⟨h1,h2,h3⟩:=applyC_ok h
 have b:=bOk_of h1
 have hbe:(bookOk x&&eventOk e)=true:=by rw[h1,h2];rfl
 have hw:(workR x e).c=0:=by rw[←applyC_work hbe h3];exact h
 have am:=evAmt h2
 rw[amtOk_true,amtOk_true]at am
 obtain⟨a0,f0⟩:=am
 obtain⟨p1,p2,p3,p4⟩:=ev_parts h2
 have hn:=over_next h3
 have nil3:LnS [] 0 3:=⟨List.Pairwise.nil,by simp,by simp,rfl,by simp⟩
 have up:∀ {l:List Line} {s:Int},LnS l s 2→s=0→LnS l 0 3:=fun q r=>by subst r;exact⟨q.asc,q.acc,q.amt,q.sum,Nat.le_succ_of_le q.len⟩
 by_cases k1:e.kind=1
 ·rw[←wk1 k1]
  exact up ((LnS.nil.add (av0 (by omega)) (Fresh.nil _ _) (by omega)).add (av0 (by omega)) (fr2 (Fresh.nil _ _) (.inl (by decide))) (by omega)) (by omega)
 by_cases k2:e.kind=2
 ·rw[←wk2 k2]at hw ⊢
  by_cases q:openC x e=0
  ·rw[openR_yes q]
   exact up ((LnS.nil.add (av1 (by omega) (p2 (by rw[k2];rfl))) (Fresh.nil _ _) (by omega)).add (av0 (by omega)) (fr2 (Fresh.nil _ _) (.inl (by decide))) (by omega)) (by omega)
  ·rw[openR_no q]at hw;exact absurd hw q
 by_cases k3:e.kind=3
 ·rw[←wk3 k3]at hw ⊢
  by_cases q:shutC x e=0
  ·rw[shutR_yes q]
   unfold shutC at q
   obtain⟨_,g1⟩:=failC_zero (by decide) q
   simp only[decide_eq_false_iff_not]at g1
   have hl:Amt (chanOr x.chans e.ch).loc:=by
    rcases chan_find x.chans e.ch with⟨_,r⟩|⟨i,c,_,r2,r3,_⟩
    ·rw[r];exact⟨Int.le_refl _,by decide⟩
    ·rw[r3];exact(b.ch c (mem_of_get r2)).loc
   unfold Amt at hl
   exact(((LnS.nil.add (av0 (by omega)) (Fresh.nil _ _) (by omega)).add (av0 (by omega)) (fr2 (Fresh.nil _ _) (.inl (by decide))) (by omega)).add (av1 (by omega) (p2 (by rw[k3];rfl))) (fr2 (fr2 (Fresh.nil _ _) (.inl (by decide))) (.inl (by decide))) (by omega)).eq (by omega)
  ·rw[shutR_no q]at hw;exact absurd hw q
 by_cases k4:e.kind=4
 ·rw[←wk4 k4]
  unfold priR
  split<;>exact nil3
 by_cases k5:e.kind=5
 ·rw[←wk5 k5]at hw ⊢
  by_cases q:admC x e=0
  ·rw[admR_yes q]
   have hto:1≤e.to∧e.to≤99:=by
    have h5:=h2
    unfold eventOk at h5
    simp only[Bool.and_eq_true]at h5
    have:=h5.1.1.1.1.2
    unfold fieldB at this
    rw[if_pos (by rw[k5];rfl)]at this
    exact inB_true.1 this
   exact up ((LnS.nil.add (av1 (by omega) hto) (Fresh.nil _ _) (by omega)).add (av1 (by omega) hto) (fr2 (Fresh.nil _ _) (.inl (by decide))) (by omega)) (by omega)
  ·rw[admR_no q]at hw;exact absurd hw q
 by_cases k6:e.kind=6∨e.kind=7
 ·rw[←wk6 k6]
  unfold setR
  split
  ·rename_i y hy
   have q:=b.hs y (List.mem_of_find?_eq_some hy)
   have q1:=q.inn
   have q2:=q.out
   unfold Amt at q1
   have ti:=There.ok b q.ti
   have to:=There.ok b q.to
   unfold setY
   split
   ·exact(((LnS.nil.add (av0 (by omega)) (Fresh.nil _ _) (by omega)).add (av1 (by omega) ti) (fr2 (Fresh.nil _ _) (.inl (by decide))) (by omega)).add (av1 (by omega) to) (fr2 (fr2 (Fresh.nil _ _) (.inl (by decide))) (.inl (by decide))) (by omega)).eq (by omega)
   ·exact up ((LnS.nil.add (av1 (by omega) to) (Fresh.nil _ _) (by omega)).add (av1 (by omega) to) (fr2 (Fresh.nil _ _) (.inl (by decide))) (by omega)) (by omega)
  ·exact nil3
 by_cases k8:e.kind=8
 ·rw[←wk8 k8];exact nil3
 by_cases k9:e.kind=9
 ·rw[←wk9 k9]at hw ⊢
  by_cases q:lauC x e=0
  ·rw[lauR_yes q]
   have hs:A50 (addV e.amt e.fee):=addV_A50 _ _
   unfold A50 at hs
   have hch:=p2 (by rw[k9];rfl)
   exact up ((LnS.nil.add (av1 (by omega) hch) (Fresh.nil _ _) (by omega)).add (av1 (by omega) hch) (fr2 (Fresh.nil _ _) (.inl (by decide))) (by omega)) (by omega)
  ·rw[lauR_no q]at hw;exact absurd hw q
 ·have:=ev_kind h2
  rw[←wk10 (by omega)]
  unfold landR
  split
  ·rename_i y hy
   have hm:=List.mem_of_find?_eq_some hy
   have q:=b.cs y hm
   have q1:=circle_fits h1 y hm
   have ti:=There.ok b q.ti
   have to:=There.ok b q.to
   unfold landY
   split
   ·exact(((LnS.nil.add (av0 (by omega)) (Fresh.nil _ _) (by omega)).add (av1 (by omega) to) (fr2 (Fresh.nil _ _) (.inl (by decide))) (by omega)).add (av1 (by omega) ti) (fr2 (fr2 (Fresh.nil _ _) (.inl (by decide))) (.inl (by decide))) (by omega)).eq (by omega)
   ·exact up ((LnS.nil.add (av1 (by omega) ti) (Fresh.nil _ _) (by omega)).add (av1 (by omega) ti) (fr2 (Fresh.nil _ _) (.inl (by decide))) (by omega)) (by omega)
  ·exact nil3

def Keeps(l l':List Chan):Prop:=∀c∈l,∃d∈l',d.id=c.id∧d.size=c.size
theorem Keeps.refl(l:List Chan):Keeps l l:=fun c hc=>⟨c,hc,rfl,rfl⟩
theorem Keeps.trans{a b c:List Chan}(h:Keeps a b)(h2:Keeps b c):Keeps a c:=fun x hx=>by
 obtain⟨y,hy,q1,q2⟩:=h x hx
 obtain⟨z,hz,r1,r2⟩:=h2 y hy
 exact⟨z,hz,r1.trans q1,r2.trans q2⟩
theorem Keeps.upd{l:List Chan}{a:Int}{f:Chan→Chan}(hf:∀c,(f c).id=c.id∧(f c).size=c.size):Keeps l (updC l a f):=fun c hc=>by
 refine⟨_,List.mem_map_of_mem hc,?_⟩
 split
 ·exact hf c
 ·exact⟨rfl,rfl⟩
theorem Keeps.map{l:List Chan}{f:Chan→Chan}(hf:∀c,(f c).id=c.id∧(f c).size=c.size):Keeps l (l.map f):=fun c hc=>⟨_,List.mem_map_of_mem hc,hf c⟩
theorem appP_next{x:Book}{e:Event}(h:applyC x e=0)(hp:(appP x e).id≠0):(appP x e).id=x.next∧(appB x e).next=x.next+1∧LnS (appP x e).lines 0 3∧2≤(appP x e).lines.length:=by
 by_cases r:(workR x e).l=[]
 ·rw[(appB_nil h r).2]at hp;exact absurd rfl hp
 ·rw[(appB_yes h r).1,(appB_yes h r).2]
  exact⟨rfl,by show (workR x e).b.next+1=_;rw[workR_next],ln_work h,(ln_work h).two r⟩

def accOk(a:Acc):Bool:=if inB a.kind 6 8=true then inB a.ch 1 99 else inB a.kind 1 5&&(a.ch==0)
def prevOk(l:List Line)(i:Nat)(x:Line):Bool:=match i with|0=>true|j+1=>match l[j]? with|some y=>lessA y.acc x.acc|none=>true
def lineAt(l:List Line)(i:Nat):Bool:=match l[i]? with|some x=>accOk x.acc&&!(x.amt==0)&&rangeA x.amt&&prevOk l i x|none=>true
def amtOf(x:Line):Int:=x.amt
def linesOk(l:List Line):Bool:=(List.range l.length).all (lineAt l)&&(tot amtOf l==0)
theorem accOk_iff{a:Acc}:accOk a=true↔(1≤a.kind∧a.kind≤5∧a.ch=0)∨(6≤a.kind∧a.kind≤8∧1≤a.ch∧a.ch≤99):=by
 unfold accOk
 by_cases h:inB a.kind 6 8=true
 ·rw[if_pos h]
  have:=inB_true.1 h
  rw[inB_true];omega
 ·rw[if_neg h,Bool.and_eq_true,inB_true,beq_iff_eq]
  have h':=inB_false.1 (by simpa using h)
  omega
theorem lineAt_eq{l:List Line}{k:Nat}(h:k<l.length):lineAt l k=(accOk l[k].acc&&!(l[k].amt==0)&&rangeA l[k].amt&&prevOk l k l[k]):=by
 unfold lineAt;rw[List.getElem?_eq_getElem h]
theorem linesOk_no{l:List Line}{k:Nat}(h:k<l.length)(h2:lineAt l k=false):linesOk l=false:=by
 unfold linesOk
 rw[show (List.range l.length).all (lineAt l)=false from List.all_eq_false.2 ⟨k,by simpa using h,by simp[h2]⟩]
 rfl
theorem linesOk_yes{l:List Line}(h:∀j,j<l.length→lineAt l j=true):linesOk l=(tot amtOf l==0):=by
 unfold linesOk
 rw[show (List.range l.length).all (lineAt l)=true from List.all_eq_true.2 fun j hj=>h j (by simpa using hj)]
 rfl
theorem prevOk_pos{l:List Line}{k:Nat}{x:Line}(h0:0<k)(h:k<l.length):prevOk l k x=lessA (l[k-1]'(by omega)).acc x.acc:=by
 obtain⟨j,rfl⟩:∃j,k=j+1:=⟨k-1,by omega⟩
 show (match l[j]? with|some y=>lessA y.acc x.acc|none=>true)=_
 rw[List.getElem?_eq_getElem (by omega:j<l.length)]
 rfl
theorem amts_bd{l:List Line}:∀(k:Nat),k≤l.length→(∀j,j<k→lineAt l j=true)→-((k:Int)*1125899906842624)≤tot amtOf (l.take k)∧tot amtOf (l.take k)≤(k:Int)*1125899906842624
 |0,_,_=>by simp[tot]
 |k+1,hk,h=>by
  have ih:=amts_bd k (by omega) (fun j hj=>h j (by omega))
  have hl:=h k (by omega)
  rw[lineAt_eq (by omega:k<l.length)]at hl
  simp only[Bool.and_eq_true]at hl
  have hr:=inB_true.1 hl.1.2
  rw[tot_succ amtOf l (by omega:k<l.length)]
  unfold amtOf at *
  push_cast
  omega
theorem sum_fit{l:List Line}{k:Nat}(hn:l.length≤1000)(hk:k<l.length)(h:∀j,j<k→lineAt l j=true)(hr:rangeA l[k].amt=true):Fits .i64 (tot amtOf (l.take k)+l[k].amt):=by
 have:=amts_bd k (by omega) h
 have:=inB_true.1 hr
 refine fits_i64 ?_
 unfold i64
 omega
def postOk(n:Int)(l:List Line):Bool:=inB n 1 1125899906842624&&inB (l.length:Int) 2 8&&linesOk l
theorem accOk_e(a:Acc):GC Tryz.prog 120 [.agg [int a.kind,int a.ch]] [] (boo (accOk a)) []:=by
 refine gi 2 Tryz.func120 rfl Tryz.ntmps120 rfl ?_
 intro L O w0
 refine sL<|lst (zX 2001 Z) Z<|laZ Z<|nG<|aS<|sL<|lf 0 ty.F110_0 Z<|loI ty.kd3 Z<|lst (zC [] [] [] Tryz.func63 (in_e _ _ _) (trivial) Z Z) Z<|nG ?_
 refine AW.cond rfl ?_ ?_
 ·intro h1
  refine sL<|lf 1 ty.F110_1 Z<|loI ty.kd3 Z<|lst (zC [] [] [] Tryz.func63 (in_e _ _ _) (trivial) Z Z) Z<|laB Z<|nG<|aR<|rT ?_
  refine eBo trivial ?_
  first|rfl|(simp_all[accOk,dec_beq];done)|(simp_all[accOk,inB];omega)
 ·intro h1
  refine aK<|gA<|lf 0 ty.F110_0 Z<|loI ty.kd3 Z<|lst (zC [] [] [] Tryz.func63 (in_e _ _ _) (trivial) Z Z) Z<|lmB Z ?_
  refine AL.bool (t:=12) rfl ?_ ?_
  ·intro h2
   refine lf 1 ty.F110_1 Z<|loI ty.kd3 Z<|lbB Z<|lkB Z<|laB Z<|nG<|aR ?_
   refine eBo trivial ?_
   first|rfl|(simp_all[accOk,dec_beq];done)|(simp_all[accOk,inB];omega)
  ·intro h2
   refine lno Z<|lno Z<|lno Z<|lkZ Z<|laZ Z<|nG<|aR ?_
   refine eBo trivial ?_
   first|rfl|(simp_all[accOk,dec_beq];done)|(simp_all[accOk,inB];omega)
theorem linesOk_e(l:List Line)(hn:l.length≤1000):GC Tryz.prog 68 [.p (.lst 120 3 (rowsOf encLine l))] [] (boo (linesOk l)) []:=by
 refine gi 2 Tryz.func68 rfl Tryz.ntmps68 rfl ?_
 intro L O w0
 refine sL<|laZ Z<|nA<|laI Z<|nG<|aS<|sL<|lmL Z<|lnI ty.sl32 Z<|lmI Z<|nG<|aB ?_
 refine aW [0,2,6,7] [] (D:=Nat) (fun k=>[(3,int (tot amtOf (l.take k))),(8,int (k:Int))]) (fun k=>[]) (fun k=>k≤l.length∧∀j,j<k→lineAt l j=true) (fun k=>l.length-k) (0) (⟨Nat.zero_le _,fun j h=>absurd h (by omega)⟩) ⟨rfl,rfl,trivial⟩ trivial ?_
 intro k hI
 obtain⟨hkl,hall⟩:=hI
 refine sL<|lbB Z<|nG<|aS ?_
 refine AW.cond rfl ?_ ?_
 ·intro h1
  refine aK<|gT<|aS<|aB<|sL<|lmI Z ?_
  have hk:k<l.length:=by simpa[length_rowsOf]using h1
  refine li k ty.el32 Z (row_map hk)<|lrX (.agg [vI _ _,vI _ _,vI _ _]) ty.kd120 Z<|lst (zA 2005 ty.ze120 Z) Z<|laI Z<|lst (zB 2005 ty.co120 ty.inf120 Z) Z<|nG<|aS<|aS<|aF []<|vq 0 (rf 0 ty.F120_0 Z)<|vq 1 (roX (.agg [vI _ _,vI _ _]) ty.kd110 Z)<|vst 2 Z (zC [] [] [] Tryz.func120 (accOk_e l[k].acc) (trivial) Z Z) (.inr Z)<|fT [0,2,3,4,5,6,7,8,15] [2005] ?_
  refine vq 3 (ruB Z)<|vq 4 (rmB Z) ?_
  refine AF.bool (t:=17) rfl ?_ ?_
  ·intro h2
   refine vno 5 Z<|vno 6 Z<|vno 7 Z<|vq 8 (rkT Z)<|vq 9 (rmT Z)<|vno 10 Z<|vno 11 Z<|vno 12 Z<|vno 13 Z<|vq 14 (rkT Z)<|vq 15 (rmT Z)<|vno 16 Z<|vno 17 Z<|vno 18 Z<|pno 19 Z<|pno 20 Z<|pno 21 Z<|pno 22 Z<|pno 23 Z<|pno 24 Z<|vno 25 Z<|vno 26 Z<|vno 27 Z<|vno 28 Z<|vno 29 Z<|vq 30 (rkT Z)<|fD<|gT<|aY Z<|aS ?_
   refine aL<|laZ Z<|nG<|aR<|rT<|rB<|rT<|rT<|rB<|rT ?_
   refine eBo trivial ?_
   first|(exfalso;simp only[decide_eq_true_eq]at *;omega)|exact(linesOk_no hk (by rw[lineAt_eq hk];simp_all[rangeA,prevOk_pos])).symm
  ·intro h2
   refine vq 5 (rf 2 ty.F120_1 Z)<|vq 6 (roI ty.kd3 Z)<|vq 7 (rbB Z)<|vq 8 (rkB Z)<|vq 9 (rmB Z) ?_
   refine AF.bool (t:=22) rfl ?_ ?_
   ·intro h3
    refine vno 10 Z<|vno 11 Z<|vno 12 Z<|vno 13 Z<|vq 14 (rkT Z)<|vq 15 (rmT Z)<|vno 16 Z<|vno 17 Z<|vno 18 Z<|pno 19 Z<|pno 20 Z<|pno 21 Z<|pno 22 Z<|pno 23 Z<|pno 24 Z<|vno 25 Z<|vno 26 Z<|vno 27 Z<|vno 28 Z<|vno 29 Z<|vq 30 (rkT Z)<|fD<|gT<|aY Z<|sL<|laZ Z<|nG<|aR ?_
    refine rT<|rB<|rT<|rT<|rB<|rT ?_
    refine eBo trivial ?_
    first|(exfalso;simp only[decide_eq_true_eq]at *;omega)|exact(linesOk_no hk (by rw[lineAt_eq hk];simp_all[rangeA,prevOk_pos])).symm
   ·intro h3
    refine vq 10 (rf 2 ty.F120_1 Z)<|vq 11 (roI ty.kd3 Z)<|vst 12 Z (zC [] [] [] Tryz.func63 (in_e _ _ _) (trivial) Z Z) (.inr Z)<|fT [0,2,3,4,5,6,7,8,22,25] [2005] ?_
    refine vq 13 (ruB Z)<|vq 14 (rkB Z)<|vq 15 (rmB Z) ?_
    refine AF.bool (t:=28) rfl ?_ ?_
    ·intro h4
     refine vno 16 Z<|vno 17 Z<|vno 18 Z<|pno 19 Z<|pno 20 Z<|pno 21 Z<|pno 22 Z<|pno 23 Z<|pno 24 Z<|vno 25 Z<|vno 26 Z<|vno 27 Z<|vno 28 Z<|vno 29 Z<|vq 30 (rkT Z)<|fD<|gT<|aY Z<|sL<|laZ Z<|nG<|aR<|rT<|rB<|rT<|rT<|rB<|rT ?_
     refine eBo trivial ?_
     first|(exfalso;simp only[decide_eq_true_eq]at *;omega)|exact(linesOk_no hk (by rw[lineAt_eq hk];simp_all[rangeA,prevOk_pos])).symm
    ·intro h4
     refine vq 16 (rmI Z)<|vq 17 (rbB Z)<|vq 18 (rmB Z) ?_
     refine AF.bool (t:=31) rfl ?_ ?_
     ·intro h5
      refine pq 19 (qmL Z)<|pq 20 (qmX (vI _ _) Z) ?_
      have hp:0<k:=by simpa using h5
      refine sq 21 (rgI rfl (by unfold i64;omega))<|sq 22 (rd (x:=.rp _) (rd_iaddr_p (i:=k-1) rfl ty.el32 rfl rfl ?hn1 (row_map (by omega:k-1<l.length))) rfl) ?_
      case hn1=>omega
      refine pq 23 (qd (x:=.rp _) (zpfr ty.F120_0 rfl) rfl)<|sq 24 (rrX (.agg [vI _ _,vI _ _]) ty.kd110 rfl)<|vq 25 (rf 0 ty.F120_0 rfl)<|vq 26 (roX (.agg [vI _ _,vI _ _]) ty.kd110 rfl)<|vst 27 rfl (zC [] [] [] Tryz.func121 (lessA_e (l[k-1]'(by omega)).acc l[k].acc) (trivial) rfl rfl) (.inr rfl)<|fT [0,2,3,5,6,7,8,28,31,40] [2005] ?_
      refine vq 28 (ruB Z)<|vq 29 (rkB Z)<|vq 30 (rkB Z)<|fD<|gT ?_
      refine AW.cond rfl ?_ ?_
      ·intro h6
       refine sL<|laZ Z<|nG<|aR<|rT<|rB<|rT<|rT<|rB<|rT ?_
       refine eBo trivial ?_
       first|(exfalso;simp only[decide_eq_true_eq]at *;omega)|exact(linesOk_no hk (by rw[lineAt_eq hk];simp_all[rangeA,prevOk_pos])).symm
      ·intro h6
       refine aK<|gT<|aL<|lmI Z<|lf 2 ty.F120_1 Z<|loI ty.kd3 Z ?_
       have hpv:prevOk l k l[k]=true:=by
        rcases Nat.eq_zero_or_pos k with q|q
        ·subst q;rfl
        ·rw[prevOk_pos q hk];simp_all
       have hgood:lineAt l k=true:=by rw[lineAt_eq hk,hpv];simp_all[rangeA]
       have hrg:rangeA l[k].amt=true:=by rw[lineAt_eq hk]at hgood;simp only[Bool.and_eq_true]at hgood;exact hgood.1.2
       refine lhI rfl ⟨rfl,sum_fit (by omega) hk hall hrg⟩<|laI Z<|lN<|gB<|gT<|aL<|lgI Z<|lmI Z<|nG ?_
       refine⟨k+1,⟨hk,fun j hj=>(Nat.lt_or_ge j k).elim (hall j) (fun q=>by rw[show j=k by omega];exact hgood)⟩,by omega,⟨(Eq.trans (b:=int _) rfl (congrArg int (tot_succ amtOf l hk).symm)),(iq rfl),trivial⟩,trivial,rfl,rfl⟩
     ·intro h5
      refine pno 19 Z<|pno 20 Z<|pno 21 Z<|pno 22 Z<|pno 23 Z<|pno 24 Z<|vno 25 Z<|vno 26 Z<|vno 27 Z<|vno 28 Z<|vq 29 (rkZ Z)<|vq 30 (rkZ Z)<|fD<|gT<|aN Z<|aK<|gT<|aL<|lmI Z<|lf 2 ty.F120_1 Z<|loI ty.kd3 Z ?_
      have hpv:prevOk l k l[k]=true:=by
       rcases Nat.eq_zero_or_pos k with q|q
       ·subst q;rfl
       ·rw[prevOk_pos q hk];simp_all
      have hgood:lineAt l k=true:=by rw[lineAt_eq hk,hpv];simp_all[rangeA]
      have hrg:rangeA l[k].amt=true:=by rw[lineAt_eq hk]at hgood;simp only[Bool.and_eq_true]at hgood;exact hgood.1.2
      refine lhI rfl ⟨rfl,sum_fit (by omega) hk hall hrg⟩<|laI Z<|lN<|gB<|gT<|aL<|lgI Z<|lmI Z<|nG ?_
      refine⟨k+1,⟨hk,fun j hj=>(Nat.lt_or_ge j k).elim (hall j) (fun q=>by rw[show j=k by omega];exact hgood)⟩,by omega,⟨(Eq.trans (b:=int _) rfl (congrArg int (tot_succ amtOf l hk).symm)),(iq rfl),trivial⟩,trivial,rfl,rfl⟩
 ·intro h1
  refine aE<|eT<|eT<|eB<|gA<|lmI Z<|lbB Z<|laB Z<|nG<|aR ?_
  refine eBo trivial ?_
  have hkn:¬k<l.length:=by simpa[length_rowsOf]using h1
  obtain rfl:k=l.length:=by omega
  rw[linesOk_yes hall,List.take_length,dec_beq]
theorem postOk_e(n:Int)(l:List Line)(hn:l.length≤1000):GC Tryz.prog 12 [.agg [int n,.p (.lst 120 3 (rowsOf encLine l))]] [] (boo (postOk n l)) []:=by
 refine gi 2 Tryz.func12 rfl Tryz.ntmps12 rfl ?_
 intro L O w0
 refine sL<|lst (zX 2001 Z) Z<|laZ Z<|nA<|lf 0 ty.F34_0 Z<|loI ty.kd3 Z<|lst (zC [] [] [] Tryz.func63 (in_e _ _ _) (trivial) Z Z) Z<|lmB Z ?_
 refine AL.bool (t:=6) rfl ?_ ?_
 ·intro h1
  refine lf 1 ty.F34_1 Z<|loL ty.kd32 Z<|lnI ty.sl32 Z<|lst (zC [] [] [] Tryz.func63 (in_e _ _ _) (trivial) Z Z) Z<|lkB Z<|lmB Z ?_
  refine AL.bool (t:=12) rfl ?_ ?_
  ·intro h2
   refine lf 1 ty.F34_1 Z<|loL ty.kd32 Z<|lst (zC [] [] [] Tryz.func68 (linesOk_e l hn) (trivial) Z Z) Z<|lT [2,12,15] [2001] ?_
   refine lkB Z<|laB Z<|nG<|aR ?_
   refine eBo trivial ?_
   simp_all[postOk,length_rowsOf]
  ·intro h2
   refine lno Z<|lno Z<|lno Z<|lkZ Z<|laZ Z<|nG<|aR ?_
   refine eBo trivial ?_
   simp_all[postOk,length_rowsOf]
 ·intro h1
  refine lno Z<|lno Z<|lno Z<|lno Z<|lkZ Z<|lmZ Z<|lno Z<|lno Z<|lno Z<|lkZ Z<|laZ Z<|nG<|aR ?_
  refine eBo trivial ?_
  simp_all[postOk,length_rowsOf]

instance {l:List Chan} {ch:Int}:Decidable (There l ch):=inferInstanceAs (Decidable (∃c,c∈l∧c.id=ch))
def accT(k c:Int)(x:Line):Int:=if x.acc.kind=k∧x.acc.ch=c then x.amt else 0
def sumA(l:List Line)(k c:Int):Int:=tot (accT k c) l
theorem sumA_nil(k c:Int):sumA [] k c=0:=rfl
theorem sumA_cons(x:Line)(l:List Line)(k c:Int):sumA (x::l) k c=accT k c x+sumA l k c:=tot_cons _ _ _
theorem sumA_ins{x:Line}{k c:Int}:∀(l:List Line),sumA (insL l x) k c=sumA l k c+accT k c x
 |[]=>by unfold insL;rw[sumA_cons,sumA_nil];omega
 |y::l=>by
  unfold insL
  split
  ·rw[sumA_cons,sumA_cons,sumA_ins l];omega
  ·rw[sumA_cons];omega
theorem sumA_add(l:List Line)(k c n k' c':Int):sumA (addL l k c n) k' c'=sumA l k' c'+(if k=k'∧c=c' then n else 0):=by
 by_cases q:n=0
 ·rw[addL_zero q,q];split<;>omega
 ·rw[addL_pos q,sumA_ins];rfl
theorem chanOr_cons(c:Chan)(l:List Chan)(ch:Int):chanOr (c::l) ch=if c.id=ch then c else chanOr l ch:=by
 unfold chanOr
 rw[List.find?_cons]
 by_cases q:c.id=ch
 ·rw[if_pos q,show (c.id==ch)=true from by simpa using q];rfl
 ·rw[if_neg q,show (c.id==ch)=false from by simpa using q]
theorem chanOr_app(l m:List Chan)(ch:Int):chanOr (l++m) ch=if There l ch then chanOr l ch else chanOr m ch:=by
 induction l with
 |nil=>rw[List.nil_append,if_neg (fun⟨c,hc,_⟩=>by simp at hc)]
 |cons c l ih=>
  rw[List.cons_append,chanOr_cons,chanOr_cons,ih]
  by_cases q:c.id=ch
  ·rw[if_pos q,if_pos q,if_pos ⟨c,by simp,q⟩]
  ·rw[if_neg q,if_neg q]
   have e:There (c::l) ch↔There l ch:=⟨fun⟨d,hd,r⟩=>by
    rcases List.mem_cons.1 hd with rfl|hd
    ·exact absurd r q
    ·exact⟨d,hd,r⟩,fun⟨d,hd,r⟩=>⟨d,by simp[hd],r⟩⟩
   by_cases t:There l ch
   ·rw[if_pos t,if_pos (e.2 t)]
   ·rw[if_neg t,if_neg (fun z=>t (e.1 z))]
theorem chanOr_none{l:List Chan}{ch:Int}(h:¬There l ch):chanOr l ch=zeroChan:=by
 rcases chan_find l ch with⟨_,r⟩|⟨i,c,_,q,_,r⟩
 ·exact r
 ·exact absurd ⟨c,mem_of_get q,r⟩ h
theorem chanOr_upd{f:Chan→Chan}(hf:∀c,(f c).id=c.id)(a ch:Int):∀(l:List Chan),chanOr (updC l a f) ch=if ch=a∧There l a then f (chanOr l a)else chanOr l ch
 |[]=>by rw[if_neg (fun⟨_,c,hc,_⟩=>by simp at hc)];rfl
 |c::l=>by
  have ih:=chanOr_upd hf a ch l
  have e0:updC (c::l) a f=(if c.id=a then f c else c)::updC l a f:=rfl
  have hid:(if c.id=a then f c else c).id=c.id:=by split<;>simp[hf]
  rw[e0,chanOr_cons,hid]
  by_cases q:c.id=ch
  ·rw[if_pos q]
   by_cases r:ch=a
   ·have ht:There (c::l) a:=⟨c,by simp,by omega⟩
    rw[if_pos (by omega),if_pos ⟨r,ht⟩,chanOr_cons,if_pos (by omega)]
   ·rw[if_neg (by omega),if_neg (fun z=>r z.1),chanOr_cons,if_pos q]
  ·rw[if_neg q,ih]
   by_cases r:ch=a
   ·subst r
    have e:There (c::l) ch↔There l ch:=⟨fun⟨d,hd,r⟩=>by
     rcases List.mem_cons.1 hd with rfl|hd
     ·exact absurd r q
     ·exact⟨d,hd,r⟩,fun⟨d,hd,r⟩=>⟨d,by simp[hd],r⟩⟩
    by_cases t:There l ch
    ·rw[if_pos ⟨rfl,t⟩,if_pos ⟨rfl,e.2 t⟩,chanOr_cons,if_neg q]
    ·rw[if_neg (fun z=>t z.2),if_neg (fun z=>t (e.1 z.2)),chanOr_cons,if_neg q]
   ·rw[if_neg (fun z=>r z.1),if_neg (fun z=>r z.1),chanOr_cons,if_neg q]
def locL(l:List Chan)(ch:Int):Int:=(chanOr l ch).loc
theorem locL_upd{f:Chan→Chan}(hf:∀c,(f c).id=c.id){n:Int}(hn:∀c,(f c).loc=c.loc+n){l:List Chan}{a:Int}(ht:There l a)(ch:Int):locL (updC l a f) ch=locL l ch+(if a=ch then n else 0):=by
 unfold locL
 rw[chanOr_upd hf]
 by_cases q:ch=a
 ·rw[if_pos ⟨q,ht⟩,hn,if_pos q.symm,q]
 ·rw[if_neg (fun z=>q z.1),if_neg (fun z=>q z.symm),Int.add_zero]
theorem locL_keep{f:Chan→Chan}(hf:∀c,(f c).id=c.id)(hn:∀c,(f c).loc=c.loc)(l:List Chan)(a ch:Int):locL (updC l a f) ch=locL l ch:=by
 unfold locL
 rw[chanOr_upd hf]
 split
 ·rename_i q;rw[hn,q.1]
 ·rfl
theorem locL_upd2{l:List Chan}{a b:Int}{f g:Chan→Chan}(hf:∀c,(f c).id=c.id)(hg:∀c,(g c).id=c.id){n m:Int}(hn:∀c,(f c).loc=c.loc+n)(hm:∀c,(g c).loc=c.loc+m)(ta:There l a∨n=0)(tb:There l b∨m=0)(ch:Int):locL (updC (updC l a f) b g) ch=locL l ch+(if a=ch then n else 0)+(if b=ch then m else 0):=by
 have h1:locL (updC l a f) ch=locL l ch+(if a=ch then n else 0):=by
  rcases ta with t|t
  ·exact locL_upd hf hn t ch
  ·rw[locL_keep hf (fun c=>by rw[hn,t,Int.add_zero]),t];split<;>omega
 have h2:locL (updC (updC l a f) b g) ch=locL (updC l a f) ch+(if b=ch then m else 0):=by
  rcases tb with t|t
  ·exact locL_upd hg hm (there_upd hf t) ch
  ·rw[locL_keep hg (fun c=>by rw[hm,t,Int.add_zero]),t];split<;>omega
 rw[h2,h1]
theorem locL_map{f:Chan→Chan}(hf:∀c,(f c).id=c.id)(hn:∀c,(f c).loc=c.loc)(ch:Int):∀(l:List Chan),locL (l.map f) ch=locL l ch
 |[]=>rfl
 |c::l=>by
  have ih:=locL_map hf hn ch l
  unfold locL at *
  rw[List.map_cons,chanOr_cons,chanOr_cons,hf]
  split
  ·exact hn c
  ·exact ih
theorem locL_del(ch a:Int):∀(l:List Chan),locL (delC l a) ch=if a=ch then 0 else locL l ch
 |[]=>by show (0:Int)=_;split<;>rfl
 |c::l=>by
  have ih:=locL_del ch a l
  unfold locL delC at *
  rw[List.filter_cons]
  by_cases q:c.id=a
  ·rw[show (!(c.id==a))=false from by simp[q],if_neg (by simp),ih]
   split
   ·rfl
   ·rw[chanOr_cons,if_neg (by omega)]
  ·rw[show (!(c.id==a))=true from by simp[q],if_pos rfl,chanOr_cons,chanOr_cons]
   by_cases r:c.id=ch
   ·rw[if_pos r,if_pos r,if_neg (by omega)]
   ·rw[if_neg r,if_neg r,ih]
theorem locL_ins{l:List Chan}{c:Chan}(hn:¬There l c.id)(ch:Int):locL (insC l c) ch=if c.id=ch then c.loc else locL l ch:=by
 unfold locL insC
 have hsub:∀k,∀m:List Chan,(∀d∈m,d∈l)→There m k→There l k:=fun k m h ⟨d,hd,r⟩=>⟨d,h d hd,r⟩
 rw[chanOr_app]
 have e:chanOr l ch=if There (l.take (posC l c.id)) ch then chanOr (l.take (posC l c.id)) ch else chanOr (l.drop (posC l c.id)) ch:=by
  rw[←chanOr_app,List.take_append_drop]
 by_cases q:c.id=ch
 ·subst q
  rw[if_pos ⟨c,by simp,rfl⟩,if_pos rfl,chanOr_app,if_neg (fun z=>hn (hsub _ _ (fun d hd=>List.mem_of_mem_take hd) z)),chanOr_cons,if_pos rfl]
 ·rw[if_neg q,e]
  have e2:There (l.take (posC l c.id)++[c]) ch↔There (l.take (posC l c.id)) ch:=⟨fun⟨d,hd,r⟩=>by
   rcases List.mem_append.1 hd with hd|hd
   ·exact⟨d,hd,r⟩
   ·rw[List.mem_singleton]at hd;subst hd;exact absurd r q,fun⟨d,hd,r⟩=>⟨d,by simp[hd],r⟩⟩
  by_cases t:There (l.take (posC l c.id)) ch
  ·rw[if_pos t,if_pos (e2.2 t),chanOr_app,if_pos t]
  ·rw[if_neg t,if_neg (fun z=>t (e2.1 z))]
structure Bal(x y:Book)(l:List Line):Prop where
 wal:y.wallet=x.wallet+sumA l 1 0
 loc:∀ch,locL y.chans ch=locL x.chans ch+sumA l 6 ch
 out:∀ch,outOf y ch=outOf x ch+sumA l 8 ch
 inn:∀ch,sumA l 7 ch=0
theorem Bal.refl(x:Book):Bal x x []:=⟨by rw[sumA_nil];omega,fun ch=>by rw[sumA_nil];omega,fun ch=>by rw[sumA_nil];omega,fun ch=>rfl⟩
theorem bal_work{x:Book}{e:Event}(h:applyC x e=0):Bal x (workR x e).b (workR x e).l:=by
 obtain⟨h1,h2,h3⟩:=applyC_ok h
 have b:=bOk_of h1
 have hbe:(bookOk x&&eventOk e)=true:=by rw[h1,h2];rfl
 have hw:(workR x e).c=0:=by rw[←applyC_work hbe h3];exact h
 have hne:=ev_parts h2
 by_cases k1:e.kind=1
 ·rw[←wk1 k1]
  unfold depR
  refine⟨?_,fun ch=>?_,fun ch=>?_,fun ch=>?_⟩<;>simp only[sumA_add,sumA_nil]<;>simp
  rfl
 by_cases k2:e.kind=2
 ·rw[←wk2 k2]at hw ⊢
  by_cases q:openC x e=0
  ·rw[openR_yes q]
   have hno:=no_chan (opC_no q)
   have hnt:¬There x.chans e.ch:=fun⟨c,q1,q2⟩=>hno c q1 q2
   refine⟨?_,fun ch=>?_,fun ch=>?_,fun ch=>?_⟩
   ·simp only[sumA_add,sumA_nil];simp;omega
   ·show locL (insC x.chans _) ch=_
    rw[locL_ins hnt]
    simp only[sumA_add,sumA_nil]
    by_cases r:e.ch=ch
    ·subst r
     have:locL x.chans e.ch=0:=by unfold locL;rw[chanOr_none hnt];rfl
     simp[this]
    ·simp[r]
   ·simp only[sumA_add,sumA_nil];simp;rfl
   ·simp only[sumA_add,sumA_nil];simp
  ·rw[openR_no q]at hw;exact absurd hw q
 by_cases k3:e.kind=3
 ·rw[←wk3 k3]at hw ⊢
  by_cases q:shutC x e=0
  ·rw[shutR_yes q]
   unfold shutY
   refine⟨?_,fun ch=>?_,fun ch=>?_,fun ch=>?_⟩
   ·simp only[sumA_add,sumA_nil];simp
   ·show locL (delC x.chans _) ch=_
    rw[locL_del]
    simp only[sumA_add,sumA_nil]
    by_cases r:e.ch=ch
    ·subst r;simp;unfold locL;omega
    ·simp[r]
   ·simp only[sumA_add,sumA_nil];simp;rfl
   ·simp only[sumA_add,sumA_nil];simp
  ·rw[shutR_no q]at hw;exact absurd hw q
 by_cases k4:e.kind=4
 ·rw[←wk4 k4]
  unfold priR
  split
  ·exact Bal.refl x
  ·refine⟨by rw[sumA_nil];exact(Int.add_zero _).symm,fun ch=>?_,fun ch=>?_,fun ch=>rfl⟩
   ·rw[sumA_nil,Int.add_zero];show locL (updC x.chans e.ch _) ch=_;exact locL_keep (f:=fun c=>{ c with base:=e.amt,ppm:=e.fee }) (fun _=>rfl) (fun _=>rfl) _ _ _
   ·rw[sumA_nil,Int.add_zero];rfl
 by_cases k5:e.kind=5
 ·rw[←wk5 k5]at hw ⊢
  by_cases q:admC x e=0
  ·rw[admR_yes q]
   have t2:There x.chans e.to:=by
    have h1:admC1 x e=0:=by
     by_cases q':admC1 x e=0
     ·exact q'
     ·rw[admC_one q']at q;exact q
    unfold admC1 at h1
    obtain⟨h2,_⟩:=failC_zero (by decide) h1
    obtain⟨h3,_⟩:=failC_zero (by decide) h2
    obtain⟨h4,_⟩:=failC_zero (by decide) h3
    unfold admC0 at h4
    obtain⟨h5,_⟩:=failC_zero (by decide) h4
    refine Classical.byContradiction fun hn=>?_
    have hn':chanAt x.chans e.to=-1:=by
     rcases chan_find x.chans e.to with⟨r,_⟩|⟨i,c,r,s,_,t⟩
     ·exact r
     ·exact absurd ⟨c,mem_of_get s,t⟩ hn
    rw[missC_none hn']at h5
    exact failC_set (by decide) h5
   refine⟨?_,fun ch=>?_,fun ch=>?_,fun ch=>?_⟩
   ·unfold admY;simp only[sumA_add,sumA_nil];simp
   ·unfold admY
    dsimp only
    refine Eq.trans (locL_upd2 (n:=0) (m:=-e.amt) (by intro c;rfl) (by intro c;rfl) (by intro c;first|rfl|(dsimp only;omega)) (by intro c;first|rfl|(dsimp only;omega)) (.inr rfl) (.inl t2) ch) ?_
    simp only[sumA_add,sumA_nil];simp
   ·unfold outOf admY
    dsimp only
    rw[tot_snoc]
    unfold hOut
    simp only[sumA_add,sumA_nil];simp;omega
   ·unfold admY;simp only[sumA_add,sumA_nil];simp
  ·rw[admR_no q]at hw;exact absurd hw q
 by_cases k6:e.kind=6∨e.kind=7
 ·rw[←wk6 k6]
  unfold setR
  split
  ·rename_i y hy
   have hm:=List.mem_of_find?_eq_some hy
   have q:=b.hs y hm
   have ho:∀ch,tot (hOut ch) (delH x.htlcs y.key)+hOut ch y=tot (hOut ch) x.htlcs:=fun ch=>by
    have:=tot_filter (g:=fun z:Htlc=>z.key) (f:=hOut ch) (hks_of b).1 hm
    unfold delH
    omega
   unfold setY
   split
   ·refine⟨?_,fun ch=>?_,fun ch=>?_,fun ch=>?_⟩
    ·simp only[sumA_add,sumA_nil];simp
    ·dsimp only
     refine Eq.trans (locL_upd2 (n:=y.amtIn) (m:=0) (by intro c;rfl) (by intro c;rfl) (by intro c;first|rfl|(dsimp only;omega)) (by intro c;first|rfl|(dsimp only;omega)) (.inl q.ti) (.inr rfl) ch) ?_
     simp only[sumA_add,sumA_nil];simp
    ·have:=ho ch
     unfold outOf
     dsimp only
     unfold hOut at this ⊢
     simp only[sumA_add,sumA_nil];simp
     by_cases r:y.out=ch
     ·rw[if_pos r]at this ⊢;omega
     ·rw[if_neg r]at this ⊢;omega
    ·simp only[sumA_add,sumA_nil];simp
   ·refine⟨?_,fun ch=>?_,fun ch=>?_,fun ch=>?_⟩
    ·simp only[sumA_add,sumA_nil];simp
    ·dsimp only
     refine Eq.trans (locL_upd2 (n:=0) (m:=y.amtOut) (by intro c;rfl) (by intro c;rfl) (by intro c;first|rfl|(dsimp only;omega)) (by intro c;first|rfl|(dsimp only;omega)) (.inr rfl) (.inl q.to) ch) ?_
     simp only[sumA_add,sumA_nil];simp
    ·have:=ho ch
     unfold outOf
     dsimp only
     unfold hOut at this ⊢
     simp only[sumA_add,sumA_nil];simp
     by_cases r:y.out=ch
     ·rw[if_pos r]at this ⊢;omega
     ·rw[if_neg r]at this ⊢;omega
    ·simp only[sumA_add,sumA_nil];simp
  ·exact Bal.refl x
 by_cases k8:e.kind=8
 ·rw[←wk8 k8]
  refine⟨?_,fun ch=>?_,fun ch=>?_,fun ch=>rfl⟩
  ·show x.wallet=x.wallet+0;omega
  ·show locL (x.chans.map (fadeC x.tick)) ch=locL x.chans ch+0
   rw[Int.add_zero]
   exact locL_map (fun c=>fadeC_id _ c) (fun c=>by unfold fadeC;split<;>rfl) ch _
  ·show tot (hOut ch) (x.htlcs.map ageH)+tot (cOut ch) x.circles=outOf x ch+0
   rw[Int.add_zero]
   unfold outOf
   congr 1
   exact tot_same fun h _=>rfl
 by_cases k9:e.kind=9
 ·rw[←wk9 k9]at hw ⊢
  by_cases q:lauC x e=0
  ·rw[lauR_yes q]
   have hok:addOk e.amt e.fee=true∧There x.chans e.ch:=by
    unfold lauC at q
    obtain⟨h2,_⟩:=failC_zero (by decide) q
    obtain⟨h3,_⟩:=failC_zero (by decide) h2
    obtain⟨h4,g⟩:=failC_zero (by decide) h3
    refine⟨by simpa using g,?_⟩
    unfold lauC0 at h4
    obtain⟨h5,_⟩:=failC_zero (by decide) h4
    refine Classical.byContradiction fun hn=>?_
    have hn':chanAt x.chans e.ch=-1:=by
     rcases chan_find x.chans e.ch with⟨r,_⟩|⟨i,c,r,s,_,t⟩
     ·exact r
     ·exact absurd ⟨c,mem_of_get s,t⟩ hn
    rcases chan_find x.chans e.to with⟨r,_⟩|⟨i,c,r,s,_,t⟩
    ·rw[missC_none r]at h5
     exact failC_set (by decide) h5
    ·rw[missC_some r,missC_none hn']at h5
     exact failC_set (by decide) h5
   have hs:addV e.amt e.fee=e.amt+e.fee:=addV_yes hok.1
   unfold lauY
   refine⟨?_,fun ch=>?_,fun ch=>?_,fun ch=>?_⟩
   ·simp only[sumA_add,sumA_nil];simp
   ·dsimp only
    refine Eq.trans (locL_upd2 (n:=-addV e.amt e.fee) (m:=0) (by intro c;rfl) (by intro c;rfl) (by intro c;first|rfl|(dsimp only;omega)) (by intro c;first|rfl|(dsimp only;omega)) (.inl hok.2) (.inr rfl) ch) ?_
    simp only[sumA_add,sumA_nil];simp
   ·unfold outOf
    dsimp only
    rw[tot_snoc]
    unfold cOut
    simp only[sumA_add,sumA_nil];simp
    rw[hs];omega
   ·simp only[sumA_add,sumA_nil];simp
  ·rw[lauR_no q]at hw;exact absurd hw q
 ·have:=ev_kind h2
  rw[←wk10 (by omega)]
  unfold landR
  split
  ·rename_i y hy
   have hm:=List.mem_of_find?_eq_some hy
   have q:=b.cs y hm
   have ho:∀ch,tot (cOut ch) (delI x.circles y.key)+cOut ch y=tot (cOut ch) x.circles:=fun ch=>by
    have:=tot_filter (g:=fun z:Circle=>z.key) (f:=cOut ch) (hks_of b).2 hm
    unfold delI
    omega
   unfold landY
   split
   ·refine⟨?_,fun ch=>?_,fun ch=>?_,fun ch=>?_⟩
    ·simp only[sumA_add,sumA_nil];simp
    ·dsimp only
     refine Eq.trans (locL_upd2 (n:=0) (m:=y.amt) (by intro c;rfl) (by intro c;rfl) (by intro c;first|rfl|(dsimp only;omega)) (by intro c;first|rfl|(dsimp only;omega)) (.inr rfl) (.inl q.to) ch) ?_
     simp only[sumA_add,sumA_nil];simp
    ·have:=ho ch
     unfold outOf
     dsimp only
     unfold cOut at this ⊢
     simp only[sumA_add,sumA_nil];simp
     by_cases r:y.frm=ch
     ·rw[if_pos r]at this ⊢;omega
     ·rw[if_neg r]at this ⊢;omega
    ·simp only[sumA_add,sumA_nil];simp
   ·refine⟨?_,fun ch=>?_,fun ch=>?_,fun ch=>?_⟩
    ·simp only[sumA_add,sumA_nil];simp
    ·dsimp only
     refine Eq.trans (locL_upd2 (n:=y.amt+y.fee) (m:=0) (by intro c;rfl) (by intro c;rfl) (by intro c;first|rfl|(dsimp only;omega)) (by intro c;first|rfl|(dsimp only;omega)) (.inl q.ti) (.inr rfl) ch) ?_
     simp only[sumA_add,sumA_nil];simp
    ·have:=ho ch
     unfold outOf
     dsimp only
     unfold cOut at this ⊢
     simp only[sumA_add,sumA_nil];simp
     by_cases r:y.frm=ch
     ·rw[if_pos r]at this ⊢;omega
     ·rw[if_neg r]at this ⊢;omega
    ·simp only[sumA_add,sumA_nil];simp
  ·exact Bal.refl x
end Go.Proofs.YtogkbcmfoalpiaaGreat

