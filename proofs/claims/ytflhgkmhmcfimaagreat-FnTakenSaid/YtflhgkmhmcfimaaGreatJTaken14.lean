/- Texts of the proof of FnFnTaken, joined: ES3, ES3b, ES4. -/
import Derived.Test.YtflhgkmhmcfimaaGreatJTaken13
namespace Go.Proofs.YtflhgkmhmcfimaaGreat
open Tryz
open Go.RowKit
set_option maxHeartbeats 16000000
set_option maxRecDepth 100000
set_option linter.unusedSimpArgs false
set_option linter.unusedVariables false
theorem RQ{l l':List be}{ch:Int}(h:l.map (·.id)=l'.map (·.id)):eS l ch=eS l' ch:=by
 have e:∀l:List be,l.findIdx? (fun c=>c.id==ch)=(l.map (·.id)).findIdx? (fun k=>k==ch):=fun l=>by rw[List.findIdx?_map];rfl
 grind[eS]
theorem uX{l:List be}{i:Nat}{c c':be}{ch:Int}(hc:l[i]? = some c)(h:c'.id=c.id):eS (l.set i c') ch=eS l ch:=by
 refine RQ ?_;obtain⟨hi,rfl⟩:=List.getElem?_eq_some_iff.1 hc;rw[List.map_set,h];apply List.ext_getElem?;grind
theorem p8{l:List be}{a b c:Int}(kN:a≠b):tO l b (tO l a c)=bE (!two l a b) c 6:=by
 grind[jt,tO,two,bE]
theorem jx{x:aw}{e:aV}(h:dz x e≠0):gg x e=dz x e:=if_neg h
theorem rI{x:aw}{e:aV}(h:dz x e=0):gg x e=bE (decide (ib x e=0)) (dz x e) 13:=if_pos h
theorem x_66{p:Prop}(c:p:=by intro s hs;cases hs;decide):p:=c
theorem x_103{p:Prop}(c:p:=by exact ⟨(),trivial,⟨rfl,trivial⟩,⟨rfl,trivial⟩,rfl,rfl⟩):p:=c
theorem x_142{p:Prop}(c:p:=by rw[List.length_set];exact hm):p:=c
theorem RS(g:Value)(x:aw)(e:aV)(fi:sO x)(es:m8 e)(bO:e.ch≠e.to):GC prog 202 [.ptr 0 0 0,ju e] (p7 g x [] 0) (.au []) (yd g (sP x e)):=by
 have sm:=fi.sm;have hm:x.ag.length<=1000000000:=by have:=sm.lc;omega
 have oa:=sm.lh;have FZ:=sm.li;have F2:x.an.length<=1000:=by omega
 have F4:x.aq.length<=1000:=by omega
 have KG:decide ((x.an.length:Int)=60)=decide ((60:Int)<=(x.an.length:Int)):=by apply decide_eq_decide.2;omega
 have KH:decide ((x.aq.length:Int)=20)=decide ((20:Int)<=(x.aq.length:Int)):=by apply decide_eq_decide.2;omega

 refine GC.intro (rs:=[]) func202 rfl ntmps202 x_7 trivial ?_;intro L O w0;refine sL<|ab (zX 2003 rfl) Z<|Y<|aS<|aS<|aF [9,22,33]<|pq 0 (dJ rfl)<|pq 1 (dJ rfl)<|pq 2 (qc rfl)<|pq 3 (qf 0 c8 rfl)<|sq 4 (dw (.agg [U _ _,U _ _,U _ _,.own _,.own _,.own _]) cu rfl)<|pq 6 (qf 1 gE rfl)<|sq 7 (aZ ac rfl)<|bn 5 rfl (KI 2016 rfl x_66 rfl func254 rfl rfl (KJ x F2 F4) yg rfl) (.inr rfl)<|bn 8 rfl (zL func253 (KK (wH x) _ (by unfold wH;simp;omega)) rfl) (.inr rfl)<|nw 19 (nD x e.key) rfl (any_keys x e.key) ?_;refine bn 9 rfl (bF func196 (gt _ _ _ _ _ _ _ _ _ _ _ _ _ _ _ _ _ _ _ ) x_3 rfl rfl) (.inl rfl)<|vq 10 (dx rfl) ?_;refine AF.bool (t:=21) rfl ?_ ?_
 ·intro V;refine bi 11 Z<|bi 12 Z<|bi 13 Z<|bi 14 Z<|bi 15 Z<|bi 16 Z<|bi 17 Z<|al 18 Z<|al 19 Z<|al 20 Z<|al 21 Z<|al 22 Z<|vq 23 (bA Z)<|vq 24 (cF Z)<|bi 25 Z<|al 26 Z<|al 27 Z<|al 28 Z<|al 29 Z<|al 30 Z<|al 31 Z<|al 32 Z<|al 33 Z<|vq 34 (bA Z)<|fD<|gT<|aY Z<|aR<|rT ?_;have cU:im x e=bE (nD x e.key) 0 9:=by
   have h:=V;unfold im;rw[p8 bO];simp only[eA,eC,eD,eE]at h;rw[fW (c:=bE (!two x.ag e.ch e.to) (bE (nD x e.key) 0 9) 6) (dI h),fW h]
  have hn:im x e≠0:=by
   have h:=V;simp only[eA,eC,eD,eE]at h;rw[cU];exact h
  have oc:gg x e=im x e:=by
   rw[jx (dI (dI (dI hn)))];unfold dz;rw[fW (dI (dI hn)),fW (dI hn),fW hn]
  rw[jm (by rw[oc];exact hn),oc,cU];refine ax ?_ ⟨rfl,rfl,rfl,rfl,rfl,trivial⟩;rfl
 intro V;refine pq 11 (dJ Z)<|pq 12 (dJ Z)<|pq 13 (qc Z)<|pq 14 (qf 0 c8 Z)<|sq 15 (dw (.agg [U _ _,U _ _,U _ _,.own _,.own _,.own _]) cu Z)<|pq 16 (qf 2 dn Z)<|sq 17 (aZ ac Z)<|vq 18 (rf 3 fK Z)<|vq 19 (aZ ac Z)<|bn 20 Z (zL func255 (KL x _ _ hm) Z) (.inr Z)<|vq 21 (gQ Z) ?_;refine bn 22 rfl (bF func196 (gt _ _ _ _ _ _ _ _ _ _ _ _ _ _ _ _ _ _ _ ) x_3 rfl rfl) (.inl rfl)<|vq 23 (cv rfl)<|vq 24 (dx rfl) ?_;refine AF.bool (t:=35) rfl ?_ ?_
 ·intro h2;refine bi 25 Z<|al 26 Z<|al 27 Z<|al 28 Z<|al 29 Z<|al 30 Z<|al 31 Z<|al 32 Z<|al 33 Z<|vq 34 (bA Z)<|fD<|gT<|aT [0,3,45] [0,1,2,3,4,2003,2016] ?_;refine aY Z<|aR<|rT ?_;have cU:im x e=bE (!two x.ag e.ch e.to) (bE (nD x e.key) 0 9) 6:=by
   have h:=h2;unfold im;rw[p8 bO];simp only[eA,eC,eD,eE]at h;rw[fW h]
  have hn:im x e≠0:=by
   have h:=h2;simp only[eA,eC,eD,eE]at h;rw[cU];exact h
  have oc:gg x e=im x e:=by
   rw[jx (dI (dI (dI hn)))];unfold dz;rw[fW (dI (dI hn)),fW (dI hn),fW hn]
  rw[jm (by rw[oc];exact hn),oc,cU];refine ax ?_ ⟨rfl,rfl,rfl,rfl,rfl,trivial⟩;rfl
 intro h2;refine pq 25 (dJ rfl)<|vq 26 (cG rfl)<|vq 27 (rc rfl)<|vq 28 (rf 0 c8 rfl)<|vq 29 (rf 4 eF rfl)<|vq 30 (gC fS rfl)<|vq 31 (le jb rfl)<|vq 32 (dt rfl)<|nw 43 (decide ((60:Int)<=(x.an.length:Int))) rfl (by rw[ap];exact KG) ?_;refine bn 33 rfl (bF func196 (gt _ _ _ _ _ _ _ _ _ _ _ _ _ _ _ _ _ _ _ ) x_3 rfl rfl) (.inl rfl)<|vq 34 (cv rfl)<|fD<|gT ?_;refine AW.cond rfl ?_ ?_
 ·intro h3;refine aR<|rT ?_;have cU:im x e=bE (decide ((60:Int)<=(x.an.length:Int))) (bE (!two x.ag e.ch e.to) (bE (nD x e.key) 0 9) 6) 14:=by
   unfold im;rw[p8 bO]
  have hn:im x e≠0:=by
   have h:=h3;simp only[eA,eC,eD,eE]at h;rw[cU];exact h
  have oc:gg x e=im x e:=by
   rw[jx (dI (dI (dI hn)))];unfold dz;rw[fW (dI (dI hn)),fW (dI hn),fW hn]
  rw[jm (by rw[oc];exact hn),oc,cU];refine ax ?_ ⟨rfl,rfl,rfl,rfl,rfl,trivial⟩;rfl
 intro h3;refine aK<|gT ?_;have qP:im x e=0:=by
  have h:=h3;unfold im;rw[p8 bO];simp only[eA,eC,eD,eE]at h;exact h
 have F5:two x.ag e.ch e.to=true:=by
  rcases q:two x.ag e.ch e.to with _|_
  ·exfalso;have h:=qP;unfold im at h;rw[p8 bO,q]at h;exact dI (mp (by decide)) h
  rfl
 obtain⟨RT,F6,F7⟩:=BC (show two x.ag e.ch e.to=true by first|(simpa using F5));obtain⟨i,c,hi,hc,ho,hid⟩:=p9 F6;obtain⟨j,d,hj,hd,hp,lz⟩:=p9 F7;have bC:=sm.ag c (dB hc);have ck:=sm.ag d (dB hd);have gF:i≠j:=tP hc hd (by rw[hid,lz];exact bO);refine AW.obj 0 (cD g x.tick x.next x.aA 0) (Eq.trans (b:=cD g x.tick x.next x.aA _) rfl (congrArg (cD g x.tick x.next x.aA) (by have h:=qP;unfold im at h;rw[p8 bO]at h;exact h))) ?_;have hA:dz x e=bE (decide (d.loc<e.af)) (bE (decide (c.aC<cn x e)) (bE (gZ x e) 0 10) 11) 12:=by unfold dz;rw[ho,hp,qP]
 refine aJ [0,3] [0,1,2,3,4,2003,2016] (D:=Unit) (fun jd=>[(4,.ptr 2004 0 0)]) (fun jd=>[(2004,.box 159 none [int c.id,int c.size,int c.loc,int c.aC,int c.base,int c.br,int c.cM])]) (fun jd=>True) ?_ ?_
 ·refine aF [15]<|pq 0 (dJ Z)<|pq 1 (qc Z)<|pq 2 (qf 0 c8 Z)<|pq 3 (qf 3 dr Z)<|sq 4 (gC eg Z)<|pq 5 (dJ Z)<|pq 6 (qc Z)<|pq 7 (qf 0 c8 Z)<|sq 8 (dw (.agg [U _ _,U _ _,U _ _,.own _,.own _,.own _]) cu Z)<|pq 9 (qf 2 dn Z)<|sq 10 (aZ ac Z) ?_;refine AF.two (i:=11) (j:=14) x_37 ?_ ?_
  ·refine v1 11 rfl (zL func200 (m9 x _ hm) rfl) (.inr rfl)<|sq 12 (rd (x:=.ptr 1 _ 0) (pu (i:=i) rfl cz rfl rfl rfl ?hn1 (by rw[ap];exact(List.getElem?_eq_some_iff.1 hc).1)) rfl) ?_;case hn1=>rw[<-eW];exact hi
   refine sq 13 (rd (x:=.agg [U _ _,U _ _,U _ _,U _ _,U _ _,U _ _,U _ _]) (dT Z fF Z Z Z (dk hc) Z) Z)<|bn 14 Z (zA 2004 dy Z) (.inr Z)<|bn 15 Z (zB 2004 lu lv Z) (.inl Z)<|fD<|gT ?_;refine x_103
  refine v1 14 rfl (zA 2004 dy rfl) (.inr rfl)<|bn 11 rfl (zL func200 (m9 x _ hm) rfl) (.inr rfl)<|vq 12 (rd (x:=.ptr 1 _ 0) (pu (i:=i) rfl cz rfl rfl rfl ?hn2 (by rw[ap];exact(List.getElem?_eq_some_iff.1 hc).1)) rfl) ?_;case hn2=>rw[<-eW];exact hi
  refine vq 13 (rd (x:=.agg [U _ _,U _ _,U _ _,U _ _,U _ _,U _ _,U _ _]) (dT Z fF Z Z Z (dk hc) Z) Z)<|bn 15 Z (zB 2004 lu lv Z) (.inl Z)<|fD<|gT ?_;refine x_103
 intro jd hJ;refine aJ [0,3,4] [0,1,2,3,4,2003,2004,2016] (D:=Unit) (fun jd=>[(5,.ptr 2005 0 0)]) (fun jd=>[(2005,.box 159 none [int d.id,int d.size,int d.loc,int d.aC,int d.base,int d.br,int d.cM])]) (fun jd=>True) ?_ ?_
 ·refine aF [15]<|pq 0 (dJ Z)<|pq 1 (qc Z)<|pq 2 (qf 0 c8 Z)<|pq 3 (qf 3 dr Z)<|sq 4 (gC eg Z)<|pq 5 (dJ Z)<|pq 6 (qc Z)<|pq 7 (qf 0 c8 Z)<|sq 8 (dw (.agg [U _ _,U _ _,U _ _,.own _,.own _,.own _]) cu Z)<|pq 9 (qf 3 fK Z)<|sq 10 (aZ ac Z) ?_;refine AF.two (i:=11) (j:=14) x_37 ?_ ?_
  ·refine v1 11 rfl (zL func200 (m9 x _ hm) rfl) (.inr rfl)<|sq 12 (rd (x:=.ptr 1 _ 0) (pu (i:=j) rfl cz rfl rfl rfl ?hn3 (by rw[ap];exact(List.getElem?_eq_some_iff.1 hd).1)) rfl) ?_;case hn3=>rw[<-eW];exact hj
   refine sq 13 (rd (x:=.agg [U _ _,U _ _,U _ _,U _ _,U _ _,U _ _,U _ _]) (dT Z fF Z Z Z (dk hd) Z) Z)<|bn 14 Z (zA 2005 dy Z) (.inr Z)<|bn 15 Z (zB 2005 lu lv Z) (.inl Z)<|fD<|gT ?_;refine x_103
  refine v1 14 rfl (zA 2005 dy rfl) (.inr rfl)<|bn 11 rfl (zL func200 (m9 x _ hm) rfl) (.inr rfl)<|vq 12 (rd (x:=.ptr 1 _ 0) (pu (i:=j) rfl cz rfl rfl rfl ?hn4 (by rw[ap];exact(List.getElem?_eq_some_iff.1 hd).1)) rfl) ?_;case hn4=>rw[<-eW];exact hj
  refine vq 13 (rd (x:=.agg [U _ _,U _ _,U _ _,U _ _,U _ _,U _ _,U _ _]) (dT Z fF Z Z Z (dk hd) Z) Z)<|bn 15 Z (zB 2005 lu lv Z) (.inl Z)<|fD<|gT ?_;refine x_103
 intro jd hJ;refine sL<|lf 4 nE Z<|aj ac Z<|lf 5 mH Z<|aj ac Z<|lf 4 bN Z<|aj ac Z<|ab (zL func256 (DC _ _ _) Z) Z<|cT (.au [U _ _,vB _]) Z<|dE Z<|eU Z<|ao Z<|bv Z<|nA<|lf 4 bN Z<|aj ac Z<|ae Z<|ab (zL func197 (tI _ _) Z) Z<|lT [0,3,4,5,7,88] [0,1,2,3,4,2003,2004,2005,2016] ?_;refine cT (.au [U _ _,vB _]) Z<|dE Z<|jK 89 (cn x e) rfl (by unfold cn;rw[hp])<|eU Z<|ao Z<|bv Z<|Y<|aS<|aF []<|pq 0 (dJ rfl)<|pq 1 (qc rfl)<|pq 2 (qf 0 c8 rfl)<|sq 3 (dw (.agg [U _ _,U _ _,U _ _,.own _,.own _,.own _]) cu rfl)<|sq 4 (dw (.agg [U _ _,U _ _,U _ _,U _ _,U _ _,U _ _,U _ _]) fF rfl)<|sq 5 (dw (.agg [U _ _,U _ _,U _ _,U _ _,U _ _,U _ _,U _ _]) fF rfl)<|pq 6 (qf 4 bN rfl)<|sq 7 (aZ ac rfl)<|vq 8 (rf 6 pw rfl)<|vq 9 (uY jN rfl)<|bn 10 rfl (zL func257 (DD x c d _ _ sm.hs) rfl) (.inr rfl)<|qM 101 (ib x e) rfl (by unfold ib;rw[ho,hp,lz])<|vq 11 (j8 rfl)<|fD<|gT ?_;refine aJ [0,3,8,10] [1,2,3,4,2003,2004,2005,2016] (D:=Unit) (fun jd=>[]) (fun jd=>[(0,cD g x.tick x.next x.aA 0)]) (fun jd=>gg x e=0) ?_ ?_
 ·refine sL<|aM Z<|aQ Z<|bX Z<|aQ Z ?_;refine lor rfl rfl rfl ?_;refine bJ 108 (gZ x e) rfl (by unfold gZ;rw[hp]) ?_;refine ab (bF func196 (gt _ _ _ _ _ _ _ _ _ _ _ _ _ _ _ _ _ _ _ ) x_3 rfl rfl) Z<|aQ rfl ?_;refine AL.bool (t:=110) rfl ?_ ?_
  ·intro h4;refine aa Z<|aa Z<|aa Z<|aa Z<|aa Z<|aa Z<|aU Z<|bM Z<|aa Z<|aa Z<|aa Z<|aa Z<|aa Z<|aa Z<|aa Z<|aU Z<|bM Z<|aa Z<|aa Z<|aa Z<|aa Z<|aU Z<|Y<|aY Z<|aR<|rT ?_;have cU:dz x e=bE (gZ x e) 0 10:=by
    have h:=h4;simp only[eA,eC,eD,eE]at h;rw[hA];rw[fW (dI h),fW h]
   have hn:dz x e≠0:=by
    have h:=h4;simp only[eA,eC,eD,eE]at h;rw[cU];exact h
   rw[jm (by rw[jx hn];exact hn),jx hn,cU];refine ax ?_ ⟨rfl,rfl,rfl,rfl,rfl,trivial⟩;rfl
  intro h4;refine aM Z<|lf 3 ic Z<|aj ac Z<|ae Z<|ak Z ?_;refine ab (bF func196 (gt _ _ _ _ _ _ _ _ _ _ _ _ _ _ _ _ _ _ _ ) x_3 rfl rfl) Z<|bj Z<|aQ rfl ?_;refine AL.bool (t:=118) rfl ?_ ?_
  ·intro h5;refine aa Z<|aa Z<|aa Z<|aa Z<|aa Z<|aa Z<|aa Z<|aU Z<|bM Z<|aa Z<|aa Z<|aa Z<|aa Z<|aU Z<|Y<|aT [0,3,8,10,132] [0,1,2,3,4,2003,2004,2005,2016] ?_;refine aY Z<|aR<|rT ?_;have cU:dz x e=bE (decide (c.aC<cn x e)) (bE (gZ x e) 0 10) 11:=by
    have h:=h5;simp only[eA,eC,eD,eE]at h;rw[hA];rw[fW h]
   have hn:dz x e≠0:=by
    have h:=h5;simp only[eA,eC,eD,eE]at h;rw[cU];exact h
   rw[jm (by rw[jx hn];exact hn),jx hn,cU];refine ax ?_ ⟨rfl,rfl,rfl,rfl,rfl,trivial⟩;rfl
  intro h5;refine aM Z<|lf 2 fH Z<|aj ac Z<|lf 4 bN Z<|aj ac Z<|ak Z ?_;refine ab (bF func196 (gt _ _ _ _ _ _ _ _ _ _ _ _ _ _ _ _ _ _ _ ) x_3 rfl rfl) Z<|bj Z<|aQ rfl ?_;refine AL.bool (t:=127) rfl ?_ ?_
  ·intro h6;refine aa Z<|aa Z<|aa Z<|aa Z<|aU Z<|Y<|aY Z<|aR<|rT ?_;have cU:dz x e=bE (decide (d.loc<e.af)) (bE (decide (c.aC<cn x e)) (bE (gZ x e) 0 10) 11) 12:=by
    have h:=h6;simp only[eA,eC,eD,eE]at h;rw[hA];skip
   have hn:dz x e≠0:=by
    have h:=h6;simp only[eA,eC,eD,eE]at h;rw[cU];exact h
   rw[jm (by rw[jx hn];exact hn),jx hn,cU];refine ax ?_ ⟨rfl,rfl,rfl,rfl,rfl,trivial⟩;rfl
  intro h6;refine aM Z<|ae Z<|ak Z ?_;refine ab (bF func196 (gt _ _ _ _ _ _ _ _ _ _ _ _ _ _ _ _ _ _ _ ) x_3 rfl rfl) Z<|bj Z<|Y ?_;refine AW.cond rfl ?_ ?_
  ·intro h7;refine aR<|rT ?_;have fa:dz x e=0:=by
    rw[hA];have h:=h6;simp only[eA,eC,eD,eE]at h;exact h
   have cU:gg x e=bE (decide (ib x e=0)) (bE (decide (d.loc<e.af)) (bE (decide (c.aC<cn x e)) (bE (gZ x e) 0 10) 11) 12) 13:=by rw[rI fa,hA]
   have hn:gg x e≠0:=by
    have h:=h7;simp only[eA,eC,eD,eE]at h;rw[cU];exact h
   rw[jm hn,cU];refine ax ?_ ⟨rfl,rfl,rfl,rfl,rfl,trivial⟩;rfl
  intro h7;refine aK<|gT ?_;have fa:dz x e=0:=by
   rw[hA];have h:=h6;simp only[eA,eC,eD,eE]at h;exact h
  have iP:gg x e=0:=by
   have h:=h7;simp only[eA,eC,eD,eE]at h;rw[rI fa,hA];exact h
  refine⟨(),iP,trivial,⟨(Eq.trans (b:=cD g x.tick x.next x.aA _) rfl (congrArg (cD g x.tick x.next x.aA) (by rw[rI fa,hA]at iP;exact iP))),trivial⟩,rfl,rfl⟩
 intro jd iP;refine aS<|aF [19,23]<|pq 0 (dJ Z)<|pq 1 (dJ Z)<|pq 2 (qc Z)<|pq 3 (qf 0 c8 Z)<|pq 4 (qf 4 eF Z)<|sq 5 (gC fS Z)<|pq 6 (qf 1 gE Z)<|sq 7 (aZ ac Z)<|pq 8 (qf 2 dn Z)<|sq 9 (aZ ac Z)<|pq 10 (qf 3 fK Z)<|sq 11 (aZ ac Z)<|pq 12 (gL (U _ _) Z)<|pq 13 (qf 4 bN Z)<|sq 14 (aZ ac Z)<|vq 15 (dW Z)<|vq 16 (dt Z)<|vq 17 (rd (x:=.agg [U _ _,U _ _,U _ _,U _ _,U _ _,vB _,U _ _]) (cP Z z0 Z Z Z) Z) ?_;refine bn 18 rfl (zS 2151 (ah go [⟨e.key,e.ch,e.to,cn x e,e.af,decide (ib x e=2),0⟩]) f7 iu rfl) (.inr rfl)<|bn 19 rfl (zP 2 f7 iu sQ rfl x_14 (by have:=sm.lh;simp[ah];omega)) (.inl rfl)<|vq 20 (rc rfl)<|vq 21 (rf 0 c8 rfl)<|vq 22 (rf 4 eF rfl)<|bn 23 rfl (zB 0 tQ tR rfl) (.inl rfl)<|fD<|gT ?_;refine AW.obj 2 (df (x.an++[⟨e.key,e.ch,e.to,cn x e,e.af,decide (ib x e=2),0⟩])) ((congrArg (AO.ai 218 7) (fx go _ [_]).symm)) ?_;refine sL<|aM Z<|lf 2 dn Z<|aj ac Z<|ae Z<|lq (rd (x:=U _ _) (il rfl rfl (ce (by have h2:bk (cn x e):=lQ _ _;unfold bk at *;unfold i64;omega))) rfl) ?_;refine ab (bF func258 (nF _ ({ x with an:=x.an++[⟨e.key,e.ch,e.to,cn x e,e.af,decide (ib x e=2),0⟩] }) _ _ _ _ _ (hm) i c (hi) (hc) (by have V:=bC.1;unfold bk at V;unfold i64;omega) (by have V:=bC.2.1;have h2:bk (cn x e):=lQ _ _;unfold bk at *;unfold i64;omega)) x_3 rfl rfl) Z<|lT [0,3] [0,1,2,3,4,2003,2004,2005,2016,2151] ?_;refine nA<|aM Z<|lf 3 fK Z<|aj ac Z<|lf 4 bN Z<|aj ac Z<|lq (rd (x:=U _ _) (il rfl rfl (ce (by have h2:=es.af;unfold bk at *;unfold i64;omega))) rfl) ?_;refine ab (bF func258 (nF _ ({ x with an:=x.an++[⟨e.key,e.ch,e.to,cn x e,e.af,decide (ib x e=2),0⟩],ag:=x.ag.set i { c with loc:=c.loc+0,aC:=c.aC+-cn x e } }) _ _ _ _ _ (x_142) j d ((uX (c':={ c with loc:=c.loc+0,aC:=c.aC+-cn x e }) hc rfl).trans hj) (jy hd gF _) (by have V:=ck.1;have h2:=es.af;unfold bk at *;unfold i64;omega) (by have V:=ck.2.1;unfold bk at V;unfold i64;omega)) x_3 rfl rfl) Z<|Y ?_;refine AW.obj 1 (AO.ai 159 7 (ah aX (cC (cC x.ag e.ch fun c=>{ c with aC:=c.aC-cn x e }) e.to fun c=>{ c with loc:=c.loc-e.af }))) (congrArg (fun l=>AO.ai 159 7 (ah aX l)) ((by simp only[Int.add_zero,Int.sub_eq_add_neg]:_=((x.ag.set i { c with aC:=c.aC-cn x e }).set j { d with loc:=d.loc-e.af })).trans (px fi.ids hc hd hid lz bO (fun c=>{ c with aC:=c.aC-cn x e }) (fun d=>{ d with loc:=d.loc-e.af }) (fun _=>rfl)))) ?_;refine sL<|aM Z<|lf 3 fK Z<|aj ac Z<|lf 4 bN Z<|aj ac Z<|lq (rd (x:=U _ _) (il rfl rfl (ce (by have h2:=es.af;unfold bk at *;unfold i64;omega))) rfl) ?_;refine ab (bF func198 (jv _ _ _ _ _ _ _ _ _ _ _ _ _ _ ([]) 0 (LG.nil) (by decide) _ _ _ (cL.nil _ _) (jM es.af)) x_3 rfl rfl) Z<|lT [0,3] [0,1,2,3,4,2003,2004,2005,2016,2151] ?_;refine Y<|aL<|aM Z<|lf 3 fK Z<|aj ac Z<|lf 4 bN Z<|aj ac Z ?_;refine ab (bF func198 (jv _ _ _ _ _ _ _ _ _ _ _ _ _ _ (bR [] 6 e.to (-e.af)) 1 (LG.nil.add (jM es.af)) (by decide) _ _ _ x_15 (gP es.af)) x_3 rfl rfl) Z<|lN ?_;rw[sR iP];unfold mI;refine iZ ?_ ⟨rfl,rfl,rfl,rfl,rfl,trivial⟩;rfl

theorem x_58{p:Prop}(c:p:=by exact Eq.trans (b:=cD g x.tick x.next x.aA _) rfl (congrArg (cD g x.tick x.next x.aA) (by grind))):p:=c
theorem RU(g:Value)(x:aw)(e:aV)(fi:sO x)(es:m8 e)(bO:e.ch≠e.to):GC prog 205 [.ptr 0 0 0,ju e] (p7 g x [] 0) (.au []) (yd g (sS x e)):=by
 have sm:=fi.sm;have hm:x.ag.length<=1000000000:=by have:=sm.lc;omega
 have oa:=sm.lh;have FZ:=sm.li;have F2:x.an.length<=1000:=by omega
 have F4:x.aq.length<=1000:=by omega
 have KG:decide ((x.an.length:Int)=60)=decide ((60:Int)<=(x.an.length:Int)):=by apply decide_eq_decide.2;omega
 have KH:decide ((x.aq.length:Int)=20)=decide ((20:Int)<=(x.aq.length:Int)):=by apply decide_eq_decide.2;omega

 refine GC.intro (rs:=[]) func205 rfl ntmps205 x_7 trivial ?_;intro L O w0;refine sL<|ab (zX 2003 rfl) Z<|Y<|aS<|aS<|aF [9,22,33]<|pq 0 (dJ rfl)<|pq 1 (dJ rfl)<|pq 2 (qc rfl)<|pq 3 (qf 0 c8 rfl)<|sq 4 (dw (.agg [U _ _,U _ _,U _ _,.own _,.own _,.own _]) cu rfl)<|pq 6 (qf 1 gE rfl)<|sq 7 (aZ ac rfl)<|bn 5 rfl (KI 2011 rfl (by simp) rfl func254 rfl rfl (KJ x F2 F4) yg rfl) (.inr rfl)<|bn 8 rfl (zL func253 (KK (wH x) _ (by grind[wH])) rfl) (.inr rfl)<|nw 14 (nD x e.key) rfl (any_keys x e.key) ?_;refine bn 9 rfl (bF func196 (gt _ _ _ _ _ _ _ _ _ _ _ _ _ _ _ _ _ _ _ ) x_3 rfl rfl) (.inl rfl)<|vq 10 (dx rfl) ?_;refine AF.bool (t:=16) rfl ?_ ?_
 ·intro V;refine bi 11 Z<|bi 12 Z<|bi 13 Z<|bi 14 Z<|bi 15 Z<|bi 16 Z<|bi 17 Z<|al 18 Z<|al 19 Z<|al 20 Z<|al 21 Z<|al 22 Z<|vq 23 (bA Z)<|vq 24 (cF Z)<|bi 25 Z<|al 26 Z<|al 27 Z<|al 28 Z<|al 29 Z<|al 30 Z<|al 31 Z<|al 32 Z<|al 33 Z<|vq 34 (bA Z)<|fD<|gT<|aY Z<|aR<|rT ?_;have cU:kv x e=bE (nD x e.key) 0 9:=by
   have h:=V;unfold kv;rw[p8 bO];simp only[eA,eC,eD,eE]at h;rw[fW (c:=bE (!two x.ag e.ch e.to) (bE (nD x e.key) 0 9) 6) (dI h),fW h]
  have hn:kv x e≠0:=by
   have h:=V;simp only[eA,eC,eD,eE]at h;rw[cU];exact h
  have oc:fL x e=kv x e:=by
   unfold fL;rw[fW (dI (dI hn)),fW (dI hn),fW hn]
  rw[od (by rw[oc];exact hn),oc,cU];trivial
 intro V;refine pq 11 (dJ Z)<|pq 12 (dJ Z)<|pq 13 (qc Z)<|pq 14 (qf 0 c8 Z)<|sq 15 (dw (.agg [U _ _,U _ _,U _ _,.own _,.own _,.own _]) cu Z)<|pq 16 (qf 2 dn Z)<|sq 17 (aZ ac Z)<|vq 18 (rf 3 fK Z)<|vq 19 (aZ ac Z)<|bn 20 Z (zL func255 (KL x _ _ hm) Z) (.inr Z)<|vq 21 (gQ Z) ?_;refine bn 22 rfl (bF func196 (gt _ _ _ _ _ _ _ _ _ _ _ _ _ _ _ _ _ _ _ ) x_3 rfl rfl) (.inl rfl)<|vq 23 (cv rfl)<|vq 24 (dx rfl) ?_;refine AF.bool (t:=30) rfl ?_ ?_
 ·intro h2;refine bi 25 Z<|al 26 Z<|al 27 Z<|al 28 Z<|al 29 Z<|al 30 Z<|al 31 Z<|al 32 Z<|al 33 Z<|vq 34 (bA Z)<|fD<|gT<|aT [0,3,40] [0,1,2,3,4,2003,2011] ?_;refine aY Z<|aR<|rT ?_;have cU:kv x e=bE (!two x.ag e.ch e.to) (bE (nD x e.key) 0 9) 6:=by
   have h:=h2;unfold kv;rw[p8 bO];simp only[eA,eC,eD,eE]at h;rw[fW h]
  have hn:kv x e≠0:=by
   have h:=h2;simp only[eA,eC,eD,eE]at h;rw[cU];exact h
  have oc:fL x e=kv x e:=by
   unfold fL;rw[fW (dI (dI hn)),fW (dI hn),fW hn]
  rw[od (by rw[oc];exact hn),oc,cU];trivial
 intro h2;refine pq 25 (dJ rfl)<|vq 26 (cG rfl)<|vq 27 (rc rfl)<|vq 28 (rf 0 c8 rfl)<|vq 29 (rf 5 gn rfl)<|vq 30 (gC ii rfl)<|vq 31 (le j7 rfl)<|vq 32 (dt rfl)<|nw 38 (decide ((20:Int)<=(x.aq.length:Int))) rfl x_31 ?_;refine bn 33 rfl (bF func196 (gt _ _ _ _ _ _ _ _ _ _ _ _ _ _ _ _ _ _ _ ) x_3 rfl rfl) (.inl rfl)<|vq 34 (cv rfl)<|fD<|gT ?_;refine AW.cond rfl ?_ ?_
 ·intro h3;refine aR<|rT ?_;have cU:kv x e=bE (decide ((20:Int)<=(x.aq.length:Int))) (bE (!two x.ag e.ch e.to) (bE (nD x e.key) 0 9) 6) 14:=by
   unfold kv;rw[p8 bO]
  have hn:kv x e≠0:=by
   have h:=h3;simp only[eA,eC,eD,eE]at h;rw[cU];exact h
  have oc:fL x e=kv x e:=by
   unfold fL;rw[fW (dI (dI hn)),fW (dI hn),fW hn]
  rw[od (by rw[oc];exact hn),oc,cU];trivial
 intro h3;refine aK<|gT<|aS ?_;have qP:kv x e=0:=by
  have h:=h3;unfold kv;rw[p8 bO];simp only[eA,eC,eD,eE]at h;exact h
 have F5:two x.ag e.ch e.to=true:=by
  rcases q:two x.ag e.ch e.to with _|_
  ·grind[mp]
  rfl
 obtain⟨RT,F6,F7⟩:=BC (show two x.ag e.ch e.to=true by omega);obtain⟨i,c,hi,hc,ho,hid⟩:=p9 F6;obtain⟨j,d,hj,hd,hp,lz⟩:=p9 F7;have bC:=sm.ag c (dB hc);have ck:=sm.ag d (dB hd);have gF:i≠j:=tP hc hd (by omega);refine AW.obj 0 (cD g x.tick x.next x.aA 0) (Eq.trans (b:=cD g x.tick x.next x.aA _) rfl (congrArg (cD g x.tick x.next x.aA) (by grind))) ?_;have hA:fL x e=bE (decide (d.aC<e.af)) (bE (decide (c.loc<eM e.af e.ay)) (bE (!gI e.af e.ay) 0 10) 12) 11:=by unfold fL;rw[ho,hp,qP]
 refine aL<|lf 4 bN Z<|aj ac Z<|lf 5 fC Z<|aj ac Z<|ab (zL func197 (tI _ _) Z) Z<|cT (.au [U _ _,vB _]) Z<|dE Z<|eU Z<|ao Z<|bv Z<|Y<|aS<|aS<|aF [3,23,45]<|pq 0 (dJ Z)<|vq 1 (dx Z)<|vq 2 (gQ Z) ?_;refine bn 3 rfl (bF func196 (gt _ _ _ _ _ _ _ _ _ _ _ _ _ _ _ _ _ _ _ ) x_3 rfl rfl) (.inl rfl)<|vq 4 (dx rfl) ?_;refine AF.bool (t:=53) rfl ?_ ?_
 ·intro h4;refine bi 5 Z<|bi 6 Z<|bi 7 Z<|bi 8 Z<|bi 9 Z<|bi 10 Z<|bi 11 Z<|bi 12 Z<|bi 13 Z<|bi 14 Z<|bi 15 Z<|bi 16 Z<|bi 17 Z<|bi 18 Z<|bi 19 Z<|bi 20 Z<|al 21 Z<|al 22 Z<|al 23 Z<|vq 24 (bA Z)<|vq 25 (cF Z)<|bi 26 Z<|bi 27 Z<|bi 28 Z<|bi 29 Z<|bi 30 Z<|bi 31 Z<|bi 32 Z<|bi 33 Z<|bi 34 Z ?_;refine bi 35 Z<|bi 36 Z<|bi 37 Z<|bi 38 Z<|bi 39 Z<|bi 40 Z<|bi 41 Z<|al 42 Z<|al 43 Z<|al 44 Z<|al 45 Z<|vq 46 (bA Z)<|fD<|gT<|aY Z<|aR<|rT ?_;have cU:fL x e=bE (!gI e.af e.ay) 0 10:=by
   have h:=h4;simp only[eA,eC,eD,eE]at h;rw[hA];rw[fW (dI h),fW h]
  have hn:fL x e≠0:=by
   have h:=h4;simp only[eA,eC,eD,eE]at h;rw[cU];exact h
  rw[od hn,cU];trivial
 intro h4;refine pq 5 (dJ rfl)<|pq 6 (dJ rfl)<|pq 7 (qc rfl)<|pq 8 (qf 0 c8 rfl)<|pq 9 (qf 3 dr rfl)<|sq 10 (gC eg rfl)<|pq 11 (dJ rfl)<|pq 12 (qc rfl)<|pq 13 (qf 0 c8 rfl)<|sq 14 (dw (.agg [U _ _,U _ _,U _ _,.own _,.own _,.own _]) cu rfl)<|pq 15 (qf 2 dn rfl)<|sq 16 (aZ ac rfl)<|pq 21 (gL (U _ _) rfl)<|bn 17 rfl (zL func200 (m9 x _ hm) rfl) (.inr rfl)<|vq 18 (rd (x:=.ptr 1 _ 0) (pu (i:=i) rfl cz rfl rfl rfl ?hn1 x_31) rfl) ?_;case hn1=>trivial
 refine vq 19 (rf 2 fH Z)<|vq 20 (rd (x:=U _ _) (dT Z ac Z Z Z (dk hc) Z) Z)<|vq 22 (dt Z) ?_;refine bn 23 rfl (bF func196 (gt _ _ _ _ _ _ _ _ _ _ _ _ _ _ _ _ _ _ _ ) x_3 rfl rfl) (.inl rfl)<|vq 24 (cv rfl)<|vq 25 (dx rfl) ?_;refine AF.bool (t:=74) rfl ?_ ?_
 ·intro h5;refine bi 26 Z<|bi 27 Z<|bi 28 Z<|bi 29 Z<|bi 30 Z<|bi 31 Z<|bi 32 Z<|bi 33 Z<|bi 34 Z<|bi 35 Z<|bi 36 Z<|bi 37 Z<|bi 38 Z<|bi 39 Z<|bi 40 Z<|bi 41 Z<|al 42 Z<|al 43 Z<|al 44 Z<|al 45 Z<|vq 46 (bA Z)<|fD<|gT<|aT [0,3,4,95] [0,1,2,3,4,2003,2011] ?_;refine aY Z<|aR<|rT ?_;have cU:fL x e=bE (decide (c.loc<eM e.af e.ay)) (bE (!gI e.af e.ay) 0 10) 12:=by
   have h:=h5;simp only[eA,eC,eD,eE]at h;rw[hA];rw[fW h]
  have hn:fL x e≠0:=by
   have h:=h5;simp only[eA,eC,eD,eE]at h;rw[cU];exact h
  rw[od hn,cU];trivial
 intro h5;refine pq 26 (dJ rfl)<|pq 27 (dJ rfl)<|pq 28 (qc rfl)<|pq 29 (qf 0 c8 rfl)<|pq 30 (qf 3 dr rfl)<|sq 31 (gC eg rfl)<|pq 32 (dJ rfl)<|pq 33 (qc rfl)<|pq 34 (qf 0 c8 rfl)<|sq 35 (dw (.agg [U _ _,U _ _,U _ _,.own _,.own _,.own _]) cu rfl)<|pq 36 (qf 3 fK rfl)<|sq 37 (aZ ac rfl)<|pq 42 (qf 4 bN rfl)<|sq 43 (aZ ac rfl)<|bn 38 rfl (zL func200 (m9 x _ hm) rfl) (.inr rfl)<|vq 39 (rd (x:=.ptr 1 _ 0) (pu (i:=j) rfl cz rfl rfl rfl ?hn2 x_31) rfl) ?_;case hn2=>trivial
 refine vq 40 (rf 3 ic Z)<|vq 41 (rd (x:=U _ _) (dT Z ac Z Z Z (dk hd) Z) Z)<|vq 44 (dt Z) ?_;refine bn 45 rfl (bF func196 (gt _ _ _ _ _ _ _ _ _ _ _ _ _ _ _ _ _ _ _ ) x_3 rfl rfl) (.inl rfl)<|vq 46 (cv rfl)<|fD<|gT ?_;refine AW.cond rfl ?_ ?_
 ·intro h6;refine aR<|rT ?_;have cU:fL x e=bE (decide (d.aC<e.af)) (bE (decide (c.loc<eM e.af e.ay)) (bE (!gI e.af e.ay) 0 10) 12) 11:=hA;have hn:fL x e≠0:=by
   have h:=h6;simp only[eA,eC,eD,eE]at h;rw[cU];exact h
  rw[od hn,cU];trivial
 intro h6;refine aK<|gT<|aS ?_;have iP:fL x e=0:=by
  rw[hA];have h:=h6;simp only[eA,eC,eD,eE]at h;exact h
 refine aF [18,22]<|pq 0 (dJ Z)<|pq 1 (dJ Z)<|pq 2 (qc Z)<|pq 3 (qf 0 c8 Z)<|pq 4 (qf 5 gn Z)<|sq 5 (gC ii Z)<|pq 6 (qf 1 gE Z)<|sq 7 (aZ ac Z)<|pq 8 (qf 2 dn Z)<|fT [0,3,4,96,101,103,104] [0,1,2,3,4,2003,2011] ?_;refine sq 9 (aZ ac Z)<|pq 10 (qf 3 fK Z)<|sq 11 (aZ ac Z)<|pq 12 (qf 4 bN Z)<|sq 13 (aZ ac Z)<|vq 14 (rf 5 fC Z)<|vq 15 (aZ ac Z)<|vq 16 (rd (x:=.agg [U _ _,U _ _,U _ _,U _ _,U _ _]) (cP Z F8 Z Z Z) Z) ?_;refine bn 17 rfl (zS 2113 (ah iX [⟨e.key,e.ch,e.to,e.af,e.ay⟩]) iI jO rfl) (.inr rfl)<|bn 18 rfl (zP 3 iI jO wI rfl x_14 x_69) (.inl rfl)<|vq 19 (rc rfl)<|vq 20 (rf 0 c8 rfl)<|vq 21 (rf 5 gn rfl)<|bn 22 rfl (zB 0 yh yk rfl) (.inl rfl)<|fT [0,3,4] [0,1,2,3,4,2003,2011,2113] ?_;refine fD<|gT ?_;refine AW.obj 3 (d7 (x.aq++[⟨e.key,e.ch,e.to,e.af,e.ay⟩])) ((congrArg (AO.ai 220 5) (fx iX _ [_]).symm)) ?_;refine sL<|aM Z<|lf 2 dn Z<|aj ac Z<|ae Z<|lq (rd (x:=U _ _) (il rfl rfl (ce (by grind[bk,lQ,i64]))) rfl) ?_;refine ab (bF func258 (nF _ ({ x with aq:=x.aq++[⟨e.key,e.ch,e.to,e.af,e.ay⟩] }) _ _ _ _ _ (hm) i c (hi) (hc) (by grind[bk,lQ,i64]) (by grind[bk,i64])) x_3 rfl rfl) Z<|nA<|aM Z<|lf 3 fK Z<|aj ac Z<|lf 4 bN Z<|aj ac Z<|lq (rd (x:=U _ _) (il rfl rfl (ce (by have h2:=es.af;grind[bk,i64]))) rfl) ?_;refine ab (bF func258 (nF _ ({ x with aq:=x.aq++[⟨e.key,e.ch,e.to,e.af,e.ay⟩],ag:=x.ag.set i { c with loc:=c.loc+-eM e.af e.ay,aC:=c.aC+0 } }) _ _ _ _ _ ((by grind)) j d ((uX (c':={ c with loc:=c.loc+-eM e.af e.ay,aC:=c.aC+0 }) hc rfl).trans hj) (jy hd gF _) (by grind[bk,i64]) (by have V:=ck.2.1;have h2:=es.af;grind[bk,i64])) x_3 rfl rfl) Z<|Y ?_;refine AW.obj 1 (AO.ai 159 7 (ah aX (cC (cC x.ag e.ch fun c=>{ c with loc:=c.loc-eM e.af e.ay }) e.to fun c=>{ c with aC:=c.aC-e.af }))) (congrArg (fun l=>AO.ai 159 7 (ah aX l)) ((by grind:_=((x.ag.set i { c with loc:=c.loc-eM e.af e.ay }).set j { d with aC:=d.aC-e.af })).trans (px fi.ids hc hd hid lz bO (fun c=>{ c with loc:=c.loc-eM e.af e.ay }) (fun d=>{ d with aC:=d.aC-e.af }) (fun _=>rfl)))) ?_;refine sL<|aM Z<|lf 2 dn Z<|aj ac Z<|ae Z<|lq (rd (x:=U _ _) (il rfl rfl (ce (by grind[bk,lQ,i64]))) rfl) ?_;refine ab (bF func198 (jv _ _ _ _ _ _ _ _ _ _ _ _ _ _ ([]) 0 (LG.nil) (by decide) _ _ _ (cL.nil _ _) (jM (lQ _ _))) x_3 rfl rfl) Z<|Y<|aL<|aM Z<|lf 2 dn Z<|aj ac Z<|ae rfl ?_;refine ab (bF func198 (jv _ _ _ _ _ _ _ _ _ _ _ _ _ _ (bR [] 6 e.ch (-eM e.af e.ay)) 1 (LG.nil.add (jM (lQ _ _))) (by decide) _ _ _ x_15 (gP (lQ _ _))) x_3 rfl rfl) Z<|lN ?_;rw[uZ iP];unfold oH;refine iZ ?_ ⟨x_58,rfl,rfl,rfl,rfl,trivial⟩;rfl

def aaC:eV:=⟨0,0,0,0,0,false,0⟩
def aaD:gz:=⟨0,0,0,0,0⟩
def n6(l:List eV)(key:Int):eV:=(l.find? fun c=>c.key==key).getD aaC
def n7(l:List gz)(key:Int):gz:=(l.find? fun c=>c.key==key).getD aaD
abbrev Bm(h:eV):AO:=.box 218 none [int h.key,int h.gh,int h.out,int h.cW,int h.c9,aD h.kept,int h.jP]
abbrev Bn(h:gz):AO:=.box 220 none [int h.key,int h.fI,int h.to,int h.af,int h.ay]
theorem Qg{α:Type}{g:α->Int}{l:List α}{key:Int}(jU:l.Pairwise fun a b=>g a≠g b){k:Nat}(hk:k<l.length):(l.take (k+1)).find? (fun c=>g c==key)=if g l[k]=key then some l[k]else (l.take k).find? (fun c=>g c==key):=by
 rw[List.take_succ_eq_append_getElem hk,List.find?_append];by_cases q:g l[k]=key
 ·rw[if_pos q];have:(l.take k).find? (fun c=>g c==key)=none:=by
   rw[List.find?_eq_none];intro x hx;obtain⟨j,hj,rfl⟩:=List.getElem_of_mem hx;rw[List.length_take]at hj;have V:=List.pairwise_iff_getElem.1 jU j k (by omega) hk (by omega);rw[List.getElem_take,<-q];simpa using V
  rw[this];simp[q]
 grind
theorem Qh{l:List eV}{key:Int}(jU:l.Pairwise fun a b=>a.key≠b.key){k:Nat}(hk:k<l.length):n6 (l.take (k+1)) key=if l[k].key=key then l[k]else n6 (l.take k) key:=by
 unfold n6;rw[Qg (g:=fun c=>c.key) jU hk];grind
theorem Qi{l:List gz}{key:Int}(jU:l.Pairwise fun a b=>a.key≠b.key){k:Nat}(hk:k<l.length):n7 (l.take (k+1)) key=if l[k].key=key then l[k]else n7 (l.take k) key:=by
 unfold n7;rw[Qg (g:=fun c=>c.key) jU hk];grind
theorem Qj{l:List eV}{key:Int}{k:Nat}(hk:k<l.length):jS (l.take (k+1)) key=jS (l.take k) key++(if l[k].key=key then []else [l[k]]):=by
 grind[jS,List.take_succ_eq_append_getElem]
theorem Qk{l:List gz}{key:Int}{k:Nat}(hk:k<l.length):jA (l.take (k+1)) key=jA (l.take k) key++(if l[k].key=key then []else [l[k]]):=by
 grind[jA,List.take_succ_eq_append_getElem]
theorem aaE{l:List eV}{key:Int}:(jS l key).length<=l.length:=List.length_filter_le _ _
theorem aaF{l:List gz}{key:Int}:(jA l key).length<=l.length:=List.length_filter_le _ _
theorem aaG{l:List eV}{key:Int}(h0:∀h∈l,h.key≠0)(h:(n6 l key).key=0):l.find? (fun c=>c.key==key)=none:=by
 rcases Be (fun c:eV=>c.key==key) l with⟨_,q⟩|⟨i,c,_,q1,q2,_⟩;all_goals grind[n6]
theorem aaH{l:List eV}{key:Int}(h:¬(n6 l key).key=0):∃i:Nat,l[i]? = some (n6 l key)/\l.find? (fun c=>c.key==key)=some (n6 l key)/\(n6 l key).key=key:=by
 rcases Be (fun c:eV=>c.key==key) l with⟨_,q⟩|⟨i,c,_,q1,q2,q3⟩
 ·unfold n6 at h;rw[q]at h;exact absurd rfl h
 grind[n6]
theorem aaI{l:List gz}{key:Int}(h0:∀h∈l,h.key≠0)(h:(n7 l key).key=0):l.find? (fun c=>c.key==key)=none:=by
 rcases Be (fun c:gz=>c.key==key) l with⟨_,q⟩|⟨i,c,_,q1,q2,_⟩;all_goals grind[n7]
theorem aaJ{l:List gz}{key:Int}(h:¬(n7 l key).key=0):∃i:Nat,l[i]? = some (n7 l key)/\l.find? (fun c=>c.key==key)=some (n7 l key)/\(n7 l key).key=key:=by
 rcases Be (fun c:gz=>c.key==key) l with⟨_,q⟩|⟨i,c,_,q1,q2,q3⟩
 ·unfold n7 at h;rw[q]at h;exact absurd rfl h
 grind[n7]
def Bo(x:aw)(key:Int)(dQ:Bool):WR:=match x.an.find? (fun c=>c.key==key)with
 |some h=>pN x dQ h
 |none=>⟨x,[],15⟩
def Bp(x:aw)(key:Int)(dQ:Bool):WR:=match x.aq.find? (fun c=>c.key==key)with
 |some h=>mN x dQ h
 |none=>⟨x,[],15⟩
theorem Ql(x:aw)(e:aV):Bo x e.key (decide (e.kind=6))=mR x e:=rfl
theorem Qm(x:aw)(e:aV):Bp x e.key (decide (e.kind=10))=nm x e:=rfl
theorem aaK{x:aw}{key:Int}{dQ:Bool}(h:x.an.find? (fun c=>c.key==key)=none):Bo x key dQ=⟨x,[],15⟩:=by grind[Bo]
theorem Qn{x:aw}{key:Int}{dQ:Bool}{c:eV}(h:x.an.find? (fun c=>c.key==key)=some c):Bo x key dQ=pN x dQ c:=by grind[Bo]
theorem aaL{x:aw}{key:Int}{dQ:Bool}(h:x.aq.find? (fun c=>c.key==key)=none):Bp x key dQ=⟨x,[],15⟩:=by grind[Bp]
theorem Qo{x:aw}{key:Int}{dQ:Bool}{c:gz}(h:x.aq.find? (fun c=>c.key==key)=some c):Bp x key dQ=mN x dQ c:=by grind[Bp]
theorem Qp(g:Value)(x:aw)(key:Int)(dQ:Bool)(fi:sO x)(JM:∀h∈x.an,h.key≠0)(hle:∀h∈x.an,h.c9<=h.cW):GC prog 203 [.ptr 0 0 0,int key,aD dQ] (p7 g x [] 0) (.au []) (yd g (Bo x key dQ)):=by
 have sm:=fi.sm;have hm:x.ag.length<=1000000000:=by have:=sm.lc;omega
 have oa:=sm.lh;have FZ:=sm.li

 refine GC.intro (rs:=[]) func203 rfl ntmps203 x_7 trivial ?_;intro L O w0;refine sL<|ab (zS 2011 [] f7 iu rfl (by simp)) Z<|bD Z<|nA<|lq (rd (x:=.agg [U _ _,U _ _,U _ _,U _ _,U _ _,vB false,U _ _]) (cP rfl z0 rfl rfl rfl) rfl)<|ab (zA 2007 iu rfl) Z<|ab (zB 2007 nJ nL rfl) Z<|Y<|aS<|sL<|aM Z<|lc Z<|lf 0 c8 Z<|lf 4 eF Z<|iO fS Z<|ba jb Z<|ae Z<|Y<|aB ?_;refine aW [0,1,2,6,7,17,18] [0,1,2,3,4] (D:=Nat) (fun k=>[(19,int (k:Int))]) (fun k=>[(2011,df (jS (x.an.take k) key)),(2007,Bm (n6 (x.an.take k) key))]) (fun k=>k<=x.an.length) (fun k=>x.an.length-k) (0) (Nat.zero_le _) ⟨rfl,trivial⟩ ⟨rfl,rfl,trivial⟩ ?_;intro k hI;refine sL<|ak Z<|Y<|aS ?_;refine AW.cond rfl ?_ ?_
 ·intro V;refine aK<|gT<|aS<|aB<|sL ?_;have hk:k<x.an.length:=by simpa[ap]using V
  refine lq (rj k f7 rfl (by grind))<|lq (rd (x:=.agg [U _ _,U _ _,U _ _,U _ _,U _ _,vB _,U _ _]) (dT rfl kZ rfl rfl rfl (bS hk) rfl) rfl)<|ab (zA 2009 iu rfl) Z<|lT [0,1,2,6,7,9,17,18,19,22] [0,1,2,3,4,2007,2009,2011] ?_;refine ab (zB 2009 nJ nL Z) Z<|nA<|lf 0 u7 Z<|aj ac Z<|ae Z<|ak Z<|Y ?_;refine AW.cond rfl ?_ ?_
  ·intro h2;refine aL<|aP (.agg [U _ _,U _ _,U _ _,U _ _,U _ _,vB _,U _ _]) kZ Z<|ab (zB 2007 nJ nL Z) Z<|lN<|gB<|gT<|aL<|bg Z<|ae Z<|Y ?_;refine⟨k+1,hk,by omega,x_10,⟨(congrArg df (by simp_all[Qj])),(Eq.trans (b:=Bm x.an[k]) rfl (congrArg Bm (by rw[Qh fi.jF hk,if_pos (by grind)]))),trivial⟩,rfl,rfl⟩
  intro h2;refine aL<|bW Z<|aP (.agg [U _ _,U _ _,U _ _,U _ _,U _ _,vB _,U _ _]) kZ Z<|ab (zS 2030 (ah go [x.an[k]]) f7 iu rfl) Z<|ab (zP 2011 f7 iu sQ rfl x_14 (by grind[aaE,ah])) Z<|bD Z<|lN<|gB<|gT<|aL<|bg Z<|ae Z<|Y ?_;refine⟨k+1,hk,by omega,x_10,⟨(Eq.trans (b:=AO.ai 218 7 (ah go (jS (x.an.take k) key++[x.an[k]]))) (congrArg (AO.ai 218 7) (fx go _ [_]).symm) (congrArg df (by simp_all[Qj]))),(congrArg Bm (by rw[Qh fi.jF hk,if_neg (by grind)])),trivial⟩,rfl,rfl⟩
 intro V;refine aE<|eT<|eT<|eB<|gT<|aS<|aS ?_;have dZ:k=x.an.length:=by have h:=V;simp only[ap,decide_eq_false_iff_not]at h;omega
 refine AW.obj 2011 (df (jS x.an key)) (congrArg df (by grind)) ?_;refine AW.obj 2007 (Bm (n6 x.an key)) (congrArg Bm (by grind)) ?_;refine aL<|aM Z<|lf 0 u7 Z<|aj ac Z<|ak Z ?_;refine ab (bF func196 (gt _ _ _ _ _ _ _ _ _ _ _ _ _ _ _ _ _ _ _ ) x_3 rfl rfl) Z<|lT [0,2,6,7,37] [0,1,2,3,4,2007,2011] ?_;refine Y ?_;refine AW.cond rfl ?_ ?_
 ·intro h3;refine aR<|rT ?_;have hz:(n6 x.an key).key=0:=by
   have h:=h3;rcases Classical.em ((n6 x.an key).key=0)with q|q
   ·exact q
   grind[bE]
  rw[aaK (aaG JM hz)];refine ax ?_ ⟨Eq.trans (b:=cD g x.tick x.next x.aA _) rfl (congrArg (cD g x.tick x.next x.aA) (by rw[decide_eq_true hz];rfl)),rfl,rfl,rfl,rfl,trivial⟩;rfl
 intro h3;refine aK<|gT<|aS ?_;have Dh:¬(n6 x.an key).key=0:=fun q=>by
  grind[bE]
 obtain⟨i,hh,hf,uG⟩:=aaH Dh;generalize n6 x.an key=h at *;subst uG;have bQ:=sm.an h (dB hh);obtain⟨ha,hb,kN⟩:=fi.y' h (dB hh);obtain⟨a,c,uP,hc,Jw,pU⟩:=p9 ha;obtain⟨b,d,pE,hd,Jx,pV⟩:=p9 hb;have bC:=sm.ag c (dB hc);have ck:=sm.ag d (dB hd);have bO:a≠b:=tP hc hd (by omega);refine AW.obj 0 (cD g x.tick x.next x.aA 0) (Eq.trans (b:=cD g x.tick x.next x.aA _) rfl (congrArg (cD g x.tick x.next x.aA) (by grind))) ?_;refine aL<|aM Z<|bW Z<|lc Z<|lf 0 c8 Z<|lf 4 eF Z<|ab (zB 0 tQ tR Z) Z<|Y<|aS ?_;refine AW.swap 2011 2 ?_;refine aT [0,2,7] [0,1,2,3,4,2007] ?_;refine aF []<|pq 0 (dJ Z)<|pq 1 (qc Z)<|pq 2 (qf 0 c8 Z)<|sq 3 (dw (.agg [U _ _,U _ _,U _ _,.own _,.own _,.own _]) cu Z)<|vq 4 (rf 1 oM Z)<|vq 5 (aZ ac Z)<|bn 6 Z (zL func200 (m9 ({ x with an:=jS x.an h.key }) _ hm) Z) (.inr Z)<|qM 49 (a:Int) Z uP<|vq 7 (j8 Z)<|fD<|gT<|aS<|sL<|aQ Z<|Y ?_;refine AW.cond rfl ?_ ?_
 ·intro h4;refine sL<|aM Z<|lf 1 oM Z<|aj ac Z<|lf 3 n3 Z<|aj ac Z ?_;refine ab (bF func258 (nF _ ({ x with an:=jS x.an h.key }) _ _ _ _ _ (hm) a c (uP) (hc) x_8 x_8) x_3 rfl rfl) Z<|lT [0,7,10] [0,1,2,3,4,2007] ?_;refine nA<|aM Z<|lf 2 mJ Z<|aj ac Z<|lf 4 kw Z<|aj ac Z ?_;refine ab (bF func258 (nF _ ({ x with an:=jS x.an h.key,ag:=x.ag.set a { c with loc:=c.loc+h.cW,aC:=c.aC+0 } }) _ _ _ _ _ (x_142) b d ((uX (c':={ c with loc:=c.loc+h.cW,aC:=c.aC+0 }) hc rfl).trans pE) (jy hd bO _) x_8 x_8) x_3 rfl rfl) Z<|Y<|aS<|aF [18]<|pq 0 (dJ rfl)<|pq 1 (qc rfl)<|pq 2 (qf 0 c8 rfl)<|pq 3 (qf 3 dr rfl)<|sq 4 (gC eg rfl)<|pq 5 (gL (U _ _) rfl)<|pq 6 (dJ rfl)<|pq 7 (qc rfl)<|pq 8 (qf 0 c8 rfl)<|pq 9 (qf 3 dr rfl)<|sq 10 (gC eg rfl)<|vq 11 (dW rfl)<|vq 12 (rj a cz rfl (by rw[ap,List.length_set,List.length_set];exact(List.getElem?_eq_some_iff.1 hc).1))<|vq 13 (rf 6 ms rfl)<|vq 14 (rd (x:=U _ _) (dT rfl ac rfl rfl rfl (dk (jy (ww hc { c with loc:=c.loc+h.cW,aC:=c.aC+0 }) (Ne.symm bO) { d with loc:=d.loc+0,aC:=d.aC+h.c9 })) rfl) rfl)<|bn 15 rfl (zL func259 (Sb _) rfl) (.inr rfl)<|fT [0,7,67,68,78] [0,1,2,3,4,2007] ?_;refine vq 16 (rj a cz rfl (by rw[ap,List.length_set,List.length_set];exact(List.getElem?_eq_some_iff.1 hc).1))<|vq 17 (rf 6 ms rfl)<|bn 18 rfl (zQ 1 [.v (.int .i64 (lR c.cM))] ca cb rfl (dk (jy (ww hc { c with loc:=c.loc+h.cW,aC:=c.aC+0 }) (Ne.symm bO) { d with loc:=d.loc+0,aC:=d.aC+h.c9 }))) (.inl rfl)<|fD<|gT ?_;refine AW.obj 1 (AO.ai 159 7 (ah aX (cC (cC x.ag h.gh fun c=>{ c with loc:=c.loc+h.cW,cM:=lR c.cM }) h.out fun c=>{ c with aC:=c.aC+h.c9 }))) (Eq.trans (b:=AO.ai 159 7 ((ah aX ((x.ag.set a { c with loc:=c.loc+h.cW,aC:=c.aC+0 }).set b { d with loc:=d.loc+0,aC:=d.aC+h.c9 })).set a ((aX { c with loc:=c.loc+h.cW,aC:=c.aC+0,cM:=lR c.cM }).map PV.v))) rfl (congrArg (AO.ai 159 7) (lB.trans (congrArg (ah aX) ((FE bO).trans ((by simp only[Int.add_zero]:_=(x.ag.set a { c with loc:=c.loc+h.cW,cM:=lR c.cM }).set b { d with aC:=d.aC+h.c9 }).trans (px fi.ids hc hd pU pV kN (fun c=>{ c with loc:=c.loc+h.cW,cM:=lR c.cM }) (fun d=>{ d with aC:=d.aC+h.c9 }) (fun _=>rfl)))))))) ?_;refine sL<|aM Z<|lf 4 kw Z<|aj ac Z<|lf 3 n3 Z<|aj ac Z ?_;refine eo rfl ⟨rfl,ce x_8⟩ ?_;refine ab (bF func198 (jv _ _ _ _ _ _ _ _ _ _ _ _ _ _ ([]) 0 (LG.nil) (by decide) _ _ _ (cL.nil _ _) (cJ.2 x_28)) x_3 rfl rfl) Z<|Y<|aL<|aM Z<|lf 1 oM Z<|aj ac Z<|lf 3 n3 Z<|aj ac rfl ?_;refine ab (bF func198 (jv _ _ _ _ _ _ _ _ _ _ _ _ _ _ (bR [] 3 0 (h.c9-h.cW)) 1 (LG.nil.add (cJ.2 x_28)) (by decide) _ _ _ x_15 (gP bQ.1)) x_3 rfl rfl) Z<|lT [0,7] [0,1,2,3,4,2007] ?_;refine Y<|aL<|aM Z<|lf 2 mJ Z<|aj ac Z<|lf 4 kw Z<|aj ac Z<|lq (rd (x:=U _ _) (il rfl rfl (ce x_8)) rfl) ?_;refine ab (bF func198 (jv _ _ _ _ _ _ _ _ _ _ _ _ _ _ (bR (bR [] 3 0 (h.c9-h.cW)) 6 h.gh h.cW) 2 ((LG.nil.add (cJ.2 x_28)).add (gP bQ.1)) (by decide) _ _ _ (((cL.nil _ _).add (.inl (by decide))).add (.inl (by decide))) (jM bQ.2.1)) x_3 rfl rfl) Z<|lN ?_;rw[Qn hf,show dQ=true from h4];trivial
 intro h4;refine sL<|aM Z<|lf 1 oM Z<|aj ac Z<|lf 3 n3 Z<|aj ac Z ?_;refine ab (bF func258 (nF _ ({ x with an:=jS x.an h.key }) _ _ _ _ _ (hm) a c (uP) (hc) x_8 x_8) x_3 rfl rfl) Z<|nA<|aM Z<|lf 2 mJ Z<|aj ac Z<|lf 4 kw Z<|aj ac rfl ?_;refine ab (bF func258 (nF _ ({ x with an:=jS x.an h.key,ag:=x.ag.set a { c with loc:=c.loc+0,aC:=c.aC+h.cW } }) _ _ _ _ _ (x_142) b d ((uX (c':={ c with loc:=c.loc+0,aC:=c.aC+h.cW }) hc rfl).trans pE) (jy hd bO _) x_8 x_8) x_3 rfl rfl) Z<|lT [0,7,10] [0,1,2,3,4,2007] ?_;refine Y<|aS<|aF [18]<|pq 0 (dJ rfl)<|pq 1 (qc rfl)<|pq 2 (qf 0 c8 rfl)<|pq 3 (qf 3 dr rfl)<|sq 4 (gC eg rfl)<|pq 5 (gL (U _ _) rfl)<|pq 6 (dJ rfl)<|pq 7 (qc rfl)<|pq 8 (qf 0 c8 rfl)<|pq 9 (qf 3 dr rfl)<|sq 10 (gC eg rfl)<|vq 11 (dW rfl)<|vq 12 (rj a cz rfl (by rw[ap,List.length_set,List.length_set];exact(List.getElem?_eq_some_iff.1 hc).1))<|vq 13 (rf 6 ms rfl)<|vq 14 (rd (x:=U _ _) (dT rfl ac rfl rfl rfl (dk (jy (ww hc { c with loc:=c.loc+0,aC:=c.aC+h.cW }) (Ne.symm bO) { d with loc:=d.loc+h.c9,aC:=d.aC+0 })) rfl) rfl)<|bn 15 rfl (zL func260 (Sc _) rfl) (.inr rfl)<|fT [0,7,110,111,121] [0,1,2,3,4,2007] ?_;refine vq 16 (rj a cz rfl (by rw[ap,List.length_set,List.length_set];exact(List.getElem?_eq_some_iff.1 hc).1))<|vq 17 (rf 6 ms rfl)<|bn 18 rfl (zQ 1 [.v (.int .i64 (lS c.cM))] ca cb rfl (dk (jy (ww hc { c with loc:=c.loc+0,aC:=c.aC+h.cW }) (Ne.symm bO) { d with loc:=d.loc+h.c9,aC:=d.aC+0 }))) (.inl rfl)<|fD<|gT ?_;refine AW.obj 1 (AO.ai 159 7 (ah aX (cC (cC x.ag h.gh fun c=>{ c with aC:=c.aC+h.cW,cM:=lS c.cM }) h.out fun c=>{ c with loc:=c.loc+h.c9 }))) (Eq.trans (b:=AO.ai 159 7 ((ah aX ((x.ag.set a { c with loc:=c.loc+0,aC:=c.aC+h.cW }).set b { d with loc:=d.loc+h.c9,aC:=d.aC+0 })).set a ((aX { c with loc:=c.loc+0,aC:=c.aC+h.cW,cM:=lS c.cM }).map PV.v))) rfl (congrArg (AO.ai 159 7) (lB.trans (congrArg (ah aX) ((FE bO).trans ((by simp only[Int.add_zero]:_=(x.ag.set a { c with aC:=c.aC+h.cW,cM:=lS c.cM }).set b { d with loc:=d.loc+h.c9 }).trans (px fi.ids hc hd pU pV kN (fun c=>{ c with aC:=c.aC+h.cW,cM:=lS c.cM }) (fun d=>{ d with loc:=d.loc+h.c9 }) (fun _=>rfl)))))))) ?_;refine aL<|aM Z<|lf 2 mJ Z<|aj ac Z<|lf 4 kw Z<|aj ac Z ?_;refine ab (bF func198 (jv _ _ _ _ _ _ _ _ _ _ _ _ _ _ ([]) 0 (LG.nil) (by decide) _ _ _ (cL.nil _ _) (gP bQ.2.1)) x_3 rfl rfl) Z<|Y<|aL<|aM Z<|lf 2 mJ Z<|aj ac Z<|lf 4 kw Z<|aj ac Z<|lq (rd (x:=U _ _) (il rfl rfl (ce x_8)) rfl) ?_;refine ab (bF func198 (jv _ _ _ _ _ _ _ _ _ _ _ _ _ _ (bR [] 6 h.out h.c9) 1 (LG.nil.add (gP bQ.2.1)) (by decide) _ _ _ x_15 (jM bQ.2.1)) x_3 rfl rfl) Z<|lT [] [0,1,2,3,4,2007] ?_;refine lN ?_;rw[Qn hf,show dQ=false from h4];trivial
theorem Qq(g:Value)(x:aw)(key:Int)(dQ:Bool)(fi:sO x)(JM:∀h∈x.aq,h.key≠0)(hle:∀h∈x.aq,0<=h.af/\0<=h.ay/\h.af+h.ay<=1125899906842624):GC prog 206 [.ptr 0 0 0,int key,aD dQ] (p7 g x [] 0) (.au []) (yd g (Bp x key dQ)):=by
 have sm:=fi.sm;have hm:x.ag.length<=1000000000:=by have:=sm.lc;omega
 have oa:=sm.lh;have FZ:=sm.li

 refine GC.intro (rs:=[]) func206 rfl ntmps206 x_7 trivial ?_;intro L O w0;refine sL<|ab (zS 2011 [] iI jO rfl (by simp)) Z<|bD Z<|nA<|lq (rd (x:=.agg [U _ _,U _ _,U _ _,U _ _,U _ _]) (cP rfl F8 rfl rfl rfl) rfl)<|ab (zA 2007 jO rfl) Z<|ab (zB 2007 oK oL rfl) Z<|Y<|aS<|sL<|aM Z<|lc Z<|lf 0 c8 Z<|lf 5 gn Z<|iO ii Z<|ba j7 Z<|ae Z<|Y<|aB ?_;refine aW [0,1,2,6,7,17,18] [0,1,2,3,4] (D:=Nat) (fun k=>[(19,int (k:Int))]) (fun k=>[(2011,d7 (jA (x.aq.take k) key)),(2007,Bn (n7 (x.aq.take k) key))]) (fun k=>k<=x.aq.length) (fun k=>x.aq.length-k) (0) (Nat.zero_le _) ⟨rfl,trivial⟩ ⟨rfl,rfl,trivial⟩ ?_;intro k hI;refine sL<|ak Z<|Y<|aS ?_;refine AW.cond rfl ?_ ?_
 ·intro V;refine aK<|gT<|aS<|aB<|sL ?_;have hk:k<x.aq.length:=by simpa[ap]using V
  refine lq (rj k iI rfl (by grind))<|lq (rd (x:=.agg [U _ _,U _ _,U _ _,U _ _,U _ _]) (dT rfl l5 rfl rfl rfl (bS hk) rfl) rfl)<|ab (zA 2009 jO rfl) Z<|lT [0,1,2,6,7,9,17,18,19,22] [0,1,2,3,4,2007,2009,2011] ?_;refine ab (zB 2009 oK oL Z) Z<|nA<|lf 0 u9 Z<|aj ac Z<|ae Z<|ak Z<|Y ?_;refine AW.cond rfl ?_ ?_
  ·intro h2;refine aL<|aP (.agg [U _ _,U _ _,U _ _,U _ _,U _ _]) l5 Z<|ab (zB 2007 oK oL Z) Z<|lN<|gB<|gT<|aL<|bg Z<|ae Z<|Y ?_;refine⟨k+1,hk,by omega,x_10,⟨(congrArg d7 (by simp_all[Qk])),(Eq.trans (b:=Bn x.aq[k]) rfl (congrArg Bn (by rw[Qi fi.Jv hk,if_pos (by grind)]))),trivial⟩,rfl,rfl⟩
  intro h2;refine aL<|bW Z<|aP (.agg [U _ _,U _ _,U _ _,U _ _,U _ _]) l5 Z<|ab (zS 2030 (ah iX [x.aq[k]]) iI jO rfl) Z<|ab (zP 2011 iI jO wI rfl x_14 (by grind[aaF,ah])) Z<|bD Z<|lN<|gB<|gT<|aL<|bg Z<|ae Z<|Y ?_;refine⟨k+1,hk,by omega,x_10,⟨(Eq.trans (b:=AO.ai 220 5 (ah iX (jA (x.aq.take k) key++[x.aq[k]]))) (congrArg (AO.ai 220 5) (fx iX _ [_]).symm) (congrArg d7 (by simp_all[Qk]))),(congrArg Bn (by rw[Qi fi.Jv hk,if_neg (by grind)])),trivial⟩,rfl,rfl⟩
 intro V;refine aE<|eT<|eT<|eB<|gT<|aS<|aS ?_;have dZ:k=x.aq.length:=by have h:=V;simp only[ap,decide_eq_false_iff_not]at h;omega
 refine AW.obj 2011 (d7 (jA x.aq key)) (congrArg d7 (by grind)) ?_;refine AW.obj 2007 (Bn (n7 x.aq key)) (congrArg Bn (by grind)) ?_;refine aL<|aM Z<|lf 0 u9 Z<|aj ac Z<|ak Z ?_;refine ab (bF func196 (gt _ _ _ _ _ _ _ _ _ _ _ _ _ _ _ _ _ _ _ ) x_3 rfl rfl) Z<|lT [0,2,6,7,37] [0,1,2,3,4,2007,2011] ?_;refine Y ?_;refine AW.cond rfl ?_ ?_
 ·intro h3;refine aR<|rT ?_;have hz:(n7 x.aq key).key=0:=by
   have h:=h3;rcases Classical.em ((n7 x.aq key).key=0)with q|q
   ·exact q
   grind[bE]
  rw[aaL (aaI JM hz)];refine ax ?_ ⟨Eq.trans (b:=cD g x.tick x.next x.aA _) rfl (congrArg (cD g x.tick x.next x.aA) (by rw[decide_eq_true hz];rfl)),rfl,rfl,rfl,rfl,trivial⟩;rfl
 intro h3;refine aK<|gT<|aS ?_;have Dh:¬(n7 x.aq key).key=0:=fun q=>by
  grind[bE]
 obtain⟨i,hh,hf,uG⟩:=aaJ Dh;generalize n7 x.aq key=h at *;subst uG;have bQ:=sm.aq h (dB hh);obtain⟨ha,hb,kN⟩:=fi.P0 h (dB hh);obtain⟨a,c,uP,hc,Jw,pU⟩:=p9 ha;obtain⟨b,d,pE,hd,Jx,pV⟩:=p9 hb;have bC:=sm.ag c (dB hc);have ck:=sm.ag d (dB hd);have bO:a≠b:=tP hc hd (by omega);refine AW.obj 0 (cD g x.tick x.next x.aA 0) (Eq.trans (b:=cD g x.tick x.next x.aA _) rfl (congrArg (cD g x.tick x.next x.aA) (by grind))) ?_;refine aL<|aM Z<|bW Z<|lc Z<|lf 0 c8 Z<|lf 5 gn Z<|ab (zB 0 yh yk Z) Z<|Y<|aS ?_;refine AW.swap 2011 3 ?_;refine aT [0,2,7] [0,1,2,3,4,2007] ?_;refine aL<|lf 3 lO Z<|aj ac Z<|lf 4 pO Z<|aj ac Z ?_;refine eo rfl ⟨rfl,ce x_82⟩<|ao Z<|Y<|aS<|sL<|aQ Z<|Y ?_;refine AW.cond rfl ?_ ?_
 ·intro h4;refine sL<|aM Z<|lf 1 nO Z<|aj ac Z<|ae Z ?_;refine ab (bF func258 (nF _ ({ x with aq:=jA x.aq h.key }) _ _ _ _ _ (hm) a c (uP) (hc) x_6 x_6) x_3 rfl rfl) Z<|nA<|aM Z<|lf 2 py Z<|aj ac Z<|lf 3 lO Z<|aj ac rfl ?_;refine ab (bF func258 (nF _ ({ x with aq:=jA x.aq h.key,ag:=x.ag.set a { c with loc:=c.loc+0,aC:=c.aC+(h.af+h.ay) } }) _ _ _ _ _ (x_142) b d ((uX (c':={ c with loc:=c.loc+0,aC:=c.aC+(h.af+h.ay) }) hc rfl).trans pE) (jy hd bO _) x_6 x_6) x_3 rfl rfl) Z<|lT [0,7,10] [0,1,2,3,4,2007] ?_;refine Y ?_;refine AW.obj 1 (AO.ai 159 7 (ah aX (cC (cC x.ag h.fI fun c=>{ c with aC:=c.aC+(h.af+h.ay) }) h.to fun c=>{ c with loc:=c.loc+h.af }))) (congrArg (fun l=>AO.ai 159 7 (ah aX l)) ((by simp only[Int.add_zero]:_=(x.ag.set a { c with aC:=c.aC+(h.af+h.ay) }).set b { d with loc:=d.loc+h.af }).trans (px fi.ids hc hd pU pV kN (fun c=>{ c with aC:=c.aC+(h.af+h.ay) }) (fun d=>{ d with loc:=d.loc+h.af }) (fun _=>rfl)))) ?_;refine sL<|aM Z<|lf 4 pO Z<|aj ac Z ?_;refine ab (bF func198 (jv _ _ _ _ _ _ _ _ _ _ _ _ _ _ ([]) 0 (LG.nil) (by decide) _ _ _ (cL.nil _ _) (cJ.2 x_47)) x_3 rfl rfl) Z<|Y<|aL<|aM Z<|lf 2 py Z<|aj ac Z<|lf 3 lO Z<|aj ac rfl ?_;refine ab (bF func198 (jv _ _ _ _ _ _ _ _ _ _ _ _ _ _ (bR [] 4 0 h.ay) 1 (LG.nil.add (cJ.2 x_47)) (by decide) _ _ _ x_15 (cJ.2 x_47)) x_3 rfl rfl) Z<|Y<|aL<|aM Z<|lf 1 nO Z<|aj ac Z<|ae Z<|lq (rd (x:=U _ _) (il rfl rfl (ce (by have h9:=hle h (dB hh);unfold i64;omega))) rfl)<|jK 90 (-h.af-h.ay) rfl (by omega) ?_;refine ab (bF func198 (jv _ _ _ _ _ _ _ _ _ _ _ _ _ _ (bR (bR [] 4 0 h.ay) 6 h.to h.af) 2 ((LG.nil.add (cJ.2 x_47)).add (cJ.2 x_47)) (by decide) _ _ _ (((cL.nil _ _).add (.inl (by decide))).add (.inl (by decide))) (cJ.2 x_47)) x_3 rfl rfl) Z<|lT [] [0,1,2,3,4,2007] ?_;refine lN ?_;rw[Qo hf,show dQ=true from h4];trivial
 intro h4;refine sL<|aM Z<|lf 1 nO Z<|aj ac Z<|ae Z ?_;refine ab (bF func258 (nF _ ({ x with aq:=jA x.aq h.key }) _ _ _ _ _ (hm) a c (uP) (hc) x_6 x_6) x_3 rfl rfl) Z<|nA<|aM Z<|lf 2 py Z<|aj ac Z<|lf 3 lO Z<|aj ac rfl ?_;refine ab (bF func258 (nF _ ({ x with aq:=jA x.aq h.key,ag:=x.ag.set a { c with loc:=c.loc+(h.af+h.ay),aC:=c.aC+0 } }) _ _ _ _ _ (x_142) b d ((uX (c':={ c with loc:=c.loc+(h.af+h.ay),aC:=c.aC+0 }) hc rfl).trans pE) (jy hd bO _) x_6 x_6) x_3 rfl rfl) Z<|Y ?_;refine AW.obj 1 (AO.ai 159 7 (ah aX (cC (cC x.ag h.fI fun c=>{ c with loc:=c.loc+(h.af+h.ay) }) h.to fun c=>{ c with aC:=c.aC+h.af }))) (congrArg (fun l=>AO.ai 159 7 (ah aX l)) ((by simp only[Int.add_zero]:_=(x.ag.set a { c with loc:=c.loc+(h.af+h.ay) }).set b { d with aC:=d.aC+h.af }).trans (px fi.ids hc hd pU pV kN (fun c=>{ c with loc:=c.loc+(h.af+h.ay) }) (fun d=>{ d with aC:=d.aC+h.af }) (fun _=>rfl)))) ?_;refine aL<|aM Z<|lf 1 nO Z<|aj ac Z<|ae Z ?_;refine ab (bF func198 (jv _ _ _ _ _ _ _ _ _ _ _ _ _ _ ([]) 0 (LG.nil) (by decide) _ _ _ (cL.nil _ _) (cJ.2 x_47)) x_3 rfl rfl) Z<|lT [0,7,10] [0,1,2,3,4,2007] ?_;refine Y<|aL<|aM Z<|lf 1 nO Z<|aj ac Z<|ae Z<|lq (rd (x:=U _ _) (il rfl rfl (ce (by have h9:=hle h (dB hh);unfold i64;omega))) rfl)<|jK 90 (-h.af-h.ay) rfl (by omega) ?_;refine ab (bF func198 (jv _ _ _ _ _ _ _ _ _ _ _ _ _ _ (bR [] 6 h.fI (h.af+h.ay)) 1 (LG.nil.add (cJ.2 x_47)) (by decide) _ _ _ x_15 (cJ.2 x_47)) x_3 rfl rfl) Z<|lN ?_;rw[Qo hf,show dQ=false from h4];trivial
theorem aaM(g:Value)(x:aw)(sm:kL x)(ht:x.tick≠1125899906842624):GC prog 204 [.ptr 0 0 0] (p7 g x [] 0) (.au []) (yd g (p' x)):=by
 have bh:=sm.lh;have bc:=sm.lc;refine GC.intro (rs:=[]) func204 rfl ntmps204 x_7 trivial ?_;intro L O w0;refine aS<|sL<|aM Z<|aM Z<|lc Z<|lf 0 c8 Z<|lf 0 mB Z<|aj ac Z<|ak Z<|bJ 10 false rfl (by grind) ?_;refine ab (bF func196 (gt _ _ _ _ _ _ _ _ _ _ _ _ _ _ _ _ _ _ _ ) x_3 rfl rfl) Z<|bJ 11 false rfl (by rfl)<|Y<|aN Z<|aK<|gT<|aS ?_;refine AW.obj 0 (cD g x.tick x.next x.aA 0) rfl ?_;refine aL<|aM Z<|lc Z<|lf 0 c8 Z<|lf 0 mB Z<|aj ac Z ?_;refine eo rfl ⟨rfl,ce (by have:=sm.tick;grind[bk,i64])⟩<|lc Z<|lf 0 c8 Z<|lf 0 mB Z<|ab (zB 0 ca cb rfl) Z<|lT [0] [0,1,2,3,4] ?_;refine Y<|aS<|sL<|aM Z<|lc Z<|lf 0 c8 Z<|lf 4 eF Z<|iO fS Z<|ba jb Z<|ae Z<|Y<|aB ?_;refine aW [0,26] [0,1,3,4] (D:=Nat) (fun k=>[(27,int (k:Int))]) (fun k=>[(2,df (kO kx k x.an))]) (fun k=>k<=x.an.length) (fun k=>x.an.length-k) (0) (Nat.zero_le _) ⟨rfl,trivial⟩ ⟨(congrArg df (DL kx x.an).symm),trivial⟩ ?_;intro k hI;refine sL<|ak Z<|Y<|aS ?_;refine AW.cond rfl ?_ ?_
 ·intro V;refine aK<|gT<|aS<|aB<|sL<|ae Z<|ao Z<|nA<|aM Z<|lc Z<|lf 0 c8 Z<|lf 4 eF Z<|iO fS Z<|ae Z ?_;have hk:k<x.an.length:=by simpa[ap]using V
  have bQ:=sm.an _ (List.getElem_mem hk);refine lq (rj k f7 rfl (by grind[ap,yr]))<|lf 6 tV Z<|lq (rd (x:=U _ _) (dT rfl ac rfl rfl rfl (dk (tU kx hk)) rfl) rfl)<|ak Z<|Y ?_;refine AW.cond rfl ?_ ?_
  ·intro h2;refine aL<|aM Z<|lc Z<|lf 0 c8 Z<|lf 4 eF Z<|iO fS Z<|ae Z<|lq (rj k f7 rfl (by grind[ap,yr]))<|lf 6 tV Z<|lq (rd (x:=U _ _) (dT rfl ac rfl rfl rfl (dk (tU kx hk)) rfl) rfl) ?_;refine eo rfl ⟨rfl,ce x_82⟩<|lT [0,26,27,44,45,49] [0,1,2,3,4] ?_;refine lq (rj k f7 rfl (by grind[ap,yr]))<|lf 6 tV Z<|ab (zQ 2 [.v (.int .i64 (x.an[k].jP+1))] ca cb rfl (dk (tU kx hk))) Z<|lN<|gB<|gT ?_;refine AW.obj 2 (df (kO kx (k+1) x.an)) (Eq.trans (b:=AO.ai 218 7 ((ah go (kO kx k x.an)).set k ((go { x.an[k]with jP:=x.an[k].jP+1 }).map PV.v))) rfl (congrArg (AO.ai 218 7) (lB.trans (congrArg (ah go) (by rw[<-BN _ hk];unfold kx;grind))))) ?_;refine aL<|bg Z<|ae Z<|Y ?_;refine⟨k+1,hk,by omega,x_10,⟨rfl,trivial⟩,rfl,rfl⟩
  intro h2;refine aK<|gB<|gT<|aL<|bg Z<|ae Z<|Y ?_;refine⟨k+1,hk,by omega,x_10,⟨(congrArg df (Gd kx hk (by have h:=h2;have q:=bQ.2.2.2.1;simp only[decide_eq_false_iff_not]at h;unfold kx;rw[show min (x.an[k].jP+1) 1125899906842624=x.an[k].jP by omega]))),trivial⟩,rfl,rfl⟩
 intro V;refine aE<|eT<|eT<|eB<|gA<|aM Z<|lc Z<|lf 0 c8 Z<|lf 3 dr Z<|iO eg Z<|ba kJ Z<|ae Z<|Y<|aB ?_;have Gf:k=x.an.length:=by have h:=V;simp only[ap,decide_eq_false_iff_not]at h;omega
 refine AW.obj 2 (df (x.an.map kx)) (congrArg df (by rw[Gf,DM])) ?_;refine aW [0,58] [0,2,3,4] (D:=Nat) (fun j=>[(59,int (j:Int))]) (fun j=>[(1,.ai 159 7 (ah aX (kO (l8 x.tick) j x.ag)))]) (fun j=>j<=x.ag.length) (fun j=>x.ag.length-j) (0) (Nat.zero_le _) ⟨rfl,trivial⟩ ⟨(congrArg (fun l=>AO.ai 159 7 (ah aX l)) (DL (l8 x.tick) x.ag).symm),trivial⟩ ?_;intro j hI;refine sL<|ak Z<|Y<|aS ?_;refine AW.cond rfl ?_ ?_
 ·intro h3;refine aK<|gT<|aS<|aB<|sL ?_;have hj:j<x.ag.length:=by simpa[ap]using h3
  have bC:=sm.ag _ (List.getElem_mem hj);refine ae Z<|ao Z<|nA<|aM Z<|lc Z<|lf 0 c8 Z<|lf 0 mB Z<|aj ac Z ?_;refine eo rfl ⟨rfl,by decide⟩<|ak Z<|Y ?_;refine AW.cond rfl ?_ ?_
  ·intro h4;refine aF [18]<|pq 0 (dJ Z)<|pq 1 (qc Z)<|pq 2 (qf 0 c8 Z)<|pq 3 (qf 3 dr Z)<|sq 4 (gC eg Z)<|pq 5 (gL (U _ _) Z)<|fT [0,3,58,59,73,74] [0,1,2,3,4] ?_;refine pq 6 (dJ rfl)<|pq 7 (qc rfl)<|pq 8 (qf 0 c8 rfl)<|pq 9 (qf 3 dr rfl)<|sq 10 (gC eg rfl)<|vq 11 (dW rfl)<|vq 12 (rj j cz rfl (by grind[ap,yr]))<|vq 13 (rf 6 ms rfl)<|vq 14 (rd (x:=U _ _) (dT rfl ac rfl rfl rfl (dk (tU _ hj)) rfl) rfl)<|bn 15 rfl (zL func261 (Sd _) rfl) (.inr rfl)<|vq 16 (rj j cz rfl (by grind[ap,yr]))<|vq 17 (rf 6 ms rfl)<|bn 18 rfl (zQ 1 [.v (.int .i64 (lA x.ag[j].cM))] ca cb rfl (dk (tU _ hj))) (.inl rfl)<|fD<|gB<|gT ?_;refine AW.obj 1 (.ai 159 7 (ah aX (kO (l8 x.tick) (j+1) x.ag))) (Eq.trans (b:=AO.ai 159 7 ((ah aX (kO (l8 x.tick) j x.ag)).set j ((aX { x.ag[j]with cM:=lA x.ag[j].cM }).map PV.v))) rfl (congrArg (AO.ai 159 7) (lB.trans (congrArg (ah aX) (by rw[<-BN _ hj];simp_all[l8]))))) ?_;refine aL<|bg Z<|ae Z<|Y ?_;refine⟨j+1,hj,by omega,x_10,⟨rfl,trivial⟩,rfl,rfl⟩
  intro h4;refine aK<|gB<|gT<|aL<|bg Z<|ae Z<|Y ?_;refine⟨j+1,hj,by omega,x_10,⟨(congrArg (fun l=>AO.ai 159 7 (ah aX l)) (Gd (l8 x.tick) hj (if_neg (by grind)))),trivial⟩,rfl,rfl⟩
 intro h3;refine aE<|eT<|eT<|eB ?_;refine iZ ?_ ⟨rfl,(congrArg (fun l=>AO.ai 159 7 (ah aX l)) (by rw[show j=x.ag.length by grind[ap],DM];rfl)),rfl,rfl,rfl,trivial⟩;rfl
end Go.Proofs.YtflhgkmhmcfimaaGreat

