/- Texts of the proof of FnFnCrash, joined: EY2, LogL, HubL, E40, EY3, EY4, HubP, CrashL, EY6. -/
import Derived.Test.YtflhgkmhmcfimaaGreatJCrash20
import Derived.Test.YtflhgkmhmcfimaaGreatJCrash19
namespace Go.Proofs.YtflhgkmhmcfimaaGreat
open Tryz
open Go.RowKit
set_option maxHeartbeats 16000000
set_option maxRecDepth 100000
set_option linter.unusedSimpArgs false
set_option linter.unusedVariables false
def crD(h:mm)(vA:List Int):du:=if zV h=true then acU h.log.bT vA else ⟨[],[]⟩
theorem agL{h:mm}{vA:List Int}(q:zV h=false):crD h vA=⟨[],[]⟩:=if_neg (by simp[q])
theorem agM{h:mm}{vA:List Int}(q:zV h=true):crD h vA=acU h.log.bT vA:=if_pos q
theorem ahP(u v:Value)(h:mm)(vA:List Int)(hd:HbD h):GC prog 18 [ajQ h,inV vA] (ai' u v h) (Gn) (SH (crD h vA)++ai' u v h):=by
 refine GC.intro (rs:=[.cell 4 43 (some 2)]) func18 rfl ntmps18 x_8 x_81 ?_;intro L O w0;refine sL<|ab (zX 2002 Z) Z<|ab (zA 2004 Du Z) Z<|Y<|aS<|sL<|aP fG EZ Z<|ab (zL func30 (aiL hd) Z) Z<|lT [1,2,4,6] [31,32,2002,2004] ?_;refine bX Z<|Y<|cE rfl ?_ ?_
 ·intro V;refine sL<|lq (rd (x:=.agg [vV _,vV _]) (cP Z adU Z Z Z) Z)<|ab (zB 2004 Dv Dw Z) Z<|Y ?_;refine AW.pi 1 2004 0 195 1 rfl x_3 rfl ?_;refine AW.pi 2 2004 1 192 2 rfl x_3 rfl ?_;refine aR<|rT ?_;have hq:zV h=false:=by have h:=V;simpa using h
  rw[agL hq];refine ax ?_ ⟨rfl,rfl,rfl,rfl,trivial⟩;rfl
 intro V;refine aK<|gT<|aS ?_;have hq:zV h=true:=by have h:=V;simpa using h
 refine aL<|lf 0 qL Z<|lf 0 Bv Z<|aP rm mE Z<|bm Z ?_;refine ab (zC [(1,1),(2,2),(31,31)] [1,2] [31] func71 (ajP u h.log.bT vA (af4 hq)) x_116 rfl rfl) Z<|lT [4,13] [1,2,31,32,2002,2004] ?_;refine ab (zB 2004 Dv Dw Z) Z<|Y<|aR ?_;rw[agM hq];refine ax ?_ ⟨rfl,rfl,rfl,rfl,trivial⟩;rfl
theorem ahE(d:du)(hb:qK d):GC prog 27 [mt d] [] (.au [ahO (e6 d),int (y3 d)]) (obK (e6 d)):=by
 refine GC.intro (rs:=[.cell 2 56 (some 14),.tmp 3]) func27 rfl ntmps27 x_8 ⟨rfl,rfl,EZ,rfl,trivial⟩ ?_;intro L O w0;refine sL<|ab (zX 2001 Z) Z<|ab (zA 2002 Ig Z) Z<|ao Z<|nA<|aP nq mE Z<|ab (zC [(1,1),(2,2),(3,3)] [1,2,3] [] func81 (ae0 d hb) (trivial) Z Z) Z<|lT [2,3,12] [1,2,3,2001,2002] ?_;refine cT (.au [qb,.own _,c6]) Z<|iB qb Z<|qT Z<|dE Z<|ab (zA 2004 Nx Z) Z<|lT [2,3,4,13,14,15] [1,2,3,2001,2002,2004] ?_;refine ab (zB 2004 Nv Nw Z) Z<|bD Z<|ao Z<|Y<|aS<|aS ?_;refine AW.freeze 2 rfl ?_;refine AW.freeze 3 rfl ?_;refine aL<|ae Z<|ak Z<|Y<|cE rfl ?_ ?_
 ·intro V;refine sL<|lq (rd (x:=.agg [vV _,vV _,c6,c6,c6,c6,c6,vV _,vV _,vV _,c6,vV _,vV _,vV _]) (cP Z acf Z Z Z) Z)<|ae Z<|ab (zB 2002 NA NB Z) Z<|lT [2,3,4,5,19] [1,2001,2002,2004] ?_;refine ao Z<|Y ?_;refine AW.pi 1 2002 0 195 1 rfl x_3 rfl ?_;refine AW.pi 2 2002 12 81 7 rfl x_3 rfl ?_;refine AW.ahJ 2002 [.own 1,.p (.ab 192 2 []),int 0,int 0,int 0,int 0,int 0,.p (.ab 159 7 []),.p (.ab 218 7 []),.p (.ab 220 5 []),int 0,.p (.ab 167 3 []),.own 2,.p (.ab 81 7 [])] Z (ff.same<|ahl<|ff.same<|ff.same<|ff.same<|ff.same<|ff.same<|ahl<|ahl<|ahl<|ff.same<|ahl<|ff.same<|ahl<|ff.nil) Z Z ?_;refine aR<|rT ?_;have hc:y3 d=m1 d:=adH (by have h:=V;simpa using h);have hL:=acJ (d:=d) (by rw[hc];have h:=V;simpa using h);rw[hL,hc];refine ax ?_ ⟨rfl,rfl,trivial⟩;rfl
 intro V;refine aK<|gT<|aS ?_;have cQ:m1 d=0:=by have h:=V;simpa using h
 have hle:=Ka d;refine aL<|bm Z ?_;refine dC 21 (.p (.ab 81 7 (ah fR (f8 d)))) (congrArg (fun l=>AV.p (.ab 81 7 (ah fR l))) (acG cQ)) ?_;refine ab (zC [] [] [] func82 (QK (f8 d) (Dp d) x_2) (trivial) rfl rfl) Z<|cT (.au [h1,jG,fy]) Z<|iB h1 Z<|iB jG Z<|eU Z<|ab (zA 2007 mD rfl) Z<|lT [2,3,4,7,23,24,25] [1,2001,2002,2004,2007] ?_;refine ab (zA 2008 ld Z) Z<|ab (zB 2007 eu ew Z) Z<|ab (zB 2008 cA cB Z) Z<|bv Z<|Y<|aS<|sL<|aQ Z<|bX Z<|Y<|cE rfl ?_ ?_
 ·intro h2;refine sL<|lq (rd (x:=.agg [vV _,vV _,c6,c6,c6,c6,c6,vV _,vV _,vV _,c6,vV _,vV _,vV _]) (cP Z acf Z Z Z) Z)<|ab (zB 2002 NA NB Z) Z<|lT [2,3,4,7,8] [1,2001,2002,2004,2007,2008] ?_;refine ao Z<|Y ?_;refine AW.pi 1 2002 0 195 1 rfl x_3 rfl ?_;refine AW.pi 2 2002 12 81 7 rfl x_3 rfl ?_;refine AW.ahJ 2002 [.own 1,.p (.ab 192 2 []),int 0,int 0,int 0,int 0,int 0,.p (.ab 159 7 []),.p (.ab 218 7 []),.p (.ab 220 5 []),int 0,.p (.ab 167 3 []),.own 2,.p (.ab 81 7 [])] Z (ff.same<|ahl<|ff.same<|ff.same<|ff.same<|ff.same<|ff.same<|ahl<|ahl<|ahl<|ff.same<|ahl<|ff.same<|ahl<|ff.nil) Z Z ?_;refine aR<|rT ?_;have hc:y3 d=3:=adI cQ x_70;have hL:=acJ (d:=d) x_54;rw[hL,hc];refine ax ?_ ⟨rfl,rfl,trivial⟩;rfl
 intro h2;refine aK<|gA<|aP (.agg [.own _,c7,c6,c6]) EY Z<|aP h1 cu Z<|aP jG eZ Z<|lq (rd (x:=.agg [.own _,c7,c6,c6,c6,c6,c6,c7,c7,c7,c6,c7,vV _,vV _]) (cP Z acf Z Z Z) Z)<|ab (zB 2002 NA NB Z) Z<|lT [2,3] [1,2001,2002,2004,2007,2008] ?_;refine ao Z<|Y ?_;refine AW.pi 2 2002 12 81 7 rfl x_3 rfl ?_;refine AW.ahJ 2002 [.own 1,.p (.ab 192 2 (oT (m4 d).bT.bu)),int (m4 d).next,int (m4 d).dP,int (de (f8 d)).now.tick,int (de (f8 d)).now.next,int (de (f8 d)).now.aA,.p (.ab 159 7 (ah aX (de (f8 d)).now.ag)),.p (.ab 218 7 (ah go (de (f8 d)).now.an)),.p (.ab 220 5 (ah iX (de (f8 d)).now.aq)),int (d5 (f8 d)).1.last,.p (.ab 167 3 (ah ct (d5 (f8 d)).1.lines)),.own 2,.p (.ab 81 7 [])] Z (ff.same<|ff.same<|ff.same<|ff.same<|ff.same<|ff.same<|ff.same<|ff.same<|ff.same<|ff.same<|ff.same<|ff.same<|ff.same<|ahl<|ff.nil) Z Z ?_;refine aR ?_;have hc:y3 d=0:=adJ cQ x_70;have hL:=ac5 hc;rw[hL,hc];refine ax ?_ ⟨rfl,rfl,trivial⟩;rfl
theorem akj(h:mm)(hd:HbD h):GC prog 12 [Bu h] [] (ahO (afL h)) (obK (afL h)):=by
 refine GC.intro (rs:=[.cell 2 56 (some 14)]) func12 rfl ntmps12 x_8 ⟨rfl,rfl,EZ,trivial⟩ ?_;intro L O w0;refine sL<|ab (zX 2001 Z) Z<|ab (zA 2002 Ig Z) Z<|Y<|aS<|sL<|aP kj EZ Z<|ab (zC [] [] [] func30 (aiL hd) (trivial) Z Z) Z<|lT [1,2,5] [2001,2002] ?_;refine bX Z<|Y<|cE rfl ?_ ?_
 ·intro V;refine sL<|lq (rd (x:=.agg [vV _,vV _,c6,c6,c6,c6,c6,vV _,vV _,vV _,c6,vV _,vV _,vV _]) (cP Z acf Z Z Z) Z)<|ab (zB 2002 NA NB Z) Z<|Y ?_;refine AW.pi 1 2002 0 195 1 rfl x_3 rfl ?_;refine AW.pi 2 2002 12 81 7 rfl x_3 rfl ?_;refine AW.ahJ 2002 [.own 1,.p (.ab 192 2 []),int 0,int 0,int 0,int 0,int 0,.p (.ab 159 7 []),.p (.ab 218 7 []),.p (.ab 220 5 []),int 0,.p (.ab 167 3 []),.own 2,.p (.ab 81 7 [])] Z (ff.same<|ahl<|ff.same<|ff.same<|ff.same<|ff.same<|ff.same<|ahl<|ahl<|ahl<|ff.same<|ahl<|ff.same<|ahl<|ff.nil) Z Z ?_;refine aR<|rT ?_;have hq:zV h=false:=by have h:=V;simpa using h
  rw[afX hq];refine ax ?_ ⟨rfl,rfl,trivial⟩;rfl
 intro V;refine aK<|gT<|aS ?_;have hq:zV h=true:=by have h:=V;simpa using h
 have hlw:=hd.lw;have T7:=hd.ls;refine aL<|aP kj EZ Z<|ab (zC [(6,6),(7,7),(8,8)] [6,7,8] [] func49 (agq h (hd.z hq) (acF (af4 hq))) (trivial) Z Z) Z<|lT [1,2,9] [6,7,8,2001,2002] ?_;refine ab (zA 2003 Ig Z) Z<|ab (zB 2003 NA NB Z) Z<|nA<|lf 0 qL Z<|aP (.agg [c7,c7,c6,c6]) EY Z<|ab (zC [(1,1),(2,2)] [1,2] [] func50 (aga h.log) (trivial) Z Z) Z<|lT [2,3,12] [1,2,6,7,8,2001,2002,2003] ?_;refine lf 0 qL Z<|ab (zB 2003 Nv Nw Z) Z<|Y<|aS ?_;refine AW.freeze 2 rfl ?_;refine aL<|lf 13 By Z<|iO tE Z<|lf 12 Bz Z<|iO tE Z<|ab (zP 8 jk jl sD Z (Src.own Z Z)) Z<|lT [2,3,18] [1,6,7,8,2001,2002,2003] ?_;refine lf 13 By Z<|ab (zB 2003 Ny Nz Z) Z<|nA<|lf 12 Bz Z<|ab (zB 2003 Ny Nz Z) Z<|lT [2,3] [1,6,7,8,2001,2002,2003] ?_;refine nA<|aP (.agg [.own _,c7,c6,c6,c6,c6,c6,c7,c7,c7,c6,.own _,vV _,.own _]) EZ Z<|ab (zB 2002 NA NB Z) Z<|Y ?_;refine AW.obj 8 (uT (h.f9++h.wait)) (congrArg (AO.ai 81 7) (fx fR _ _).symm) ?_;refine AW.freeze 6 rfl ?_;refine AW.freeze 8 rfl ?_;refine AW.pi 2 2002 12 81 7 rfl x_3 rfl ?_;refine aR ?_;rw[afY hq];refine ax ?_ ⟨rfl,rfl,trivial⟩;rfl
structure aix(I:Nat->mm->Prop):Prop where
 new:∀n,1<=n->n<=600->I 0 (e6 (ahW n))
 mono:∀ {k h},I k h->I (k+1) h
 take:∀ {k h e},I k h->l7 e->ahr h e=0->I k (aht h e)
 sync:∀ {k h},I k h->I k (afL h)
 aiT:∀ {k h} (vA:List Int),I k h->y3 (crD h vA)=0->I (k+1) (e6 (crD h vA))
 wf:∀ {k h},I k h->HbD h
theorem ahF{h:mm}{vA:List Int}(hd:HbD h):qK (crD h vA):=by
 cases q:zV h
 ·rw[agL q];exact x_67
 rw[agM q];exact(aii (af4 q) hd.db).2.1
def DrH(I:Nat->mm->Prop)(m:Nat):AV->List (Nat×AO)->Prop:=fun x ob2=>∃k h,k<=m/\I k h/\x=ahO h/\ob2=obK h
theorem x_56{p:Prop}(c:p:=by exact congrArg (fun n:Nat=>int (n:Int)) (ap ..)):p:=c
theorem x_61{p:Prop}(c:p:=by exact ⟨stays.ai rfl,stays.ai rfl,trivial⟩):p:=c
theorem x_76{p:Prop}(c:p:=by exact Eq.trans (b:=int _) rfl (congrArg int (by show _=((kJ+1:Nat):Int);omega))):p:=c
theorem x_142{p:Prop}(c:p:=by assumption):p:=c
theorem akk{I:Nat->mm->Prop}(W:aix I)(g:Value)(code:List Int)(i:Nat)(h m:Int)(hc:ahk code i)(hm:0<=m/\m<=100):GX prog 97 [.ptr 0 0 0,int m] [(0,ahm g code i h)] (DrX g code (DrH I (5+m).toNat)):=by
 refine GX.intro (rs:=[.cell 4 56 (some 14)]) func97 rfl ntmps97 x_8 ⟨rfl,rfl,EZ,trivial⟩ ?_;intro L O w0;refine sL<|ab (zA 2004 Ig Z) Z<|nA<|aM Z ?_;refine alX [(0,0)] [] [0] func98 (ahp g code _ _ _ hc) x_15 (ahn) Z ?_;intro xz1 oz1 fa;obtain⟨i1,q1,qC,⟨n1,⟨na1,nb1⟩,rfl⟩,rfl⟩:=fa;refine bg Z<|jK 19 (((8+n1).toNat:Nat):Int) rfl x_2<|ab (zC [] [] [] func182 (akh (8+n1).toNat x_2 x_2) (trivial) rfl rfl) Z<|lT [0,1,4,20] [0,2004] ?_;refine cT (.au [nq,fy]) Z<|iB nq Z<|eU Z<|ab (zA 2005 Du Z) Z<|lT [0,1,4,5,21,22] [0,2004,2005] ?_;refine ab (zB 2005 Dv Dw Z) Z<|bv Z<|nA<|aP nq mE Z<|ab (zC [(1,1),(2,2)] [1,2] [] func27 (ahE (ahW (8+n1).toNat) (ajm _)) (trivial) Z Z) Z<|lT [0,1,4,25] [0,1,2,2004,2005] ?_;refine cT (.au [fG,c6]) Z<|iB fG Z<|dE Z<|ab (zA 2007 Ig Z) Z<|lT [0,1,4,7,26,27] [0,1,2,2004,2005,2007] ?_;refine ab (zB 2007 NA NB Z) Z<|ao Z<|Y<|aS<|sL<|aM Z<|ae Z ?_;refine alX [(0,0),(50,50)] [50] [0] func183 (akl g code _ _ m qC hm) x_15 (aiU) Z ?_;intro xz2 oz2 hz2;obtain⟨i2,q2,_,Cj,⟨es1,aiV,rfl,rfl⟩,rfl⟩:=hz2;refine lT [0,4,7,30] [0,1,2,50,2004,2005,2007] ?_;refine ba jZ rfl ?_;refine dC 31 (int (es1.length:Int)) (congrArg (fun n:Nat=>int (n:Int)) (ap ..)) ?_;refine ae Z<|Y ?_;refine AW.freeze 50 rfl ?_;refine aB ?_;refine aW [0,4,7,30,31] [2004,2005] (D:=Nat×Int×Nat×mm) (fun d=>[(32,int (d.2.2.1:Int))]) (fun d=>[(0,ahm g code d.1 d.2.1),(2007,.box 56 none [.own 1,.p (.ab 192 2 (oT d.2.2.2.log.bT.bu)),int d.2.2.2.log.next,int d.2.2.2.log.dP,int d.2.2.2.book.tick,int d.2.2.2.book.next,int d.2.2.2.book.aA,.p (.ab 159 7 (ah aX d.2.2.2.book.ag)),.p (.ab 218 7 (ah go d.2.2.2.book.an)),.p (.ab 220 5 (ah iX d.2.2.2.book.aq)),int d.2.2.2.ia.last,.p (.ab 167 3 (ah ct d.2.2.2.ia.lines)),.own 2,.p (.ab 81 7 (ah fR d.2.2.2.f9))]),(1,.ai 195 1 (oS d.2.2.2.log.bT.cells)),(2,uT d.2.2.2.wait)]) (fun d=>ahk code d.1/\d.2.2.1<=es1.length/\I d.2.2.1 d.2.2.2) (fun d=>es1.length-d.2.2.1) ((_,_,0,e6 (ahW (8+n1).toNat))) (⟨by assumption,Nat.zero_le _,W.new _ x_2 x_2⟩) ⟨rfl,trivial⟩ ⟨rfl,rfl,rfl,rfl,trivial⟩ ?_;intro ⟨iJ,qJ,kJ,hJ⟩ hI;dsimp only;obtain⟨hcJ,hkJ,hgJ⟩:=hI;replace hcJ:ahk code iJ:=hcJ;replace hkJ:kJ<=es1.length:=hkJ;replace hgJ:I kJ hJ:=hgJ;have hdJ:=W.wf hgJ;refine sL<|ak Z<|Y<|aS<|cE rfl ?_ ?_
 ·intro V;refine aK<|gT<|aS<|aB<|aS ?_;have akV:=aiV.2;have hk:kJ<es1.length:=by have h:=V;simp only[decide_eq_true_eq]at h;omega
  refine aL<|li kJ jk Z (bS hk)<|d6 iK dD Z<|ab (zA 2010 jl Z) Z<|lT [0,4,7,10,30,31,32,35] [0,1,2,2004,2005,2007,2010] ?_;refine ab (zB 2010 mZ m0 Z) Z<|Y ?_;refine aJ2 [0,4,7,30,31,32] [2004,2005,2010] (D:=Nat×Int×mm) (fun d=>[]) (fun d=>[(0,ahm g code d.1 d.2.1),(2007,.box 56 none [.own 1,.p (.ab 192 2 (oT d.2.2.log.bT.bu)),int d.2.2.log.next,int d.2.2.log.dP,int d.2.2.book.tick,int d.2.2.book.next,int d.2.2.book.aA,.p (.ab 159 7 (ah aX d.2.2.book.ag)),.p (.ab 218 7 (ah go d.2.2.book.an)),.p (.ab 220 5 (ah iX d.2.2.book.aq)),int d.2.2.ia.last,.p (.ab 167 3 (ah ct d.2.2.ia.lines)),.own 2,.p (.ab 81 7 (ah fR d.2.2.f9))]),(1,.ai 195 1 (oS d.2.2.log.bT.cells)),(2,uT d.2.2.wait)]) (fun d=>ahk code d.1/\I kJ d.2.2) ?_ ?_
  ·by_cases T8:ahr hJ es1[kJ]=0
   ·skip;refine AW.freeze 1 rfl ?_;refine AW.freeze 2 rfl ?_;refine aL<|aP kj EZ Z<|aP iK dD Z<|ab (zC [(1,81),(2,82)] [81,82] [] func40 (ajj hdJ T8) (trivial) Z Z) Z<|lT [0,4,7,30,31,32,39] [0,81,82,2004,2005,2007,2010] ?_;refine cT (.au [fG,c6]) Z<|iB fG Z<|dE Z<|ab (zA 2011 Ig Z) Z<|lT [0,4,7,11,30,31,32,40,41] [0,81,82,2004,2005,2007,2010,2011] ?_;refine ab (zB 2011 NA NB Z) Z<|ao Z<|Y<|aS ?_;skip;refine aL<|ae Z<|ak Z<|bJ 43 true Z (Z)<|Y<|aY Z<|aL<|aP fG EZ Z<|ab (zB 2007 NA NB Z) Z ?_;refine AL.swap 81 1 ?_;refine AL.swap 82 2 ?_;refine lT [0,4,7,30,31,32] [0,1,2,2004,2005,2007,2010,2011] ?_;refine Y ?_;refine⟨(_,_,aht hJ es1[kJ]),⟨by assumption,W.take hgJ (aiV.1 _ (List.getElem_mem _)) T8⟩,trivial,⟨rfl,rfl,rfl,rfl,trivial⟩,rfl,rfl⟩
   skip;refine aL<|aP fG EZ Z<|aP iK dD Z<|ab (zL func40 (ajk hdJ T8) Z) Z<|cT (.au [.agg [vV _,vV _,c6,c6,c6,c6,c6,vV _,vV _,vV _,c6,vV _,vV _,vV _],c6]) Z<|iB (.agg [vV _,vV _,c6,c6,c6,c6,c6,vV _,vV _,vV _,c6,vV _,vV _,vV _]) Z<|dE Z<|ab (zA 2011 Ig Z) Z<|lT [0,4,7,11,30,31,32,40,41] [0,1,2,2004,2005,2007,2010,2011] ?_;refine ab (zB 2011 NA NB Z) Z<|ao Z<|Y<|aS ?_;skip;refine aL<|ae Z<|ak Z<|bJ 43 false Z (decide_eq_false T8)<|Y<|aN Z<|aK<|gT ?_;refine⟨(_,_,hJ),⟨by assumption,hgJ⟩,trivial,⟨rfl,rfl,rfl,rfl,trivial⟩,rfl,rfl⟩
  intro ⟨iJ9,qJ9,hJ9⟩ hiJ9;dsimp only;obtain⟨ahI,aij⟩:=hiJ9;replace ahI:ahk code iJ9:=ahI;replace aij:I kJ hJ9:=aij;have akm:=W.wf aij;refine sL<|aM Z ?_;refine alX [(0,0)] [] [0] func98 (ahp g code _ _ _ ahI) x_15 (ahn) Z ?_;intro xz3 oz3 hz3;obtain⟨i3,q3,hc3,⟨ahG,⟨na3,nb3⟩,rfl⟩,rfl⟩:=hz3;refine ao Z<|Y ?_;refine aJ [0,4,7,13,30,31,32] [2004,2005,2010] (D:=Nat×Int×mm) (fun d=>[]) (fun d=>[(0,ahm g code d.1 d.2.1),(2007,.box 56 none [.own 1,.p (.ab 192 2 (oT d.2.2.log.bT.bu)),int d.2.2.log.next,int d.2.2.log.dP,int d.2.2.book.tick,int d.2.2.book.next,int d.2.2.book.aA,.p (.ab 159 7 (ah aX d.2.2.book.ag)),.p (.ab 218 7 (ah go d.2.2.book.an)),.p (.ab 220 5 (ah iX d.2.2.book.aq)),int d.2.2.ia.last,.p (.ab 167 3 (ah ct d.2.2.ia.lines)),.own 2,.p (.ab 81 7 (ah fR d.2.2.f9))]),(1,.ai 195 1 (oS d.2.2.log.bT.cells)),(2,uT d.2.2.wait)]) (fun d=>ahk code d.1/\I kJ d.2.2) ?_ ?_
  ·refine sL<|ae Z<|ak Z<|Y<|cE rfl ?_ ?_
   ·intro h2;refine AW.freeze 1 rfl ?_;refine AW.freeze 2 rfl ?_;refine aL<|aP kj EZ Z<|ab (zC [(1,81),(2,82)] [81,82] [] func12 (akj hJ9 akm) (trivial) Z Z) Z<|lT [0,4,7,13,30,31,32,50] [0,81,82,2004,2005,2007,2010] ?_;refine ab (zB 2007 NA NB rfl) rfl ?_;refine AL.swap 81 1 ?_;refine AL.swap 82 2 ?_;refine Y ?_;refine⟨(_,_,afL hJ9),⟨by assumption,W.sync aij⟩,trivial,⟨rfl,rfl,rfl,rfl,trivial⟩,rfl,rfl⟩
   intro h2;refine aK<|gT ?_;refine⟨(_,_,hJ9),⟨by assumption,aij⟩,trivial,⟨rfl,rfl,rfl,rfl,trivial⟩,rfl,rfl⟩
  intro ⟨iJ12,qJ12,hJ12⟩ hiJ12;dsimp only;obtain⟨ahX,ahY⟩:=hiJ12;replace ahX:ahk code iJ12:=ahX;replace ahY:I kJ hJ12:=ahY;have ahv:=W.wf ahY;refine sL<|ae Z<|ak Z<|aQ Z ?_;refine AL.bool (t:=53) rfl ?_ ?_
  ·intro h3;refine aM rfl ?_;refine alX [(0,0)] [] [0] func98 (ahp g code _ _ _ ahX) x_15 (ahn) Z ?_;intro xz4 oz4 hz4;obtain⟨i4,q4,hc4,⟨ahZ,⟨na4,nb4⟩,rfl⟩,rfl⟩:=hz4;refine lT [0,4,7,30,31,32,53,55] [0,1,2,2004,2005,2007,2010] ?_;refine ak Z<|bj Z<|Y<|cE rfl ?_ ?_
   ·intro h4;refine AW.mU 1 rfl ?_;intro u1;refine AW.mU 2 rfl ?_;intro u2;refine aJ [0,4,7,30,31,32] [1,2,2004,2005,2007,2010] (D:=Nat×Int×Int) (fun d=>[(14,.ptr 2014 0 0),(15,int (y3 (crD hJ12 [128,d.2.2,128,0,128])))]) (fun d=>[(0,ahm g code d.1 d.2.1),(2014,.box 56 none [.own 83,.p (.ab 192 2 (oT (e6 (crD hJ12 [128,d.2.2,128,0,128])).log.bT.bu)),int (e6 (crD hJ12 [128,d.2.2,128,0,128])).log.next,int (e6 (crD hJ12 [128,d.2.2,128,0,128])).log.dP,int (e6 (crD hJ12 [128,d.2.2,128,0,128])).book.tick,int (e6 (crD hJ12 [128,d.2.2,128,0,128])).book.next,int (e6 (crD hJ12 [128,d.2.2,128,0,128])).book.aA,.p (.ab 159 7 (ah aX (e6 (crD hJ12 [128,d.2.2,128,0,128])).book.ag)),.p (.ab 218 7 (ah go (e6 (crD hJ12 [128,d.2.2,128,0,128])).book.an)),.p (.ab 220 5 (ah iX (e6 (crD hJ12 [128,d.2.2,128,0,128])).book.aq)),int (e6 (crD hJ12 [128,d.2.2,128,0,128])).ia.last,.p (.ab 167 3 (ah ct (e6 (crD hJ12 [128,d.2.2,128,0,128])).ia.lines)),.own 84,.p (.ab 81 7 (ah fR (e6 (crD hJ12 [128,d.2.2,128,0,128])).f9))]),(83,.ai 195 1 (oS (e6 (crD hJ12 [128,d.2.2,128,0,128])).log.bT.cells)),(84,uT (e6 (crD hJ12 [128,d.2.2,128,0,128])).wait)]) (fun d=>ahk code d.1) ?_ ?_
    ·refine aF [2,4,10]<|pq 1 (dJ Z) ?_;refine Dt (i:=0) (j:=2) (k:=9) x_37 ?_ ?_ ?_
     ·refine d9.rd (i:=0) (x:=fG) rfl (sC rfl EZ rfl rfl rfl rfl) rfl rfl x_3 ?_;refine AF.two (i:=2) (j:=9) x_37 ?_ ?_
      ·refine abq (i:=2) rfl (Un [(0,0)] [] [0] rfl x_88 rfl func98 rfl rfl (ahp g code _ _ _ hc4) ⟨rfl,rfl,rfl⟩ x_15 (ahn) rfl) (.inl rfl) rfl ?_;rintro _ _ ⟨xz6,oz6,hz6,rfl,rfl⟩;obtain⟨i6,q6,hc6,⟨ahB,⟨na6,nb6⟩,rfl⟩,rfl⟩:=hz6;refine fT [0,4,7,30,31,32,59,61] [0,1,2,2004,2005,2007,2010] ?_;refine AF.two (i:=3) (j:=9) x_37 ?_ ?_
       ·refine v1 3 rfl (zS 2062 (ah kt [128,ahB,128,0,128]) iU lY rfl x_30) (.inr rfl) ?_;refine AF.freeze 2062 rfl ?_;refine AF.two (i:=4) (j:=9) x_37 ?_ ?_
        ·refine v1 4 rfl (zC [(1,91),(2,92),(31,1),(32,2)] [91,92] [31,32] func18 (ahP u1 u2 hJ12 [128,ahB,128,0,128] ahv) x_61 rfl rfl) (.inl rfl) ?_;refine AF.freeze 91 rfl ?_;refine AF.freeze 92 rfl ?_;refine AF.two (i:=5) (j:=9) x_37 ?_ ?_
         ·refine v1 5 Z (zC [(1,83),(2,84)] [83,84] [] func27 (ahE (crD hJ12 [128,ahB,128,0,128]) (ahF ahv)) (trivial) Z Z) (.inr Z)<|pq 6 (gL (.au [fG,c6]) Z)<|pq 7 (qxX fG Z)<|pq 8 (qxI Z)<|bn 9 Z (zA 2014 Ig Z) (.inr Z)<|fT [0,4,7,14,30,31,32,65,66] [0,1,2,83,84,2004,2005,2007,2010,2014] ?_;refine bn 10 Z (zB 2014 NA NB Z) (.inl Z)<|vq 11 (j8 Z)<|fD<|gT ?_;refine⟨(_,_,_),x_142,⟨rfl,rfl,trivial⟩,⟨rfl,rfl,rfl,rfl,trivial⟩,rfl,rfl⟩
         refine v1 9 Z (zA 2014 Ig Z) (.inr Z)<|bn 5 Z (zC [(1,83),(2,84)] [83,84] [] func27 (ahE (crD hJ12 [128,ahB,128,0,128]) (ahF ahv)) (trivial) Z Z) (.inr Z)<|fT [0,4,7,14,30,31,32,64] [0,1,2,83,84,2004,2005,2007,2010,2014] ?_;refine vq 6 (sj (.au [fG,c6]) Z)<|pq 7 (qxX fG Z)<|pq 8 (qxI Z)<|bn 10 Z (zB 2014 NA NB Z) (.inl Z)<|fT [0,4,7,14,30,31,32,66] [0,1,2,83,84,2004,2005,2007,2010,2014] ?_;refine vq 11 (j8 Z)<|fD<|gT ?_;refine⟨(_,_,_),x_142,⟨rfl,rfl,trivial⟩,⟨rfl,rfl,rfl,rfl,trivial⟩,rfl,rfl⟩
        refine v1 9 rfl (zA 2014 Ig rfl) (.inr rfl) ?_;refine bn 4 rfl (zC [(1,91),(2,92),(31,1),(32,2)] [91,92] [31,32] func18 (ahP u1 u2 hJ12 [128,ahB,128,0,128] ahv) x_61 rfl rfl) (.inl rfl) ?_;refine AF.freeze 91 rfl ?_;refine AF.freeze 92 rfl ?_;refine bn 5 Z (zC [(1,83),(2,84)] [83,84] [] func27 (ahE (crD hJ12 [128,ahB,128,0,128]) (ahF ahv)) (trivial) Z Z) (.inr Z)<|fT [0,4,7,14,30,31,32,64] [0,1,2,83,84,2004,2005,2007,2010,2014] ?_;refine vq 6 (sj (.au [fG,c6]) Z)<|pq 7 (qxX fG Z)<|pq 8 (qxI Z)<|bn 10 Z (zB 2014 NA NB Z) (.inl Z)<|fT [0,4,7,14,30,31,32,66] [0,1,2,83,84,2004,2005,2007,2010,2014] ?_;refine vq 11 (j8 Z)<|fD<|gT ?_;refine⟨(_,_,_),x_142,⟨rfl,rfl,trivial⟩,⟨rfl,rfl,rfl,rfl,trivial⟩,rfl,rfl⟩
       refine v1 9 rfl (zA 2014 Ig rfl) (.inr rfl)<|bn 3 rfl (zS 2062 (ah kt [128,ahB,128,0,128]) iU lY rfl x_30) (.inr rfl) ?_;refine AF.freeze 2062 rfl ?_;refine bn 4 rfl (zC [(1,91),(2,92),(31,1),(32,2)] [91,92] [31,32] func18 (ahP u1 u2 hJ12 [128,ahB,128,0,128] ahv) x_61 rfl rfl) (.inl rfl)<|fT [0,4,7,14,30,31,32,63] [0,1,2,91,92,2004,2005,2007,2010,2014] ?_;refine AF.freeze 91 rfl ?_;refine AF.freeze 92 rfl ?_;refine bn 5 Z (zC [(1,83),(2,84)] [83,84] [] func27 (ahE (crD hJ12 [128,ahB,128,0,128]) (ahF ahv)) (trivial) Z Z) (.inr Z)<|vq 6 (sj (.au [fG,c6]) Z)<|pq 7 (qxX fG Z)<|pq 8 (qxI Z)<|bn 10 Z (zB 2014 NA NB Z) (.inl Z)<|fT [0,4,7,14,30,31,32,66] [0,1,2,83,84,2004,2005,2007,2010,2014] ?_;refine vq 11 (j8 Z)<|fD<|gT ?_;refine⟨(_,_,_),x_142,⟨rfl,rfl,trivial⟩,⟨rfl,rfl,rfl,rfl,trivial⟩,rfl,rfl⟩
      refine v1 9 rfl (zA 2014 Ig rfl) (.inr rfl) ?_;refine abx (i:=2) rfl x_37 (Un [(0,0)] [] [0] rfl x_88 rfl func98 rfl rfl (ahp g code _ _ _ hc4) ⟨rfl,rfl,rfl⟩ x_15 (ahn) rfl) (.inl rfl) rfl ?_;rintro _ _ ⟨xz7,oz7,hz7,rfl,rfl⟩;obtain⟨i7,q7,hc7,⟨ah8,⟨na7,nb7⟩,rfl⟩,rfl⟩:=hz7;refine bn 3 rfl (zS 2062 (ah kt [128,ah8,128,0,128]) iU lY rfl x_30) (.inr rfl)<|fT [0,4,7,14,30,31,32,59,62] [0,1,2,2004,2005,2007,2010,2014,2062] ?_;refine AF.freeze 2062 rfl ?_;refine bn 4 rfl (zC [(1,91),(2,92),(31,1),(32,2)] [91,92] [31,32] func18 (ahP u1 u2 hJ12 [128,ah8,128,0,128] ahv) x_61 rfl rfl) (.inl rfl) ?_;refine AF.freeze 91 rfl ?_;refine AF.freeze 92 rfl ?_;refine bn 5 Z (zC [(1,83),(2,84)] [83,84] [] func27 (ahE (crD hJ12 [128,ah8,128,0,128]) (ahF ahv)) (trivial) Z Z) (.inr Z)<|vq 6 (sj (.au [fG,c6]) Z)<|pq 7 (qxX fG Z)<|pq 8 (qxI Z)<|bn 10 Z (zB 2014 NA NB Z) (.inl Z)<|fT [0,4,7,14,30,31,32,66] [0,1,2,83,84,2004,2005,2007,2010,2014] ?_;refine vq 11 (j8 Z)<|fD<|gT ?_;refine⟨(_,_,_),x_142,⟨rfl,rfl,trivial⟩,⟨rfl,rfl,rfl,rfl,trivial⟩,rfl,rfl⟩
     ·refine abq (i:=2) rfl (Un [(0,0)] [] [0] rfl x_88 rfl func98 rfl rfl (ahp g code _ _ _ hc4) ⟨rfl,rfl,rfl⟩ x_15 (ahn) rfl) (.inl rfl) rfl ?_;rintro _ _ ⟨xz8,oz8,hz8,rfl,rfl⟩;obtain⟨i8,q8,hc8,⟨ahC,⟨na8,nb8⟩,rfl⟩,rfl⟩:=hz8;refine sq 0 (dw fG EZ rfl) ?_;refine AF.two (i:=3) (j:=9) x_37 ?_ ?_
      ·refine v1 3 rfl (zS 2062 (ah kt [128,ahC,128,0,128]) iU lY rfl x_30) (.inr rfl)<|fT [0,4,7,30,31,32,59,62] [0,1,2,2004,2005,2007,2010,2062] ?_;refine AF.freeze 2062 rfl ?_;refine AF.two (i:=4) (j:=9) x_37 ?_ ?_
       ·refine v1 4 rfl (zC [(1,91),(2,92),(31,1),(32,2)] [91,92] [31,32] func18 (ahP u1 u2 hJ12 [128,ahC,128,0,128] ahv) x_61 rfl rfl) (.inl rfl) ?_;refine AF.freeze 91 rfl ?_;refine AF.freeze 92 rfl ?_;refine AF.two (i:=5) (j:=9) x_37 ?_ ?_
        ·refine v1 5 Z (zC [(1,83),(2,84)] [83,84] [] func27 (ahE (crD hJ12 [128,ahC,128,0,128]) (ahF ahv)) (trivial) Z Z) (.inr Z)<|pq 6 (gL (.au [fG,c6]) Z)<|pq 7 (qxX fG Z)<|pq 8 (qxI Z)<|bn 9 Z (zA 2014 Ig Z) (.inr Z)<|fT [0,4,7,14,30,31,32,65,66] [0,1,2,83,84,2004,2005,2007,2010,2014] ?_;refine bn 10 Z (zB 2014 NA NB Z) (.inl Z)<|vq 11 (j8 Z)<|fD<|gT ?_;refine⟨(_,_,_),x_142,⟨rfl,rfl,trivial⟩,⟨rfl,rfl,rfl,rfl,trivial⟩,rfl,rfl⟩
        refine v1 9 Z (zA 2014 Ig Z) (.inr Z)<|bn 5 Z (zC [(1,83),(2,84)] [83,84] [] func27 (ahE (crD hJ12 [128,ahC,128,0,128]) (ahF ahv)) (trivial) Z Z) (.inr Z)<|fT [0,4,7,14,30,31,32,64] [0,1,2,83,84,2004,2005,2007,2010,2014] ?_;refine vq 6 (sj (.au [fG,c6]) Z)<|pq 7 (qxX fG Z)<|pq 8 (qxI Z)<|bn 10 Z (zB 2014 NA NB Z) (.inl Z)<|fT [0,4,7,14,30,31,32,66] [0,1,2,83,84,2004,2005,2007,2010,2014] ?_;refine vq 11 (j8 Z)<|fD<|gT ?_;refine⟨(_,_,_),x_142,⟨rfl,rfl,trivial⟩,⟨rfl,rfl,rfl,rfl,trivial⟩,rfl,rfl⟩
       refine v1 9 rfl (zA 2014 Ig rfl) (.inr rfl) ?_;refine bn 4 rfl (zC [(1,91),(2,92),(31,1),(32,2)] [91,92] [31,32] func18 (ahP u1 u2 hJ12 [128,ahC,128,0,128] ahv) x_61 rfl rfl) (.inl rfl) ?_;refine AF.freeze 91 rfl ?_;refine AF.freeze 92 rfl ?_;refine bn 5 Z (zC [(1,83),(2,84)] [83,84] [] func27 (ahE (crD hJ12 [128,ahC,128,0,128]) (ahF ahv)) (trivial) Z Z) (.inr Z)<|fT [0,4,7,14,30,31,32,64] [0,1,2,83,84,2004,2005,2007,2010,2014] ?_;refine vq 6 (sj (.au [fG,c6]) Z)<|pq 7 (qxX fG Z)<|pq 8 (qxI Z)<|bn 10 Z (zB 2014 NA NB Z) (.inl Z)<|fT [0,4,7,14,30,31,32,66] [0,1,2,83,84,2004,2005,2007,2010,2014] ?_;refine vq 11 (j8 Z)<|fD<|gT ?_;refine⟨(_,_,_),x_142,⟨rfl,rfl,trivial⟩,⟨rfl,rfl,rfl,rfl,trivial⟩,rfl,rfl⟩
      refine v1 9 rfl (zA 2014 Ig rfl) (.inr rfl)<|bn 3 rfl (zS 2062 (ah kt [128,ahC,128,0,128]) iU lY rfl x_30) (.inr rfl) ?_;refine AF.freeze 2062 rfl ?_;refine bn 4 rfl (zC [(1,91),(2,92),(31,1),(32,2)] [91,92] [31,32] func18 (ahP u1 u2 hJ12 [128,ahC,128,0,128] ahv) x_61 rfl rfl) (.inl rfl)<|fT [0,4,7,14,30,31,32,63] [0,1,2,91,92,2004,2005,2007,2010,2014] ?_;refine AF.freeze 91 rfl ?_;refine AF.freeze 92 rfl ?_;refine bn 5 Z (zC [(1,83),(2,84)] [83,84] [] func27 (ahE (crD hJ12 [128,ahC,128,0,128]) (ahF ahv)) (trivial) Z Z) (.inr Z)<|vq 6 (sj (.au [fG,c6]) Z)<|pq 7 (qxX fG Z)<|pq 8 (qxI Z)<|bn 10 Z (zB 2014 NA NB Z) (.inl Z)<|fT [0,4,7,14,30,31,32,66] [0,1,2,83,84,2004,2005,2007,2010,2014] ?_;refine vq 11 (j8 Z)<|fD<|gT ?_;refine⟨(_,_,_),x_142,⟨rfl,rfl,trivial⟩,⟨rfl,rfl,rfl,rfl,trivial⟩,rfl,rfl⟩
     refine v1 9 rfl (zA 2014 Ig rfl) (.inr rfl) ?_;refine AF.two (i:=0) (j:=2) x_37 ?_ ?_
     ·refine d9.rd (i:=0) (x:=fG) rfl (sC rfl EZ rfl rfl rfl rfl) rfl rfl x_3 ?_;refine abx (i:=2) rfl x_37 (Un [(0,0)] [] [0] rfl x_88 rfl func98 rfl rfl (ahp g code _ _ _ hc4) ⟨rfl,rfl,rfl⟩ x_15 (ahn) rfl) (.inl rfl) rfl ?_;rintro _ _ ⟨xz9,oz9,hz9,rfl,rfl⟩;obtain⟨i9,q9,hc9,⟨ahT,⟨na9,nb9⟩,rfl⟩,rfl⟩:=hz9;refine fT [0,4,7,14,30,31,32,59,61] [0,1,2,2004,2005,2007,2010,2014] ?_;refine bn 3 rfl (zS 2062 (ah kt [128,ahT,128,0,128]) iU lY rfl x_30) (.inr rfl) ?_;refine AF.freeze 2062 rfl ?_;refine bn 4 rfl (zC [(1,91),(2,92),(31,1),(32,2)] [91,92] [31,32] func18 (ahP u1 u2 hJ12 [128,ahT,128,0,128] ahv) x_61 rfl rfl) (.inl rfl) ?_;refine AF.freeze 91 rfl ?_;refine AF.freeze 92 rfl ?_;refine bn 5 Z (zC [(1,83),(2,84)] [83,84] [] func27 (ahE (crD hJ12 [128,ahT,128,0,128]) (ahF ahv)) (trivial) Z Z) (.inr Z)<|vq 6 (sj (.au [fG,c6]) Z)<|pq 7 (qxX fG Z)<|pq 8 (qxI Z)<|bn 10 Z (zB 2014 NA NB Z) (.inl Z)<|fT [0,4,7,14,30,31,32,66] [0,1,2,83,84,2004,2005,2007,2010,2014] ?_;refine vq 11 (j8 Z)<|fD<|gT ?_;refine⟨(_,_,_),x_142,⟨rfl,rfl,trivial⟩,⟨rfl,rfl,rfl,rfl,trivial⟩,rfl,rfl⟩
     refine abq (i:=2) rfl (Un [(0,0)] [] [0] rfl x_88 rfl func98 rfl rfl (ahp g code _ _ _ hc4) ⟨rfl,rfl,rfl⟩ x_15 (ahn) rfl) (.inl rfl) rfl ?_;rintro _ _ ⟨aiW,aiX,ah0,rfl,rfl⟩;obtain⟨i10,q10,aik,⟨n10,⟨ail,aiY⟩,rfl⟩,rfl⟩:=ah0;refine sq 0 (dw fG EZ rfl)<|bn 3 rfl (zS 2062 (ah kt [128,n10,128,0,128]) iU lY rfl x_30) (.inr rfl)<|fT [0,4,7,14,30,31,32,59,62] [0,1,2,2004,2005,2007,2010,2014,2062] ?_;refine AF.freeze 2062 rfl ?_;refine bn 4 rfl (zC [(1,91),(2,92),(31,1),(32,2)] [91,92] [31,32] func18 (ahP u1 u2 hJ12 [128,n10,128,0,128] ahv) x_61 rfl rfl) (.inl rfl) ?_;refine AF.freeze 91 rfl ?_;refine AF.freeze 92 rfl ?_;refine bn 5 Z (zC [(1,83),(2,84)] [83,84] [] func27 (ahE (crD hJ12 [128,n10,128,0,128]) (ahF ahv)) (trivial) Z Z) (.inr Z)<|vq 6 (sj (.au [fG,c6]) Z)<|pq 7 (qxX fG Z)<|pq 8 (qxI Z)<|bn 10 Z (zB 2014 NA NB Z) (.inl Z)<|fT [0,4,7,14,30,31,32,66] [0,1,2,83,84,2004,2005,2007,2010,2014] ?_;refine vq 11 (j8 Z)<|fD<|gT ?_;refine⟨(_,_,_),x_142,⟨rfl,rfl,trivial⟩,⟨rfl,rfl,rfl,rfl,trivial⟩,rfl,rfl⟩
    intro ⟨iW,qW,nW⟩ G8;dsimp only;replace G8:ahk code iW:=G8;refine sL<|ae Z<|ak Z<|Y<|cE rfl ?_ ?_
    ·intro h5;refine aL<|aP fG EZ Z<|ab (zB 2007 NA NB Z) Z ?_;refine AL.swap 83 1 ?_;refine AL.swap 84 2 ?_;refine lT [0,4,7,30,31,32] [0,1,2,83,84,2004,2005,2007,2010,2014] ?_;refine lN<|gB<|gT<|aL<|bg Z<|ae Z<|Y ?_;skip;refine⟨(_,_,kJ+1,e6 (crD hJ12 [128,nW,128,0,128])),⟨by assumption,hk,W.aiT _ ahY (by have h:=h5;simpa using h)⟩,by show es1.length-(kJ+1)<es1.length-kJ;omega,⟨x_76,trivial⟩,⟨rfl,rfl,rfl,rfl,trivial⟩,rfl,rfl⟩
    intro h5;refine aK<|gB<|gT ?_;refine iQ 1 rfl ?_;refine iQ 2 rfl ?_;refine aL<|bg Z<|ae Z<|Y ?_;skip;refine⟨(_,_,kJ+1,hJ12),⟨by assumption,hk,W.mono ahY⟩,by show es1.length-(kJ+1)<es1.length-kJ;omega,⟨x_76,trivial⟩,⟨rfl,rfl,rfl,rfl,trivial⟩,rfl,rfl⟩
   intro h4;refine aK<|gB<|gT<|aL<|bg Z<|ae Z<|Y ?_;skip;refine⟨(_,_,kJ+1,hJ12),⟨by assumption,hk,W.mono ahY⟩,by show es1.length-(kJ+1)<es1.length-kJ;omega,⟨x_76,trivial⟩,⟨rfl,rfl,rfl,rfl,trivial⟩,rfl,rfl⟩
  intro h3;refine aa Z<|aa Z<|aa Z<|bL Z<|Y<|aN Z<|aK<|gB<|gT<|aL<|bg Z<|lT [0,4,7,30,31,32,70] [0,1,2,2004,2005,2007,2010] ?_;refine ae Z<|Y ?_;skip;refine⟨(_,_,kJ+1,hJ12),⟨by assumption,hk,W.mono ahY⟩,by show es1.length-(kJ+1)<es1.length-kJ;omega,⟨x_76,trivial⟩,⟨rfl,rfl,rfl,rfl,trivial⟩,rfl,rfl⟩
 intro V;refine aE<|eT<|eT<|eB<|gA<|aP fG EZ Z<|ab (zB 2004 NA NB Z) Z<|Y<|aR ?_;refine fN ((ahO hJ)) ((0,ahm g code iJ qJ)::obK hJ) ?_ rfl ⟨rfl,rfl,rfl,trivial⟩;exact⟨_,_,_,hcJ,⟨kJ,hJ,by have:=aiV.2;omega,hgJ,rfl,rfl⟩,rfl⟩

theorem alp{i:Int}{w:gq}:∀(ws:List gq),kD (ws++[w]) i=if w.at_=i then some w.bytes else kD ws i
 |[]=>rfl
 |x::ws=>by
  show (match kD (ws++[w]) i with|some b=>some b|none=>if x.at_=i then some x.bytes else none)=_;rw[alp ws];by_cases h:w.at_=i
  ·rw[if_pos h,if_pos h]
  rw[if_neg h,if_neg h];rfl
theorem alq{i:Nat}:∀(ws:List gq) (cs:List Cell),(∀w∈ws,0<=w.at_)->(ws.foldl abT cs)[i]? = (cs[i]?).map fun c=>match kD ws i with|some b=>⟨b⟩|none=>c
 |[],cs,_=>by simp[kD]
 |w::ws,cs,h=>by
  rw[List.foldl_cons,alq ws _ (fun x hx=>h x (by simp[hx]))];have h0:=h w x_20;show ((cs.set w.at_.toNat ⟨w.bytes⟩)[i]?).map _=(cs[i]?).map fun c=>match (match kD ws i with|some b=>some b|none=>if w.at_=(i:Int)then some w.bytes else none)with|some b=>(⟨b⟩:Cell)|none=>c
  rw[List.getElem?_set];by_cases q:w.at_.toNat=i
  ·rw[if_pos q];have q2:w.at_=(i:Int):=by omega
   by_cases z:w.at_.toNat<cs.length
   ·rw[if_pos z,List.getElem?_eq_getElem (show i<cs.length by omega)];cases kD ws i<;>simp[q2]
   rw[if_neg z,List.getElem?_eq_none (show cs.length<=i by omega)];rfl
  rw[if_neg q];have q2:¬w.at_=(i:Int):=by omega
  cases kD ws i<;>simp[q2]
theorem alJ{d:du}(h:ik d=true){i:Nat}(hi:i<d.cells.length):io (abM d) i=io d i:=by
 rw[acu h];unfold io;show yP (((abE d d.bu.length)[i]?).getD ⟨[]⟩).bytes=_;unfold abE;rw[List.take_length,alq _ _ (fun w hw=>by obtain⟨j,hj,rfl⟩:=List.getElem_of_mem hw;exact(acW h hj).1),List.getElem?_eq_getElem hi];cases hl:kD d.bu i with
 |none=>rfl
 |some b=>
  obtain⟨w,hw,hwb⟩:=Jm hl;obtain⟨j,hj,rfl⟩:=List.getElem_of_mem hw;have:=Jk h hj;rw[hwb]at this;show yP b=b;exact Jh x_2
theorem ak7{d:du}{i:Nat}(h:i<(oh d).length):(oh d)[i]=io d i:=by simp[oh]
theorem ak8{d:du}(h:ik d=true):oh (abM d)=oh d:=by
 have hl:(abM d).cells.length=d.cells.length:=by rw[acu h];exact abW _ _
 refine List.ext_getElem (by rw[Jl,Jl,hl]) fun i V h2=>?_;have hi:i<d.cells.length:=by rwa [Jl]at h2
 rw[ak7,ak7,alJ h hi]
theorem ala{d:du}{i:Nat}{b:List Int}:oh (v6 d i b)=(oh d).set i b:=by
 refine List.ext_getElem (by rw[List.length_set,Jl,Jl];rfl) fun j V h2=>?_;have hj:j<d.cells.length:=by rw[List.length_set,Jl]at h2;exact h2
 rw[List.getElem_set,ak7,ak7];unfold io v6;show (match kD (d.bu++[⟨(i:Int),b⟩]) (j:Int)with|some b=>b|none=>_)=_;rw[alp];by_cases q:i=j
 ·subst q;rw[if_pos rfl,if_pos rfl]
 rw[if_neg (show ¬((i:Int)=(j:Int)) by omega),if_neg q];rfl
theorem alr:∀(bs:List (List Int)) (acc:List fb),∃r,og bs acc=acc++r
 |[],acc=>⟨[],by simp[og]⟩
 |b::r,acc=>by
  unfold og;split
  ·obtain⟨q,hq⟩:=alr r (acc++[gu b]);exact⟨gu b::q,by rw[hq,List.append_assoc];rfl⟩
  exact⟨[],by simp⟩
theorem amX{b:List Int}{r:List (List Int)}{acc:List fb}:og (b::r) acc=if pA acc b then og r (acc++[gu b])else acc:=rfl
theorem als:∀(m:Nat) (bs:List (List Int)) (acc:List fb) (rest:List (List Int)),acc.length+m<=(og bs acc).length->og (bs.take m++rest) acc=og rest ((og bs acc).take (acc.length+m))
 |0,bs,acc,rest,_=>by
  obtain⟨r,hr⟩:=alr bs acc;rw[hr,List.take_zero,List.nil_append,Nat.add_zero,List.take_left]
 |m+1,[],acc,rest,h=>by
  have:og [] acc=acc:=rfl;rw[this]at h;omega
 |m+1,b::r,acc,rest,h=>by
  by_cases hg:pA acc b=true
  ·have e:og (b::r) acc=og r (acc++[gu b]):=by rw[amX,if_pos hg]
   rw[e]at h ⊢;have ih:=als m r (acc++[gu b]) rest (by rw[List.length_append,List.length_singleton];omega);rw[List.length_append,List.length_singleton]at ih;rw[List.take_succ_cons,List.cons_append,show acc.length+(m+1)=acc.length+1+m by omega,<-ih];rw[amX,if_pos hg]
  have e:og (b::r) acc=acc:=by unfold og;rw[if_neg hg]
  rw[e]at h;omega
theorem run_set{bs:List (List Int)}{b:List Int}(h:(og bs []).length<bs.length):og (bs.set (og bs []).length b) []=og (b::bs.drop ((og bs []).length+1)) (og bs []):=by
 have e:bs.set (og bs []).length b=bs.take (og bs []).length++b::bs.drop ((og bs []).length+1):=by
  rw[List.set_eq_take_append_cons_drop,if_pos h]
 rw[e,als _ bs [] _ x_20];simp
theorem ald:∀(l:List (List Int)) (t:Int),t<=l.foldl (fun t b=>max t (kP b).dP) t/\∀b∈l,(kP b).dP<=l.foldl (fun t b=>max t (kP b).dP) t
 |[],t=>⟨Int.le_refl _,fun b h=>by cases h⟩
 |x::l,t=>by
  have ih:=ald l (max t (kP x).dP);rw[List.foldl_cons];refine⟨by omega,fun b hb=>?_⟩;rcases List.mem_cons.1 hb with rfl|hb
  ·omega
  exact ih.2 b hb
theorem alb{m:Int}:∀(l:List (List Int)) (t:Int),t<=m->(∀b∈l,(kP b).dP<=m)->l.foldl (fun t b=>max t (kP b).dP) t<=m
 |[],t,h,_=>h
 |x::l,t,h,hb=>by
  rw[List.foldl_cons];have:=hb x x_20;exact alb l _ x_2 (fun b q=>hb b (by simp[q]))
theorem ak9{l:List (List Int)}{b:List Int}(h:b∈l):(kP b).dP<=abF l:=(ald l 0).2 b h
theorem alK(l:List (List Int)):0<=abF l:=(ald l 0).1
theorem alh(bs:List (List Int)):yu (og bs [])<=abF bs:=by
 unfold yu;split
 ·rename_i s hs;rcases PH (List.mem_of_getLast? hs)with q|⟨b,hb,hF,rfl⟩
  ·cases q
  have:=ak9 hb;rwa [dv hF]at this
 exact alK _
theorem alj{bs:List (List Int)}{acc:List fb}{t:Int}(hb:∀b∈bs,(kP b).dP<=t)(h:t<yu acc):og bs acc=acc:=by
 cases bs with
 |nil=>rfl
 |cons b r=>
  unfold og;rw[if_neg];intro hg;obtain⟨g1,_,g3⟩:=sW.1 hg;have:=hb b x_20;rw[dv g1]at this;omega
theorem alc{e:aV}(h:co e=true):lJ (rY e)=e:=by
 obtain⟨b1,b2,b3,b4,b5,b6⟩:=Dq h;have p3:(cl 3 e.key).length=3:=da _ _;have aft:(cl 7 e.af).length=7:=da _ _;have afu:(cl 7 e.ay).length=7:=da _ _;have e0:rY e=69::e.kind::(cl 3 e.key++(e.ch::e.to::(cl 7 e.af++(cl 7 e.ay++[if e.yes then 1 else 0])))):=by unfold rY;simp only[List.append_assoc];rfl
 have d2:(rY e).drop 2=cl 3 e.key++(e.ch::e.to::(cl 7 e.af++(cl 7 e.ay++[if e.yes then 1 else 0]))):=by rw[e0];rfl
 have d5:(rY e).drop 5=e.ch::e.to::(cl 7 e.af++(cl 7 e.ay++[if e.yes then 1 else 0])):=by rw[show (5:Nat)=2+3 from rfl,<-List.drop_drop,d2,List.drop_left' p3]
 have d7:(rY e).drop 7=cl 7 e.af++(cl 7 e.ay++[if e.yes then 1 else 0]):=by rw[show (7:Nat)=5+2 from rfl,<-List.drop_drop,d5];rfl
 have d14:(rY e).drop 14=cl 7 e.ay++[if e.yes then 1 else 0]:=by rw[show (14:Nat)=7+7 from rfl,<-List.drop_drop,d7,List.drop_left' aft]
 have d21:(rY e).drop 21=[if e.yes then 1 else 0]:=by rw[show (21:Nat)=14+7 from rfl,<-List.drop_drop,d14,List.drop_left' afu]
 have g (k:Nat):(rY e).getD k 0=(((rY e).drop k)[0]?).getD 0:=by rw[List.getD_eq_getElem?_getD,List.getElem?_drop,Nat.add_zero]
 unfold lJ;rw[g 1,g 5,g 6,g 21,show (6:Nat)=5+1 from rfl,<-List.drop_drop,d2,d5,d7,d14,d21,List.take_left' p3,List.take_left' aft,List.take_left' afu,LX b2.1 x_2,LX b5.1 x_2,LX b6.1 x_2,e0];obtain⟨k1,k2,k3,k4,k5,k6,y⟩:=e;cases y<;>rfl
theorem alx{e:aV}(h:co e=true):lK (rY e)=true:=uS.2 ⟨TF e,by rw[alc h];exact h,by rw[alc h]⟩
theorem alm(a b:List fb):pj (a++b)=pj a++pj b:=List.filterMap_append
theorem alk{a:List fb}{s:fb}:yu (a++[s])=s.dP:=ZC a s
structure alL(d:du):Prop where
 evs:f8 (m4 d).bT=f8 d
 len:((dH (m4 d).bT).length:Int)=(m4 d).next
 ep:(m4 d).dP=m2 d+1
 top:m2 (m4 d).bT=(m4 d).dP
 run:dH (m4 d).bT=dH d++[⟨(dH d).length,m2 d+1,[66]⟩]
theorem alG{d:du}(hc:m1 d=0):alL d:=by
 have g9:ik d=true:=by rcases aep d with q|q;exact q.2.1;exact absurd hc q.1
 have alt:ik (m4 d).bT=true:=by rcases aep d with q|q;exact q.2.2;exact absurd hc q.1
 have h0:d.bu.length=0:=by
  by_cases h:d.bu.length=0
  ·exact h
  rw[lg1 (.inr h)]at hc;cases hc
 have hn:¬((dH d).length=d.cells.length\/16000000<=m2 d):=fun q=>by rw[lg2 g9 h0 q]at hc;cases hc
 have hle:=acD g9;have eI:(dH d).length<d.cells.length:=by omega
 have hS:=adx g9 eI x_2;have hW:=ab7 g9 eI x_2 (TB (s:=⟨(dH d).length,m2 d+1,[66]⟩) x_8);have hL:=acE hc;generalize hb:oq ⟨(dH d).length,m2 d+1,[66]⟩=b at hL hW;have hbF:g8 b=true:=by rw[<-hb];exact ali hS
 have hbC:gu b=⟨(dH d).length,m2 d+1,[66]⟩:=by rw[<-hb];exact TE hS
 have hv:oh (m4 d).bT=(oh d).set (dH d).length b:=by rw[hL];show oh (abM _)=_;rw[ak8 hW,ala]
 have hR:=DP g9;have hT:=adS g9;have Lm:yu (dH d)<=m2 d:=by rw[hR,hT];exact alh _
 have rq:dH (m4 d).bT=dH d++[⟨(dH d).length,m2 d+1,[66]⟩]:=by
  rw[DP alt,hv];have e:=run_set (bs:=oh d) (b:=b) (by rw[<-hR,Jl];exact eI);rw[<-hR]at e;rw[e];have hg:pA (dH d) b=true:=sW.2 ⟨hbF,by rw[hbC],by rw[hbC];show yu _<=m2 d+1;omega⟩;rw[amX,if_pos hg,hbC];exact alj (t:=m2 d) (fun x hx=>by rw[hT];exact ak9 (List.mem_of_mem_drop hx)) (by rw[alk];show m2 d<m2 d+1;omega)
 refine⟨?_,by rw[rq,hL];simp,by rw[hL],?_,rq⟩
 ·unfold f8;rw[rq,alm];show pj (dH d)++[]=_;rw[List.append_nil]
 rw[adS alt,hv,hL];show abF _=m2 d+1;have mS:(kP b).dP=m2 d+1:=by rw[dv hbF,hbC]
 refine Int.le_antisymm (alb _ _ (by have:=(acY d).1;omega) fun x hx=>?_) ?_
 ·rcases List.mem_or_eq_of_mem_set hx with q|rfl
  ·have:=ak9 q;rw[<-hT]at this;omega
  omega
 rw[<-mS];exact ak9 (List.mem_iff_getElem.2 ⟨(dH d).length,by rw[List.length_set,Jl];exact eI,by rw[List.getElem_set_self]⟩)
structure alV(l:uW)(e:aV):Prop where
 ge:(ahu l e).next<=((dH (ahu l e).bT).length:Int)
 run:((dH (ahu l e).bT).length:Int)=(ahu l e).next->dH (ahu l e).bT=dH l.bT++[⟨l.next,l.dP,rY e⟩]
 evs:((dH (ahu l e).bT).length:Int)=(ahu l e).next->f8 (ahu l e).bT=f8 l.bT++[e]
theorem amy{l:uW}{e:aV}(hc:aho l e=0)(hn:((dH l.bT).length:Int)=l.next)(ht:m2 l.bT<=l.dP):alV l e:=by
 obtain⟨V,h2,h3,h4,h5⟩:=ajs hc;have hL:=aiw hc;have hi:=ahS.1 h2;have alt:=aki hc;have eI:(dH l.bT).length<l.bT.cells.length:=by omega
 have hS:=ajC (e:=e) V h2 h3 x_2;have hx:l.next.toNat=(dH l.bT).length:=by omega
 rw[hx]at hL;generalize hb:oq ⟨l.next,l.dP,rY e⟩=b at hL;have hbF:g8 b=true:=by rw[<-hb];exact ali hS
 have hbC:gu b=⟨l.next,l.dP,rY e⟩:=by rw[<-hb];exact TE hS
 have hv:oh (ahu l e).bT=(oh l.bT).set (dH l.bT).length b:=by rw[hL];exact ala
 have hR:=DP V;have hT:=adS V;have Lm:yu (dH l.bT)<=m2 l.bT:=by rw[hR,hT];exact alh _
 have hg:pA (dH l.bT) b=true:=sW.2 ⟨hbF,by rw[hbC];exact hn.symm,by rw[hbC];show yu _<=l.dP;omega⟩;have rq:dH (ahu l e).bT=og ((oh l.bT).drop ((dH l.bT).length+1)) (dH l.bT++[⟨l.next,l.dP,rY e⟩]):=by
  rw[DP alt,hv];have e:=run_set (bs:=oh l.bT) (b:=b) (by rw[<-hR,Jl];exact eI);rw[<-hR]at e;rw[e];rw[amX,if_pos hg,hbC]
 obtain⟨r,hr⟩:=alr ((oh l.bT).drop ((dH l.bT).length+1)) (dH l.bT++[⟨l.next,l.dP,rY e⟩]);rw[hr]at rq;have Gz:(ahu l e).next=l.next+1:=by rw[hL]
 have hr0:((dH (ahu l e).bT).length:Int)=(ahu l e).next->dH (ahu l e).bT=dH l.bT++[⟨l.next,l.dP,rY e⟩]:=fun q=>by
  rw[rq]at q ⊢;rw[Gz]at q;simp only[List.length_append,List.length_singleton]at q;have:r=[]:=List.length_eq_zero_iff.1 x_2;rw[this,List.append_nil]
 refine⟨by rw[rq,Gz];simp only[List.length_append,List.length_singleton];omega,hr0,fun q=>?_⟩;unfold f8;rw[hr0 q,alm];congr 1;unfold pj;simp[alx h4,alc h4]
theorem kept{d:du}(h:ik d=true):acU (abM d) []=abM d/\f8 (abM d)=f8 d:=by
 have hs:=aiS h;refine⟨?_,?_⟩
 ·rw[adB hs.1,hs.2];have:=hs.2;revert this;generalize abM d=x;intro hx;obtain⟨c,w⟩:=x;subst hx;rfl
 unfold f8;rw[DP hs.1,DP h,ak8 h]

structure alZ(h:mm):Prop where
 len:((dH h.log.bT).length:Int)=h.log.next
 top:∀b∈oh h.log.bT,(kP b).dP<=h.log.dP
 bey:∀b∈(oh h.log.bT).drop (dH h.log.bT).length,(kP b).dP<h.log.dP
 one:h.log.bT.cells=[]\/1<=(dH h.log.bT).length
theorem alf:alZ acj:=⟨rfl,(fun b hb=>by cases hb),(fun b hb=>by rw[show oh acj.log.bT=[]from rfl,List.drop_nil]at hb;cases hb),.inl rfl⟩
theorem drop_set{α:Type}{l:List α}{n:Nat}{a:α}:(l.set n a).drop (n+1)=l.drop (n+1):=List.drop_set_of_lt x_2
theorem alw{l:uW}{e:aV}(hc:aho l e=0)(hn:((dH l.bT).length:Int)=l.next):oh (ahu l e).bT=(oh l.bT).set (dH l.bT).length (oq ⟨l.next,l.dP,rY e⟩):=by
 have hx:l.next.toNat=(dH l.bT).length:=by omega
 rw[aiw hc,hx];exact ala
theorem alg{h:mm}{e:aV}(i:alZ h)(q:ahr h e=0):alZ (aht h e)/\f8 (aht h e).log.bT=f8 h.log.bT++[e]:=by
 obtain⟨V,h2,h3,h4⟩:=aiu q;obtain⟨a1,a2,a3,a4,a5⟩:=ajs h3;have hi:=ahS.1 a2;have hl:=i.len;have eI:(dH h.log.bT).length<h.log.bT.cells.length:=by omega
 have hv:=alw h3 hl;have hS:=ajC (e:=e) a1 a2 a3 x_2;have okL:=aki h3;have hR:=DP a1;have Gz:(ahu h.log e).next=h.log.next+1:=by rw[aiw h3]
 have hep:(ahu h.log e).dP=h.log.dP:=by rw[aiw h3]
 have Lm:yu (dH h.log.bT)<=h.log.dP:=by
  rw[hR];refine Int.le_trans (alh _) (alb _ _ ?_ i.top);have:=ahS.1 a3;omega
 generalize hb:oq ⟨h.log.next,h.log.dP,rY e⟩=b at hv;have hbF:g8 b=true:=by rw[<-hb];exact ali hS
 have hbC:gu b=⟨h.log.next,h.log.dP,rY e⟩:=by rw[<-hb];exact TE hS
 have hg:pA (dH h.log.bT) b=true:=sW.2 ⟨hbF,by rw[hbC];exact hl.symm,by rw[hbC];exact Lm⟩;have rq:dH (ahu h.log e).bT=dH h.log.bT++[⟨h.log.next,h.log.dP,rY e⟩]:=by
  rw[DP okL,hv];have e:=run_set (bs:=oh h.log.bT) (b:=b) (by rw[<-hR,Jl];exact eI);rw[<-hR]at e;rw[e];rw[amX,if_pos hg,hbC];refine alj (t:=h.log.dP-1) (fun x hx=>?_) (by rw[alk];show h.log.dP-1<h.log.dP;omega);have:=i.bey x (List.drop_subset_drop_left _ (Nat.le_succ _) hx);omega
 rw[ahV q];refine⟨⟨?_,fun x hx=>?_,fun x hx=>?_,.inr ?_⟩,?_⟩
 ·show ((dH (ahu h.log e).bT).length:Int)=(ahu h.log e).next;rw[rq,Gz,List.length_append,List.length_singleton];omega
 ·show (kP x).dP<=(ahu h.log e).dP;replace hx:x∈oh (ahu h.log e).bT:=hx;rw[hv]at hx;rw[hep];rcases List.mem_or_eq_of_mem_set hx with r|rfl
  ·exact i.top x r
  rw[dv hbF,hbC];exact Int.le_refl _
 ·show (kP x).dP<(ahu h.log e).dP;replace hx:x∈(oh (ahu h.log e).bT).drop (dH (ahu h.log e).bT).length:=hx;rw[hv,rq,List.length_append,List.length_singleton,drop_set]at hx;rw[hep];exact i.bey x (List.drop_subset_drop_left _ (Nat.le_succ _) hx)
 ·show 1<=(dH (ahu h.log e).bT).length;rw[rq,List.length_append,List.length_singleton];omega
 show f8 (ahu h.log e).bT=_;unfold f8;rw[rq,alm];congr 1;unfold pj;simp[alx a4,alc a4]
theorem aln{h:mm}(q:zV h=true):(afL h).log=⟨abM h.log.bT,h.log.next,h.log.dP⟩:=by
 rw[afY q];exact afS (aiF q).dok
theorem ak'{d:du}(h:ik d=true):dH (abM d)=dH d:=by
 rw[DP (aiS h).1,DP h,ak8 h]
theorem aly{h:mm}(i:alZ h):alZ (afL h):=by
 cases q:zV h with
 |false=>rw[afX q];exact alf
 |true=>
  have hd:=(aiF q).dok;have hl:=aln q;refine⟨?_,?_,?_,?_⟩<;>rw[hl]
  ·rw[ak' hd];exact i.len
  ·show ∀b∈oh (abM _),_;rw[ak8 hd];exact i.top
  ·show ∀b∈(oh (abM _)).drop (dH (abM _)).length,_;rw[ak8 hd,ak' hd];exact i.bey
  show _\/1<=(dH (abM _)).length;rw[ak' hd];rcases i.one with r|r
  ·have:=(wL hd).1;rw[r]at this;simp at this
  exact .inr r
theorem alz{es m:List aV}{e:aV}(h:pZ es m=true):pZ (es++[e]) (m++[e])=true:=by
 unfold pZ at h ⊢;simp only[Bool.and_eq_true,decide_eq_true_eq]at h ⊢;obtain⟨V,h2⟩:=h;refine⟨by simp;exact V,?_⟩;have e1:(es++[e]).drop ((es++[e]).length-(m++[e]).length)=m++[e]:=by
  rw[List.length_append,List.length_append,List.length_singleton,show es.length+1-(m.length+1)=es.length-m.length by omega,List.drop_append_of_le_length x_2,aie alu h2]
 rw[e1];exact aif (fun a=>by simp[fR,dA]) _
theorem alA{h:mm}{e:aV}(i:alZ h)(q:ahr h e=0):zV (aht h e)=true:=by
 obtain⟨V,h2,h3,h4⟩:=aiu q;obtain⟨i2,he⟩:=alg i q;obtain⟨r1,r2,r3⟩:=alv q;have g:=aiF V;have ok:=aki h3;have hle:=acD ok;have hl:=i2.len;have ht:=alz (e:=e) g.tail;rw[ahV q]at he hl ⊢;replace he:f8 (ahu h.log e).bT=f8 h.log.bT++[e]:=he;replace hl:((dH (ahu h.log e).bT).length:Int)=(ahu h.log e).next:=hl;refine aiE.ok ⟨ok,ahS.2 (by show 0<=(ahu h.log e).next/\(ahu h.log e).next<=((ahu h.log e).bT.cells.length:Int);omega),?_,hl,?_,?_,Gy h2,?_,?_⟩
 ·show aI (ahu h.log e).dP 1 16000000=true;rw[aiw h3];exact g.ep
 ·show eL (f8 (ahu h.log e).bT)=true;rw[he];exact r1
 ·show dp h.book e=(de (f8 (ahu h.log e).bT)).now;rw[he];exact r2.symm
 ·show ahs h e=(d5 (f8 (ahu h.log e).bT)).1;rw[he];exact r3.symm
 show pZ (f8 (ahu h.log e).bT) (h.f9++(h.wait++[e]))=true;rw[he,<-List.append_assoc];exact ht
theorem alB{d:du}(h:ik d=true):f8 (abM d)=f8 d:=(kept h).2
theorem alC{h:mm}(q:zV h=true):zV (afL h)=true:=by
 have g:=aiF q;have hl:=aln q;have hd:=aiS g.dok;have hc:(abM h.log.bT).cells.length=h.log.bT.cells.length:=by rw[acu g.dok];exact abW _ _
 have hr:=ak' g.dok;have he:=alB g.dok;have e1:(afL h).book=h.book:=by rw[afY q]
 have e2:(afL h).ia=h.ia:=by rw[afY q]
 have e3:(afL h).f9++(afL h).wait=h.f9++h.wait:=by rw[afY q];exact List.append_nil _
 refine aiE.ok ⟨?_,?_,?_,?_,?_,?_,?_,?_,?_⟩<;>(try rw[hl])
 ·exact hd.1
 ·show aI h.log.next 0 ((abM h.log.bT).cells.length:Int)=true;rw[hc];exact g.nx
 ·exact g.ep
 ·show ((dH (abM _)).length:Int)=h.log.next;rw[hr];exact g.len
 ·show eL (f8 (abM _))=true;rw[he];exact g.rp
 ·show _=(de (f8 (abM _))).now;rw[he,e1];exact g.book
 ·rw[e1];exact g.bok
 ·show _=(d5 (f8 (abM _))).1;rw[he,e2];exact g.led
 show pZ (f8 (abM _)) _=true;rw[he,e3];exact g.tail
theorem alD{d:du}(hc:m1 d=0):oh (m4 d).bT=(oh d).set (dH d).length (oq ⟨(dH d).length,m2 d+1,[66]⟩):=by
 have g9:ik d=true:=by rcases aep d with q|q;exact q.2.1;exact absurd hc q.1
 have h0:d.bu.length=0:=by
  by_cases h:d.bu.length=0
  ·exact h
  rw[lg1 (.inr h)]at hc;cases hc
 have hn:¬((dH d).length=d.cells.length\/16000000<=m2 d):=fun q=>by rw[lg2 g9 h0 q]at hc;cases hc
 have hle:=acD g9;have hW:=ab7 g9 (show (dH d).length<d.cells.length by omega) x_2 (TB (s:=⟨(dH d).length,m2 d+1,[66]⟩) x_8);rw[acE hc];show oh (abM _)=_;rw[ak8 hW,ala]
theorem alE{d:du}(h:y3 d=0):m1 d=0/\eL (f8 d)=true:=by
 by_cases c:m1 d=0
 ·cases r:eL (f8 d)with
  |true=>exact⟨c,rfl⟩
  |false=>rw[adI c r]at h;cases h
 rw[adH c]at h;exact absurd h c
theorem alF{d:du}(h:y3 d=0):m1 d=0:=(alE h).1
theorem amg{d:du}(h:y3 d=0):zV (e6 d)=true:=by
 obtain⟨hc,hr⟩:=alE h;have g9:ik d=true:=by rcases aep d with q|q;exact q.2.1;exact absurd hc q.1
 have okL:ik (m4 d).bT=true:=by rcases aep d with q|q;exact q.2.2;exact absurd hc q.1
 have h0:d.bu.length=0:=by
  by_cases h:d.bu.length=0
  ·exact h
  rw[lg1 (.inr h)]at hc;cases hc
 have hn:¬((dH d).length=d.cells.length\/16000000<=m2 d):=fun q=>by rw[lg2 g9 h0 q]at hc;cases hc
 have hO:=alG hc;have hle:=acD okL;have ht:=acY d;have hlen:=hO.len;have hep:=hO.ep;rw[ac5 h];refine aiE.ok ⟨okL,ahS.2 (by show 0<=(m4 d).next/\(m4 d).next<=((m4 d).bT.cells.length:Int);omega),ahS.2 (by show 1<=(m4 d).dP/\(m4 d).dP<=16000000;omega),hlen,?_,?_,(aj1 hr).book,?_,?_⟩
 ·show eL (f8 (m4 d).bT)=true;rw[hO.evs];exact hr
 ·show _=(de (f8 (m4 d).bT)).now;rw[hO.evs]
 ·show _=(d5 (f8 (m4 d).bT)).1;rw[hO.evs]
 show pZ (f8 (m4 d).bT) ([]++[])=true;unfold pZ;simp[lZ]
theorem alo(d:du):alZ (e6 d):=by
 by_cases h:y3 d=0
 ·have hc:=alF h;have g9:ik d=true:=by rcases aep d with q|q;exact q.2.1;exact absurd hc q.1
  have okL:ik (m4 d).bT=true:=by rcases aep d with q|q;exact q.2.2;exact absurd hc q.1
  have hO:=alG hc;have hT:=hO.top;rw[adS okL]at hT;have hl:(dH (m4 d).bT).length=(dH d).length+1:=by rw[hO.run,List.length_append,List.length_singleton]
  have e:(e6 d).log=m4 d:=by rw[ac5 h]
  refine⟨?_,?_,?_,?_⟩<;>rw[e]
  ·exact hO.len
  ·intro b hb;rw[<-hT];exact ak9 hb
  ·intro b hb;rw[hl,alD hc,drop_set]at hb;have:=ak9 (List.mem_of_mem_drop hb);rw[<-adS g9]at this;rw[hO.ep];omega
  exact .inr x_2
 rw[acJ h];exact alf

theorem AL.ah7{P:Program}{L O:Nat->Prop}{w0:World}{N:Nat}{Q:AQ}{ops:Array Oper}{l:List Oper}{τ:Nat->AV}{H:Nat->AO}(id:Nat){e:ga}{sz:Nat}{rows rows':List (List PV)}(hH:H id=.ai e sz rows)(hl:rows'.length=rows.length)(hr:∀ {w:World} {xs fr},bI w false sz rows xs fr->bI w false sz rows' xs fr)(hK:AL P L O w0 N ops l τ (aH H id (.ai e sz rows')) Q):AL P L O w0 N ops l τ H Q:=fun ρ fp a w h=>by
 obtain⟨ci,bH,q⟩:=h.ah7 id hH hl hr;exact hK ci bH a w q

structure ai0(L Q:mm->Prop):Prop where
 id:∀ {h},L h->Q h
 nx:∀ {h} (n:Int),L h->Q ⟨⟨h.log.bT,n,h.log.dP⟩,h.book,h.ia,h.wait,h.f9⟩
 tk:∀ {h} (n:Int),L h->Q ⟨h.log,⟨n,h.book.next,h.book.aA,h.book.ag,h.book.an,h.book.aq⟩,h.ia,h.wait,h.f9⟩
 la:∀ {h} (n:Int),L h->Q ⟨h.log,h.book,⟨n,h.ia.lines⟩,h.wait,h.f9⟩
 wt:∀ {h} (e:aV),L h->Q ⟨h.log,h.book,h.ia,h.wait++[e],h.f9⟩
 ep:∀ {h},L h->Q ⟨⟨h.log.bT,h.log.next,0⟩,h.book,h.ia,h.wait,h.f9⟩
 cl:∀ {h},L h->0<h.log.bT.cells.length->Q ⟨⟨⟨h.log.bT.cells.set 0 ⟨[]⟩,h.log.bT.bu⟩,h.log.next,h.log.dP⟩,h.book,h.ia,h.wait,h.f9⟩
 wf:∀ {h},L h->HbD h

theorem ai7{h:mm}(q:zV h=true):h.f9.length+h.wait.length<=600:=by
 have ht:=(aiF q).tail;have hl:=Ka h.log.bT;unfold pZ at ht;simp only[Bool.and_eq_true,decide_eq_true_eq,List.length_append]at ht;omega
theorem ajA{h:mm}{e:aV}(d:HbD h)(we:l7 e)(q:ahr h e=0):HbD (aht h e):=by
 obtain⟨V,h2,h3,h4⟩:=aiu q;have hf:=ai7 V;obtain⟨a1,a2,a3,_⟩:=ako d.wf we;rw[ahV q];refine⟨ajt d.db,XV d.wf we,by show (dp h.book e).an.length<=1048576;omega,by show (dp h.book e).aq.length<=1048576;omega,?_,?_,d.ls⟩
 ·show (ahs h e).lines.length<=1048576;unfold ahs;split
  ·exact d.ll
  exact Nat.le_trans (UI _ _) x_3
 show (h.wait++[e]).length<=1048576;rw[List.length_append,List.length_singleton];omega
theorem akG{h:mm}(d:HbD h):HbD (afL h):=by
 cases q:zV h
 ·rw[afX q];exact ajf
 have hf:=ai7 q;rw[afY q];exact⟨ajr d.db,d.wf,d.lh,d.li,d.ll,by simp,by show (h.f9++h.wait).length<=1048576;rw[List.length_append];omega⟩
theorem akH{d:du}(hb:qK d):HbD (e6 d):=by
 have z:=adR d;by_cases c:y3 d=0
 ·have hB:=Dr (Dp d);rw[ac5 c]at z ⊢;exact⟨ajq hb,hB.wf,z.lh,z.li,z.ll,z.lw,z.ls⟩
 rw[acJ c];exact ajf
def HbW(h:mm):Prop:=HbD h/\h.wait.length<=1000
theorem ajB{d:du}(hb:qK d):HbW (e6 d):=⟨akH hb,by
 by_cases c:y3 d=0
 ·rw[ac5 c];exact Nat.zero_le _
 rw[acJ c];exact Nat.zero_le _⟩
theorem akI:aix fun _ h=>HbW h:=⟨fun n _ _=>ajB (ajm n),fun d=>d,fun{_ h e} d we q=>⟨ajA d.1 we q,by
 have hf:=ai7 (aiu q).1;rw[ahV q];show (h.wait++[e]).length<=1000;rw[List.length_append,List.length_singleton];omega⟩,fun{_ h} d=>⟨akG d.1,by
 cases q:zV h
 ·rw[afX q];exact Nat.zero_le _
 rw[afY q];exact Nat.zero_le _⟩,fun vA d _=>ajB (ahF d.1),fun d=>d.1⟩

def HbL(h:mm):Prop:=HbW h/\alZ h
theorem alM:aix fun _ h=>HbL h:=⟨fun n a b=>⟨akI.new n a b,alo _⟩,fun d=>d,fun d we q=>⟨akI.take (k:=0) d.1 we q,(alg d.2 q).1⟩,fun d=>⟨akI.sync (k:=0) d.1,aly d.2⟩,fun vA d q=>⟨akI.aiT (k:=0) vA d.1 q,alo _⟩,fun d=>d.1.1⟩

theorem amh:∀(b:List aV) (s:fg),∃c p,(b.foldl kz s).jD=s.jD++c/\(b.foldl kz s).ps=s.ps++p
 |[],s=>⟨[],[],by simp,by simp⟩
 |e::b,s=>by
  obtain⟨c,p,V,h2⟩:=amh b (kz s e);rw[List.foldl_cons,V,h2];refine⟨[dG s.now e]++c,(if dG s.now e=0/\(dl s.now e).lines≠[]then [dl s.now e]else [])++p,by rw[<-List.append_assoc];rfl,?_⟩;rw[<-List.append_assoc];congr 1;show (if dG s.now e=0/\(dl s.now e).lines≠[]then s.ps++[dl s.now e]else s.ps)=_;split<;>simp
theorem ama:∀(q:List dX) (s:cH×Int),(q.foldl B2 s).2<=s.2+(q.length:Int)
 |[],s=>by simp
 |x::q,s=>by
  have ih:=ama q (B2 s x);have:(B2 s x).2<=s.2+1:=by unfold B2;split<;>(try exact Int.le_refl _)<;>omega
  rw[List.foldl_cons,List.length_cons];omega
theorem amz{l:cH}{p q:List dX}(h:(jJ l (p++q)).2=((p++q).length:Int)):(jJ l p).2=(p.length:Int):=by
 unfold jJ at h ⊢;rw[List.foldl_append,List.length_append]at h;have V:=ama q (p.foldl B2 (l,0));have h2:=ama p (l,0);replace h2:(p.foldl B2 (l,0)).2<=0+(p.length:Int):=h2;omega
theorem amA{a b:List aV}(h:eL (a++b)=true):eL a=true:=by
 unfold eL d5 at h ⊢;simp only[Bool.and_eq_true,decide_eq_true_eq]at h ⊢;rw[aj0]at h ⊢;have e1:bK pm (a++b)=b.foldl kz (bK pm a):=by unfold bK;rw[List.foldl_append]
 obtain⟨c,p,V,h2⟩:=amh b (bK pm a);rw[e1,V,h2]at h;refine⟨?_,amz h.2⟩;have h0:=h.1;unfold eK at h0 ⊢;rw[List.all_append,Bool.and_eq_true]at h0;exact h0.1
theorem ami{s:fb}(hl:s.body.length<=100):(oq s).getD 4 0=s.dP/65536%256/\(oq s).getD 5 0=s.dP/256%256/\(oq s).getD 127 0=s.dP%256:=by
 have ahG:cl 3 s.dP=[s.dP/65536%256,s.dP/256%256,s.dP/1%256]:=rfl;have e1:(oq s).drop 1=cl 3 s.seq++(cl 3 s.dP++([(s.body.length:Int)]++(s.body++(List.replicate (114-s.body.length) 0++(cl 3 s.seq++cl 3 s.dP))))):=by
  unfold oq;simp only[List.append_assoc];rfl
 have e4:(oq s).drop 4=cl 3 s.dP++([(s.body.length:Int)]++(s.body++(List.replicate (114-s.body.length) 0++(cl 3 s.seq++cl 3 s.dP)))):=by
  rw[show (4:Nat)=1+3 from rfl,<-List.drop_drop,e1,List.drop_left' (da _ _)]
 have e5:(oq s).drop 125=cl 3 s.dP:=by
  unfold oq;exact List.drop_left' (by simp only[List.length_append,List.length_cons,List.length_nil,da,List.length_replicate];omega)
 have g (k j:Nat):(oq s).getD (k+j) 0=(((oq s).drop k)[j]?).getD 0:=by rw[List.getD_eq_getElem?_getD,List.getElem?_drop]
 refine⟨?_,?_,?_⟩
 ·rw[show (4:Nat)=4+0 from rfl,g,e4,ahG];rfl
 ·rw[show (5:Nat)=4+1 from rfl,g,e4,ahG];rfl
 rw[show (127:Nat)=125+2 from rfl,g,e5,ahG];show s.dP/1%256=_;rw[Int.ediv_one]
theorem amj{b:List Int}(h:g8 b=true)(h4:b.getD 4 0=0)(h5:b.getD 5 0=0):(gu b).dP=b.getD 127 0:=by
 obtain⟨_,_,ho,hb⟩:=oN.1 h;obtain⟨_,⟨e1,e2⟩,hl⟩:=qW.1 ho;obtain⟨g4,g5,g7⟩:=ami hl;rw[hb]at g4 g5 g7;rw[h4]at g4;rw[h5]at g5;rw[g7];omega
def al3(e:Int)(b:List Int):Prop:=b.getD 4 0=0/\b.getD 5 0=0/\b.getD 127 0<=e
theorem al3.up{e e2:Int}{b:List Int}(g:al3 e b)(h:e<=e2):al3 e2 b:=⟨g.1,g.2.1,Int.le_trans g.2.2 h⟩
theorem al3.sec{e:Int}{b:List Int}(g:al3 e b)(h:0<=e):(kP b).dP<=e:=by
 cases hF:g8 b with
 |false=>rw[TD hF];exact h
 |true=>rw[dv hF,amj hF g.1 g.2.1];exact g.2.2
theorem amk{s:fb}(h:i8 s=true)(h2:s.dP<=255):al3 s.dP (oq s):=by
 obtain⟨_,⟨e1,e2⟩,hl⟩:=qW.1 h;obtain⟨g4,g5,g7⟩:=ami hl;unfold al3;rw[g4,g5,g7];omega
theorem amB{e:Int}(h:0<=e):al3 e (List.replicate 128 0):=⟨rfl,rfl,h⟩
theorem al9{old new:List Int}{m j:Nat}(h2:new.length=128)(hm:m<=128):(abL old new m).getD j 0=if j<m then new.getD j 0 else (yP old).getD j 0:=by
 unfold abL;simp only[List.getD_eq_getElem?_getD];by_cases q:j<m
 ·rw[if_pos q,List.getElem?_append_left (by rw[List.length_take];omega),List.getElem?_take_of_lt q]
 rw[if_neg q,List.getElem?_append_right (by rw[List.length_take];omega),List.getElem?_drop,List.length_take,show m+(j-min m new.length)=j by omega]
theorem amC{e:Int}{old new:List Int}{m:Nat}(h2:new.length=128)(hm:m<=128)(g1:al3 e (yP old))(g2:al3 e new):al3 e (abL old new m):=by
 unfold al3;rw[al9 h2 hm,al9 h2 hm,al9 h2 hm];obtain⟨a1,a2,a3⟩:=g1;obtain⟨b1,b2,b3⟩:=g2;refine⟨?_,?_,?_⟩<;>split<;>assumption
theorem amb{vA:List Int}{j:Nat}:∀(ws:List gq) (k:Nat) (cs:List Cell),(∀w∈ws,w.at_.toNat≠j)->(abP vA ws k cs)[j]? = cs[j]?
 |[],_,_,_=>rfl
 |w::r,k,cs,h=>by
  show (abP vA r (k+1) (ab8 vA cs k w))[j]? = _;rw[amb r _ _ (fun x hx=>h x (by simp[hx]))];unfold ab8;split
  ·rfl
  exact List.getElem?_set_ne (h w x_20)
def Row(p:Nat)(ws:List gq):Prop:=∀(i:Nat) (hi:i<ws.length),ws[i].at_=((p+i:Nat):Int)
theorem Row.tail{p:Nat}{w:gq}{r:List gq}(h:Row p (w::r)):Row (p+1) r:=fun i hi=>by
 have:=h (i+1) (by rw[List.length_cons];omega);rw[List.getElem_cons_succ]at this;rw[this];congr 1;omega
theorem Row.head{p:Nat}{w:gq}{r:List gq}(h:Row p (w::r)):w.at_=(p:Int):=h 0 (by rw[List.length_cons];omega)
theorem Row.mem{p:Nat}{ws:List gq}(h:Row p ws){w:gq}(hw:w∈ws):p<=w.at_.toNat/\w.at_.toNat<p+ws.length:=by
 obtain⟨i,hi,rfl⟩:=List.getElem_of_mem hw;rw[h i hi];omega
theorem aml{vA:List Int}:∀(ws:List gq) (k p:Nat) (cs:List Cell),Row p ws->(∀w∈ws,w.bytes.length=128)->p+ws.length<=cs.length->cs.all lL=true->∀(i:Nat) (hi:i<ws.length),yP (((abP vA ws k cs)[p+i]?).getD ⟨[]⟩).bytes=abL ((cs[p+i]?).getD ⟨[]⟩).bytes ws[i].bytes (acv vA (k+i))
 |[],_,_,_,_,_,_,_,i,hi=>absurd hi x_20
 |w::r,k,p,cs,h,hb,hl,hc,i,hi=>by
  have hw:=h.head;have hwb:=hb w x_20;have hK:acv vA k<=128:=by unfold acv;omega
  rw[List.length_cons]at hl hi;have hp:p<cs.length:=by omega
  have jC:(yP ((cs[p]?).getD ⟨[]⟩).bytes).length=128:=by rw[List.getElem?_eq_getElem hp];exact adA (ac2 hc hp)
  cases i with
  |zero=>
   show yP (((abP vA r (k+1) (ab8 vA cs k w))[p]?).getD ⟨[]⟩).bytes=abL ((cs[p]?).getD ⟨[]⟩).bytes w.bytes (acv vA k);rw[amb r _ _ (fun x hx=>by have:=h.tail.mem hx;omega)];unfold ab8;rw[hw,Int.toNat_natCast];split
   ·rename_i z;rw[z,aeS]
   rw[List.getElem?_set_self hp];show yP (abL _ _ _)=_;exact Jh (by rw[ac1 jC hwb hK];omega)
  |succ i=>
   have bO:w.at_.toNat≠p+1+i:=by rw[hw];omega
   have dM:(ab8 vA cs k w)[p+1+i]? = cs[p+1+i]?:=by
    unfold ab8;split
    ·rfl
    exact List.getElem?_set_ne bO
   have hlen:(ab8 vA cs k w).length=cs.length:=by
    unfold ab8;split
    ·rfl
    exact List.length_set ..
   have g9:(ab8 vA cs k w).all lL=true:=by
    unfold ab8;split
    ·exact hc
    rw[hw,Int.toNat_natCast];exact acC hc (ac1 jC hwb hK)
   have ih:=aml (vA:=vA) r (k+1) (p+1) (ab8 vA cs k w) h.tail (fun x hx=>hb x (by simp[hx])) x_2 g9 i x_2;rw[dM]at ih;rw[show p+(i+1)=p+1+i by omega,show k+(i+1)=k+1+i by omega];exact ih
theorem al'{j:Int}:∀(ws:List gq),(∀w∈ws,w.at_≠j)->kD ws j=none
 |[],_=>rfl
 |w::r,h=>by
  unfold kD;rw[al' r (fun x hx=>h x (by simp[hx]))];exact if_neg (h w x_20)
theorem amc:∀(ws:List gq) (p:Nat),Row p ws->∀(i:Nat) (hi:i<ws.length),kD ws ((p+i:Nat):Int)=some ws[i].bytes
 |[],_,_,i,hi=>absurd hi x_20
 |w::r,p,h,i,hi=>by
  rw[List.length_cons]at hi;unfold kD;cases i with
  |zero=>
   rw[al' r (fun x hx=>by have:=h.tail.mem hx;omega)];exact if_pos h.head
  |succ i=>
   rw[show p+(i+1)=p+1+i by omega,amc r (p+1) h.tail i x_2];rfl
theorem amm(f:Nat->Nat):∀n:Nat,∃j,j<=n/\(∀i,i<j->f i=128)/\(j=n\/f j≠128)
 |0=>⟨0,Nat.le_refl _,fun i h=>absurd h x_2,.inl rfl⟩
 |n+1=>by
  obtain⟨j,V,h2,h3⟩:=amm f n;rcases h3 with rfl|h3
  ·by_cases q:f j=128
   ·exact⟨j+1,Nat.le_refl _,fun i hi=>by by_cases z:i=j;rw[z];exact q;exact h2 i x_2,.inl rfl⟩
   exact⟨j,by omega,h2,.inr q⟩
  exact⟨j,by omega,h2,.inr h3⟩
abbrev al2(d:du)(j:Nat):List Int:=yP ((d.cells[j]?).getD ⟨[]⟩).bytes
structure CP(p:Nat)(k:Nat)(h:mm):Prop where
 ok:zV h=true
 li:alZ h
 ep:h.log.dP<=(k:Int)+1
 wt:h.log.bT.bu.length=h.wait.length
 p1:1<=p
 nx:h.log.next=((p+h.log.bT.bu.length:Nat):Int)
 row:Row p h.log.bT.bu
 wr:∀w∈h.log.bT.bu,al3 h.log.dP w.bytes
 cl:∀j,al3 h.log.dP (al2 h.log.bT j)
 lt:∀j,p<=j->(al2 h.log.bT j).getD 127 0<h.log.dP
 eps:∀i,p<=i+1->∀s,(dH h.log.bT)[i]? = some s->s.dP=h.log.dP
theorem CP.ep1{p k:Nat}{h:mm}(c:CP p k h):1<=h.log.dP:=(ahS.1 (aiF c.ok).ep).1
theorem CP.len{p k:Nat}{h:mm}(c:CP p k h):(dH h.log.bT).length=p+h.log.bT.bu.length:=by
 have:=c.li.len;have:=c.nx;omega
theorem CP.wl{p k:Nat}{h:mm}(c:CP p k h):∀w∈h.log.bT.bu,w.bytes.length=128:=fun w hw=>by
 obtain⟨i,hi,rfl⟩:=List.getElem_of_mem hw;exact Jk (aiF c.ok).dok hi
theorem CP.fit{p k:Nat}{h:mm}(c:CP p k h):p+h.log.bT.bu.length<=h.log.bT.cells.length:=by
 have:=acD (aiF c.ok).dok;rw[c.len]at this;exact this
theorem CP.yu{p k:Nat}{h:mm}(c:CP p k h){q:Nat}(V:p<=q)(h2:q<=p+h.log.bT.bu.length):yu ((dH h.log.bT).take q)=h.log.dP:=by
 have hp:=c.p1;have hl:=c.len;obtain⟨r,rfl⟩:∃r,q=r+1:=⟨q-1,by omega⟩;rw[List.take_succ_eq_append_getElem x_2,ZC];exact c.eps r V _ (List.getElem?_eq_getElem x_2)
theorem CP.abL{p k:Nat}{h:mm}(c:CP p k h)(vA:List Int):(∀i (hi:i<h.log.bT.bu.length),al2 (acU h.log.bT vA) (p+i)=abL ((h.log.bT.cells[p+i]?).getD ⟨[]⟩).bytes h.log.bT.bu[i].bytes (acv vA i))/\∀j,j<p\/p+h.log.bT.bu.length<=j->al2 (acU h.log.bT vA) j=al2 h.log.bT j:=by
 have hd:=(aiF c.ok).dok;rw[adB hd];refine⟨fun i hi=>?_,fun j hj=>?_⟩
 ·have:=aml (vA:=vA) h.log.bT.bu 0 p h.log.bT.cells c.row c.wl c.fit (wL hd).2.1 i hi;rw[Nat.zero_add]at this;exact this
 unfold al2;rw[amb (j:=j) h.log.bT.bu 0 h.log.bT.cells (fun w hw=>by have:=c.row.mem hw;omega)]
theorem CP.al6{p k:Nat}{h:mm}(c:CP p k h)(vA:List Int)(j:Nat):al3 h.log.dP (al2 (acU h.log.bT vA) j):=by
 obtain⟨V,h2⟩:=c.abL vA;by_cases q:j<p\/p+h.log.bT.bu.length<=j
 ·rw[h2 j q];exact c.cl j
 obtain⟨i,rfl⟩:∃i,j=p+i:=⟨j-p,by omega⟩;have hi:i<h.log.bT.bu.length:=by omega
 rw[V i hi];exact amC (c.wl _ (List.getElem_mem hi)) (by unfold acv;omega) (c.cl _) (c.wr _ (List.getElem_mem hi))
theorem amD{vA:List Int}{d:du}(h:ik d=true)(hb:qK d):(acU d vA).cells.length=d.cells.length:=by
 rw[adB h];exact(ajo (vA:=vA) d.bu 0 d.cells (fun w hw=>by
  obtain⟨j,hj,rfl⟩:=List.getElem_of_mem hw;exact⟨Jk h hj,hb.2 _ hw⟩) (wL h).2.1 hb.1).2.1
theorem amd{vA:List Int}{d:du}(h:ik d=true)(j:Nat):io (acU d vA) j=al2 (acU d vA) j:=by
 rw[adB h];rfl
theorem CP.run{p k:Nat}{h:mm}(c:CP p k h)(hb:qK h.log.bT)(vA:List Int):∃q,p<=q/\q<=p+h.log.bT.bu.length/\dH (acU h.log.bT vA)=(dH h.log.bT).take q:=by
 have hd:=(aiF c.ok).dok;have hd2:=(aii (vA:=vA) hd hb).1;have hlen:=amD (vA:=vA) hd hb;obtain⟨V,h2⟩:=c.abL vA;obtain⟨j,Ox,Eg,hj3⟩:=amm (acv vA) h.log.bT.bu.length;have vz:=c.fit;have hR:=c.len;refine⟨p+j,by omega,by omega,?_⟩;have same:∀t,t<p+j->io (acU h.log.bT vA) t=io h.log.bT t:=fun t ht=>by
  rw[amd hd];by_cases q:t<p
  ·rw[h2 t (.inl q)];unfold io;rw[al' _ (fun w hw=>by have:=c.row.mem hw;omega)]
  obtain⟨i,rfl⟩:∃i,t=p+i:=⟨t-p,by omega⟩;have hi:i<h.log.bT.bu.length:=by omega
  rw[V i hi,Eg i x_2,aeT (by rw[List.getElem?_eq_getElem x_2];exact adA (ac2 (wL hd).2.1 x_2)) (c.wl _ (List.getElem_mem hi))];unfold io;rw[amc _ p c.row i hi]
 have amE:(oh (acU h.log.bT vA)).take (p+j)=(oh h.log.bT).take (p+j):=by
  refine List.ext_getElem (by rw[List.length_take,List.length_take,Jl,Jl,hlen]) fun t g1 g2=>?_;rw[List.length_take]at g1;rw[List.getElem_take,List.getElem_take,ak7,ak7];exact same t x_2
 have rq:og (oh (acU h.log.bT vA)) []=og ((oh (acU h.log.bT vA)).drop (p+j)) ((dH h.log.bT).take (p+j)):=by
  have e0:og (oh (acU h.log.bT vA)) []=og ((oh h.log.bT).take (p+j)++(oh (acU h.log.bT vA)).drop (p+j)) []:=by rw[<-amE,List.take_append_drop]
  rw[e0,als _ _ _ _ (by rw[<-DP hd,hR];show 0+(p+j)<=_;omega),<-DP hd];simp only[List.length_nil,Nat.zero_add]
 rw[DP hd2,rq];have hE:=c.yu (q:=p+j) x_2 x_2;by_cases hq:p+j<(oh (acU h.log.bT vA)).length
 ·rw[List.drop_eq_getElem_cons hq,ak7,amd hd];unfold og;refine if_neg fun hg=>?_;obtain⟨g1,_,g3⟩:=sW.1 hg;have al6:=c.al6 vA (p+j);rw[hE,amj g1 al6.1 al6.2.1]at g3;have eI:=c.lt (p+j) x_2;by_cases z:j=h.log.bT.bu.length
  ·rw[h2 (p+j) (.inr x_2)]at g3;omega
  have hj:j<h.log.bT.bu.length:=by omega
  have bO:acv vA j≠128:=by rcases hj3 with r|r;exact absurd r z;exact r
  have hle:acv vA j<=128:=by unfold acv;omega
  rw[V j hj,al9 (c.wl _ (List.getElem_mem hj)) hle,if_neg x_2]at g3;replace eI:(yP ((h.log.bT.cells[p+j]?).getD ⟨[]⟩).bytes).getD 127 0<h.log.dP:=eI;omega
 rw[List.drop_of_length_le x_2];rfl
theorem CP.top{p k:Nat}{h:mm}(c:CP p k h)(hb:qK h.log.bT)(vA:List Int):m2 (acU h.log.bT vA)=h.log.dP:=by
 have hd:=(aiF c.ok).dok;have hd2:=(aii (vA:=vA) hd hb).1;have V:=c.ep1;obtain⟨q,hq1,hq2,hq⟩:=c.run hb vA;rw[adS hd2];refine Int.le_antisymm (alb _ _ x_2 fun b hb=>?_) ?_
 ·obtain⟨j,hj,rfl⟩:=List.getElem_of_mem hb;rw[ak7,amd hd];exact(c.al6 vA j).sec x_2
 have:=alh (oh (acU h.log.bT vA));rw[<-DP hd2,hq,c.yu hq1 hq2]at this;exact this
theorem amn{x:du}{k:Nat}{E:Int}(h0:y3 x=0)(hT:m2 x=E)(hE:E<=k)(hk:k<=200)(hg:∀j,al3 E (al2 x j)):CP ((dH x).length+1) k (e6 x):=by
 have hc:=alF h0;have g9:ik x=true:=by rcases aep x with q|q;exact q.2.1;exact absurd hc q.1
 have hx0:x.bu.length=0:=by
  by_cases h:x.bu.length=0
  ·exact h
  rw[lg1 (.inr h)]at hc;cases hc
 have hx:x.bu=[]:=List.length_eq_zero_iff.1 hx0;have hn:¬((dH x).length=x.cells.length\/16000000<=m2 x):=fun q=>by rw[lg2 g9 hx0 q]at hc;cases hc
 have hle:=acD g9;have eI:(dH x).length<x.cells.length:=by omega
 have hS:=adx g9 eI x_2;have hW:=ab7 g9 eI x_2 (TB (s:=⟨(dH x).length,m2 x+1,[66]⟩) x_8);have hO:=alG hc;have Tv:=(acY x).1;have hgs:=amk hS (by show m2 x+1<=255;omega);replace hgs:al3 (m2 x+1) (oq ⟨(dH x).length,m2 x+1,[66]⟩):=hgs;have hbl:=TB (s:=⟨(dH x).length,m2 x+1,[66]⟩) x_8;have al1:(e6 x).log=⟨⟨x.cells.set (dH x).length ⟨oq ⟨(dH x).length,m2 x+1,[66]⟩⟩,[]⟩,(dH x).length+1,m2 x+1⟩:=by
  rw[ac5 h0];show m4 x=_;rw[acE hc,acu hW];unfold abE;rw[List.take_length];show uW.mk ⟨(x.bu++[_]).foldl abT x.cells,[]⟩ _ _=_;rw[hx];rfl
 have al7:(e6 x).wait=[]:=by rw[ac5 h0]
 have ame:dH (e6 x).log.bT=dH x++[⟨(dH x).length,m2 x+1,[66]⟩]:=by rw[ac5 h0];exact hO.run
 have amo:∀j,j≠(dH x).length->al2 (e6 x).log.bT j=al2 x j:=fun j hj=>by
  rw[al1];unfold al2;rw[List.getElem?_set_ne (fun q=>hj q.symm)]
 have amF:al2 (e6 x).log.bT (dH x).length=oq ⟨(dH x).length,m2 x+1,[66]⟩:=by
  rw[al1];unfold al2;rw[List.getElem?_set_self eI];exact Jh (by show (oq _).length≠0;omega)
 refine⟨amg h0,alo x,?_,?_,by omega,?_,?_,?_,fun j=>?_,fun j hj=>?_,fun i hi s hs=>?_⟩
 ·rw[al1];show m2 x+1<=_;omega
 ·rw[al1,al7];rfl
 ·rw[al1];rfl
 ·rw[al1];exact fun i hi=>absurd hi x_20
 ·rw[al1];exact fun w hw=>by cases hw
 ·by_cases q:j=(dH x).length
  ·rw[q,amF,al1];exact hgs
  rw[amo j q,al1];exact(hg j).up (by show E<=m2 x+1;omega)
 ·rw[amo j x_2,al1];have:=(hg j).2.2;show _<m2 x+1;omega
 rw[ame,List.getElem?_append_right x_2]at hs;rw[al1];cases hz:i-(dH x).length with
 |zero=>rw[hz]at hs;injection hs with hs;rw[<-hs]
 |succ n=>rw[hz]at hs;cases hs
theorem amY(n j:Nat):al2 (ahW n) j=alH:=by
 show yP (((List.replicate n (⟨[]⟩:Cell))[j]?).getD ⟨[]⟩).bytes=_;rw[List.getElem?_replicate];split<;>rfl
theorem amG{n:Nat}(V:1<=n)(h2:n<=600):∃p,CP p 0 (e6 (ahW n)):=by
 have hd:=amq V h2;have hR:dH (ahW n)=[]:=by rw[DP hd,amf,amr]
 have hc:y3 (ahW n)=0:=adJ (amH V h2) (by unfold f8;rw[hR];decide +kernel);exact⟨_,amn hc (E:=0) (by rw[adS hd,amf,ams]) x_2 x_2 fun j=>by rw[amY];exact amB x_2⟩
theorem CP.mono{p k:Nat}{h:mm}(c:CP p k h):CP p (k+1) h:={ c with ep:=by have:=c.ep;omega }
theorem amI{p k:Nat}{h:mm}{e:aV}(c:CP p k h)(hk:k<=200)(q:ahr h e=0):CP p k (aht h e):=by
 obtain⟨V,h2,h3,h4⟩:=aiu q;obtain⟨a1,a2,a3,a4,a5⟩:=ajs h3;have hi:=(alg c.li q).1;have hS:=ajC (e:=e) a1 a2 a3 x_2;have hep:=c.ep;have hgs:=amk hS (by show h.log.dP<=255;omega);replace hgs:al3 h.log.dP (oq ⟨h.log.next,h.log.dP,rY e⟩):=hgs;have ht:m2 h.log.bT<=h.log.dP:=by
  rw[adS a1];exact alb _ _ (by have:=c.ep1;omega) c.li.top
 have hA:=amy h3 c.li.len ht;have al1:(aht h e).log=⟨⟨h.log.bT.cells,h.log.bT.bu++[⟨(h.log.next.toNat:Int),oq ⟨h.log.next,h.log.dP,rY e⟩⟩]⟩,h.log.next+1,h.log.dP⟩:=by
  rw[ahV q];show ahu h.log e=_;rw[aiw h3];rfl
 have al7:(aht h e).wait=h.wait++[e]:=by rw[ahV q]
 have amJ:(aht h e).log=ahu h.log e:=by rw[ahV q]
 have ame:dH (aht h e).log.bT=dH h.log.bT++[⟨h.log.next,h.log.dP,rY e⟩]:=by
  have:=hi.len;rw[amJ]at this ⊢;exact hA.run this
 have Gz:=c.nx;have hlen:=c.len;refine⟨alA c.li q,hi,?_,?_,c.p1,?_,?_,?_,fun j=>?_,fun j hj=>?_,fun i hi s hs=>?_⟩
 ·rw[al1];exact hep
 ·rw[al1,al7,List.length_append,List.length_append,c.wt];rfl
 ·rw[al1];show h.log.next+1=((p+(h.log.bT.bu++[_]).length:Nat):Int);rw[List.length_append,List.length_singleton];omega
 ·rw[al1];intro i hi;replace hi:i<(h.log.bT.bu++[_]).length:=hi;rw[List.length_append,List.length_singleton]at hi;show (h.log.bT.bu++[_])[i].at_=_;rw[List.getElem_append];split
  ·rename_i z;exact c.row i z
  rename_i z;rw[List.getElem_singleton];show (h.log.next.toNat:Int)=_;omega
 ·rw[al1];intro w hw;rcases List.mem_append.1 hw with z|z
  ·exact c.wr w z
  rw[List.mem_singleton.1 z];exact hgs
 ·rw[al1];exact c.cl j
 ·rw[al1];exact c.lt j hj
 rw[ame]at hs;rw[al1];by_cases z:i<(dH h.log.bT).length
 ·rw[List.getElem?_append_left z]at hs;exact c.eps i hi s hs
 rw[List.getElem?_append_right x_2]at hs;cases hz:i-(dH h.log.bT).length with
 |zero=>rw[hz]at hs;injection hs with hs;rw[<-hs]
 |succ n=>rw[hz]at hs;cases hs
theorem amK{p k:Nat}{h:mm}(c:CP p k h):CP (p+h.log.bT.bu.length) k (afL h):=by
 have hd:=(aiF c.ok).dok;have al1:=aln c.ok;have al7:(afL h).wait=[]:=by rw[afY c.ok]
 have e0:(abM h.log.bT).bu=[]:=(aiS hd).2;have hp:=c.p1;have amu:∀j,al2 (abM h.log.bT) j=al2 h.log.bT j\/∃w∈h.log.bT.bu,w.at_.toNat=j/\al2 (abM h.log.bT) j=w.bytes:=fun j=>by
  rw[acu hd];unfold al2 abE;simp only[];rw[List.take_length,alq _ _ (fun w hw=>by obtain⟨i,hi,rfl⟩:=List.getElem_of_mem hw;exact(acW hd hi).1)];by_cases z:∃i,∃hi:i<h.log.bT.bu.length,j=p+i
  ·obtain⟨i,hi,rfl⟩:=z;have vz:=c.fit;refine .inr ⟨_,List.getElem_mem hi,by rw[c.row i hi,Int.toNat_natCast],?_⟩;rw[amc _ p c.row i hi,List.getElem?_eq_getElem x_2];exact Jh (by have:=c.wl _ (List.getElem_mem hi);show h.log.bT.bu[i].bytes.length≠0;omega)
  rw[al' _ (fun w hw q=>by
   obtain⟨i,hi,rfl⟩:=List.getElem_of_mem hw;have:=c.row i hi;exact z ⟨i,hi,by omega⟩)]
  refine .inl ?_;cases h.log.bT.cells[j]?<;>rfl
 refine⟨alC c.ok,aly c.li,?_,?_,by omega,?_,?_,?_,fun j=>?_,fun j hj=>?_,fun i hi s hs=>?_⟩<;>(try rw[al1])
 ·exact c.ep
 ·rw[al7];show (abM h.log.bT).bu.length=_;rw[e0];rfl
 ·show h.log.next=((p+h.log.bT.bu.length+(abM h.log.bT).bu.length:Nat):Int);rw[e0];exact c.nx
 ·show Row _ (abM h.log.bT).bu;rw[e0];exact fun i hi=>absurd hi x_20
 ·show ∀w∈(abM h.log.bT).bu,_;rw[e0];exact fun w hw=>by cases hw
 ·show al3 h.log.dP (al2 (abM h.log.bT) j);rcases amu j with z|⟨w,hw,_,z⟩
  ·rw[z];exact c.cl j
  rw[z];exact c.wr w hw
 ·show (al2 (abM h.log.bT) j).getD 127 0<h.log.dP;rcases amu j with z|⟨w,hw,z1,z⟩
  ·rw[z];exact c.lt j x_2
  have:=c.row.mem hw;omega
 rw[al1]at hs;replace hs:(dH (abM h.log.bT))[i]? = some s:=hs;rw[ak' hd]at hs;exact c.eps i x_2 s hs
theorem amL{p k:Nat}{h:mm}(c:CP p k h)(hk:k+1<=200)(hb:qK h.log.bT)(vA:List Int)(q:y3 (crD h vA)=0):∃p,CP p (k+1) (e6 (crD h vA)):=by
 rw[agM c.ok]at q ⊢;have:=c.ep;exact⟨_,amn q (c.top hb vA) x_2 hk (c.al6 vA)⟩
def HbC(k:Nat)(h:mm):Prop:=HbL h/\(k<=200->∃p,CP p k h)
theorem amM:aix HbC:=⟨fun n a b=>⟨alM.new n a b,fun _=>amG a b⟩,fun d=>⟨d.1,fun hk=>by obtain⟨p,c⟩:=d.2 x_2;exact⟨p,c.mono⟩⟩,fun d we q=>⟨alM.take (k:=0) d.1 we q,fun hk=>by obtain⟨p,c⟩:=d.2 hk;exact⟨p,amI c hk q⟩⟩,fun d=>⟨alM.sync (k:=0) d.1,fun hk=>by obtain⟨p,c⟩:=d.2 hk;exact⟨_,amK c⟩⟩,fun vA d q=>⟨alM.aiT (k:=0) vA d.1 q,fun hk=>by obtain⟨p,c⟩:=d.2 x_2;exact amL c hk d.1.1.1.db vA q⟩,fun d=>d.1.1.1⟩
structure CrE(h:mm)(vA:List Int):Prop where
 dok:ik (crD h vA)=true
 c2:y3 (crD h vA)≠0->y3 (crD h vA)=2
 evs:y3 (crD h vA)=0->f8 (e6 (crD h vA)).log.bT=f8 (crD h vA)
 pre:∃r,f8 h.log.bT=f8 (crD h vA)++r/\r.length<=h.wait.length
theorem amN{x:du}(hd:ik x=true)(h0:x.bu=[])(hr:eL (f8 x)=true)(h:y3 x≠0):y3 x=2:=by
 by_cases q:m1 x=0
 ·exact absurd (adJ q hr) h
 rw[adH q];by_cases z:(dH x).length=x.cells.length\/16000000<=m2 x
 ·exact lg2 hd (by rw[h0];rfl) z
 exact absurd (lg0 hd (by rw[h0];rfl) z) q
theorem amO{x:du}(h:y3 x=0):f8 (e6 x).log.bT=f8 x:=by
 rw[ac5 h];exact(alG (alF h)).evs
theorem amP(l:List fb):(pj l).length<=l.length:=List.length_filterMap_le _ _
theorem amQ{p k:Nat}{h:mm}(c:CP p k h)(hb:qK h.log.bT)(vA:List Int):CrE h vA:=by
 have g:=aiF c.ok;have e:=agM (vA:=vA) c.ok;obtain⟨d1,d2,d3⟩:=aii (vA:=vA) g.dok hb;obtain⟨q,hq1,hq2,hq⟩:=c.run hb vA;have uQ:f8 h.log.bT=f8 (acU h.log.bT vA)++pj ((dH h.log.bT).drop q):=by
  unfold f8;rw[hq,<-alm,List.take_append_drop]
 refine⟨by rw[e];exact d1,fun hz=>?_,amO,_,by rw[e];exact uQ,?_⟩
 ·rw[e]at hz ⊢;have hr:=g.rp;rw[uQ]at hr;exact amN d1 d3 (amA hr) hz
 have:=amP ((dH h.log.bT).drop q);have hl:=c.len;have hw:=c.wt;rw[List.length_drop]at this;omega
structure AgE(x:du):Prop where
 ok:zV (e6 x)=true
 dsk:crD (e6 x) []=(e6 x).log.bT
 c2:y3 (e6 x).log.bT≠0->y3 (e6 x).log.bT=2
 book:y3 (e6 x).log.bT=0->(e6 (e6 x).log.bT).book=(e6 x).book
 ep:y3 (e6 x).log.bT=0->(e6 (e6 x).log.bT).log.dP=(e6 x).log.dP+1
 nx:y3 (e6 x).log.bT=0->(e6 (e6 x).log.bT).log.next=(e6 x).log.next+1

def amR(I:Nat->mm->Prop):AV->List (Nat×AO)->Prop:=fun x ob=>∃k h vA,k<=19/\I k h/\x=.au [Bu h,inV vA]/\ob=[]
abbrev amv:aV:=⟨8,0,0,0,0,0,false⟩
abbrev al8:List Int:=[0,1,8,60,121,122,125,127,128,128]
abbrev am5:List (Nat×Nat×AV):=[(0,1,int 0),(1,1,int 1),(2,1,int 8),(3,1,int 60),(4,1,int 121),(5,1,int 122),(6,1,int 125),(7,1,int 127),(8,1,int 128),(9,1,int 128)]
theorem am6:∀r∈ah kt al8,r.length=1:=fun r hr=>by
 unfold ah at hr;obtain⟨x,_,rfl⟩:=List.mem_map.1 hr;rfl
theorem amS{I:Nat->mm->Prop}(W:aix I)(code:List Int)(hm:code.length<=1048576):GX prog 32 [.p (.ab 5 1 (ah ahN code))] [] (amR I):=by
 refine GX.intro (rs:=[.cell 2 56 (some 14),.tmp 3]) func32 rfl ntmps32 x_8 ⟨rfl,rfl,EZ,rfl,trivial⟩ ?_;intro L O w0;refine sL<|ab (zA 2002 Ig Z) Z<|e9 Z<|nA<|bm Z ?_;refine alX [(31,0)] [0] [] func96 (akD code hm) (trivial) (fun _ _ _=>trivial) Z ?_;intro xz1 oz1 fa;obtain⟨q1,rfl,rfl⟩:=fa;refine lT [2,3,12] [0,2002] ?_;refine lC Z<|Y<|aS ?_;refine AW.tZ 0 rfl ?_;intro g;have hc:ahk code 0:=⟨Nat.zero_le _,hm⟩;refine aL<|aM Z ?_;refine alX [(0,0),(1,1),(2,2)] [1,2] [0] func97 (akk W g code _ _ 14 hc x_3) x_15 (aiU) Z ?_;intro xz2 oz2 hz2;obtain⟨i2,q2,_,Cj,⟨akX,ahQ,hkD,hID,rfl,rfl⟩,rfl⟩:=hz2;refine ab (zA 2005 Ig Z) Z<|lT [2,3,4,5,14] [0,1,2,2002,2005] ?_;refine ab (zB 2005 NA NB Z) Z<|Y<|aS<|aS ?_;refine AW.freeze 1 rfl ?_;refine AW.freeze 2 rfl ?_;refine aL<|aM Z ?_;refine alX [(0,0)] [] [0] func98 (ahp g code _ _ _ Cj) x_15 (ahn) Z ?_;intro xz3 oz3 hz3;obtain⟨i3,q3,hc3,⟨ahG,⟨na3,nb3⟩,rfl⟩,rfl⟩:=hz3;refine ao Z<|Y<|aB ?_;refine aW [2,3,4,5] [2002] (D:=Nat×Int×Int×mm) (fun d=>[(6,int d.2.2.1)]) (fun d=>[(0,ahm g code d.1 d.2.1),(2005,.box 56 none [.p (.ab 195 1 (oS d.2.2.2.log.bT.cells)),.p (.ab 192 2 (oT d.2.2.2.log.bT.bu)),int d.2.2.2.log.next,int d.2.2.2.log.dP,int d.2.2.2.book.tick,int d.2.2.2.book.next,int d.2.2.2.book.aA,.p (.ab 159 7 (ah aX d.2.2.2.book.ag)),.p (.ab 218 7 (ah go d.2.2.2.book.an)),.p (.ab 220 5 (ah iX d.2.2.2.book.aq)),int d.2.2.2.ia.last,.p (.ab 167 3 (ah ct d.2.2.2.ia.lines)),.p (.ab 81 7 (ah fR d.2.2.2.wait)),.p (.ab 81 7 (ah fR d.2.2.2.f9))])]) (fun d=>ahk code d.1/\(0<=d.2.2.1/\d.2.2.1<=5)/\I akX d.2.2.2) (fun d=>d.2.2.1.toNat) ((_,_,ahG,ahQ)) (⟨hc3,by show 0<=ahG/\ahG<=5;omega,hID⟩) ⟨rfl,trivial⟩ ⟨rfl,rfl,trivial⟩ ?_;intro ⟨iJ,qJ,nJ,hJ⟩ hI;dsimp only;obtain⟨hcJ,hnJ,hgJ⟩:=hI;replace hcJ:ahk code iJ:=hcJ;replace hnJ:0<=nJ/\nJ<=5:=hnJ;replace hgJ:I akX hJ:=hgJ;have hdJ:=W.wf hgJ;refine aS<|sL<|ae Z<|ak Z<|Y<|cE rfl ?_ ?_
 ·intro V;refine aK<|gT<|aS<|aB<|aS ?_;have hp:0<nJ:=by have h:=V;simpa using h
  refine aL<|aP kj EZ Z<|lq (rd (x:=.agg [c6,c6,c6,c6,c6,c6,vB false]) (cP Z xF Z Z Z) Z)<|lT [2,3,4,5,6,22,23] [0,2002,2005] ?_;refine ab (zC [] [] [] func40 (akd hJ amv hdJ) (trivial) Z Z) Z<|cT (.au [kj,c6]) Z<|iB kj Z<|dE Z<|ab (zA 2007 Ig Z) Z<|lT [2,3,4,5,6,7,25,26] [0,2002,2005,2007] ?_;refine ab (zB 2007 NA NB Z) Z<|ao Z<|nA<|ae Z<|ak Z<|Y<|cE rfl ?_ ?_
  ·intro h2;refine aL<|aP kj EZ Z<|ab (zB 2005 NA NB Z) Z<|lT [2,3,4,5,6] [0,2002,2005,2007] ?_;refine lN<|gB<|gT<|aL<|ae Z<|bg Z<|ao Z<|Y ?_;refine⟨(_,_,nJ-1,aht hJ amv),⟨by assumption,by show 0<=nJ-1/\nJ-1<=5;omega,W.take hgJ (by unfold l7 i64;decide) x_70⟩,by show (nJ-1).toNat<nJ.toNat;omega,⟨rfl,trivial⟩,⟨rfl,rfl,trivial⟩,rfl,rfl⟩
  intro h2;refine aK<|gB<|gT<|aL<|ae Z<|bg Z<|ao Z<|Y ?_;refine⟨(_,_,nJ-1,hJ),⟨by assumption,by show 0<=nJ-1/\nJ-1<=5;omega,hgJ⟩,by show (nJ-1).toNat<nJ.toNat;omega,⟨rfl,trivial⟩,⟨rfl,rfl,trivial⟩,rfl,rfl⟩
 intro V;refine aE<|eT<|eT<|eB<|gA<|ab (zS 2030 (ah kt []) iU lY rfl x_107) Z<|lT [2,3,4,5,30] [0,2002,2005,2030] ?_;refine bD Z<|Y<|aS<|sL<|aM Z ?_;refine alX [(0,0)] [] [0] func98 (ahp g code _ _ _ hcJ) x_15 (ahn) Z ?_;intro xz4 oz4 hz4;obtain⟨i4,q4,hc4,⟨ahZ,⟨na4,nb4⟩,rfl⟩,rfl⟩:=hz4;refine ao Z<|Y<|aB ?_;refine aW [2,3,4,5] [2002,2005] (D:=Nat×Int×Int×List Int) (fun z=>[(10,int z.2.2.1),(9,.own 2030)]) (fun z=>[(0,ahm g code z.1 z.2.1),(2030,kAr z.2.2.2)]) (fun z=>ahk code z.1/\(0<=z.2.2.1/\z.2.2.1<=8)/\(z.2.2.2.length:Int)+z.2.2.1<=8) (fun z=>z.2.2.1.toNat) ((_,_,ahZ,[])) (⟨hc4,by show 0<=ahZ/\ahZ<=8;omega,by show ((0:Nat):Int)+ahZ<=8;omega⟩) ⟨rfl,rfl,trivial⟩ ⟨rfl,rfl,trivial⟩ ?_;intro ⟨iZ,qZ,nZ,kp⟩ hI;dsimp only;obtain⟨hcZ,hnZ,m'⟩:=hI;replace hcZ:ahk code iZ:=hcZ;replace hnZ:0<=nZ/\nZ<=8:=hnZ;replace m':(kp.length:Int)+nZ<=8:=m';refine aS<|sL<|ae Z<|ak Z<|Y<|cE rfl ?_ ?_
 ·intro h3;refine aK<|gT<|aS<|aB ?_;have hp:0<nZ:=by have h:=h3;simpa using h
  refine aL<|bW Z<|ab (zS 2038 (bp:=am5) (ah kt al8) iU lY Z (am6)) Z<|lT [2,3,4,5,9,10,37,38] [0,2002,2005,2030,2038] ?_;refine aM rfl ?_;refine alX [(0,0)] [] [0] func98 (ahp g code _ _ _ hcZ) x_15 (ahn) Z ?_;intro xz5 oz5 hz5;obtain⟨i5,q5,hc5,⟨ahU,⟨na5,nb5⟩,rfl⟩,rfl⟩:=hz5;obtain⟨m,hm⟩:=Int.eq_ofNat_of_zero_le na5;have amw:m<al8.length:=by show m<10;omega
  refine lq (rd (x:=.ptr 2038 _ 0) (pu (i:=m) rfl iU rfl rfl rfl ?hn1 (by rw[ap];exact amw)) rfl) ?_;case hn1=>exact hm
  refine lq (rd (x:=c6) (dT Z ac Z Z Z (bS amw) Z) Z)<|ab (zS 2043 (ah kt [al8[m]]) iU lY Z) Z<|lT [2,3,4,5,9,10,37,43] [0,2002,2005,2030,2038,2043] ?_;refine ab (zP 2030 iU lY uy rfl x_18 (by simp[ah];omega)) Z<|bD Z<|lN<|gB<|gT<|aL<|ae Z<|bg Z<|ao Z<|Y ?_;refine⟨(_,_,nZ-1,kp++[al8[m]]),⟨by assumption,by show 0<=nZ-1/\nZ-1<=8;omega,by show ((kp++[_]).length:Int)+(nZ-1)<=8;rw[List.length_append,List.length_singleton];omega⟩,by show (nZ-1).toNat<nZ.toNat;omega,⟨rfl,rfl,trivial⟩,⟨rfl,(Eq.trans (b:=AO.ai 3 1 (ah kt kp++ah kt [al8[m]])) rfl (congrArg (AO.ai 3 1) (rR _ _ _).symm)),trivial⟩,rfl,rfl⟩
 intro h3;refine aE<|eT<|eT<|eB<|gT<|aS ?_;refine AW.freeze 2030 rfl ?_;refine aL<|aP kj EZ Z<|bm Z<|ab (zB 2002 NA NB Z) Z<|lT [2,3,46] [0,2002,2005] ?_;refine nv Z<|Y<|aR ?_;refine fN ((.au [Bu hJ,inV kp])) [] ?_ rfl trivial;exact⟨akX,hJ,kp,hkD,hgJ,rfl,rfl⟩
end Go.Proofs.YtflhgkmhmcfimaaGreat

