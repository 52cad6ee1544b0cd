/- Texts of the proof of FnFnTaken, joined: EA7, EA9, ES1. -/
import Derived.Test.YtflhgkmhmcfimaaGreatJTaken11
import Derived.Test.YtflhgkmhmcfimaaGreatJTaken8
import Derived.Test.YtflhgkmhmcfimaaGreatJTaken3
namespace Go.Proofs.YtflhgkmhmcfimaaGreat
open Tryz
open Go.RowKit
set_option maxHeartbeats 16000000
set_option maxRecDepth 100000
set_option linter.unusedSimpArgs false
set_option linter.unusedVariables false
theorem Be{α:Type}(p:α->Bool)(l:List α):(jw p l=-1/\l.find? p=none)\/∃(i:Nat) (c:α),jw p l=(i:Int)/\l[i]? = some c/\l.find? p=some c/\p c=true:=by
 unfold jw;cases h:l.findIdx? p with
 |none=>
  grind
 |some i=>
  obtain⟨V,h2,h3⟩:=List.findIdx?_eq_some_iff_getElem.1 h;refine .inr ⟨i,l[i],rfl,List.getElem?_eq_getElem V,?_,h2⟩;rw[List.find?_eq_some_iff_getElem];grind
theorem p9{l:List be}{ch:Int}(h:0<=eS l ch):∃(i:Nat) (c:be),eS l ch=(i:Int)/\l[i]? = some c/\fz l ch=c/\c.id=ch:=by
 grind[jt]
def pN(x:aw)(dQ:Bool)(h:eV):WR:=
 if dQ then ⟨{ x with an:=jS x.an h.key,ag:=cC (cC x.ag h.gh fun c=>{ c with loc:=c.loc+h.cW,cM:=lR c.cM }) h.out fun c=>{ c with aC:=c.aC+h.c9 } },
  bR (bR (bR [] 3 0 (h.c9-h.cW)) 6 h.gh h.cW) 8 h.out (-h.c9),0⟩
 else ⟨{ x with an:=jS x.an h.key,ag:=cC (cC x.ag h.gh fun c=>{ c with aC:=c.aC+h.cW,cM:=lS c.cM }) h.out fun c=>{ c with loc:=c.loc+h.c9 } },
  bR (bR [] 6 h.out h.c9) 8 h.out (-h.c9),0⟩
def mR(x:aw)(e:aV):WR:=match x.an.find? (fun c=>c.key==e.key)with
 |some h=>pN x (decide (e.kind=6)) h
 |none=>⟨x,[],15⟩
theorem M0{x:aw}{e:aV}(h:x.an.find? (fun c=>c.key==e.key)=none):mR x e=⟨x,[],15⟩:=by grind[mR]
theorem HW{x:aw}{e:aV}{c:eV}(h:x.an.find? (fun c=>c.key==e.key)=some c):mR x e=pN x (decide (e.kind=6)) c:=by grind[mR]
def mN(x:aw)(dQ:Bool)(h:gz):WR:=
 if dQ then ⟨{ x with aq:=jA x.aq h.key,ag:=cC (cC x.ag h.fI fun c=>{ c with aC:=c.aC+(h.af+h.ay) }) h.to fun c=>{ c with loc:=c.loc+h.af } },
  bR (bR (bR [] 4 0 h.ay) 6 h.to h.af) 8 h.fI (-h.af-h.ay),0⟩
 else ⟨{ x with aq:=jA x.aq h.key,ag:=cC (cC x.ag h.fI fun c=>{ c with loc:=c.loc+(h.af+h.ay) }) h.to fun c=>{ c with aC:=c.aC+h.af } },
  bR (bR [] 6 h.fI (h.af+h.ay)) 8 h.fI (-h.af-h.ay),0⟩
def nm(x:aw)(e:aV):WR:=match x.aq.find? (fun c=>c.key==e.key)with
 |some h=>mN x (decide (e.kind=10)) h
 |none=>⟨x,[],15⟩
theorem M1{x:aw}{e:aV}(h:x.aq.find? (fun c=>c.key==e.key)=none):nm x e=⟨x,[],15⟩:=by grind[nm]
theorem DZ{x:aw}{e:aV}{c:gz}(h:x.aq.find? (fun c=>c.key==e.key)=some c):nm x e=mN x (decide (e.kind=10)) c:=by grind[nm]
theorem FE{α:Type}{l:List α}{a b:Nat}{c1 c2 d1:α}(bO:a≠b):((l.set a c1).set b d1).set a c2=(l.set a c2).set b d1:=by
 simp_all[List.set_comm,Ne.symm]
def kv(x:aw)(e:aV):Int:=bE (decide ((20:Int)<=(x.aq.length:Int))) (tO x.ag e.to (tO x.ag e.ch (bE (nD x e.key) 0 9))) 14
def fL(x:aw)(e:aV):Int:=bE (decide ((fz x.ag e.to).aC<e.af)) (bE (decide ((fz x.ag e.ch).loc<eM e.af e.ay)) (bE (!gI e.af e.ay) (kv x e) 10) 12) 11
def oH(x:aw)(e:aV):WR:=⟨{ x with aq:=x.aq++[⟨e.key,e.ch,e.to,e.af,e.ay⟩],ag:=cC (cC x.ag e.ch fun c=>{ c with loc:=c.loc-eM e.af e.ay }) e.to fun c=>{ c with aC:=c.aC-e.af } },bR (bR [] 6 e.ch (-eM e.af e.ay)) 8 e.ch (eM e.af e.ay),0⟩
def sS(x:aw)(e:aV):WR:=if fL x e=0 then oH x e else ⟨x,[],fL x e⟩
theorem od{x:aw}{e:aV}(h:fL x e≠0):sS x e=⟨x,[],fL x e⟩:=if_neg h
theorem uZ{x:aw}{e:aV}(h:fL x e=0):sS x e=oH x e:=if_pos h
theorem x_8{p:Prop}(c:p:=by have V:=bC.1;have h2:=bC.2.1;have h3:=ck.1;have h4:=ck.2.1;have h5:=bQ.1;have h6:=bQ.2.1;unfold bk at *;unfold i64;omega):p:=c
theorem x_28{p:Prop}(c:p:=by have h5:=bQ.1;have h6:=bQ.2.1;have h7:=bQ.2.2.2.2;have h8:=hle h (dB hh);unfold bk at *;omega):p:=c
theorem P1(g u:Value)(x:aw)(e:aV)(fi:sO x)(es:m8 e)(hle:∀h∈x.an,h.c9<=h.cW):GC prog 117 [.ptr 0 0 0,ju e] (sT g u x [] 0) (.au []) (yp g (mR x e)):=by
 have sm:=fi.sm;have hm:x.ag.length<=1000000000:=by have:=sm.lc;omega
 have mG:x.an.length<=1000000000:=by have:=sm.lh;omega
 have lr:x.aq.length<=1000000000:=by have:=sm.li;omega
 refine GC.intro (rs:=[]) func117 rfl ntmps117 x_7 trivial ?_;intro L O w0;refine sL<|ab (zX 2003 Z) Z<|Y<|aS<|aG 7 []<|tq 0 (cG Z)<|tq 1 (rc Z)<|tq 2 (rf 0 dR Z)<|tq 3 (dw (.agg [U _ _,U _ _,U _ _,.own _,.own _,.own _]) cu Z)<|yq 4 (rf 1 gE Z)<|yq 5 (aZ ac Z) ?_;rcases Be (fun c=>c.key==e.key) x.an with⟨hi,hf⟩|⟨i,h,hi,hh,hf,hk⟩
 ·skip;refine cm 6 rfl (zL func217 (F9 x _ mG) rfl)<|yq 7 (j8 rfl)<|gD<|gT<|aS<|sL<|ae Z<|ak Z<|bJ 16 true rfl (by rw[show jw (fun c=>c.key==e.key) x.an=_ from hi];simp)<|Y<|aY Z<|sL<|aM rfl ?_;refine ab (et func211 (fJ _ _ _ _ _ _ _ _ _ _ _ _ _ _ _ _ _ _ _ ) x_4 rfl rfl) Z<|Y ?_;refine iQ 1 rfl ?_;refine aR<|rT ?_;rw[M0 hf];trivial
 have hk:h.key=e.key:=by simpa using hk
 have bQ:=sm.an h (dB hh);have ul:=(List.getElem?_eq_some_iff.1 hh).1;obtain⟨ha,hb,kN⟩:=fi.y' h (dB hh);obtain⟨a,c,uP,hc,Jw,pU⟩:=p9 ha;obtain⟨b,d,pE,hd,Jx,pV⟩:=p9 hb;have bC:=sm.ag c (dB hc);have ck:=sm.ag d (dB hd);have bO:a≠b:=tP hc hd (by omega);refine cm 6 Z (zL func217 (F9 x _ mG) Z)<|gX [0,3,14] [0,1,2,3,4,2003] ?_;refine yq 7 (j8 rfl)<|gD<|gT<|aS<|sL<|ae Z<|ak Z<|bJ 16 false rfl (by grind)<|Y<|aN Z<|aK<|gA<|aM Z<|lc Z<|lf 0 dR Z<|lf 4 eF Z<|iO fS Z<|ae Z<|jK 24 (i:Int) rfl hi<|lq (rj i f7 rfl x_31)<|lq (rd (x:=.agg [U _ _,U _ _,U _ _,U _ _,U _ _,vB _,U _ _]) (dT rfl kZ rfl rfl rfl (dk hh) rfl) rfl)<|ab (zA 2005 iu rfl) Z<|ab (zB 2005 nJ nL rfl) Z<|Y<|aS ?_;refine aG 21 [2035]<|tq 0 (cG Z)<|tq 1 (cG Z)<|tq 2 (rc Z)<|tq 3 (rf 0 dR Z)<|tq 4 (rf 4 eF Z)<|tq 5 (gC fS Z)<|tq 6 (dW Z)<|vO 33 (i:Int) Z hi ?_;refine tq 7 (rd (x:=.sub _ _ _) (tW (l:=0) (h:=i) rfl f7 rfl rfl rfl ⟨_,rfl⟩ (by omega) (by rw[ap];omega)) rfl)<|tq 9 (cG rfl)<|tq 10 (rc rfl)<|tq 11 (rf 0 dR rfl)<|tq 12 (rf 4 eF rfl)<|tq 13 (gC fS rfl)<|tq 14 (dW rfl)<|vO 41 (i:Int) rfl hi ?_;refine tq 15 (iC rfl ⟨rfl,ce x_82⟩)<|vO 42 ((i+1:Nat):Int) rfl (by omega) ?_;refine tq 16 (rd (x:=.sub _ _ _) (tW (l:=i+1) (h:=_) rfl f7 rfl rfl ⟨_,rfl⟩ rfl (by rw[ap];omega) (Nat.le_refl _)) rfl)<|cm 8 rfl (qJ 2035 rfl rfl (by decide) f7 iu rfl (by decide) rfl x_120 (by grind[maxLen]) (Nat.le_trans (Nat.mul_le_mul_left _ sQ) (by grind)))<|gX [0,3,5,27,35,43] [0,1,2,3,4,2003,2005,2035] ?_;refine cm 17 rfl (zP 2035 f7 iu sQ rfl x_120 x_69)<|yq 18 (rc rfl)<|yq 19 (rf 0 dR rfl)<|yq 20 (rf 4 eF rfl)<|yl rfl (zB 0 tQ tR rfl)<|gT ?_;refine AW.obj 2035 (df (jS x.an h.key)) ((congrArg (AO.ai 218 7) (Ge.trans (congrArg (ah go) (by rw[erase_filter (g:=fun c=>c.key) fi.jF hh];rfl))))) ?_;refine aS ?_;refine AW.swap 2035 2 ?_;refine aT [0,3,5] [0,1,2,3,4,2003,2005] ?_;refine aL<|aM Z<|lf 1 oM Z<|aj ac Z ?_;refine ab (et func115 (rP _ _ ({ x with an:=jS x.an h.key }) _ _ _ hm _ _ uP hc) x_4 rfl rfl) Z<|lC Z<|nA<|aM Z<|lf 2 mJ Z<|aj ac rfl ?_;refine ab (et func115 (rP _ _ ({ x with an:=jS x.an h.key }) _ _ _ hm _ _ pE hd) x_4 rfl rfl) Z<|lC Z<|Y<|aS<|sL<|lf 0 jz Z<|aj ac Z<|ak Z<|Y ?_;refine AW.cond rfl ?_ ?_
 ·intro V;refine aS<|aG 9 []<|tq 0 (cG Z)<|tq 1 (rc Z)<|tq 2 (rf 2 fH Z)<|tq 3 (rd (x:=U _ _) (dT Z ac Z Z Z (dk hc) Z) Z)<|yq 4 (rf 3 n3 Z)<|yq 5 (aZ ac Z) ?_;refine yq 6 (iC rfl ⟨rfl,ce x_8⟩)<|yq 7 (rc rfl)<|yq 8 (rf 2 fH rfl)<|yl rfl (zQ 1 [.v (.int .i64 (c.loc+h.cW))] ca cb rfl (dk hc))<|gT ?_;refine AW.obj 1 (pz u (x.ag.set a { c with loc:=c.loc+h.cW })) (Eq.trans (b:=AO.ai ⟨159,some u⟩ 7 ((ah aX (x.ag)).set a ((aX { c with loc:=c.loc+h.cW }).map PV.v))) rfl (congrArg (AO.ai ⟨159,some u⟩ 7) lB)) ?_;refine aS<|aG 9 []<|tq 0 (cG Z)<|tq 1 (rc Z)<|tq 2 (rf 3 ic Z)<|tq 3 (rd (x:=U _ _) (dT Z ac Z Z Z (dk (jy hd bO _)) Z) Z)<|yq 4 (rf 4 kw Z)<|yq 5 (aZ ac Z) ?_;refine yq 6 (iC rfl ⟨rfl,ce x_8⟩)<|gX [0,5,6,68,74] [0,1,2,3,4,2003,2005] ?_;refine yq 7 (rc Z)<|yq 8 (rf 3 ic Z)<|yl Z (zQ 1 [.v (.int .i64 (d.aC+h.c9))] ca cb Z (dk (jy hd bO _)))<|gT ?_;refine AW.obj 1 (pz u ((x.ag.set a { c with loc:=c.loc+h.cW }).set b { d with aC:=d.aC+h.c9 })) (Eq.trans (b:=AO.ai ⟨159,some u⟩ 7 ((ah aX (x.ag.set a { c with loc:=c.loc+h.cW })).set b ((aX { d with aC:=d.aC+h.c9 }).map PV.v))) rfl (congrArg (AO.ai ⟨159,some u⟩ 7) lB)) ?_;refine sL<|aM Z<|aM Z<|lc Z<|lf 6 ms Z<|lq (rd (x:=U _ _) (dT Z ac Z Z Z (dk (jy (ww hc { c with loc:=c.loc+h.cW }) (Ne.symm bO) { d with aC:=d.aC+h.c9 })) Z) Z)<|ab (zL func218 (R3 _) Z) Z<|lc Z<|lf 6 ms Z<|ab (zQ 1 [.v (.int .i64 (lR c.cM))] ca cb Z (dk (jy (ww hc { c with loc:=c.loc+h.cW }) (Ne.symm bO) { d with aC:=d.aC+h.c9 }))) Z<|Y ?_;refine AW.obj 1 (pz u (cC (cC x.ag h.gh fun c=>{ c with loc:=c.loc+h.cW,cM:=lR c.cM }) h.out fun c=>{ c with aC:=c.aC+h.c9 })) (Eq.trans (b:=AO.ai ⟨159,some u⟩ 7 ((ah aX ((x.ag.set a { c with loc:=c.loc+h.cW }).set b { d with aC:=d.aC+h.c9 })).set a ((aX { c with loc:=c.loc+h.cW,cM:=lR c.cM }).map PV.v))) rfl (congrArg (AO.ai ⟨159,some u⟩ 7) (lB.trans (congrArg (ah aX) ((FE bO).trans (px fi.ids hc hd pU pV kN (fun c=>{ c with loc:=c.loc+h.cW,cM:=lR c.cM }) (fun d=>{ d with aC:=d.aC+h.c9 }) (fun _=>rfl))))))) ?_;refine sL<|aM Z<|lf 4 kw Z<|aj ac Z<|lf 3 n3 Z<|aj ac Z ?_;refine eo rfl ⟨rfl,ce x_8⟩ ?_;refine ab (bF func112 (lU _ _ _ _ _ _ _ _ _ _ _ _ _ _ ([]) 0 (LG.nil) (by decide) _ _ _ (cL.nil _ _) (cJ.2 x_28)) x_13 rfl rfl) Z<|lT [0,5] [0,1,2,3,4,2003,2005] ?_;refine Y<|aL<|aM Z<|lf 1 oM Z<|aj ac Z<|lf 3 n3 Z<|aj ac Z ?_;refine ab (bF func112 (lU _ _ _ _ _ _ _ _ _ _ _ _ _ _ (bR [] 3 0 (h.c9-h.cW)) 1 (LG.nil.add (cJ.2 x_28)) (by decide) _ _ _ x_15 (gP bQ.1)) x_13 rfl rfl) Z<|Y ?_;refine iQ 1 rfl ?_;refine aL<|aM Z<|lf 2 mJ Z<|aj ac Z<|lf 4 kw Z<|aj ac Z<|lq (rd (x:=U _ _) (il rfl rfl (ce x_8)) rfl) ?_;refine ab (bF func112 (lU _ _ _ _ _ _ _ _ _ _ _ _ _ _ (bR (bR [] 3 0 (h.c9-h.cW)) 6 h.gh h.cW) 2 ((LG.nil.add (cJ.2 x_28)).add (gP bQ.1)) (by decide) _ _ _ (((cL.nil _ _).add (.inl (by decide))).add (.inl (by decide))) (jM bQ.2.1)) x_13 rfl rfl) Z<|lN ?_;rw[HW hf,V];trivial
 intro V;refine aS<|aG 9 []<|tq 0 (cG Z)<|tq 1 (rc Z)<|tq 2 (rf 3 ic Z)<|tq 3 (rd (x:=U _ _) (dT Z ac Z Z Z (dk hc) Z) Z)<|yq 4 (rf 3 n3 Z)<|yq 5 (aZ ac Z) ?_;refine yq 6 (iC rfl ⟨rfl,ce x_8⟩)<|yq 7 (rc rfl)<|yq 8 (rf 3 ic rfl)<|yl rfl (zQ 1 [.v (.int .i64 (c.aC+h.cW))] ca cb rfl (dk hc))<|gT ?_;refine AW.obj 1 (pz u (x.ag.set a { c with aC:=c.aC+h.cW })) (Eq.trans (b:=AO.ai ⟨159,some u⟩ 7 ((ah aX (x.ag)).set a ((aX { c with aC:=c.aC+h.cW }).map PV.v))) rfl (congrArg (AO.ai ⟨159,some u⟩ 7) lB)) ?_;refine aS<|aG 9 []<|tq 0 (cG Z)<|tq 1 (rc Z)<|tq 2 (rf 2 fH Z)<|tq 3 (rd (x:=U _ _) (dT Z ac Z Z Z (dk (jy hd bO _)) Z) Z)<|yq 4 (rf 4 kw Z)<|yq 5 (aZ ac Z) ?_;refine yq 6 (iC rfl ⟨rfl,ce x_8⟩)<|gX [0,5,6,107,113] [0,1,2,3,4,2003,2005] ?_;refine yq 7 (rc Z)<|yq 8 (rf 2 fH Z)<|yl Z (zQ 1 [.v (.int .i64 (d.loc+h.c9))] ca cb Z (dk (jy hd bO _)))<|gT ?_;refine AW.obj 1 (pz u ((x.ag.set a { c with aC:=c.aC+h.cW }).set b { d with loc:=d.loc+h.c9 })) (Eq.trans (b:=AO.ai ⟨159,some u⟩ 7 ((ah aX (x.ag.set a { c with aC:=c.aC+h.cW })).set b ((aX { d with loc:=d.loc+h.c9 }).map PV.v))) rfl (congrArg (AO.ai ⟨159,some u⟩ 7) lB)) ?_;refine sL<|aM Z<|aM Z<|lc Z<|lf 6 ms Z<|lq (rd (x:=U _ _) (dT Z ac Z Z Z (dk (jy (ww hc { c with aC:=c.aC+h.cW }) (Ne.symm bO) { d with loc:=d.loc+h.c9 })) Z) Z)<|ab (zL func219 (R5 _) Z) Z<|lc Z<|lf 6 ms Z<|ab (zQ 1 [.v (.int .i64 (lS c.cM))] ca cb Z (dk (jy (ww hc { c with aC:=c.aC+h.cW }) (Ne.symm bO) { d with loc:=d.loc+h.c9 }))) Z<|Y ?_;refine AW.obj 1 (pz u (cC (cC x.ag h.gh fun c=>{ c with aC:=c.aC+h.cW,cM:=lS c.cM }) h.out fun c=>{ c with loc:=c.loc+h.c9 })) (Eq.trans (b:=AO.ai ⟨159,some u⟩ 7 ((ah aX ((x.ag.set a { c with aC:=c.aC+h.cW }).set b { d with loc:=d.loc+h.c9 })).set a ((aX { c with aC:=c.aC+h.cW,cM:=lS c.cM }).map PV.v))) rfl (congrArg (AO.ai ⟨159,some u⟩ 7) (lB.trans (congrArg (ah aX) ((FE bO).trans (px fi.ids hc hd pU pV kN (fun c=>{ c with aC:=c.aC+h.cW,cM:=lS c.cM }) (fun d=>{ d with loc:=d.loc+h.c9 }) (fun _=>rfl))))))) ?_;refine aL<|aM Z<|lf 2 mJ Z<|aj ac Z<|lf 4 kw Z<|aj ac Z ?_;refine ab (bF func112 (lU _ _ _ _ _ _ _ _ _ _ _ _ _ _ ([]) 0 (LG.nil) (by decide) _ _ _ (cL.nil _ _) (gP bQ.2.1)) x_13 rfl rfl) Z<|lT [0,5] [0,1,2,3,4,2003,2005] ?_;refine Y ?_;refine iQ 1 rfl ?_;refine aL<|aM Z<|lf 2 mJ Z<|aj ac Z<|lf 4 kw Z<|aj ac Z<|lq (rd (x:=U _ _) (il rfl rfl (ce x_8)) rfl) ?_;refine ab (bF func112 (lU _ _ _ _ _ _ _ _ _ _ _ _ _ _ (bR [] 6 h.out h.c9) 1 (LG.nil.add (gP bQ.2.1)) (by decide) _ _ _ x_15 (jM bQ.2.1)) x_13 rfl rfl) Z<|lN ?_;rw[HW hf,V];trivial
theorem x_6{p:Prop}(c:p:=by have V:=bC.1;have h2:=bC.2.1;have h3:=ck.1;have h4:=ck.2.1;have h5:=bQ.1;have h6:=bQ.2;unfold bk at *;unfold i64;omega):p:=c
theorem x_47{p:Prop}(c:p:=by have h9:=hle h (dB hh);omega):p:=c
theorem Z2(g u:Value)(x:aw)(e:aV)(fi:sO x)(es:m8 e)(hle:∀h∈x.aq,0<=h.af/\0<=h.ay/\h.af+h.ay<=1125899906842624):GC prog 120 [.ptr 0 0 0,ju e] (sT g u x [] 0) (.au []) (yp g (nm x e)):=by
 have sm:=fi.sm;have hm:x.ag.length<=1000000000:=by have:=sm.lc;omega
 have mG:x.an.length<=1000000000:=by have:=sm.lh;omega
 have lr:x.aq.length<=1000000000:=by have:=sm.li;omega
 refine GC.intro (rs:=[]) func120 rfl ntmps120 x_7 trivial ?_;intro L O w0;refine sL<|ab (zX 2003 Z) Z<|Y<|aS<|aG 7 []<|tq 0 (cG Z)<|tq 1 (rc Z)<|tq 2 (rf 0 dR Z)<|tq 3 (dw (.agg [U _ _,U _ _,U _ _,.own _,.own _,.own _]) cu Z)<|yq 4 (rf 1 gE Z)<|yq 5 (aZ ac Z) ?_;rcases Be (fun c=>c.key==e.key) x.aq with⟨hi,hf⟩|⟨i,h,hi,hh,hf,hk⟩
 ·skip;refine cm 6 rfl (zL func221 (Ga x _ lr) rfl)<|yq 7 (j8 rfl)<|gD<|gT<|aS<|sL<|ae Z<|ak Z<|bJ 16 true rfl (by rw[show jw (fun c=>c.key==e.key) x.aq=_ from hi];simp)<|Y<|aY Z<|sL<|aM rfl ?_;refine ab (et func211 (fJ _ _ _ _ _ _ _ _ _ _ _ _ _ _ _ _ _ _ _ ) x_4 rfl rfl) Z<|Y ?_;refine iQ 1 rfl ?_;refine aR<|rT ?_;rw[M1 hf];trivial
 have hk:h.key=e.key:=by simpa using hk
 have bQ:=sm.aq h (dB hh);have ul:=(List.getElem?_eq_some_iff.1 hh).1;obtain⟨ha,hb,kN⟩:=fi.P0 h (dB hh);obtain⟨a,c,uP,hc,Jw,pU⟩:=p9 ha;obtain⟨b,d,pE,hd,Jx,pV⟩:=p9 hb;have bC:=sm.ag c (dB hc);have ck:=sm.ag d (dB hd);have bO:a≠b:=tP hc hd (by omega);refine cm 6 Z (zL func221 (Ga x _ lr) Z)<|gX [0,3,14] [0,1,2,3,4,2003] ?_;refine yq 7 (j8 rfl)<|gD<|gT<|aS<|sL<|ae Z<|ak Z<|bJ 16 false rfl (by grind)<|Y<|aN Z<|aK<|gA<|aM Z<|lc Z<|lf 0 dR Z<|lf 5 gn Z<|iO ii Z<|ae Z<|jK 24 (i:Int) rfl hi<|lq (rj i iI rfl x_31)<|lq (rd (x:=.agg [U _ _,U _ _,U _ _,U _ _,U _ _]) (dT rfl l5 rfl rfl rfl (dk hh) rfl) rfl)<|ab (zA 2005 jO rfl) Z<|ab (zB 2005 oK oL rfl) Z<|Y<|aS ?_;refine aG 21 [2035]<|tq 0 (cG Z)<|tq 1 (cG Z)<|tq 2 (rc Z)<|tq 3 (rf 0 dR Z)<|tq 4 (rf 5 gn Z)<|tq 5 (gC ii Z)<|tq 6 (dW Z)<|vO 33 (i:Int) Z hi ?_;refine tq 7 (rd (x:=.sub _ _ _) (tW (l:=0) (h:=i) rfl iI rfl rfl rfl ⟨_,rfl⟩ (by omega) (by rw[ap];omega)) rfl)<|tq 9 (cG rfl)<|tq 10 (rc rfl)<|tq 11 (rf 0 dR rfl)<|tq 12 (rf 5 gn rfl)<|tq 13 (gC ii rfl)<|tq 14 (dW rfl)<|vO 41 (i:Int) rfl hi ?_;refine tq 15 (iC rfl ⟨rfl,ce x_82⟩)<|vO 42 ((i+1:Nat):Int) rfl (by omega) ?_;refine tq 16 (rd (x:=.sub _ _ _) (tW (l:=i+1) (h:=_) rfl iI rfl rfl ⟨_,rfl⟩ rfl (by rw[ap];omega) (Nat.le_refl _)) rfl)<|cm 8 rfl (qJ 2035 rfl rfl (by decide) iI jO rfl (by decide) rfl x_120 (by grind[maxLen]) (Nat.le_trans (Nat.mul_le_mul_left _ wI) (by grind)))<|gX [0,3,5,27,35,43] [0,1,2,3,4,2003,2005,2035] ?_;refine cm 17 rfl (zP 2035 iI jO wI rfl x_120 x_69)<|yq 18 (rc rfl)<|yq 19 (rf 0 dR rfl)<|yq 20 (rf 5 gn rfl)<|yl rfl (zB 0 yh yk rfl)<|gT ?_;refine AW.obj 2035 (d7 (jA x.aq h.key)) ((congrArg (AO.ai 220 5) (Ge.trans (congrArg (ah iX) (by rw[erase_filter (g:=fun c=>c.key) fi.Jv hh];rfl))))) ?_;refine aS ?_;refine AW.swap 2035 3 ?_;refine aT [0,3,5] [0,1,2,3,4,2003,2005] ?_;refine aL<|aM Z<|lf 1 nO Z<|aj ac Z ?_;refine ab (et func115 (rP _ _ ({ x with aq:=jA x.aq h.key }) _ _ _ hm _ _ uP hc) x_4 rfl rfl) Z<|lC Z<|nA<|aM Z<|lf 2 py Z<|aj ac rfl ?_;refine ab (et func115 (rP _ _ ({ x with aq:=jA x.aq h.key }) _ _ _ hm _ _ pE hd) x_4 rfl rfl) Z<|lC Z<|Y<|aS<|sL<|lf 0 jz Z<|aj ac Z<|ak Z<|Y ?_;refine AW.cond rfl ?_ ?_
 ·intro V;refine aS<|aG 12 []<|tq 0 (cG Z)<|tq 1 (rc Z)<|tq 2 (rf 3 ic Z)<|tq 3 (rd (x:=U _ _) (dT Z ac Z Z Z (dk hc) Z) Z)<|tq 4 (rf 3 lO Z)<|tq 5 (aZ ac Z)<|yq 6 (rf 4 pO Z)<|yq 7 (aZ ac Z) ?_;refine yq 8 (iC rfl ⟨rfl,ce x_6⟩) ?_;refine yq 9 (iC rfl ⟨rfl,ce x_6⟩)<|yq 10 (rc rfl)<|yq 11 (rf 3 ic rfl)<|yl rfl (zQ 1 [.v (.int .i64 (c.aC+(h.af+h.ay)))] ca cb rfl (dk hc))<|gT ?_;refine AW.obj 1 (pz u (x.ag.set a { c with aC:=c.aC+(h.af+h.ay) })) (Eq.trans (b:=AO.ai ⟨159,some u⟩ 7 ((ah aX (x.ag)).set a ((aX { c with aC:=c.aC+(h.af+h.ay) }).map PV.v))) rfl (congrArg (AO.ai ⟨159,some u⟩ 7) lB)) ?_;refine aS<|aG 9 []<|tq 0 (cG Z)<|tq 1 (rc Z)<|tq 2 (rf 2 fH Z)<|tq 3 (rd (x:=U _ _) (dT Z ac Z Z Z (dk (jy hd bO _)) Z) Z)<|gX [0,5,71,74] [0,1,2,3,4,2003,2005] ?_;refine yq 4 (rf 3 lO Z)<|yq 5 (aZ ac Z) ?_;refine yq 6 (iC rfl ⟨rfl,ce x_6⟩)<|yq 7 (rc rfl)<|yq 8 (rf 2 fH rfl)<|yl rfl (zQ 1 [.v (.int .i64 (d.loc+h.af))] ca cb rfl (dk (jy hd bO _)))<|gT ?_;refine AW.obj 1 (pz u (cC (cC x.ag h.fI fun c=>{ c with aC:=c.aC+(h.af+h.ay) }) h.to fun c=>{ c with loc:=c.loc+h.af })) (Eq.trans (b:=AO.ai ⟨159,some u⟩ 7 ((ah aX (x.ag.set a { c with aC:=c.aC+(h.af+h.ay) })).set b ((aX { d with loc:=d.loc+h.af }).map PV.v))) rfl (congrArg (AO.ai ⟨159,some u⟩ 7) (lB.trans (congrArg (ah aX) (px fi.ids hc hd pU pV kN (fun c=>{ c with aC:=c.aC+(h.af+h.ay) }) (fun d=>{ d with loc:=d.loc+h.af }) (fun _=>rfl)))))) ?_;refine sL<|aM Z<|lf 4 pO Z<|aj ac Z ?_;refine ab (bF func112 (lU _ _ _ _ _ _ _ _ _ _ _ _ _ _ ([]) 0 (LG.nil) (by decide) _ _ _ (cL.nil _ _) (gP bQ.2)) x_13 rfl rfl) Z<|Y<|aL<|aM Z<|lf 2 py Z<|aj ac Z<|lf 3 lO Z<|aj ac rfl ?_;refine ab (bF func112 (lU _ _ _ _ _ _ _ _ _ _ _ _ _ _ (bR [] 4 0 h.ay) 1 (LG.nil.add (gP bQ.2)) (by decide) _ _ _ x_15 (gP bQ.1)) x_13 rfl rfl) Z<|lT [0,5] [0,1,2,3,4,2003,2005] ?_;refine Y ?_;refine iQ 1 rfl ?_;refine aL<|aM Z<|lf 1 nO Z<|aj ac Z<|lf 3 lO Z<|aj ac Z<|lq (rd (x:=U _ _) (il rfl rfl (ce x_6)) rfl)<|lf 4 pO Z<|aj ac rfl ?_;refine eo rfl ⟨rfl,ce x_6⟩ ?_;refine ab (bF func112 (lU _ _ _ _ _ _ _ _ _ _ _ _ _ _ (bR (bR [] 4 0 h.ay) 6 h.to h.af) 2 ((LG.nil.add (gP bQ.2)).add (gP bQ.1)) (by decide) _ _ _ (((cL.nil _ _).add (.inl (by decide))).add (.inl (by decide))) (cJ.2 x_47)) x_13 rfl rfl) Z<|lN ?_;rw[DZ hf,V];trivial
 intro V;refine aS<|aG 12 []<|tq 0 (cG Z)<|tq 1 (rc Z)<|tq 2 (rf 2 fH Z)<|tq 3 (rd (x:=U _ _) (dT Z ac Z Z Z (dk hc) Z) Z)<|tq 4 (rf 3 lO Z)<|tq 5 (aZ ac Z)<|yq 6 (rf 4 pO Z)<|yq 7 (aZ ac Z) ?_;refine yq 8 (iC rfl ⟨rfl,ce x_6⟩) ?_;refine yq 9 (iC rfl ⟨rfl,ce x_6⟩)<|yq 10 (rc rfl)<|yq 11 (rf 2 fH rfl)<|yl rfl (zQ 1 [.v (.int .i64 (c.loc+(h.af+h.ay)))] ca cb rfl (dk hc))<|gT ?_;refine AW.obj 1 (pz u (x.ag.set a { c with loc:=c.loc+(h.af+h.ay) })) (Eq.trans (b:=AO.ai ⟨159,some u⟩ 7 ((ah aX (x.ag)).set a ((aX { c with loc:=c.loc+(h.af+h.ay) }).map PV.v))) rfl (congrArg (AO.ai ⟨159,some u⟩ 7) lB)) ?_;refine aS<|aG 9 []<|tq 0 (cG Z)<|tq 1 (rc Z)<|tq 2 (rf 3 ic Z)<|tq 3 (rd (x:=U _ _) (dT Z ac Z Z Z (dk (jy hd bO _)) Z) Z)<|yq 4 (rf 3 lO Z)<|yq 5 (aZ ac Z) ?_;refine yq 6 (iC rfl ⟨rfl,ce x_6⟩)<|gX [0,5,102,108] [0,1,2,3,4,2003,2005] ?_;refine yq 7 (rc Z)<|yq 8 (rf 3 ic Z)<|yl Z (zQ 1 [.v (.int .i64 (d.aC+h.af))] ca cb Z (dk (jy hd bO _)))<|gT ?_;refine AW.obj 1 (pz u (cC (cC x.ag h.fI fun c=>{ c with loc:=c.loc+(h.af+h.ay) }) h.to fun c=>{ c with aC:=c.aC+h.af })) (Eq.trans (b:=AO.ai ⟨159,some u⟩ 7 ((ah aX (x.ag.set a { c with loc:=c.loc+(h.af+h.ay) })).set b ((aX { d with aC:=d.aC+h.af }).map PV.v))) rfl (congrArg (AO.ai ⟨159,some u⟩ 7) (lB.trans (congrArg (ah aX) (px fi.ids hc hd pU pV kN (fun c=>{ c with loc:=c.loc+(h.af+h.ay) }) (fun d=>{ d with aC:=d.aC+h.af }) (fun _=>rfl)))))) ?_;refine aL<|aM Z<|lf 1 nO Z<|aj ac Z<|lf 3 lO Z<|aj ac Z<|lf 4 pO Z<|aj ac Z ?_;refine eo rfl ⟨rfl,ce x_6⟩ ?_;refine ab (bF func112 (lU _ _ _ _ _ _ _ _ _ _ _ _ _ _ ([]) 0 (LG.nil) (by decide) _ _ _ (cL.nil _ _) (cJ.2 x_47)) x_13 rfl rfl) Z<|Y ?_;refine iQ 1 rfl ?_;refine aL<|aM Z<|lf 1 nO Z<|aj ac Z<|lf 3 lO Z<|aj ac Z<|lq (rd (x:=U _ _) (il rfl rfl (ce x_6)) rfl)<|lf 4 pO Z<|aj ac rfl ?_;refine eo rfl ⟨rfl,ce x_6⟩ ?_;refine ab (bF func112 (lU _ _ _ _ _ _ _ _ _ _ _ _ _ _ (bR [] 6 h.fI (h.af+h.ay)) 1 (LG.nil.add (cJ.2 x_47)) (by decide) _ _ _ x_15 (cJ.2 x_47)) x_13 rfl rfl) Z<|lT [] [0,1,2,3,4,2003,2005] ?_;refine lN ?_;rw[DZ hf,V];trivial
theorem Z3(g u:Value)(x:aw)(e:aV)(fi:sO x)(es:m8 e)(bO:e.ch≠e.to):GC prog 119 [.ptr 0 0 0,ju e] (sT g u x [] 0) (.au []) (yp g (sS x e)):=by
 have sm:=fi.sm;have hm:x.ag.length<=1000000000:=by have:=sm.lc;omega
 have mG:x.an.length<=1000000000:=by have:=sm.lh;omega
 have lr:x.aq.length<=1000000000:=by have:=sm.li;omega
 refine GC.intro (rs:=[]) func119 rfl ntmps119 x_7 trivial ?_;intro L O w0;refine sL<|ab (zX 2003 Z) Z<|Y<|aS<|aG 8 []<|tq 0 (cG Z)<|tq 1 (cG Z)<|tq 2 (rc Z)<|tq 3 (rf 0 dR Z)<|tq 4 (dw (.agg [U _ _,U _ _,U _ _,.own _,.own _,.own _]) cu Z)<|yq 5 (rf 1 gE Z)<|yq 6 (aZ ac Z)<|cm 7 Z (zL func213 (KP x _ mG lr) Z) ?_;refine yl rfl (et func211 (fJ _ _ _ _ _ _ _ _ _ _ _ _ _ _ _ _ _ _ _ ) x_4 rfl rfl)<|gA<|aM Z<|lf 2 dn Z<|aj ac rfl ?_;rcases jt x.ag e.ch with⟨hi,ho⟩|⟨i,c,hi,hc,ho,hid⟩
 ·skip;refine ab (zC [(0,0),(1,1),(2,2),(3,3),(4,4),(2017,2017)] [2,3,4,2017] [0,1] func115 (wJ _ _ x _ _ _ hm hi) x_4 rfl rfl) Z<|lT [0,3,20] [0,1,2,3,4,2003,2017] ?_;refine lC Z<|nA<|aM Z<|lf 3 fK Z<|aj ac Z ?_;rcases jt x.ag e.to with⟨hj,hp⟩|⟨j,d,hj,hd,hp,lz⟩
  ·skip;refine ab (zC [(0,0),(1,1),(2,2),(3,3),(4,4),(2017,2018)] [2,3,4,2018] [0,1] func115 (wJ _ _ x _ _ _ hm hj) x_4 rfl rfl) Z<|lC Z<|nA<|aM Z<|aM Z<|lc Z<|lf 0 dR Z<|lf 5 gn Z<|iO ii Z<|ba j7 Z<|ak rfl ?_;refine ab (et func211 (fJ _ _ _ _ _ _ _ _ _ _ _ _ _ _ _ _ _ _ _ ) x_4 rfl rfl) Z<|lT [0,3,4,5] [0,1,2,3,4,2003,2017,2018] ?_;refine nA<|lf 4 bN Z<|aj ac Z<|lf 5 fC Z<|aj ac Z<|ab (zL func215 (uM _ _) Z) Z<|cT (.au [U _ _,vB _]) Z<|dE Z<|eU Z<|ao Z<|bv Z<|nA<|aM Z<|aQ Z<|bX Z ?_;refine ab (et func211 (fJ _ _ _ _ _ _ _ _ _ _ _ _ _ _ _ _ _ _ _ ) x_4 rfl rfl) Z<|lT [0,3,4,5,6] [0,1,2,3,4,2003,2017,2018] ?_;refine nA<|aM Z<|aM Z<|lc Z<|lf 2 fH Z<|aj ac Z<|ae Z<|ak Z ?_;refine ab (et func211 (fJ _ _ _ _ _ _ _ _ _ _ _ _ _ _ _ _ _ _ _ ) x_4 rfl rfl) Z<|Y<|aS<|aG 8 []<|tq 0 (cG rfl)<|tq 1 (cG rfl)<|tq 2 (rc rfl)<|tq 3 (rf 3 ic rfl)<|tq 4 (aZ ac rfl)<|yq 5 (rf 4 bN rfl)<|yq 6 (aZ ac rfl)<|yq 7 (dt rfl) ?_;refine yl rfl (et func211 (fJ _ _ _ _ _ _ _ _ _ _ _ _ _ _ _ _ _ _ _ ) x_4 rfl rfl)<|gT ?_;refine AW.obj 0 (cN g x.tick x.next x.aA (fL x e)) ((Eq.trans (b:=cN g x.tick x.next x.aA _) rfl (congrArg (cN g x.tick x.next x.aA) (by unfold fL kv;rw[j9 hj,j9 hi,ho,hp,ap])))) ?_;refine aS<|aS ?_;have hz:fL x e≠0:=by
    unfold fL kv;rw[j9 hj,j9 hi];exact dI (dI (dI (dI (mp (by decide)))))
   refine aL<|aM Z<|lc Z<|lf 7 mK Z<|aj ac Z<|ak Z<|bJ 67 true rfl (by rw[decide_eq_false hz];rfl)<|Y<|aY rfl ?_;refine iQ 1 rfl ?_;refine aR<|rT ?_;rw[od hz];trivial
  have ck:=sm.ag d (dB hd);refine ab (et func115 (rP _ _ x _ _ _ hm _ _ hj hd) x_4 rfl rfl) Z<|lT [0,3,4,24] [0,1,2,3,4,2003,2017] ?_;refine lC Z<|nA<|aM Z<|aM Z<|lc Z<|lf 0 dR Z<|lf 5 gn Z<|iO ii Z<|ba j7 Z<|ak Z ?_;refine ab (et func211 (fJ _ _ _ _ _ _ _ _ _ _ _ _ _ _ _ _ _ _ _ ) x_4 rfl rfl) Z<|nA<|lf 4 bN Z<|aj ac Z<|lf 5 fC Z<|aj ac Z<|ab (zL func215 (uM _ _) rfl) Z<|lT [0,3,4,5,39] [0,1,2,3,4,2003,2017] ?_;refine cT (.au [U _ _,vB _]) Z<|dE Z<|eU Z<|ao Z<|bv Z<|nA<|aM Z<|aQ Z<|bX Z ?_;refine ab (et func211 (fJ _ _ _ _ _ _ _ _ _ _ _ _ _ _ _ _ _ _ _ ) x_4 rfl rfl) Z<|nA<|aM Z<|aM Z<|lc Z<|lf 2 fH Z<|aj ac Z<|ae Z<|ak rfl ?_;refine ab (et func211 (fJ _ _ _ _ _ _ _ _ _ _ _ _ _ _ _ _ _ _ _ ) x_4 rfl rfl) Z<|lT [0,3,4,5,6] [0,1,2,3,4,2003,2017] ?_;refine Y<|aS<|aG 8 []<|tq 0 (cG Z)<|tq 1 (cG Z)<|tq 2 (rc Z)<|tq 3 (rf 3 ic Z)<|tq 4 (rd (x:=U _ _) (dT Z ac Z Z Z (dk hd) Z) Z)<|yq 5 (rf 4 bN Z)<|yq 6 (aZ ac Z)<|yq 7 (dt Z) ?_;refine yl rfl (et func211 (fJ _ _ _ _ _ _ _ _ _ _ _ _ _ _ _ _ _ _ _ ) x_4 rfl rfl)<|gT ?_;refine AW.obj 0 (cN g x.tick x.next x.aA (fL x e)) ((Eq.trans (b:=cN g x.tick x.next x.aA _) rfl (congrArg (cN g x.tick x.next x.aA) (by unfold fL kv;rw[ka hj,j9 hi,ho,hp,ap])))) ?_;refine aS<|aS ?_;have hz:fL x e≠0:=by
   unfold fL kv;rw[ka hj,j9 hi];exact dI (dI (dI (dI (mp (by decide)))))
  refine aL<|aM Z<|lc Z<|lf 7 mK Z<|aj ac Z<|ak Z<|bJ 67 true rfl (by rw[decide_eq_false hz];rfl)<|Y<|aY rfl ?_;refine iQ 1 rfl ?_;refine aR<|rT ?_;rw[od hz];trivial
 have bC:=sm.ag c (dB hc);refine ab (et func115 (rP _ _ x _ _ _ hm _ _ hi hc) x_4 rfl rfl) Z<|lT [0,3,20] [0,1,2,3,4,2003] ?_;refine lC Z<|nA<|aM Z<|lf 3 fK Z<|aj ac Z ?_;rcases jt x.ag e.to with⟨hj,hp⟩|⟨j,d,hj,hd,hp,lz⟩
 ·skip;refine ab (zC [(0,0),(1,1),(2,2),(3,3),(4,4),(2017,2018)] [2,3,4,2018] [0,1] func115 (wJ _ _ x _ _ _ hm hj) x_4 rfl rfl) Z<|lC Z<|nA<|aM Z<|aM Z<|lc Z<|lf 0 dR Z<|lf 5 gn Z<|iO ii Z<|ba j7 Z<|ak rfl ?_;refine ab (et func211 (fJ _ _ _ _ _ _ _ _ _ _ _ _ _ _ _ _ _ _ _ ) x_4 rfl rfl) Z<|lT [0,3,4,5] [0,1,2,3,4,2003,2018] ?_;refine nA<|lf 4 bN Z<|aj ac Z<|lf 5 fC Z<|aj ac Z<|ab (zL func215 (uM _ _) Z) Z<|cT (.au [U _ _,vB _]) Z<|dE Z<|eU Z<|ao Z<|bv Z<|nA<|aM Z<|aQ Z<|bX Z ?_;refine ab (et func211 (fJ _ _ _ _ _ _ _ _ _ _ _ _ _ _ _ _ _ _ _ ) x_4 rfl rfl) Z<|lT [0,3,4,5,6] [0,1,2,3,4,2003,2018] ?_;refine nA<|aM Z<|aM Z<|lc Z<|lf 2 fH Z<|lq (rd (x:=U _ _) (dT Z ac Z Z Z (dk hc) Z) Z)<|ae Z<|ak Z ?_;refine ab (et func211 (fJ _ _ _ _ _ _ _ _ _ _ _ _ _ _ _ _ _ _ _ ) x_4 rfl rfl) Z<|Y<|aS<|aG 8 []<|tq 0 (cG rfl)<|tq 1 (cG rfl)<|tq 2 (rc rfl)<|tq 3 (rf 3 ic rfl)<|tq 4 (aZ ac rfl)<|yq 5 (rf 4 bN rfl)<|yq 6 (aZ ac rfl)<|yq 7 (dt rfl) ?_;refine yl rfl (et func211 (fJ _ _ _ _ _ _ _ _ _ _ _ _ _ _ _ _ _ _ _ ) x_4 rfl rfl)<|gT ?_;refine AW.obj 0 (cN g x.tick x.next x.aA (fL x e)) ((Eq.trans (b:=cN g x.tick x.next x.aA _) rfl (congrArg (cN g x.tick x.next x.aA) (by unfold fL kv;rw[j9 hj,ka hi,ho,hp,ap])))) ?_;refine aS<|aS ?_;have hz:fL x e≠0:=by
   unfold fL kv;rw[j9 hj,ka hi];exact dI (dI (dI (dI (mp (by decide)))))
  refine aL<|aM Z<|lc Z<|lf 7 mK Z<|aj ac Z<|ak Z<|bJ 67 true rfl (by rw[decide_eq_false hz];rfl)<|Y<|aY rfl ?_;refine iQ 1 rfl ?_;refine aR<|rT ?_;rw[od hz];trivial
 have ck:=sm.ag d (dB hd);refine ab (et func115 (rP _ _ x _ _ _ hm _ _ hj hd) x_4 rfl rfl) Z<|lT [0,3,4,24] [0,1,2,3,4,2003] ?_;refine lC Z<|nA<|aM Z<|aM Z<|lc Z<|lf 0 dR Z<|lf 5 gn Z<|iO ii Z<|ba j7 Z<|ak Z ?_;refine ab (et func211 (fJ _ _ _ _ _ _ _ _ _ _ _ _ _ _ _ _ _ _ _ ) x_4 rfl rfl) Z<|nA<|lf 4 bN Z<|aj ac Z<|lf 5 fC Z<|aj ac Z<|ab (zL func215 (uM _ _) rfl) Z<|lT [0,3,4,5,39] [0,1,2,3,4,2003] ?_;refine cT (.au [U _ _,vB _]) Z<|dE Z<|eU Z<|ao Z<|bv Z<|nA<|aM Z<|aQ Z<|bX Z ?_;refine ab (et func211 (fJ _ _ _ _ _ _ _ _ _ _ _ _ _ _ _ _ _ _ _ ) x_4 rfl rfl) Z<|nA<|aM Z<|aM Z<|lc Z<|lf 2 fH Z<|lq (rd (x:=U _ _) (dT rfl ac rfl rfl rfl (dk hc) rfl) rfl)<|ae Z<|ak rfl ?_;refine ab (et func211 (fJ _ _ _ _ _ _ _ _ _ _ _ _ _ _ _ _ _ _ _ ) x_4 rfl rfl) Z<|lT [0,3,4,5,6] [0,1,2,3,4,2003] ?_;refine Y<|aS<|aG 8 []<|tq 0 (cG Z)<|tq 1 (cG Z)<|tq 2 (rc Z)<|tq 3 (rf 3 ic Z)<|tq 4 (rd (x:=U _ _) (dT Z ac Z Z Z (dk hd) Z) Z)<|yq 5 (rf 4 bN Z)<|yq 6 (aZ ac Z)<|yq 7 (dt Z) ?_;refine yl rfl (et func211 (fJ _ _ _ _ _ _ _ _ _ _ _ _ _ _ _ _ _ _ _ ) x_4 rfl rfl)<|gT ?_;refine AW.obj 0 (cN g x.tick x.next x.aA (fL x e)) ((Eq.trans (b:=cN g x.tick x.next x.aA _) rfl (congrArg (cN g x.tick x.next x.aA) (by grind[fL,kv,ka,ap])))) ?_;refine aS<|sL<|aM Z<|lc Z<|lf 7 mK Z<|aj ac Z<|ak Z<|Y ?_;refine AW.cond rfl ?_ ?_
 ·intro V;refine iQ 1 rfl ?_;refine aR<|rT ?_;have hz:fL x e≠0:=by simpa using V
  rw[od hz];trivial
 intro V;refine aK<|gT<|aS<|aG 22 [3]<|tq 0 (cG Z)<|tq 1 (cG Z)<|tq 2 (rc Z)<|tq 3 (rf 0 dR Z)<|tq 4 (rf 5 gn Z)<|tq 5 (gC ii Z)<|tq 6 (rf 1 gE Z)<|tq 7 (aZ ac Z)<|tq 8 (rf 2 dn Z)<|tq 9 (aZ ac Z)<|tq 10 (rf 3 fK Z)<|tq 11 (aZ ac Z)<|tq 12 (rf 4 bN Z)<|tq 13 (aZ ac Z)<|yq 14 (rf 5 fC Z)<|yq 15 (aZ ac Z)<|gX [0,3,4,5,6,68,73,75,77,79,81,83] [0,1,2,3,4,2003] ?_;refine yq 16 (rd (x:=.agg [U _ _,U _ _,U _ _,U _ _,U _ _]) (cP rfl F8 rfl rfl rfl) rfl) ?_;refine cm 17 rfl (zS 2085 (ah iX [⟨e.key,e.ch,e.to,e.af,e.ay⟩]) iI jO rfl)<|cm 18 rfl (zP 3 iI jO wI rfl x_14 x_69)<|yq 19 (rc rfl)<|yq 20 (rf 0 dR rfl)<|yq 21 (rf 5 gn rfl)<|yl rfl (zB 0 yh yk rfl)<|gT ?_;refine AW.obj 3 (d7 (x.aq++[⟨e.key,e.ch,e.to,e.af,e.ay⟩])) ((congrArg (AO.ai 220 5) (fx iX _ [_]).symm)) ?_;refine sL<|aM Z<|lc Z<|lf 2 fH Z<|lq (rd (x:=U _ _) (dT Z ac Z Z Z (dk hc) Z) Z)<|ae Z ?_;refine eo rfl ⟨rfl,ce (by grind[lQ,bk,i64])⟩<|lc Z<|lf 2 fH Z<|ab (zQ 1 [.v (.int .i64 (c.loc-eM e.af e.ay))] ca cb rfl (dk hc)) Z<|lT [0,3,5,6] [0,1,2,3,4,2003,2085] ?_;refine Y ?_;refine AW.obj 1 (pz u (x.ag.set i { c with loc:=c.loc-eM e.af e.ay })) (Eq.trans (b:=AO.ai ⟨159,some u⟩ 7 ((ah aX (x.ag)).set i ((aX { c with loc:=c.loc-eM e.af e.ay }).map PV.v))) rfl (congrArg (AO.ai ⟨159,some u⟩ 7) lB)) ?_;refine aS<|aG 9 []<|tq 0 (cG rfl)<|tq 1 (rc rfl)<|tq 2 (rf 3 ic rfl)<|tq 3 (rd (x:=U _ _) (dT rfl ac rfl rfl rfl (dk (jy hd (tP hc hd (by omega)) _)) rfl) rfl)<|yq 4 (rf 4 bN rfl)<|yq 5 (aZ ac rfl) ?_;refine yq 6 (iC rfl ⟨rfl,ce (by have V:=ck.2.1;have h2:=es.af;grind[bk,i64])⟩)<|yq 7 (rc rfl)<|yq 8 (rf 3 ic rfl)<|yl rfl (zQ 1 [.v (.int .i64 (d.aC-e.af))] ca cb rfl (dk (jy hd (tP hc hd (by omega)) _)))<|gT ?_;refine AW.obj 1 (pz u (cC (cC x.ag e.ch fun c=>{ c with loc:=c.loc-eM e.af e.ay }) e.to fun c=>{ c with aC:=c.aC-e.af })) (Eq.trans (b:=AO.ai ⟨159,some u⟩ 7 ((ah aX (x.ag.set i { c with loc:=c.loc-eM e.af e.ay })).set j ((aX { d with aC:=d.aC-e.af }).map PV.v))) rfl (congrArg (AO.ai ⟨159,some u⟩ 7) (lB.trans (congrArg (ah aX) (px fi.ids hc hd hid lz bO (fun c=>{ c with loc:=c.loc-eM e.af e.ay }) (fun d=>{ d with aC:=d.aC-e.af }) (fun _=>rfl)))))) ?_;refine iQ 1 rfl ?_;refine sL<|aM Z<|lf 2 dn Z<|aj ac Z<|ae Z<|lq (rd (x:=U _ _) (il rfl rfl (ce (by grind[lQ,bk,i64]))) rfl) ?_;refine ab (bF func112 (lU _ _ _ _ _ _ _ _ _ _ _ _ _ _ ([]) 0 (LG.nil) (by decide) _ _ _ (cL.nil _ _) (jM (lQ _ _))) x_13 rfl rfl) Z<|lT [0,3,6] [0,1,2,3,4,2003,2085] ?_;refine Y<|aL<|aM Z<|lf 2 dn Z<|aj ac Z<|ae Z ?_;refine ab (bF func112 (lU _ _ _ _ _ _ _ _ _ _ _ _ _ _ (bR [] 6 e.ch (-eM e.af e.ay)) 1 (LG.nil.add (jM (lQ _ _))) (by decide) _ _ _ x_15 (gP (lQ _ _))) x_13 rfl rfl) Z<|lN ?_;have iP:fL x e=0:=by simpa using V
 rw[uZ iP];unfold oH;refine iZ ?_ ⟨(Eq.trans (b:=cN g x.tick x.next x.aA _) rfl (congrArg (cN g x.tick x.next x.aA) (iP))),rfl,rfl,rfl,rfl,trivial⟩;rfl

theorem I1{x:aw}(h:wy x=true){k:Nat}(hk:k<x.ag.length):pS x.ag[k]=true/\su x.ag k=true/\ss x x.ag[k]=true:=by
 simp_all[wy,n5]
theorem I0{l:List be}(h:∀k,k<l.length->su l k=true):∀(j i:Nat) (hj:j<l.length) (hi:i<j),(l[i]'(by omega)).id<l[j].id
 |0,i,hj,hi=>by omega
 |j+1,i,hj,hi=>by
  have V:=h (j+1) hj;unfold su at V;dsimp only at V;rw[List.getElem?_eq_getElem (by omega:j<l.length),List.getElem?_eq_getElem hj]at V;have h2:(l[j]'(by omega)).id<l[j+1].id:=by simpa using V
  rcases Nat.lt_or_ge i j with q|q
  ·have:=I0 h j i (by omega) q;omega
  have:i=j:=by omega
  subst this;exact h2
theorem OT{ks:List Int}(h:wj ks=true):ks.Pairwise (·≠·):=by
 rw[List.pairwise_iff_getElem];intro i j hi hj gF e;unfold wj at h;have V:=List.all_eq_true.1 h j (by simpa using hj);unfold kV at V;simp only[Bool.and_eq_true,Bool.not_eq_true']at V;have e1:ks.getD j 0=ks[j]:=by simp[List.getD_eq_getElem?_getD,List.getElem?_eq_getElem hj]
 rw[e1]at V;have h2:wm (ks.take j) ks[j]=true:=Jn (k:=i) x_80 (by rw[List.getElem_take];exact e);grind
theorem xO{x:aw}(h:eG x=true):bb x.tick=true/\bb x.aA=true/\aI x.next 1 1125899906842624=true/\x.ag.length<=20/\kW x=true/\wy x=true:=by
 simp_all[eG]
theorem CV{x:aw}(h:kW x=true):x.an.length<=60/\x.aq.length<=20/\(∀h∈x.an,qz x.ag h=true)/\(∀h∈x.aq,qA x.ag h=true)/\wj (dN x)=true:=by
 simp_all[kW]
theorem Fq{x:aw}(h:wy x=true){c:be}(hc:c∈x.ag):pS c=true/\ss x c=true:=by
 obtain⟨k,hk,rfl⟩:=List.getElem_of_mem hc;grind[I1]
theorem BC{l:List be}{a b:Int}(h:two l a b=true):a≠b/\0<=eS l a/\0<=eS l b:=by
 simp_all[two]
theorem IZ{c:be}(h:pS c=true):(1<=c.id/\c.id<=99)/\(0<=c.loc/\c.loc<=1125899906842624)/\(0<=c.aC/\c.aC<=1125899906842624)/\(0<=c.base/\c.base<=1125899906842624)/\(0<=c.br/\c.br<=1000000)/\(-100<=c.cM/\c.cM<=100)/\(0<=c.size/\c.size<=1125899906842624):=by
 simp_all[pS,gf,xQ,cY,cJ]
theorem CT{x:aw}(h:eG x=true):sO x:=by
 obtain⟨V,h2,h3,h4,h5,h6⟩:=xO h;obtain⟨p1,p2,p3,p4,p5⟩:=CV h5;have pD:=cY.1 V;have Cr:=cY.1 h2;have h3':=cJ.1 h3;have hp:=OT p5;unfold dN at hp;rw[List.pairwise_append]at hp;refine⟨⟨by grind[bk],by grind[bk],by grind[bk],fun c hc=>?_,fun y hy=>?_,fun y hy=>?_,h4,p1,p2⟩,?_,?_,?_,fun y hy=>?_,fun y hy=>?_⟩
 ·have:=IZ (Fq h6 hc).1;grind[bk]
 ·grind[xR,cY,bk]
 ·grind[wn,cY,bk]
 ·rw[List.pairwise_iff_getElem];intro i j hi hj gF;have:=I0 (fun k hk=>(I1 h6 hk).2.1) j i hj gF;omega
 ·grind
 ·grind
 ·have:=BC (xR.1 (p3 y hy)).2.2.2.2;omega
 have:=BC (wn.1 (p4 y hy)).2.2.2;omega
theorem ED{e:aV}(h:co e=true):m8 e/\0<=e.af/\0<=e.ay:=by
 have:=uu h;rw[cY,cY]at this;exact⟨⟨by grind[bk],by grind[bk]⟩,by omega,by omega⟩
theorem AI{e:aV}(h:co e=true)(hk:e.kind=5\/e.kind=9):e.ch≠e.to:=by
 simp_all[co,hT]
theorem y8{e:aV}(h:co e=true):1<=e.kind/\e.kind<=11:=by
 rcases Classical.em (1<=e.kind/\e.kind<=11)with q|q;all_goals grind[P2]
theorem De{x:aw}(h:eG x=true):(∀h∈x.an,h.c9<=h.cW)/\∀h∈x.aq,0<=h.af/\0<=h.ay:=by
 obtain⟨_,_,_,_,h5,_⟩:=xO h;obtain⟨_,_,p3,p4,_⟩:=CV h5;grind[xR,wn,cY]
theorem EH{x:aw}(h:eG x=true):∀y∈x.aq,0<=y.af/\0<=y.ay/\y.af+y.ay<=1125899906842624:=fun y hy=>by
 obtain⟨V,h2,h3,h4,h5,h6⟩:=xO h;obtain⟨p1,p2,p3,p4,p5⟩:=CV h5;have ha:=(De h).2 y hy;refine⟨ha.1,ha.2,?_⟩;obtain⟨i,c,q1,q2,q3,q4⟩:=p9 (BC (wn.1 (p4 y hy)).2.2.2).2.1;obtain⟨c1,c2⟩:=Fq h6 (dB q2);have c1:=IZ c1;unfold ss at c2;rw[beq_iff_eq]at c2;have sm:=Jr h5;have s1:=Dc sm c.id;have t1:eR c.id y<=bG (eR c.id) x.aq:=by
  obtain⟨k,hk,rfl⟩:=List.getElem_of_mem hy;have e1:bG (eR c.id) x.aq=bG (eR c.id) (x.aq.take (k+1))+bG (eR c.id) (x.aq.drop (k+1)):=by
   unfold bG;rw[<-List.sum_append,<-List.map_append,List.take_append_drop]
  have e2:=oJ (eR c.id) x.aq hk;have e3:=P3 (eR c.id) 2251799813685248 (by decide) x.aq (sm.eR c.id) k;have e4:=sd (eR c.id) 2251799813685248 (by decide) (x.aq.drop (k+1)) (fun z hz=>sm.eR c.id z (List.mem_of_mem_drop hz));omega
 have t2:0<=bG (dK c.id) x.an:=(sd (dK c.id) 1125899906842624 (by decide) x.an (sm.dK c.id)).1;have t3:eR c.id y=y.af+y.ay:=by unfold eR;rw[if_pos q4.symm]
 grind[fB]
def zb(x:aw)(e:aV):WR:=⟨{ x with aA:=x.aA+e.af },bR (bR [] 1 0 e.af) 2 0 (-e.af),0⟩
def ou(x:aw)(e:aV):WR:=if eS x.ag e.ch=-1 then ⟨x,[],6⟩else ⟨{ x with ag:=cC x.ag e.ch fun c=>{ c with base:=e.af,br:=e.ay } },[],0⟩
def bz(x:aw)(e:aV):WR:=
 if e.kind=1 then zb x e else if e.kind=2 then sJ x e else if e.kind=3 then rH x e else if e.kind=4 then ou x e else if e.kind=5 then sP x e
 else if e.kind=6\/e.kind=7 then mR x e else if e.kind=8 then p' x else if e.kind=9 then sS x e else nm x e
def dG(x:aw)(e:aV):Int:=if (eG x&&co e)=true then (if d8 x e=true then 2 else (bz x e).c)else 1
theorem FF{x:aw}{e:aV}(h:(eG x&&co e)=false):dG x e=1:=if_neg (by simp[h])
theorem Z7{x:aw}{e:aV}(h:(eG x&&co e)=true)(h2:d8 x e=true):dG x e=2:=by simp_all[dG]
theorem yA{x:aw}{e:aV}(h:(eG x&&co e)=true)(h2:d8 x e=false):dG x e=(bz x e).c:=by simp_all[dG]
theorem xA(x:aw)(e:aV):(bz x e).b.next=x.next:=by
 unfold bz;repeat' split
 ·rfl
 ·unfold sJ;split<;>rfl
 ·unfold rH;split<;>rfl
 ·unfold ou;split<;>rfl
 ·unfold sP;split<;>rfl
 ·unfold mR;split<;>(try unfold pN;split)<;>rfl
 ·rfl
 ·unfold sS;split<;>rfl
 grind[nm,mN]
abbrev xX:AV:=.agg [int 0,int 0,int 0,.p (.v (.slice none 0 0)),.p (.v (.slice none 0 0)),.p (.v (.slice none 0 0))]
abbrev tC:AV:=.agg [int 0,.p (.v (.slice none 0 0))]
abbrev Bh(t n w:Int):AV:=.agg [int t,int n,int w,.own 1,.own 2,.own 3]
abbrev Jz(b:aw):List (Nat×AO):=[(1,.ai 159 7 (ah aX b.ag)),(2,df b.an),(3,d7 b.aq)]
abbrev JA(b:aw)(l:List aO):List (Nat×AO):=[(1,.ai 159 7 (ah aX b.ag)),(2,df b.an),(3,d7 b.aq),(4,dc l)]
def FG(x:aw)(e:aV):AV->List (Nat×AO)->Prop:=fun y bd=>
 (dG x e≠0/\y=.au [xX,tC,int (dG x e)]/\bd=[])\/
 (dG x e=0/\(bz x e).l=[]/\y=.au [Bh (bz x e).b.tick (bz x e).b.next (bz x e).b.aA,tC,int 0]/\bd=Jz (bz x e).b)\/
 (dG x e=0/\(bz x e).l≠[]/\y=.au [Bh (bz x e).b.tick ((bz x e).b.next+1) (bz x e).b.aA,.agg [int x.next,.own 4],int 0]/\bd=JA (bz x e).b (bz x e).l)
theorem Z8{rows:List (List PV)}{i:Nat}{R:List PV}(h:i<rows.length):(rows.set i R)[i]? = some R:=List.getElem?_set_self h
theorem EE{x:aw}{e:aV}(h:d8 x e=false):x.next≠1125899906842624:=fun q=>by simp_all[d8]
theorem yY{x:aw}{e:aV}(h:e.kind=1):zb x e=bz x e:=by grind[bz]
theorem xy{x:aw}{e:aV}(h:e.kind=2):sJ x e=bz x e:=by grind[bz]
theorem yZ{x:aw}{e:aV}(h:e.kind=3):rH x e=bz x e:=by grind[bz]
theorem vK{x:aw}{e:aV}(h:e.kind=4):ou x e=bz x e:=by grind[bz]
theorem xz{x:aw}{e:aV}(h:e.kind=5):sP x e=bz x e:=by grind[bz]
theorem uv{x:aw}{e:aV}(h:e.kind=6\/e.kind=7):mR x e=bz x e:=by grind[bz]
theorem y7{x:aw}{e:aV}(h:e.kind=8):p' x=bz x e:=by grind[bz]
theorem t8{x:aw}{e:aV}(h:e.kind=9):sS x e=bz x e:=by grind[bz]
theorem ua{x:aw}{e:aV}(h:10<=e.kind):nm x e=bz x e:=by
 unfold bz;grind
theorem P4{x:aw}{e:aV}(h:eS x.ag e.ch=-1):ou x e=⟨x,[],6⟩:=if_pos h
theorem P5{x:aw}{e:aV}{i:Nat}(h:eS x.ag e.ch=(i:Int)):ou x e=⟨{ x with ag:=cC x.ag e.ch fun c=>{ c with base:=e.af,br:=e.ay } },[],0⟩:=if_neg (by omega)
theorem x_5{p:Prop}(c:p:=by exact ⟨(),trivial,trivial,⟨(congrArg (fun r:WR=>cN gw r.b.tick r.b.next r.b.aA r.c) hw),(congrArg (fun r:WR=>AO.ai 159 7 (ah aX r.b.ag)) hw),(congrArg (fun r:WR=>df r.b.an) hw),(congrArg (fun r:WR=>d7 r.b.aq) hw),(congrArg (fun r:WR=>dc r.l) hw),trivial⟩,rfl,rfl⟩):p:=c
theorem x_49{p:Prop}(c:p:=by exact congrArg (fun r:WR=>AO.ai 159 7 (ah aX r.b.ag)) hw):p:=c
theorem x_72{p:Prop}(c:p:=by exact congrArg (fun r:WR=>df r.b.an) hw):p:=c
theorem x_73{p:Prop}(c:p:=by exact congrArg (fun r:WR=>d7 r.b.aq) hw):p:=c
theorem x_85{p:Prop}(c:p:=by exact congrArg (fun r:WR=>dc r.l) hw):p:=c
theorem x_133{p:Prop}(c:p:=by have:=sm.lc;have:=sm.lh;have:=sm.li;omega):p:=c
theorem Z9(x:aw)(e:aV)(hw:di x):GX prog 41 [cj x,ju e] [] (FG x e):=by
 refine GX.intro (rs:=[.cell 4 50 (some 6),.cell 5 92 (some 2),.tmp 6]) func41 rfl ntmps41 x_7 ⟨rfl,rfl,cu,rfl,rfl,ol,rfl,trivial⟩ ?_;intro L O w0;refine sL<|ab (zX 2002 Z) Z<|ab (zX 2003 Z) Z<|ab (zA 2004 mD Z) Z<|ab (zA 2005 pC Z) Z<|ao Z<|Y<|aS<|sL<|aP (.agg [U _ _,U _ _,U _ _,vL _ _ _,vL _ _ _,vL _ _ _]) cu Z<|ab (zL func101 (Do x hw) Z) Z<|bX Z<|aQ Z ?_;refine AL.bool (t:=13) rfl ?_ ?_
 ·intro V;refine aa Z<|aa Z<|aa Z<|aU Z<|Y<|aY Z<|sL<|lq (rd (x:=.agg [U _ _,U _ _,U _ _,vV _,vV _,vV _]) (cP Z s6 Z Z Z) Z)<|lq (rd (x:=.agg [U _ _,vV _]) (cP Z uA Z Z Z) Z)<|ab (zB 2004 eu ew Z) Z<|ab (zB 2005 na nb Z) Z<|lT [2,3,4,5,6] [2002,2003,2004,2005] ?_;refine ao Z<|Y<|aR<|rT ?_;have mS:(eG x&&co e)=false:=by simp_all
  have qC:=FF mS;refine fN (.au [xX,tC,int 1]) [] ?_ rfl trivial;exact .inl ⟨by omega,by rw[qC],rfl⟩
 intro V;refine aP (.agg [U _ _,U _ _,U _ _,U _ _,U _ _,U _ _,vB _]) dD Z<|ab (zL func110 (Ps e) Z) Z<|bX Z<|bj Z<|Y ?_;refine AW.cond rfl ?_ ?_
 ·intro h2;refine sL<|lq (rd (x:=.agg [U _ _,U _ _,U _ _,vV _,vV _,vV _]) (cP Z s6 Z Z Z) Z)<|lq (rd (x:=.agg [U _ _,vV _]) (cP Z uA Z Z Z) Z)<|ab (zB 2004 eu ew Z) Z<|ab (zB 2005 na nb Z) Z<|ao Z<|Y<|aR<|rT ?_;have mS:(eG x&&co e)=false:=by simp_all
  have qC:=FF mS;refine fN (.au [xX,tC,int 1]) [] ?_ rfl trivial;exact .inl ⟨by omega,by rw[qC],rfl⟩
 intro h2;refine aK<|gT<|aS<|sL<|aP (.agg [U _ _,U _ _,U _ _,vL _ _ _,vL _ _ _,vL _ _ _]) cu Z ?_;have mS:(eG x&&co e)=true:=by simp_all
 have jr:eG x=true:=by simp_all
 have uQ:co e=true:=by simp_all
 have fi:=CT jr;have sm:=fi.sm;obtain⟨es,zH,tL⟩:=ED uQ;have hm:x.ag.length<=1000000000:=by have:=sm.lc;omega
 obtain⟨Z',P6,JB,aaa,aab,aac⟩:=xO jr;have Gz:=cJ.1 JB;refine aP (.agg [U _ _,U _ _,U _ _,U _ _,U _ _,U _ _,vB _]) dD Z<|ab (zL func111 (Sh x e sm es) Z) Z<|Y ?_;refine AW.cond rfl ?_ ?_
 ·intro h3;refine sL<|lq (rd (x:=.agg [U _ _,U _ _,U _ _,vV _,vV _,vV _]) (cP Z s6 Z Z Z) Z)<|lq (rd (x:=.agg [U _ _,vV _]) (cP Z uA Z Z Z) Z)<|ab (zB 2004 eu ew Z) Z<|lT [2,3,4,5,6,24] [2002,2003,2004,2005] ?_;refine ab (zB 2005 na nb Z) Z<|ao Z<|Y<|aR<|rT ?_;have qC:=Z7 mS (by omega);refine fN (.au [xX,tC,int 2]) [] ?_ rfl trivial;exact .inl ⟨by omega,by rw[qC],rfl⟩
 intro h3;refine aK<|gA<|aP (.agg [U _ _,U _ _,U _ _,vL _ _ _,vL _ _ _,vL _ _ _]) cu Z<|ab (zC [(2005,1),(2009,2),(2013,3)] [1,2,3] [] func56 (KY x x_133) (trivial) rfl rfl) Z<|lq (rd (x:=.agg [U _ _,U _ _,U _ _,.own _,.own _,.own _,vV _,U _ _]) (cP rfl VJ rfl rfl rfl) rfl)<|ab (zX 0 rfl) Z<|lC Z<|Y ?_;refine AW.pi 4 0 6 167 3 rfl (by decide) rfl ?_;refine AW.tZ 0 rfl ?_;intro gw;refine AW.mU 1 rfl ?_;intro u;refine AW.obj 4 (dc []) rfl ?_;refine aJ [2,4,5,6,7] [2002,2003,2004,2005] (D:=Unit) (fun jd=>[]) (fun jd=>[(0,cN gw (bz x e).b.tick (bz x e).b.next (bz x e).b.aA (bz x e).c),(1,.ai 159 7 (ah aX (bz x e).b.ag)),(2,df (bz x e).b.an),(3,d7 (bz x e).b.aq),(4,dc (bz x e).l)]) (fun jd=>True) ?_ ?_
 ·refine sL<|lf 0 jz Z<|aj ac Z<|Y<|aB<|sL<|ak Z<|bv Z<|Y ?_;refine AW.cond rfl ?_ ?_
  ·intro h4;refine aS<|aG 11 []<|tq 0 (cG Z)<|tq 1 (rc Z)<|tq 2 (rf 0 dR Z)<|tq 3 (rf 2 iW Z)<|tq 4 (aZ ac Z)<|yq 5 (rf 4 bN Z)<|yq 6 (aZ ac Z) ?_;refine yq 7 (iC rfl ⟨rfl,ce (by have:=sm.aA;have:=es.af;grind[bk,i64])⟩)<|yq 8 (rc rfl)<|yq 9 (rf 0 dR rfl)<|yq 10 (rf 2 iW rfl)<|yl rfl (zB 0 ca cb rfl)<|gA<|aM Z<|lf 4 bN Z<|aj ac rfl ?_;refine ab (et func112 (lU _ _ _ _ _ _ _ _ _ _ _ _ _ _ ([]) 0 (LG.nil) (by decide) _ _ _ (cL.nil _ _) (gP es.af)) x_4 rfl rfl) Z<|lT [2,3,4,5,6,7] [0,1,2,3,4,2002,2003,2004,2005] ?_;refine Y ?_;refine iQ 1 rfl ?_;refine aL<|aM Z<|lf 4 bN Z<|aj ac Z<|lq (rd (x:=U _ _) (il rfl rfl (ce x_130)) rfl) ?_;refine ab (bF func112 (lU _ _ _ _ _ _ _ _ _ _ _ _ _ _ (bR [] 1 0 e.af) 1 (LG.nil.add (gP es.af)) (by decide) _ _ _ x_15 (jM es.af)) x_13 rfl rfl) Z<|lN<|gB<|gT ?_;have hw:zb x e=bz x e:=yY (by grind);refine x_5
  intro h4;refine sL<|ak Z<|bv Z<|Y ?_;refine AW.cond rfl ?_ ?_
  ·intro h5;refine aL<|aM Z<|aP (.agg [U _ _,U _ _,U _ _,U _ _,U _ _,U _ _,vB _]) dD Z ?_;refine ab (bF func113 (Sm _ _ x e sm es) x_13 rfl rfl) Z<|lN<|gB<|gT ?_;have hw:sJ x e=bz x e:=xy (by grind);refine x_5
  intro h5;refine sL<|ak Z<|bv Z<|Y ?_;refine AW.cond rfl ?_ ?_
  ·intro h6;refine aL<|aM Z<|aP (.agg [U _ _,U _ _,U _ _,U _ _,U _ _,U _ _,vB _]) dD Z ?_;refine ab (bF func114 (Z0 _ _ x e fi es tL) x_13 rfl rfl) Z<|lT [2,4,5,6,7] [0,1,2,3,4,2002,2003,2004,2005] ?_;refine lN<|gB<|gT ?_;have hw:rH x e=bz x e:=yZ (by grind);refine x_5
  intro h6;refine sL<|ak Z<|bv Z<|Y ?_;refine AW.cond rfl ?_ ?_
  ·intro h7;refine sL<|aM Z<|lf 2 dn Z<|aj ac Z ?_;rcases jt x.ag e.ch with⟨hi,ho⟩|⟨i,c,hi,hc,ho,hid⟩
   ·skip;refine ab (zC [(0,0),(1,1),(2,2),(3,3),(4,4),(2017,2017)] [2,3,4,2017] [0,1] func115 (wJ _ _ x _ _ _ hm hi) x_4 rfl rfl) Z<|lC Z<|Y ?_;refine iQ 1 rfl ?_;refine aG 11 [2017]<|tq 0 (cG Z)<|tq 1 (cG Z)<|tq 2 (rf 4 bN Z)<|tq 3 (aZ ac Z)<|tq 4 (rf 5 fC Z)<|tq 5 (aZ ac Z)<|yq 6 (rc Z)<|yq 7 (rf 4 nE Z)<|cm 8 Z (zB 2017 ca cb Z)<|gX [2,4,5,6,7,73,77] [0,1,2,3,4,2002,2003,2004,2005,2017] ?_;refine yq 9 (rc Z)<|yq 10 (rf 5 mH Z)<|yl Z (zB 2017 ca cb Z)<|gB<|gT ?_;have hw:ou x e=bz x e:=vK (by grind);rw[P4 hi]at hw;refine x_5
   have bC:=sm.ag c (dB hc);refine ab (et func115 (rP _ _ x _ _ _ hm _ _ hi hc) x_4 rfl rfl) Z<|lC Z<|Y ?_;refine iQ 1 rfl ?_;refine aG 11 [1]<|tq 0 (cG Z)<|tq 1 (cG Z)<|tq 2 (rf 4 bN Z)<|tq 3 (aZ ac Z)<|tq 4 (rf 5 fC Z)<|tq 5 (aZ ac Z)<|yq 6 (rc Z)<|yq 7 (rf 4 nE Z)<|cm 8 Z (zQ 1 [.v (.int .i64 e.af)] ca cb Z (dk hc))<|gX [2,4,5,6,7,73,77] [0,1,2,3,4,2002,2003,2004,2005] ?_;refine yq 9 (rc rfl)<|yq 10 (rf 5 mH rfl)<|yl rfl (zQ 1 [.v (.int .i64 e.ay)] ca cb rfl (Z8 x_31))<|gB<|gT ?_;have hw:ou x e=bz x e:=vK (by grind);rw[P5 hi]at hw;refine⟨(),trivial,trivial,⟨(congrArg (fun r:WR=>cN gw r.b.tick r.b.next r.b.aA r.c) hw),(Eq.trans (Eq.trans (b:=AO.ai 159 7 (((ah aX x.ag).set i ((aX { c with base:=e.af }).map PV.v)).set i ((aX { c with base:=e.af,br:=e.ay }).map PV.v))) rfl (congrArg (AO.ai 159 7) (by rw[List.set_set];exact lB.trans (congrArg (ah aX) (by rw[FD fi.ids hc (fun c=>{ c with base:=e.af,br:=e.ay }),hid]))))) (congrArg (fun r:WR=>AO.ai 159 7 (ah aX r.b.ag)) hw)),x_72,x_73,x_85,trivial⟩,rfl,rfl⟩
  intro h7;refine sL<|ak Z<|bv Z<|Y ?_;refine AW.cond rfl ?_ ?_
  ·intro h8;refine aL<|aM Z<|aP (.agg [U _ _,U _ _,U _ _,U _ _,U _ _,U _ _,vB _]) dD Z ?_;refine ab (bF func116 (Z1 _ _ x e fi es (AI uQ (.inl (by grind)))) x_13 rfl rfl) Z<|lN<|gB<|gT ?_;have hw:sP x e=bz x e:=xz (by grind);refine x_5
  intro h8;refine aS<|sL<|ak Z<|bv Z<|Y ?_;refine AW.cond rfl ?_ ?_
  ·intro h9;refine qt 87 true Z h9<|aK<|gT<|aY Z<|aL<|aM Z<|aP (.agg [U _ _,U _ _,U _ _,U _ _,U _ _,U _ _,vB _]) dD Z ?_;refine ab (bF func117 (P1 _ _ x e fi es (De jr).1) x_13 rfl rfl) Z<|lN<|gB<|gT ?_;have hw:mR x e=bz x e:=uv (.inl (by grind));refine x_5
  intro h9;refine qt 87 false Z h9<|aL<|ak Z<|bv Z<|Y ?_;refine AW.cond rfl ?_ ?_
  ·intro dh;refine aL<|aM Z<|aP (.agg [U _ _,U _ _,U _ _,U _ _,U _ _,U _ _,vB _]) dD Z ?_;refine ab (bF func117 (P1 _ _ x e fi es (De jr).1) x_13 rfl rfl) Z<|lT [2,4,5,6,7] [0,1,2,3,4,2002,2003,2004,2005] ?_;refine lN<|gB<|gT ?_;have hw:mR x e=bz x e:=uv (.inr (by grind));refine x_5
  intro dh;refine sL<|ak Z<|bv Z<|Y ?_;refine AW.cond rfl ?_ ?_
  ·intro gp;refine aL<|aM Z ?_;refine ab (bF func118 (Sk _ _ x sm) x_13 rfl rfl) Z<|lN<|gB<|gT ?_;have hw:p' x=bz x e:=y7 (by grind);refine x_5
  intro gp;refine sL<|ak Z<|bv Z<|Y ?_;refine AW.cond rfl ?_ ?_
  ·intro gM;refine aL<|aM Z<|aP (.agg [U _ _,U _ _,U _ _,U _ _,U _ _,U _ _,vB _]) dD Z ?_;refine ab (bF func119 (Z3 _ _ x e fi es (AI uQ (.inr (by grind)))) x_13 rfl rfl) Z<|lN<|gB<|gT ?_;have hw:sS x e=bz x e:=t8 (by grind);refine x_5
  intro gM;refine aL<|aM Z<|aP (.agg [U _ _,U _ _,U _ _,U _ _,U _ _,U _ _,vB _]) dD Z ?_;refine ab (bF func120 (Z2 _ _ x e fi es (EH jr)) x_13 rfl rfl) Z<|lN<|gB<|gT ?_;have hw:nm x e=bz x e:=ua (by have hek:=y8 uQ;grind);refine x_5
 intro jd hJ;refine aS<|aS ?_;have gy:d8 x e=false:=by simpa using h3
 have FH:=yA mS gy;have mj:=EE gy;refine aL<|aM Z<|lc Z<|lf 7 mK Z<|aj ac Z<|ak Z<|Y ?_;refine AW.cond rfl ?_ ?_
 ·intro dO;refine aS<|aG 8 [2004,2005]<|tq 0 (rd (x:=.agg [U _ _,U _ _,U _ _,vV _,vV _,vV _]) (cP Z s6 Z Z Z) Z)<|tq 1 (rd (x:=.agg [U _ _,vV _]) (cP Z uA Z Z Z) Z)<|tq 2 (cG Z)<|tq 3 (rc Z)<|tq 4 (rf 7 mK Z)<|tq 5 (aZ ac Z)<|cm 6 Z (zB 2004 eu ew Z)<|cm 7 Z (zB 2005 na nb Z)<|yq 8 (j8 Z)<|gD<|gT<|aR<|rT ?_;refine fN (.au [xX,tC,int (bz x e).c]) [] ?_ rfl trivial;exact .inl ⟨by grind,by rw[FH],rfl⟩
 intro dO;refine aK<|gA<|ab (zA 2009 pC Z) Z<|lT [2,4,5,6,7,9] [0,1,2,3,4,2002,2003,2004,2005,2009] ?_;refine Y<|aS<|sL<|aM Z<|lc Z<|lf 6 DJ Z<|iO gY Z<|ba hZ Z<|ak Z<|Y ?_;refine AW.cond rfl ?_ ?_
 ·intro ij;refine aS<|aG 7 []<|tq 0 (rf 1 mW Z)<|tq 1 (aZ ac Z)<|yq 2 (cG Z)<|yq 3 (rc Z)<|yq 4 (rf 6 DJ Z)<|yq 5 (gC gY Z)<|yq 6 (rd (x:=.agg [U _ _,.own _]) (cP Z uA Z Z Z) Z)<|yl Z (zB 2009 na nb Z)<|gT<|aL<|aM Z<|lc Z<|lf 0 dR Z<|lf 1 mW Z<|aj ac Z ?_;refine eo rfl ⟨rfl,ce (by grind[xA,i64])⟩<|lc Z<|lf 0 dR Z<|lf 1 mW Z<|ab (zB 0 ca cb rfl) Z<|lT [4,5,6,7,9] [0,1,2,3,4,2002,2003,2004,2005,2009] ?_;refine Y<|aS<|aG 7 [2004,2005]<|tq 0 (cG Z)<|tq 1 (rc Z)<|tq 2 (rf 0 dR Z)<|tq 3 (dw (.agg [U _ _,U _ _,U _ _,.own _,.own _,.own _]) cu Z)<|tq 4 (dw (.agg [U _ _,.own _]) ol Z)<|cm 5 Z (zB 2004 eu ew Z)<|cm 6 Z (zB 2005 na nb Z)<|yq 7 (j8 Z)<|gD<|gT<|aR ?_;refine fN (.au [Bh (bz x e).b.tick ((bz x e).b.next+1) (bz x e).b.aA,.agg [int x.next,.own 4],int 0]) (JA (bz x e).b (bz x e).l) ?_ rfl ⟨rfl,rfl,rfl,rfl,trivial⟩;exact .inr (.inr ⟨(by grind),(by intro q;have h:=ij;rw[q]at h;cases h),rfl,rfl⟩)
 intro ij;refine aK<|gT<|aS<|aG 7 [2004,2005]<|tq 0 (cG Z)<|tq 1 (rc Z)<|tq 2 (rf 0 dR Z)<|tq 3 (dw (.agg [U _ _,U _ _,U _ _,.own _,.own _,.own _]) cu Z)<|tq 4 (dw (.agg [U _ _,vV _]) ol Z)<|cm 5 Z (zB 2004 eu ew Z)<|gX [4,5,6,139] [0,1,2,3,4,2002,2003,2004,2005,2009] ?_;refine cm 6 Z (zB 2005 na nb Z)<|yq 7 (j8 Z)<|gD<|gT<|aR ?_;have dY:(bz x e).l=[]:=List.length_eq_zero_iff.1 x_31;refine fN (.au [Bh (bz x e).b.tick (bz x e).b.next (bz x e).b.aA,tC,int 0]) (Jz (bz x e).b) ?_ rfl ⟨rfl,rfl,rfl,trivial⟩;exact .inr (.inl ⟨(by grind),dY,rfl,rfl⟩)

def kp(x y:aO):Bool:=!cg y.acc x.acc
theorem P7{x:aO}:∀ {l:List aO},l.any (kp x)=false->fV l x=l++[x]
 |[],_=>rfl
 |y::l,h=>by
  rw[List.any_cons,Bool.or_eq_false_iff]at h;unfold fV;have:cg y.acc x.acc=true:=by have:=h.1;unfold kp at this;simpa using this
  rw[if_pos this,P7 h.2];rfl
theorem P8{x y:aO}:∀ {l:List aO},l.any (kp x)=true->fV (l++[y]) x=fV l x++[y]
 |[],h=>by grind
 |z::l,h=>by
  rw[List.any_cons,Bool.or_eq_true]at h;rw[List.cons_append];unfold fV;by_cases q:cg z.acc x.acc=true
  ·rw[if_pos q,if_pos q];have:l.any (kp x)=true:=by
    rcases h with h|h
    ·unfold kp at h;simp[q]at h
    exact h
   rw[P8 this];rfl
  rw[if_neg q,if_neg q];rfl
theorem P9{x y:aO}:∀ {l:List aO},l.any (kp x)=false->kp x y=true->fV (l++[y]) x=l++[x,y]
 |[],_,h=>by
  grind[kp,fV]
 |z::l,h,h2=>by
  rw[List.any_cons,Bool.or_eq_false_iff]at h;rw[List.cons_append];unfold fV;have:cg z.acc x.acc=true:=by have:=h.1;unfold kp at this;simpa using this
  rw[if_pos this,P9 h.2 h2];rfl
def nt(x:aO)(l:List aO):List aO:=if l.any (kp x)then fV l x else l
theorem pr{α:Type}{p:α->Bool}{l:List α}{k:Nat}(hk:k<l.length):(l.take (k+1)).any p=((l.take k).any p||p l[k]):=by grind[List.take_succ_eq_append_getElem]
theorem aad{x:aO}{l:List aO}{k:Nat}(hk:k<l.length)(h:(l.take k).any (kp x)=true):nt x (l.take (k+1))=nt x (l.take k)++[l[k]]:=by
 unfold nt;rw[pr hk,h,Bool.true_or,if_pos rfl,if_pos rfl,List.take_succ_eq_append_getElem hk,P8 h]
theorem aae{x:aO}{l:List aO}{k:Nat}(hk:k<l.length)(h:(l.take k).any (kp x)=false)(h2:kp x l[k]=true):nt x (l.take (k+1))=(nt x (l.take k)++[x])++[l[k]]:=by
 unfold nt;rw[pr hk,h,h2,Bool.false_or,if_pos rfl,if_neg (by simp),List.take_succ_eq_append_getElem hk,P9 h h2];simp
theorem aaf{x:aO}{l:List aO}{k:Nat}(hk:k<l.length)(h:(l.take k).any (kp x)=false)(h2:kp x l[k]=false):nt x (l.take (k+1))=nt x (l.take k)++[l[k]]:=by
 unfold nt;rw[pr hk,h,h2,Bool.false_or,if_neg (by simp),if_neg (by simp),List.take_succ_eq_append_getElem hk]
theorem aag{x:aO}{l:List aO}(h:l.any (kp x)=true):nt x l=fV l x:=if_pos h
theorem aah{x:aO}{l:List aO}(h:l.any (kp x)=false):nt x l++[x]=fV l x:=by simp_all[nt,P7]
theorem Df{x:aO}(l:List aO):(nt x l).length<=l.length+1:=by grind[nt,BH]
abbrev cD(g:Value)(t n w c:Int):AO:=.box 236 (some g) [int t,int n,int w,.own 1,.own 2,.own 3,.own 4,int c]
abbrev p7(g:Value)(x:aw)(l:List aO)(c:Int):List (Nat×AO):=[(0,cD g x.tick x.next x.aA c),(1,.ai 159 7 (ah aX x.ag)),(2,df x.an),(3,d7 x.aq),(4,dc l)]
abbrev yd(g:Value)(r:WR):List (Nat×AO):=p7 g r.b r.l r.c
def wH(x:aw):List Int:=x.an.map (fun h=>h.key)++x.aq.map (fun h=>h.key)
def kt(n:Int):List Value:=[.int .i64 n]
theorem P'{α:Type}{p:α->Bool}{l:List α}:decide (0<=jw p l)=l.any p:=by
 grind[jw]
theorem any_keys(x:aw)(key:Int):(wH x).any (fun k=>k==key)=nD x key:=by
 grind[wH,nD,DG,DH,P']
theorem GJ(a b:Acc):GC prog 263 [.agg [int a.kind,int a.ch],.agg [int b.kind,int b.ch]] [] (aD (cg a b)) []:=by
 refine gi 4 func263 rfl ntmps263 rfl ?_;intro L O w0;refine sL<|ab (zX 2002 Z) Z<|ab (zX 2003 Z) Z<|ar Z<|nA<|lf 0 oW Z<|aj ac Z<|lf 0 oW Z<|aj ac Z<|ak Z<|aQ Z ?_;refine AL.bool (t:=10) rfl ?_ ?_
 ·intro V;refine aa Z<|aa Z<|aa Z<|aa Z<|aa Z<|aa Z<|aa Z<|aa Z<|aa Z<|aa Z<|aa Z<|aa Z<|aU Z<|cI Z<|Y<|aR ?_;refine az trivial ?_;grind[cg]
 intro V;refine lf 0 oW Z<|aj ac Z<|lf 0 oW Z<|aj ac Z<|ak Z<|aQ Z ?_;refine AL.bool (t:=16) rfl ?_ ?_
 ·intro h2;refine lf 1 rV Z<|aj ac Z<|lf 1 rV Z<|aj ac Z<|ak Z<|bj Z<|bj Z<|bv Z<|Y<|aR ?_;refine az trivial ?_;grind[cg]
 intro h2;refine aa Z<|aa Z<|aa Z<|aa Z<|aa Z<|bL Z<|bL Z<|ar Z<|Y<|aR ?_;refine az trivial ?_;grind[cg]
theorem x_18{p:Prop}(c:p:=by exact ⟨rfl,by decide,rfl,⟨_,underlying3⟩,rfl,by decide,rfl,⟨_,underlying3⟩,trivial⟩):p:=c
theorem x_127{p:Prop}(c:p:=by exact congrArg aD (by simp_all[pr])):p:=c
theorem aai(l:List aO)(x:aO)(m:Nat)(hl:LG l m)(hm:m<=1000)(hf:cL l x.acc.kind x.acc.ch):GC prog 209 [.p (.ab 167 3 (ah ct l)),.agg [int x.acc.kind,int x.acc.ch,int x.af]] [] (.own 2009) [(2009,dc (fV l x))]:=by
 have hlen:=hl.len;refine gi 4 func209 rfl ntmps209 rfl ?_;intro L O w0;refine sL<|ab (zX 2003 rfl) Z<|e9 Z<|nA<|ab (zS 2009 [] cV eP rfl (by simp)) Z<|bD Z<|nA<|ar Z<|Y<|aS<|sL<|bm Z<|ba hZ Z<|ae Z<|Y<|aB ?_;refine aW [3,4,5,10,11] [2003] (D:=Nat) (fun k=>[(6,aD ((l.take k).any (kp x))),(12,int (k:Int))]) (fun k=>[(2009,dc (nt x (l.take k)))]) (fun k=>k<=l.length) (fun k=>l.length-k) (0) (Nat.zero_le _) ⟨rfl,rfl,trivial⟩ ⟨rfl,trivial⟩ ?_;intro k hI;refine sL<|ak Z<|Y<|aS ?_;refine AW.cond rfl ?_ ?_
 ·intro V;refine aK<|gT<|aS<|aB<|sL ?_;have hk:k<l.length:=by simpa[ap]using V
  refine li k cV Z (bS hk)<|d6 (.agg [U _ _,U _ _,U _ _]) iV Z<|ab (zA 2008 eP Z) Z<|ab (zB 2008 vf vg Z) Z<|Y<|aS<|sL<|aQ Z<|bX Z<|aQ Z ?_;refine AL.bool (t:=18) rfl ?_ ?_
  ·intro h2;refine lf 0 jf Z<|aP (.agg [U _ _,U _ _]) i0 Z<|lf 0 jf Z<|aP (.agg [U _ _,U _ _]) i0 Z<|ab (zL func263 (GJ _ _) Z) Z<|lT [3,4,5,6,8,10,11,12,18,23] [2003,2008,2009] ?_;refine bX Z<|bj Z<|Y ?_;refine AW.cond rfl ?_ ?_
   ·intro h3;refine aS<|sL<|lf 0 jf Z<|aP (.agg [U _ _,U _ _]) i0 Z<|lf 0 jf Z<|aP (.agg [U _ _,U _ _]) i0 Z<|lq (rd (x:=vB _) (j0 rfl (.inr rfl) rfl rfl uR wA wB Ad ?hn1) rfl) ?_;case hn1=>exact x_18
    refine bJ 30 true rfl (by show (!dA _ _)=true;have:=hf l[k] (List.getElem_mem hk);grind[dA])<|Y<|aY Z<|aL<|bW Z<|aP (.agg [U _ _,U _ _,U _ _]) iV Z<|ab (zS 2033 (ah ct [x]) cV eP rfl) Z<|ab (zP 2009 cV eP lE rfl x_14 (by grind[Df,ah])) Z<|bD Z<|nA<|cI Z<|nA<|lf 0 jf Z<|aP (.agg [U _ _,U _ _]) i0 Z<|lf 0 jf Z<|aP (.agg [U _ _,U _ _]) i0 Z<|lq (rd (x:=vB _) (j0 rfl (.inl rfl) rfl rfl uR wA wB Ad ?hn2) rfl) ?_;case hn2=>exact x_18
    refine bJ 56 false rfl (by show dA _ _=false;have:=hf l[k] (List.getElem_mem hk);grind[dA])<|Y<|aN Z<|aK<|gT<|aL<|bW Z<|aP (.agg [U _ _,U _ _,U _ _]) iV Z<|ab (zS 2059 (ah ct [l[k]]) cV eP rfl) Z<|lT [3,4,5,6,10,11,12,57,59] [2003,2008,2009,2033,2059] ?_;refine ab (zP 2009 cV eP lE rfl x_14 (by grind[Df,ah])) Z<|bD Z<|lN<|gB<|gT<|aL<|bg Z<|ae Z<|Y ?_;have ha:(l.take k).any (kp x)=false:=by simpa using h2
    have hb:kp x l[k]=true:=by unfold kp;simpa using h3
    refine⟨k+1,hk,by omega,⟨(Eq.trans (b:=aD true) rfl (congrArg aD (by simp_all[pr]))),(iq rfl),trivial⟩,⟨(Eq.trans (b:=dc ((nt x (l.take k)++[x])++[l[k]])) (congrArg (AO.ai 167 3) (by grind[fx])) (congrArg dc (aae hk ha hb).symm)),trivial⟩,rfl,rfl⟩
   intro h3;refine aK<|gT<|aL<|bW Z<|aP (.agg [U _ _,U _ _,U _ _]) iV Z<|ab (zS 2059 (ah ct [l[k]]) cV eP rfl) Z<|ab (zP 2009 cV eP lE rfl x_14 (by grind[Df,ah])) Z<|bD Z<|lN<|gB<|gT<|aL<|bg Z<|ae Z<|Y ?_;have ha:(l.take k).any (kp x)=false:=by simpa using h2
   have hb:kp x l[k]=false:=by unfold kp;simpa using h3
   refine⟨k+1,hk,by omega,⟨(Eq.trans (b:=aD ((l.take k).any (kp x))) rfl (congrArg aD (by simp_all[pr]))),(iq rfl),trivial⟩,⟨(Eq.trans (b:=dc (nt x (l.take k)++[l[k]])) (congrArg (AO.ai 167 3) (fx ct _ [_]).symm) (congrArg dc (aaf hk ha hb).symm)),trivial⟩,rfl,rfl⟩
  intro h2;refine aa Z<|aa Z<|aa Z<|aa Z<|aa Z<|aa Z<|bL Z<|Y<|aN Z<|aK<|gT<|aL<|bW Z<|aP (.agg [U _ _,U _ _,U _ _]) iV Z<|ab (zS 2059 (ah ct [l[k]]) cV eP Z) Z<|lT [3,4,5,6,10,11,12,57,59] [2003,2008,2009,2059] ?_;refine ab (zP 2009 cV eP lE rfl x_14 (by grind[Df,ah])) Z<|bD Z<|lN<|gB<|gT<|aL<|bg Z<|ae Z<|Y ?_;have ha:(l.take k).any (kp x)=true:=by simpa using h2
  refine⟨k+1,hk,by omega,⟨(Eq.trans (b:=aD ((l.take k).any (kp x))) rfl (congrArg aD (by grind))),(iq rfl),trivial⟩,⟨(Eq.trans (b:=dc (nt x (l.take k)++[l[k]])) (congrArg (AO.ai 167 3) (fx ct _ [_]).symm) (congrArg dc (aad hk ha).symm)),trivial⟩,rfl,rfl⟩
 intro V;refine aE<|eT<|eT<|eB<|gT<|aS<|sL<|aQ Z<|bX Z<|Y ?_;refine AW.cond rfl ?_ ?_
 ·intro h4;refine aL<|bW Z<|aP (.agg [U _ _,U _ _,U _ _]) iV Z<|ab (zS 2066 (ah ct [x]) cV eP rfl) Z<|ab (zP 2009 cV eP lE rfl x_14 (by grind[Df,ah])) Z<|bD Z<|nA<|bW Z<|bD Z<|Y<|aR ?_;have dZ:k=l.length:=by have h:=V;simp only[ap,decide_eq_false_iff_not]at h;omega
  subst dZ;refine ax ?_ ⟨(Eq.trans (b:=dc (nt x (l.take l.length)++[x])) (congrArg (AO.ai 167 3) (fx ct _ [_]).symm) (congrArg dc (by grind[aah]))),trivial⟩;rfl
 intro h4;refine aK<|gA<|bW Z<|bD Z<|Y<|aR ?_;have dZ:k=l.length:=by have h:=V;simp only[ap,decide_eq_false_iff_not]at h;omega
 subst dZ;refine ax ?_ ⟨(congrArg dc (by grind[aag])),trivial⟩;rfl
theorem gt(g:Value)(t n w c:Int)(p1:ga)(s1:Nat)(r1:List (List PV))(p2:ga)(s2:Nat)(r2:List (List PV))(p3:ga)(s3:Nat)(r3:List (List PV))(p4:ga)(s4:Nat)(r4:List (List PV))(is:Bool)(k:Int):GC prog 196 [.ptr 0 0 0,aD is,int k] [(0,cD g t n w c),(1,.ai p1 s1 r1),(2,.ai p2 s2 r2),(3,.ai p3 s3 r3),(4,.ai p4 s4 r4)] (aD (!decide (bE is c k=0))) [(0,cD g t n w (bE is c k)),(1,.ai p1 s1 r1),(2,.ai p2 s2 r2),(3,.ai p3 s3 r3),(4,.ai p4 s4 r4)]:=by
 refine gi 6 func196 rfl ntmps196 rfl ?_;intro L O w0;refine sL<|ar Z<|Y<|aS<|sL<|aQ Z<|aQ Z ?_;refine AL.bool (t:=8) rfl ?_ ?_
 ·intro V;refine aM Z<|lc Z<|lf 7 uC Z<|aj ac Z<|ak Z<|bj Z<|Y ?_;refine AW.cond rfl ?_ ?_
  ·intro h2;refine aL<|aM Z<|ae Z<|lc Z<|lf 7 uC Z<|ab (zB 0 ca cb Z) Z<|lT [0,6] [0,1,2,3,4] ?_;refine nA<|aM Z<|lc Z<|lf 7 uC Z<|aj ac Z<|ak Z<|bv Z<|Y<|aR ?_;refine az ⟨Eq.trans (b:=cD g t n w _) rfl (congrArg (cD g t n w) (by unfold bE;simp_all)),rfl,rfl,rfl,rfl,trivial⟩ ?_;refine congrArg (fun n:Int=>!decide (n=0)) ?_;grind[bE]
  intro h2;refine aK<|gA<|aM Z<|lc Z<|lf 7 uC Z<|aj ac Z<|ak Z<|bv Z<|Y<|aR ?_;refine az ⟨Eq.trans (b:=cD g t n w _) rfl (congrArg (cD g t n w) (by unfold bE;simp_all)),rfl,rfl,rfl,rfl,trivial⟩ ?_;refine congrArg (fun n:Int=>!decide (n=0)) ?_;grind[bE]
 intro V;refine aa Z<|aa Z<|aa Z<|aa Z<|aa Z<|bL Z<|Y<|aN Z<|aK<|gA<|aM Z<|lc Z<|lf 7 uC Z<|aj ac Z<|ak Z<|bv Z<|Y<|aR ?_;refine az ⟨Eq.trans (b:=cD g t n w _) rfl (congrArg (cD g t n w) (by unfold bE;simp_all)),rfl,rfl,rfl,rfl,trivial⟩ ?_;refine congrArg (fun n:Int=>!decide (n=0)) ?_;grind[bE]
theorem jv(g:Value)(t n w c:Int)(p1:ga)(s1:Nat)(r1:List (List PV))(p2:ga)(s2:Nat)(r2:List (List PV))(p3:ga)(s3:Nat)(r3:List (List PV))(l:List aO)(m:Nat)(hl:LG l m)(hm:m<=1000)(k cc nn:Int)(hf:cL l k cc)(hn:dL nn=true):GC prog 198 [.ptr 0 0 0,int k,int cc,int nn] [(0,cD g t n w c),(1,.ai p1 s1 r1),(2,.ai p2 s2 r2),(3,.ai p3 s3 r3),(4,dc l)] (.au []) [(0,cD g t n w c),(1,.ai p1 s1 r1),(2,.ai p2 s2 r2),(3,.ai p3 s3 r3),(4,dc (bR l k cc nn))]:=by
 refine GC.intro (rs:=[]) func198 rfl ntmps198 x_7 trivial ?_;intro L O w0;refine sL<|ae Z<|ak Z<|Y ?_;refine AW.cond rfl ?_ ?_
 ·intro V;refine aL<|aM Z<|aM Z<|lc Z<|lf 6 E4 Z<|iO gY Z<|ae Z<|ae Z<|lq (rd (x:=.agg [U _ _,U _ _]) (cP Z KW Z Z Z) Z)<|ae Z<|lq (rd (x:=.agg [U _ _,U _ _,U _ _]) (cP Z DK Z Z Z) Z) ?_;refine AL.freeze 4 rfl ?_;refine ab (zC [(2009,4)] [4] [] func209 (aai l ⟨⟨k,cc⟩,nn⟩ m hl hm hf) (trivial) rfl rfl) Z<|lc Z<|lf 6 E4 Z<|ab (zB 0 z8 z' rfl) Z<|lT [] [0,1,2,3,4] ?_;refine lN ?_;refine iZ ?_ ⟨rfl,rfl,rfl,rfl,(congrArg dc (BL (by grind)).symm),trivial⟩;rfl
 intro V;refine aK ?_;refine iZ ?_ ⟨rfl,rfl,rfl,rfl,(congrArg dc (BK (by grind)).symm),trivial⟩;rfl
theorem OR(x:aw)(hx:x.ag.length<=1000000/\x.an.length<=1000000/\x.aq.length<=1000000):GC prog 132 [cj x] [] (.agg [int x.tick,int x.next,int x.aA,.own 2003,.own 2008,.own 2013]) [(2003,.ai 159 7 (ah aX x.ag)),(2008,df x.an),(2013,d7 x.aq)]:=by
 refine GC.intro (rs:=[.cell 2 50 (some 6)]) func132 rfl ntmps132 x_7 ⟨rfl,rfl,cu,trivial⟩ ?_;intro L O w0;refine sL<|ab (zX 2001 rfl) Z<|ab (zA 2002 mD rfl) Z<|nA<|ab (zS 2003 [] cz dy rfl (by simp)) Z<|lf 3 dr Z<|bo eg Z<|ab (zP 2003 cz dy jL rfl (Src.p rfl)) Z<|lf 3 dr Z<|ab (zB 2001 sM sN rfl) Z<|nA<|ab (zS 2008 [] f7 iu rfl (by simp)) Z<|lf 4 eF Z<|bo fS Z<|ab (zP 2008 f7 iu sQ rfl (Src.p rfl)) Z<|lf 4 eF Z<|ab (zB 2001 tQ tR rfl) Z<|lT [1,2] [2001,2002,2003,2008] ?_;refine nA<|ab (zS 2013 [] iI jO rfl (by simp)) Z<|lf 5 gn Z<|bo ii Z<|ab (zP 2013 iI jO wI rfl (Src.p rfl)) Z<|lf 5 gn Z<|ab (zB 2001 yh yk rfl) Z<|nA<|aP (.agg [U _ _,U _ _,U _ _,.own _,.own _,.own _]) cu Z<|ab (zB 2002 eu ew rfl) Z<|Y<|aR ?_;trivial
theorem nF(g:Value)(x:aw)(l:List aO)(cd ch a b:Int)(hm:x.ag.length<=1000000000)(i:Nat)(c:be)(hi:eS x.ag ch=(i:Int))(hc:x.ag[i]? = some c)(hfa:i64 (c.loc+a))(hfb:i64 (c.aC+b)):GC prog 258 [.ptr 0 0 0,int ch,int a,int b] (p7 g x l cd) (.au []) (p7 g { x with ag:=x.ag.set i { c with loc:=c.loc+a,aC:=c.aC+b } } l cd):=by
 refine GC.intro (rs:=[]) func258 rfl ntmps258 x_7 trivial ?_;intro L O w0;refine sL<|aM Z<|lc Z<|lf 0 c8 Z<|aP (.agg [U _ _,U _ _,U _ _,.own _,.own _,.own _]) cu Z<|ae Z<|ab (zL func200 (m9 x _ hm) rfl) Z<|ao Z<|nA<|aM Z<|lc Z<|lf 0 c8 Z<|lf 3 dr Z<|iO eg Z<|ae Z<|lq (rd (x:=.ptr 1 _ 0) (pu (i:=i) rfl cz rfl rfl rfl ?hn1 x_31) rfl) ?_;case hn1=>trivial
 refine lq (rd (x:=.agg [U _ _,U _ _,U _ _,U _ _,U _ _,U _ _,U _ _]) (dT Z fF Z Z Z (dk hc) Z) Z)<|ab (zA 2009 dy Z) Z<|lT [0,2,3,8,9,23] [0,1,2,3,4,2009] ?_;refine ab (zB 2009 lu lv Z) Z<|nA<|lf 2 fH Z<|aj ac Z<|ae Z ?_;refine eo rfl ⟨rfl,ce hfa⟩<|lf 2 fH Z<|ab (zB 2009 ca cb rfl) Z<|nA<|lf 3 ic Z<|aj ac Z<|ae rfl ?_;refine eo rfl ⟨rfl,ce hfb⟩<|lf 3 ic Z<|ab (zB 2009 ca cb rfl) Z<|Y<|aG 8 []<|tq 0 (cG rfl)<|tq 1 (rc rfl)<|tq 2 (rf 0 c8 rfl)<|tq 3 (rf 3 dr rfl)<|tq 4 (gC eg rfl)<|tq 5 (dW rfl)<|yq 6 (dw (.agg [U _ _,U _ _,U _ _,U _ _,U _ _,U _ _,U _ _]) fF rfl)<|yq 7 (rd (x:=.ptr 1 _ 0) (pu (i:=i) rfl cz rfl rfl rfl ?hn2 x_31) rfl) ?_;case hn2=>trivial
 refine yl rfl (zQ 1 ((aX { c with loc:=c.loc+a,aC:=c.aC+b }).map PV.v) lu lv rfl (dk hc)) ?_;refine iZ ?_ ⟨rfl,Eq.trans (b:=AO.ai 159 7 ((ah aX x.ag).set i ((aX { c with loc:=c.loc+a,aC:=c.aC+b }).map PV.v))) rfl (congrArg (AO.ai 159 7) lB),rfl,rfl,rfl,trivial⟩;rfl
theorem KJ(x:aw)(mG:x.an.length<=1000)(lr:x.aq.length<=1000):GC prog 254 [cj x] [] (.own 2008) [(2008,.ai 3 1 (ah kt (wH x)))]:=by
 refine gi 2 func254 rfl ntmps254 rfl ?_;intro L O w0;refine sL<|ab (zX 2001 rfl) Z<|e9 Z<|nA<|ab (zS 2008 [] iU lY rfl (by simp)) Z<|bD Z<|Y<|aS<|sL<|lf 4 eF Z<|bo fS Z<|ba jb Z<|ae Z<|Y<|aB ?_;refine aW [1,2,3,10,11] [2001] (D:=Nat) (fun k=>[(12,int (k:Int))]) (fun k=>[(2008,AO.ai 3 1 (ah kt ((x.an.take k).map fun h=>h.key)))]) (fun k=>k<=x.an.length) (fun k=>x.an.length-k) (0) (Nat.zero_le _) ⟨rfl,trivial⟩ ⟨rfl,trivial⟩ ?_;intro k hI;refine sL<|ak Z<|Y<|aS ?_;refine AW.cond rfl ?_ ?_
 ·intro V;refine aK<|gT<|aS<|aB<|sL ?_;have hk:k<x.an.length:=by simpa[ap]using V
  refine li k f7 Z (bS hk)<|d6 (.agg [U _ _,U _ _,U _ _,U _ _,U _ _,vB _,U _ _]) kZ Z<|ab (zA 2005 iu Z) Z<|ab (zB 2005 nJ nL Z) Z<|Y<|aL<|bW Z<|lf 0 u7 Z<|aj ac Z<|ab (zS 2019 (ah kt [x.an[k].key]) iU lY Z) Z<|lT [1,2,3,10,11,12,16,19] [2001,2005,2008,2019] ?_;refine ab (zP 2008 iU lY uy rfl x_14 x_69) Z<|bD Z<|lN<|gB<|gT<|aL<|bg Z<|ae Z<|Y ?_;refine⟨k+1,hk,by omega,x_10,⟨(congrArg (AO.ai 3 1) ((fx kt _ [x.an[k].key]).symm.trans (congrArg (ah kt) (by grind[List.take_succ_eq_append_getElem])))),trivial⟩,rfl,rfl⟩
 intro V;refine aE<|eT<|eT<|eB<|gT<|aS<|sL<|lf 5 gn Z<|bo ii Z<|ba j7 Z<|ae Z<|Y<|aB ?_;have dZ:k=x.an.length:=by have h:=V;simp only[ap,decide_eq_false_iff_not]at h;omega
 refine aW [2,3,23,24] [2001] (D:=Nat) (fun j=>[(25,int (j:Int))]) (fun j=>[(2008,AO.ai 3 1 (ah kt (x.an.map (fun h=>h.key)++(x.aq.take j).map fun h=>h.key)))]) (fun j=>j<=x.aq.length) (fun j=>x.aq.length-j) (0) (Nat.zero_le _) ⟨rfl,trivial⟩ ⟨(congrArg (fun l=>AO.ai 3 1 (ah kt l)) (by grind)),trivial⟩ ?_;intro j hI;refine sL<|ak Z<|Y<|aS ?_;refine AW.cond rfl ?_ ?_
 ·intro h2;refine aK<|gT<|aS<|aB<|sL ?_;have hj:j<x.aq.length:=by simpa[ap]using h2
  refine li j iI Z (bS hj)<|d6 (.agg [U _ _,U _ _,U _ _,U _ _,U _ _]) l5 Z<|ab (zA 2007 jO Z) Z<|ab (zB 2007 oK oL Z) Z<|Y<|aL<|bW Z<|lf 0 u9 Z<|aj ac Z<|ab (zS 2032 (ah kt [x.aq[j].key]) iU lY Z) Z<|lT [2,3,23,24,25,29,32] [2001,2007,2008,2032] ?_;refine ab (zP 2008 iU lY uy rfl x_14 (by grind[ah,List.length_take])) Z<|bD Z<|lN<|gB<|gT<|aL<|bg Z<|ae Z<|Y ?_;refine⟨j+1,hj,by omega,x_10,⟨(congrArg (AO.ai 3 1) ((fx kt _ [x.aq[j].key]).symm.trans (congrArg (ah kt) (by grind[List.take_succ_eq_append_getElem])))),trivial⟩,rfl,rfl⟩
 intro h2;refine aE<|eT<|eT<|eB<|gA<|bW Z<|bD Z<|Y<|aR ?_;refine ax ?_ ⟨(congrArg (fun l=>AO.ai 3 1 (ah kt l)) (by have h:=h2;simp only[ap,decide_eq_false_iff_not]at h;rw[show j=x.aq.length by omega,List.take_length];rfl)),trivial⟩;rfl
theorem KK(l:List Int)(n:Int)(hm:l.length<=1000000000):GC prog 253 [.p (.ab 3 1 (ah kt l)),int n] [] (aD (l.any fun k=>k==n)) []:=by
 refine gi 4 func253 rfl ntmps253 rfl ?_;intro L O w0;refine sL<|ar Z<|Y<|aS<|sL<|bm Z<|ba x4 Z<|ae Z<|Y<|aB ?_;refine aW [1,4,7,8] [] (D:=Nat) (fun k=>[(9,int (k:Int))]) (fun k=>[]) (fun k=>k<=l.length/\∀j (h:j<l.length),j<k->(l[j]==n)=false) (fun k=>l.length-k) (0) x_20 ⟨rfl,trivial⟩ trivial ?_;intro k hI;obtain⟨eN,bB⟩:=hI;refine sL<|ak Z<|Y<|aS ?_;refine AW.cond rfl ?_ ?_
 ·intro V;refine aK<|gT<|aS<|aB<|sL ?_;have hk:k<l.length:=by simpa[ap]using V
  refine li k iU Z (bS hk)<|oy ac Z<|ao Z<|nA<|ae Z<|ae Z<|ak Z<|Y ?_;refine AW.cond rfl ?_ ?_
  ·intro h2;refine sL<|cI Z<|Y<|aR<|rB<|rT<|rT<|rB<|rT ?_;refine az trivial ?_;grind
  intro h2;refine aK<|gB<|gT<|aL<|bg Z<|ae Z<|Y ?_;refine⟨k+1,⟨hk,all_succ (p:=fun k=>k==n) hk bB (by omega)⟩,by omega,x_10,trivial,rfl,rfl⟩
 intro V;refine aE<|eT<|eT<|eB<|gA<|ar Z<|Y<|aR ?_;refine az trivial ?_;grind[BD,ap]
end Go.Proofs.YtflhgkmhmcfimaaGreat

