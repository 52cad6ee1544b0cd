/- Texts of the proof of FnFnAgain, joined: FwdU, PoEq, HubS, EG1, FwdV, EH1, EG2, EH2. -/
import Derived.Test.YtflhgkmhmcfimaaGreatJAgain17
import Derived.Test.YtflhgkmhmcfimaaGreatJAgain8
import Derived.Test.YtflhgkmhmcfimaaGreatJAgain5
namespace Go.Proofs.YtflhgkmhmcfimaaGreat
set_option maxRecDepth 100000
open Tryz
open Go.RowKit
set_option linter.unusedSimpArgs false
set_option linter.unusedVariables false
def kc:List aO->aO->List aO
 |[],x=>[x]
 |y::l,x=>if cg y.acc x.acc then y::kc l x else if y.acc.kind=x.acc.kind/\y.acc.ch=x.acc.ch then (if y.af+x.af=0 then l else ⟨y.acc,y.af+x.af⟩::l)else x::y::l
theorem LD{x:aO}{k c:Int}:∀(l:List aO),bU (kc l x) k c=bU l k c+iS k c x
 |[]=>by grind[kc,fm]
 |y::l=>by
  unfold kc;split
  ·rw[fm,fm,LD l];omega
  split
  ·rename_i q;have e:iS k c y+iS k c x=if y.acc.kind=k/\y.acc.ch=c then y.af+x.af else 0:=by
    unfold iS;rw[<-q.1,<-q.2];split<;>omega
   split
   ·rename_i r;rw[r]at e;rw[fm];split at e<;>omega
   rw[fm,fm];have e2:iS k c ⟨y.acc,y.af+x.af⟩=if y.acc.kind=k/\y.acc.ch=c then y.af+x.af else 0:=rfl
   rw[e2];omega
  grind[fm]
def iM(l:List aO)(p:List aO):List aO:=p.foldl kc l
theorem GY{k c:Int}:∀(p l:List aO),bU (iM l p) k c=bU l k c+bU p k c
 |[],l=>by rw[dU];show bU l k c=_;omega
 |x::p,l=>by
  show bU (iM (kc l x) p) k c=_;rw[GY p,LD,fm];omega
def iR(l:cH)(p:dX):Int:=if (eQ l&&iL p.id p.lines)=true then (if p.id<=l.last then 2 else if eQ ⟨p.id,iM l.lines p.lines⟩=true then 0 else 3)else 1
def qi(l:cH)(p:dX):cH:=if iR l p=0 then ⟨p.id,iM l.lines p.lines⟩else ⟨0,[]⟩
theorem Tf{l:cH}{p:dX}(h:iR l p=0):eQ l=true/\iL p.id p.lines=true/\l.last<p.id/\eQ ⟨p.id,iM l.lines p.lines⟩=true:=by
 unfold iR at h;grind
theorem Wl.mono{K:Int}{x:aw}{l:cH}{n m:Nat}(h:Wl K x l n)(hm:n<=m):Wl K x l m:=by
 have e1:=h.eq;have e2:=h.inc;have e5:=h.next;exact⟨h.oV,by omega,by omega,h.yx,h.wO,h.base,h.vd,by omega,h.keys⟩
theorem Lj{x:aw}{e:aV}(h:dG x e=0):(dl x e).lines=(bz x e).l:=by
 by_cases r:(bz x e).l=[];all_goals simp_all[ub,rU]
def BX(s:cH×Int)(p:dX):cH×Int:=if iR s.1 p=0 then (qi s.1 p,s.2+1)else s
def fP(l:cH)(ps:List dX):cH×Int:=ps.foldl BX (l,0)
structure F3(ch to:Int)(s:fg):Prop where
 wl:Wl 50 s.now (fP ⟨0,[]⟩ s.ps).1 0
 h:s.now.an=[]
 c:s.now.aq=[]
 n:s.now.next=4
 a:fz s.now.ag ch=⟨ch,18000,9000,9000,0,0,0⟩
 b:fz s.now.ag to=⟨to,18000,9000,9000,0,0,0⟩
 ta:ed s.now.ag ch
 tb:ed s.now.ag to

def rh(l:List aO):Prop:=(l.Pairwise fun a b=>cg a.acc b.acc=true)/\∀y∈l,y.af≠0
theorem rh.tail{x:aO}{l:List aO}(h:rh (x::l)):rh l:=⟨(List.pairwise_cons.1 h.1).2,fun y hy=>h.2 y (by simp[hy])⟩
theorem uf{k c:Int}:∀ {l:List aO},(∀y∈l,cg ⟨k,c⟩ y.acc=true)->bU l k c=0
 |[],_=>rfl
 |y::l,h=>by
  rw[fm,uf (fun z hz=>h z (by simp[hz]))];unfold iS;rw[if_neg (fun q=>GZ (h y x_19) ⟨q.1.symm,q.2.symm⟩)];rfl
theorem vp{x:aO}{l:List aO}(h:(x::l).Pairwise fun a b=>cg a.acc b.acc=true):bU (x::l) x.acc.kind x.acc.ch=x.af:=by
 simp_all[fm,uf,iS]
theorem B0{x y:aO}{l:List aO}(h:(y::l).Pairwise fun a b=>cg a.acc b.acc=true)(q:cg x.acc y.acc=true):∀z∈y::l,cg x.acc z.acc=true:=fun z hz=>by
 rcases List.mem_cons.1 hz with rfl|hz;all_goals grind[vr,List.pairwise_cons]
theorem LE:∀ {a b:List aO},rh a->rh b->(∀k c,bU a k c=bU b k c)->a=b
 |[],[],_,_,_=>rfl
 |[],y::b,_,hb,h=>by
  have:=h y.acc.kind y.acc.ch;rw[vp hb.1,dU]at this;exact absurd this.symm (hb.2 y x_19)
 |x::a,[],ha,_,h=>by
  have:=h x.acc.kind x.acc.ch;rw[vp ha.1,dU]at this;exact absurd this (ha.2 x x_19)
 |x::a,y::b,ha,hb,h=>by
  by_cases q1:cg x.acc y.acc=true
  ·have:=h x.acc.kind x.acc.ch;rw[vp ha.1,uf (B0 hb.1 q1)]at this;exact absurd this (ha.2 x x_19)
  by_cases q2:cg y.acc x.acc=true
  ·have:=h y.acc.kind y.acc.ch;rw[vp hb.1,uf (B0 ha.1 q2)]at this;exact absurd this.symm (hb.2 y x_19)
  have e:=Ah (by simpa using q1) (by simpa using q2);have V:=h x.acc.kind x.acc.ch;rw[vp ha.1,e.1,e.2,vp hb.1]at V;have G0:x=y:=by
   obtain⟨xa,xm⟩:=x;obtain⟨ya,ym⟩:=y;have:=Ea e;simp only at this V;rw[this,V]
  subst G0;rw[LE ha.tail hb.tail fun k c=>by have:=h k c;rw[fm,fm]at this;omega]
theorem LF{x:aO}:∀ {l:List aO} {z:aO},z∈kc l x->z.acc=x.acc\/∃y∈l,z.acc=y.acc
 |[],z,h=>by
  simp_all[kc]
 |y::l,z,h=>by
  unfold kc at h;split at h
  ·rcases List.mem_cons.1 h with rfl|h
   ·exact .inr ⟨_,by simp,rfl⟩
   rcases LF h with q|⟨u,hu,q⟩
   ·exact .inl q
   exact .inr ⟨u,by simp[hu],q⟩
  grind
theorem LH{x:aO}(hx:x.af≠0):∀ {l:List aO},rh l->rh (kc l x)
 |[],_=>by
  unfold kc;exact⟨by simp,fun y hy=>by grind⟩
 |y::l,h=>by
  have hp:=List.pairwise_cons.1 h.1;unfold kc;by_cases q1:cg y.acc x.acc=true
  ·rw[if_pos q1];have ih:=LH hx h.tail;refine⟨List.pairwise_cons.2 ⟨fun z hz=>?_,ih.1⟩,fun z hz=>?_⟩
   ·grind[LF]
   rcases List.mem_cons.1 hz with rfl|hz
   ·exact h.2 _ x_19
   exact ih.2 z hz
  rw[if_neg q1];by_cases q2:y.acc.kind=x.acc.kind/\y.acc.ch=x.acc.ch
  ·rw[if_pos q2];by_cases q3:y.af+x.af=0
   ·rw[if_pos q3];exact h.tail
   rw[if_neg q3];exact⟨List.pairwise_cons.2 ⟨fun z hz=>hp.1 z hz,hp.2⟩,fun z hz=>by
    rcases List.mem_cons.1 hz with rfl|hz
    ·exact q3
    exact h.2 z (by simp[hz])⟩
  rw[if_neg q2];have q4:cg x.acc y.acc=true:=by
   cases e:cg x.acc y.acc with
   |true=>rfl
   |false=>grind[Ah]
  refine⟨List.pairwise_cons.2 ⟨B0 h.1 q4,h.1⟩,fun z hz=>?_⟩;rcases List.mem_cons.1 hz with rfl|hz
  ·exact hx
  exact h.2 z hz
theorem LI:∀ {p l:List aO},(∀y∈p,y.af≠0)->rh l->rh (iM l p)
 |[],l,_,h=>h
 |x::p,l,hp,h=>LI (p:=p) (l:=kc l x) (fun y hy=>hp y (by simp[hy])) (LH (hp x x_19) h)
theorem G1{k c:Int}{x:aO}{s:Int}(h:¬dL s=true)(h0:k=x.acc.kind/\c=x.acc.ch->s=0):¬(x.acc.kind=k/\x.acc.ch=c):=fun q=>h (by rw[h0 ⟨q.1.symm,q.2.symm⟩];rfl)
theorem B1:∀(n:Nat) (a b:List aO),a.length+b.length<=n->rh a->rh b->fM a b=none->∃k c,¬dL (bU a k c+bU b k c)=true
 |n,[],b,_,_,_,h=>by grind[yo]
 |n,x::a,[],_,_,_,h=>by grind[z6]
 |0,x::a,y::b,hn,_,_,_=>by grind
 |n+1,x::a,y::b,hn,ha,hb,h=>by
  simp only[List.length_cons]at hn;have ip:=List.pairwise_cons.1 ha.1;have kA:=List.pairwise_cons.1 hb.1;by_cases q1:cg x.acc y.acc=true
  ·rw[BI q1,Option.map_eq_none_iff]at h;obtain⟨k,c,g⟩:=B1 n a (y::b) x_74 ha.tail hb h;refine⟨k,c,?_⟩;have bO:=G1 (k:=k) (c:=c) (x:=x) g (fun⟨e1,e2⟩=>by rw[e1,e2,uf (fun z hz=>ip.1 z hz),uf (B0 hb.1 q1)];rfl);simp_all[iS,if_neg,fm]
  have q1:cg x.acc y.acc=false:=by simpa using q1
  by_cases q2:cg y.acc x.acc=true
  ·rw[BJ q1 q2,Option.map_eq_none_iff]at h;obtain⟨k,c,g⟩:=B1 n (x::a) b x_74 ha hb.tail h;refine⟨k,c,?_⟩;have bO:=G1 (k:=k) (c:=c) (x:=y) g (fun⟨e1,e2⟩=>by rw[e1,e2,uf (fun z hz=>kA.1 z hz),uf (B0 ha.1 q2)];rfl);simp_all[iS,if_neg,fm]
  have q2:cg y.acc x.acc=false:=by simpa using q2
  have e:=Ah q1 q2;have tail (g:∃k c,¬dL (bU a k c+bU b k c)=true):∃k c,¬dL (bU (x::a) k c+bU (y::b) k c)=true:=by
   obtain⟨k,c,g⟩:=g;refine⟨k,c,?_⟩;have bO:=G1 (k:=k) (c:=c) (x:=x) g (fun⟨e1,e2⟩=>by rw[e1,e2,uf (fun z hz=>ip.1 z hz),e.1,e.2,uf (fun z hz=>kA.1 z hz)];rfl);have e1:iS k c x=0:=if_neg bO;have e2:iS k c y=0:=if_neg (fun q=>bO x_99);rw[fm x,fm y,e1,e2,Int.zero_add,Int.zero_add];exact g
  by_cases q3:dL (x.af+y.af)=true
  ·by_cases q4:x.af+y.af=0
   ·rw[Eb q1 q2 q3 q4]at h;exact tail (B1 n a b x_2 ha.tail hb.tail h)
   rw[Ec q1 q2 q3 q4,Option.map_eq_none_iff]at h;exact tail (B1 n a b x_2 ha.tail hb.tail h)
  refine⟨x.acc.kind,x.acc.ch,?_⟩;rw[vp ha.1,e.1,e.2,vp hb.1];exact q3
theorem rk.gS{l:List aO}(h:rk l):rh l:=⟨h.1,fun y hy=>(h.2 y hy).1⟩
theorem LJ{k c:Int}:∀ {l:List aO},rk l->dL (bU l k c)=true
 |[],_=>rfl
 |x::l,h=>by
  by_cases q:x.acc.kind=k/\x.acc.ch=c
  ·obtain⟨rfl,rfl⟩:=q;rw[vp h.1];exact cJ.2 (h.2 x x_19).2
  have e:iS k c x=0:=if_neg q;rw[fm,e,Int.zero_add];exact LJ h.tail
theorem LK{l:cH}{p:dX}:iR l p=iv l p/\qi l p=iD l p:=by
 by_cases h0:(eQ l&&iL p.id p.lines)=true
 ·have LL:=h0;rw[Bool.and_eq_true]at LL;obtain⟨hl,hp⟩:=LL;have rl:=hl;unfold eQ at rl;simp only[Bool.and_eq_true]at rl;have la:=wV rl.2;have Ed:=hp;unfold iL at Ed;simp only[Bool.and_eq_true]at Ed;have lp:=wV Ed.2;have hid:=cJ.1 Ed.1.1;have hs:rh (iM l.lines p.lines):=LI (fun y hy=>(lp.af y hy).1) la.lF.gS;by_cases ho:p.id<=l.last
  ·have c1:iR l p=2:=by unfold iR;rw[if_pos h0,if_pos ho]
   have c2:iv l p=2:=Le hl hp ho;exact⟨by rw[c1,c2],by unfold qi iD;rw[c1,c2];rfl⟩
  cases hm:fM l.lines p.lines with
  |none=>
   have c2:iv l p=3:=Lf hl hp ho hm;obtain⟨k,c,g⟩:=B1 _ _ _ (Nat.le_refl _) la.lF.gS lp.lF.gS hm;have Ts:eQ ⟨p.id,iM l.lines p.lines⟩=false:=Bool.eq_false_iff.2 fun q=>by
    unfold eQ at q;simp only[Bool.and_eq_true]at q;have:=LJ (k:=k) (c:=c) (wV q.2).lF;rw[GY]at this;exact g this
   have c1:iR l p=3:=by unfold iR;rw[if_pos h0,if_neg ho,if_neg (by simp[Ts])]
   exact⟨by rw[c1,c2],by unfold qi iD;rw[c1,c2];rfl⟩
  |some m=>
   obtain⟨lm,mq⟩:=Ee la lp hm;have em:iM l.lines p.lines=m:=LE hs lm.lF.gS fun k c=>by rw[GY,mq]
   have g9:rW m=true:=iG.ok (m:=m.length) lm;by_cases hlen:320<m.length
   ·have c2:iv l p=3:=Lg hl hp ho hm hlen;have c1:iR l p=3:=by
     unfold iR;rw[if_pos h0,if_neg ho,em,if_neg];unfold eQ;rw[show decide ((⟨p.id,m⟩:cH).lines.length<=320)=false by simp;omega];simp
    exact⟨by rw[c1,c2],by unfold qi iD;rw[c1,c2];rfl⟩
   have c2:iv l p=0:=Gr hl hp ho hm x_2;have c1:iR l p=0:=by
    unfold iR;rw[if_pos h0,if_neg ho,em,if_pos];unfold eQ;rw[g9,cJ.2 (show 0<=p.id/\p.id<=1125899906842624 by omega),decide_eq_true (show (⟨p.id,m⟩:cH).lines.length<=320 by show m.length<=320;omega)];rfl
   refine⟨by rw[c1,c2],?_⟩;rw[G2 c2 hm];unfold qi;rw[if_pos c1,em]
 simp_all[iR,if_neg,Gp,qi,iD]
theorem QE{l:cH}{ps:List dX}:fP l ps=jJ l ps:=by
 unfold fP jJ;have:BX=B2:=by
  funext s p;unfold BX B2;rw[LK.1,LK.2]
 rw[this]

def lZ{α:Type}(enc:α->List Value):List α->List α->Bool
 |[],[]=>true
 |x::a,y::b=>dA (enc x) (enc y)&&lZ enc a b
 |_,_=>false
theorem tD{α:Type}{enc:α->List Value}:∀ {a b:List α},a.length≠b.length->lZ enc a b=false
 |[],[],h=>absurd rfl h
 |[],_::_,_=>rfl
 |_::_,[],_=>rfl
 |x::a,y::b,h=>by unfold lZ;rw[tD (a:=a) (b:=b) (by simpa using h),Bool.and_false]
theorem qF{α:Type}{enc:α->List Value}:∀ {a b:List α} {k:Nat} (V:k<a.length) (h2:k<b.length),dA (enc a[k]) (enc b[k])=false->lZ enc a b=false
 |x::a,y::b,0,_,_,h=>by grind[lZ]
 |x::a,y::b,k+1,V,h2,h=>by unfold lZ;rw[qF (a:=a) (b:=b) (k:=k) x_14 x_14 x_14,Bool.and_false]
theorem JR{α:Type}{enc:α->List Value}:∀ {a b:List α},a.length=b.length->(∀(k:Nat) (V:k<a.length) (h2:k<b.length),dA (enc a[k]) (enc b[k])=true)->lZ enc a b=true
 |[],[],_,_=>rfl
 |[],_::_,h,_=>by cases h
 |_::_,[],h,_=>by cases h
 |x::a,y::b,h,hk=>by
  unfold lZ;rw[show dA (enc x) (enc y)=true from hk 0 x_19 x_19,JR (a:=a) (b:=b) (by simpa using h) (fun k V h2=>by have:=hk (k+1) x_28 x_38;simpa using this)];rfl
def kY(a b:aw):Bool:=decide (a.tick=b.tick)&&decide (a.next=b.next)&&decide (a.aA=b.aA)&&lZ aX a.ag b.ag&&lZ go a.an b.an&&lZ iX a.aq b.aq
def mC(a b:aw):Bool:=eG a&&eG b&&kY a b
def qE(a b:cH):Bool:=decide (a.last=b.last)&&lZ ct a.lines b.lines
abbrev de(es:List aV):fg:=sB pm es
abbrev d5(es:List aV):cH×Int:=jJ ⟨0,[]⟩ (de es).ps
def eK(l:List Int):Bool:=l.all fun c=>decide (c=0)
def eL(es:List aV):Bool:=eK (de es).jD&&decide ((d5 es).2=((de es).ps.length:Int))
def pZ(es m:List aV):Bool:=decide (m.length<=es.length)&&lZ fR (es.drop (es.length-m.length)) m
def zV(h:mm):Bool:=ik h.log.bT&&aI h.log.next 0 h.log.bT.cells.length&&aI h.log.dP 1 16000000&&decide (((dH h.log.bT).length:Int)=h.log.next)&&eL (f8 h.log.bT)&&mC (de (f8 h.log.bT)).now h.book&&qE (d5 (f8 h.log.bT)).1 h.ia&&pZ (f8 h.log.bT) (h.f9++h.wait)
abbrev Bu(h:mm):AV:=.agg [.p (.ab 195 1 (oS h.log.bT.cells)),.p (.ab 192 2 (oT h.log.bT.bu)),int h.log.next,int h.log.dP,int h.book.tick,int h.book.next,int h.book.aA,.p (.ab 159 7 (ah aX h.book.ag)),.p (.ab 218 7 (ah go h.book.an)),.p (.ab 220 5 (ah iX h.book.aq)),int h.ia.last,.p (.ab 167 3 (ah ct h.ia.lines)),.p (.ab 81 7 (ah fR h.wait)),.p (.ab 81 7 (ah fR h.f9))]

set_option maxHeartbeats 16000000
set_option maxRecDepth 100000
abbrev cR(l:cH):AV:=.agg [int l.last,.p (.ab 167 3 (ah ct l.lines))]
abbrev DT(p:dX):AV:=.agg [int p.id,.p (.ab 167 3 (ah ct p.lines))]
theorem Lb(x:cH):GC prog 121 [cR x] [] (aD (eQ x)) []:=by
 refine gi 2 func121 rfl ntmps121 rfl ?_;intro L O w0;refine sL<|ab (zX 2001 Z) Z<|ar Z<|nA<|lf 0 pW Z<|aj ac Z<|ab (zC [] [] [] func189 (wM _) (trivial) Z Z) Z<|aQ Z ?_;refine AL.bool (t:=6) rfl ?_ ?_
 ·intro V;refine lf 1 jY Z<|bo gY Z<|ba hZ Z<|ak Z<|bj Z<|aQ Z ?_;refine AL.bool (t:=12) rfl ?_ ?_
  ·intro h2;refine lf 1 jY Z<|bo gY Z<|ab (zC [] [] [] func222 (Ld x.lines (by have h:=h2;simp only[ap,decide_eq_true_eq]at h;omega)) (trivial) rfl rfl) Z<|lT [2,12,15] [2001] ?_;refine bj Z<|bv Z<|Y<|aR ?_;refine az trivial ?_;grind[eQ,ap,bb]
  intro h2;refine aa Z<|aa Z<|aa Z<|bL Z<|ar Z<|Y<|aR ?_;refine az trivial ?_;grind[eQ,ap]
 intro V;refine aa Z<|aa Z<|aa Z<|aa Z<|bL Z<|dm Z<|aa Z<|aa Z<|aa Z<|bL Z<|ar Z<|Y<|aR ?_;refine az trivial ?_;grind[eQ,bb]
def SI(l:cH)(p:dX):AV->List (Nat×AO)->Prop:=fun y ob=>ob=[]/\((iv l p≠0/\y=.au [.agg [int 0,.p (.v (.slice none 0 0))],int (iv l p)])\/(iv l p=0/\y=.au [.agg [int p.id,.p (.ab 167 3 (ah ct ((fM l.lines p.lines).getD [])))],int 0]))
theorem SJ{a b r:List aO}(hn:a.length+b.length<=1000000)(ha:∀z∈a,dL z.af=true)(hb:∀z∈b,dL z.af=true)(h:fM a b=some r):GC prog 123 [.p (.ab 167 3 (ah ct a)),.p (.ab 167 3 (ah ct b))] [] (.au [.own 50,aD true]) [(50,dc r)]:=
 (Gc a b hn ha hb).gc fun y o q=>by grind[z7]
theorem SK{a b:List aO}(hn:a.length+b.length<=1000000)(ha:∀z∈a,dL z.af=true)(hb:∀z∈b,dL z.af=true)(h:fM a b=none):GC prog 123 [.p (.ab 167 3 (ah ct a)),.p (.ab 167 3 (ah ct b))] [] (.au [.p (.v (.slice none 0 0)),aD false]) []:=
 (Gc a b hn ha hb).gc fun y o q=>by grind[z7]
theorem x_49{p:Prop}(c:p:=by exact ⟨rfl,.inl ⟨by omega,by rw[hc]⟩⟩):p:=c
theorem x_134{p:Prop}(c:p:=by exact ⟨rfl,rfl,eZ,rfl,trivial⟩):p:=c
theorem SL(l:cH)(p:dX)(hp:p.lines.length<=1000):GX prog 42 [cR l,DT p] [] (SI l p):=by
 refine GX.intro (rs:=[.cell 4 53 (some 2),.tmp 5]) func42 rfl ntmps42 x_8 x_134 ?_;intro L O w0;refine sL<|ab (zX 2002 Z) Z<|ab (zX 2003 Z) Z<|ab (zA 2004 ld Z) Z<|ao Z<|Y<|aS<|sL<|aP kj eZ Z<|ab (zC [] [] [] func121 (Lb l) (trivial) Z Z) Z<|bX Z<|aQ Z ?_;refine AL.bool (t:=11) rfl ?_ ?_
 ·intro V;refine aa Z<|aa Z<|aa Z<|aU Z<|Y<|aY Z<|sL<|lq (rd (x:=.agg [c6,vV _]) (cP Z lP Z Z Z) Z)<|ab (zB 2004 cA cB Z) Z<|ao Z<|Y<|aR<|rT ?_;refine fN ((.au [.agg [int 0,.p (.v (.slice none 0 0))],int 1])) [] ?_ rfl trivial;have hc:iv l p=1:=Gp (by simp_all);exact x_49
 intro V;refine aP kj ol Z<|ab (zC [] [] [] func122 (SM p.id p.lines hp) (trivial) Z Z) Z<|lT [2,3,4,5,11,13] [2002,2003,2004] ?_;refine bX Z<|bj Z<|Y<|cE rfl ?_ ?_
 ·intro h2;refine sL<|lq (rd (x:=.agg [c6,vV _]) (cP Z lP Z Z Z) Z)<|ab (zB 2004 cA cB Z) Z<|ao Z<|Y<|aR<|rT ?_;refine fN ((.au [.agg [int 0,.p (.v (.slice none 0 0))],int 1])) [] ?_ rfl trivial;have hc:iv l p=1:=Gp (by simp_all);exact x_49
 intro h2;refine aK<|gT<|aS<|sL<|lf 0 wN Z<|aj ac Z<|lf 0 pW Z<|aj ac Z<|ak Z<|Y<|cE rfl ?_ ?_
 ·intro h3;refine sL<|lq (rd (x:=.agg [c6,vV _]) (cP Z lP Z Z Z) Z)<|ab (zB 2004 cA cB Z) Z<|ao Z<|Y<|aR<|rT ?_;refine fN ((.au [.agg [int 0,.p (.v (.slice none 0 0))],int 2])) [] ?_ rfl trivial;have hc:iv l p=2:=Le x_14 x_14 x_14;exact x_49
 intro h3;refine aK<|gA<|lf 1 jY Z<|bo gY Z<|lf 1 t7 Z<|bo gY Z ?_;have gH:eQ l=true:=by simpa using V
 have oU:iL p.id p.lines=true:=by simpa using h2
 obtain⟨qY,lD,-,-⟩:=va gH;obtain⟨BT,nS,-,-⟩:=DU oU;have hold:¬p.id<=l.last:=by simpa using h3
 rcases hmg:fM l.lines p.lines with _|r
 ·skip;refine ab (zC [] [] [] func123 (SK x_2 lD nS hmg) (trivial) rfl rfl) Z<|lT [3,4,5,28] [2002,2003,2004] ?_;refine cT (.au [vV _,vB false]) Z<|SN Z<|iB (vB false) Z<|e9 Z<|ar Z<|Y<|aS<|sL<|dm Z<|Gq Z<|bM Z<|aa Z<|aa Z<|aa Z<|aU Z<|Y<|aY Z<|sL<|lq (rd (x:=.agg [c6,vV _]) (cP Z lP Z Z Z) Z)<|ab (zB 2004 cA cB Z) Z<|ao Z<|Y<|aR<|rT ?_;refine fN ((.au [.agg [int 0,.p (.v (.slice none 0 0))],int 3])) [] ?_ rfl trivial;have hc:iv l p=3:=Lf gH oU hold hmg;exact x_49
 skip;refine ab (zC [(50,50)] [50] [] func123 (SJ x_2 lD nS hmg) (trivial) rfl rfl) Z<|cT (.au [.own _,vB true]) Z<|qT Z<|iB (vB true) Z<|bD Z<|cI Z<|Y<|aS<|sL<|bM Z<|ma Z<|dm Z<|bW Z<|ba hZ Z<|ak Z<|bj Z<|Y<|cE rfl ?_ ?_
 ·intro h4;refine sL<|lq (rd (x:=.agg [c6,vV _]) (cP Z lP Z Z Z) Z)<|ab (zB 2004 cA cB Z) Z<|lT [3,4,5,6] [50,2002,2003,2004] ?_;refine ao Z<|Y<|aR<|rT ?_;refine fN ((.au [.agg [int 0,.p (.v (.slice none 0 0))],int 3])) [] ?_ rfl trivial;have hc:iv l p=3:=Lg gH oU hold hmg x_33;exact x_49
 intro h4;refine aK<|gA<|lf 0 wN Z<|aj ac Z ?_;refine AL.freeze 50 rfl ?_;refine bm Z<|lq (rd (x:=kj) (cP Z lP Z Z Z) Z)<|ab (zB 2004 cA cB Z) Z<|ao Z<|Y<|aR ?_;refine fN ((.au [.agg [int p.id,.p (.ab 167 3 (ah ct r))],int 0])) [] ?_ rfl trivial;exact⟨rfl,.inr ⟨Gr gH oU hold hmg x_33,by grind⟩⟩
theorem SO(l:cH)(p:dX)(hp:p.lines.length<=1000):GC prog 42 [cR l,DT p] [] (.au [cR (iD l p),int (iv l p)]) []:=GX.imp (SL l p hp) (fun x bd ⟨e1,e2⟩=>by
 subst e1;rcases e2 with⟨h,rfl⟩|⟨h,rfl⟩
 ·rw[SP h];exact⟨_,fe.au (ff.cons (fe.agg (ff.cons (fe.refl _) (ff.cons (fe.nil _ _) ff.nil))) (ff.cons (fe.refl _) ff.nil)),rfl,rfl⟩
 simp_all[iD,fe.refl])
theorem SQ(l:List aO)(hl:l.length<=1000):GC prog 140 [.p (.ab 167 3 (ah ct l))] [] (.own 51) [(51,dc l)]:=by
 refine gi 2 func140 rfl ntmps140 rfl ?_;intro L O w0;refine sL<|e9 Z<|nA<|bm Z<|ab (qJ 51 rfl rfl x_3 cV eP rfl x_3 rfl (Src.p rfl) x_140 (Nat.le_trans (Nat.mul_le_mul_left _ lE) (by simp[ah]at *;omega))) Z<|bD Z<|Y<|aR ?_;trivial
theorem SR(l:cH)(hl:l.lines.length<=1000):GC prog 57 [cR l] [] (cR l) []:=by
 refine GC.intro (rs:=[.cell 2 53 (some 2)]) func57 rfl ntmps57 x_8 ⟨rfl,rfl,eZ,trivial⟩ ?_;intro L O w0;refine sL<|ab (zX 2001 Z) Z<|ab (zA 2002 ld Z) Z<|Y<|aS<|aG 6 [51]<|tq 0 (rf 0 pW Z)<|tq 1 (aZ ac Z)<|yq 2 (rf 1 jY Z)<|yq 3 (jj gY Z)<|cm 4 Z (zC [(51,51)] [51] [] func140 (SQ l.lines hl) (trivial) Z Z) ?_;refine AG.freeze 51 rfl ?_;refine yq 5 (rd (x:=kj) (cP Z lP Z Z Z) Z)<|yl Z (zB 2002 cA cB Z)<|gT<|aR ?_;trivial
theorem DV{ps:List dX}{k:Nat}(h:k<ps.length):(qI ps)[k]? = some [.v (.int .i64 ps[k].id),.ab 167 3 (ah ct ps[k].lines)]:=by grind[qI]
def SS(l:cH)(ps:List dX):AV->List (Nat×AO)->Prop:=fun y ob=>ob=[]/\((eQ l=false/\y=.au [.agg [int 0,.p (.v (.slice none 0 0))],int (-1)])\/(eQ l=true/\y=.au [cR (jJ l ps).1,int (jJ l ps).2]))
theorem x_34{p:Prop}(c:p:=by exact Eq.trans (b:=int _) rfl (congrArg int (by rw[dM]))):p:=c
theorem x_43{p:Prop}(c:p:=by exact ⟨k+1,hk,by omega,⟨x_34,(iq rfl),trivial⟩,⟨(by rw[dM];rfl),trivial⟩,rfl,rfl⟩):p:=c
theorem ST(l:cH)(ps:List dX)(nu:∀p∈ps,p.lines.length<=1000)(hn:ps.length<=1000000):GX prog 175 [cR l,.p (.ab 92 2 (qI ps))] [] (SS l ps):=by
 refine GX.intro (rs:=[.cell 4 53 (some 2),.tmp 5]) func175 rfl ntmps175 x_8 x_134 ?_;intro L O w0;refine sL<|ab (zX 2002 Z) Z<|ab (zA 2004 ld Z) Z<|ao Z<|Y<|aS<|sL<|aP kj eZ Z<|ab (zC [] [] [] func121 (Lb l) (trivial) Z Z) Z<|bX Z<|Y<|cE rfl ?_ ?_
 ·intro V;refine sL<|lq (rd (x:=.agg [c6,vV _]) (cP Z lP Z Z Z) Z)<|ab (zB 2004 cA cB Z) Z<|ao Z<|Y<|aR<|rT ?_;refine fN ((.au [.agg [int 0,.p (.v (.slice none 0 0))],int (-1)])) [] ?_ rfl trivial;exact⟨rfl,.inl ⟨by grind,rfl⟩⟩
 intro V;refine aK<|gA<|aP kj eZ Z ?_;have gH:eQ l=true:=by simpa using V
 obtain⟨qY,lD,-,-⟩:=va gH;refine ab (zC [] [] [] func57 (SR l x_2) (trivial) rfl rfl) Z<|ab (zA 2006 ld rfl) Z<|ab (zB 2006 cA cB rfl) Z<|nA<|ao Z<|Y<|aS<|sL<|bm Z<|ba pX Z<|ae Z<|Y<|aB ?_;refine aW [4,5,6,18,19] [2002,2004] (D:=Nat) (fun k=>[(7,int (jJ l (ps.take k)).2),(20,int (k:Int))]) (fun k=>[(2006,.box 53 none [int (jJ l (ps.take k)).1.last,.p (.ab 167 3 (ah ct (jJ l (ps.take k)).1.lines))])]) (fun k=>k<=ps.length) (fun k=>ps.length-k) (0) (Nat.zero_le _) ⟨rfl,rfl,trivial⟩ ⟨rfl,trivial⟩ ?_;intro k hI;refine sL<|ak Z<|Y<|aS<|cE rfl ?_ ?_
 ·intro h2;refine aK<|gT<|aS<|aB<|sL ?_;have hk:k<ps.length:=by simpa[fw]using h2
  have hs:=FS (ps:=ps) qY k x_2;refine li k vb Z (DV hk)<|d6 kj ol Z<|ab (zA 2009 pC Z) Z<|lT [4,5,6,7,9,18,19,20,23] [2002,2004,2006,2009] ?_;refine ab (zB 2009 na nb Z) Z<|nA<|aP kj eZ Z<|aP kj ol Z<|ab (zC [] [] [] func42 (SO (jJ l (ps.take k)).1 ps[k] (nu _ (List.getElem_mem hk))) (trivial) Z Z) Z<|cT (.au [kj,c6]) Z<|iB kj Z<|dE Z<|ab (zA 2010 ld Z) Z<|ab (zB 2010 cA cB Z) Z<|ao Z<|nA<|ae Z<|ak Z<|Y<|cE rfl ?_ ?_
  ·intro h3;refine sL<|aP kj eZ Z<|ab (zB 2006 cA cB Z) Z<|lT [4,5,6,7,18,19,20] [2002,2004,2006,2009,2010] ?_;refine Y<|aL<|ae Z<|bg Z<|ao Z<|lN<|gB<|gT<|aL<|bg Z<|ae Z<|Y ?_;have dM:jJ l (ps.take (k+1))=(iD (jJ l (ps.take k)).1 ps[k],(jJ l (ps.take k)).2+1):=by
    rw[Gs hk];exact if_pos x_14
   refine x_43
  intro h3;refine aK<|gB<|gT<|aL<|bg Z<|ae Z<|Y ?_;have dM:jJ l (ps.take (k+1))=jJ l (ps.take k):=by
   rw[Gs hk];exact if_neg x_14
  refine x_43
 intro h2;refine aE<|eT<|eT<|eB<|gA<|aP kj eZ Z<|ae Z<|ab (zB 2004 cA cB Z) Z<|ao Z<|Y<|aR ?_;have dZ:ps.take k=ps:=List.take_of_length_le (by grind[fw]);rw[dZ];refine fN ((.au [cR (jJ l ps).1,int (jJ l ps).2])) [] ?_ rfl trivial;exact⟨rfl,.inr ⟨gH,rfl⟩⟩
theorem SU(l:cH)(ps:List dX)(hl:eQ l=true)(nu:∀p∈ps,p.lines.length<=1000)(hn:ps.length<=1000000):GC prog 175 [cR l,.p (.ab 92 2 (qI ps))] [] (.au [cR (jJ l ps).1,int (jJ l ps).2]) []:=(ST l ps nu hn).gc fun y o ⟨e1,e2⟩=>by
 grind

theorem Wl.wide{K J:Int}{x:aw}{l:cH}{n:Nat}(h:Wl K x l n)(hK:K<=J):Wl J x l n:=⟨h.oV,h.eq,h.inc,h.yx,h.wO,h.base,h.vd,h.next,fun k hk=>by have:=h.keys k hk;omega⟩
theorem SV{x:aw}{e:aV}(hn:x.next≠1125899906842624)(V:e.kind≠1)(h2:e.kind≠2)(h3:e.kind≠3)(h8:e.kind≠8):d8 x e=false:=by
 grind[d8]
theorem Lh(l:List aO)(k c n:Int):kQ (bR l k c n)=kQ l+(if k=1\/6<=k then n else 0):=by
 by_cases q:n=0
 ·grind[BK]
 rw[BL q];have key:∀(l:List aO) (x:aO),kQ (fV l x)=kQ l+wT x:=fun l x=>by
  induction l with
  |nil=>unfold fV;show wT x+0=0+wT x;omega
  |cons y l ih=>
   unfold fV;split
   ·show wT y+kQ (fV l x)=wT y+kQ l+wT x;omega
   show wT x+(wT y+kQ l)=wT y+kQ l+wT x;omega
 rw[key];rfl
theorem SW{a b r:List aO}(h:∀k c,bU r k c=bU a k c+bU b k c):qZ r=qZ a+qZ b:=by
 unfold qZ;rw[<-Gt];grind
theorem SX{a b r:List aO}(ha:∀y∈a,om y.acc)(hb:∀y∈b,om y.acc)(hr:∀y∈r,om y.acc)(h:∀k c,bU r k c=bU a k c+bU b k c):kQ r=kQ a+kQ b:=by
 rw[(DX ha).2,(DX hb).2,(DX hr).2,SW h,h];omega
def DY(l:cH):Int:=if eQ l=true then kQ l.lines else 0
structure yy(x:aw)(l:cH)(e:aV):Prop where
 code:iv l (dl x e)=0
 oV:ra (dp x e) (iD l (dl x e))
 Gu:∀k c,bU (iD l (dl x e)).lines k c=bU l.lines k c+bU (bz x e).l k c
 DY:kQ (iD l (dl x e)).lines=kQ l.lines+kQ (bz x e).l
theorem Gv{K:Int}{x:aw}{l:cH}{n:Nat}{e:aV}(h:Wl K x l n)(hn:n<=100)(hc:dG x e=0)(hk:e.kind≠3)(hp:(bz x e).l≠[])(ha:e.af<=1000000)(hr:bU (bz x e).l 4 0<=1000000000):yy x l e:=by
 have Li:(dl x e).lines≠[]:=by rw[Lj hc];exact hp
 have g:=h.SY hn hc hk Li ha hr;obtain⟨s1,s2,s3⟩:=SZ g;have Lk:∀k c,bU (iD l (dl x e)).lines k c=bU l.lines k c+bU (bz x e).l k c:=fun k c=>by rw[s2,Lj hc]
 exact⟨g,S0 h.oV hc Li g,Lk,SX h.oV.lF.acc (Ab hc).acc s1.acc Lk⟩
theorem Gw{l:List aO}{k c:Int}(h:bU l k c≠0):l≠[]:=fun z=>h (by rw[z];rfl)
theorem S1{α:Type}{g:α->Int}{l:List α}(h:∀y∈l,g y<=50):l.find? (fun c=>g c==77)=none:=by
 grind
structure abk(b:aw)(l:cH)(e:aV):Prop where
 x:yy b l e
 dQ:dG (dp b e) ⟨6,77,0,0,0,0,false⟩=0
 bad:dG (dp b e) ⟨7,77,0,0,0,0,false⟩=0
 y:yy (dp b e) (iD l (dl b e)) ⟨6,77,0,0,0,0,false⟩
 z:yy (dp b e) (iD l (dl b e)) ⟨7,77,0,0,0,0,false⟩
 last:(dp b e).an=b.an++[⟨77,e.ch,e.to,cn b e,e.af,decide (ib b e=2),0⟩]
 abl:kQ (iD (iD l (dl b e)) (dl (dp b e) ⟨6,77,0,0,0,0,false⟩)).lines=kQ l.lines+cn b e-e.af
 back:(iD (iD l (dl b e)) (dl (dp b e) ⟨7,77,0,0,0,0,false⟩)).lines=l.lines
structure S2(b:aw)(l:cH)(e:aV):Prop where
 x:yy b l e
 lost:dG (dp b e) ⟨11,77,0,0,0,0,false⟩=0
 ai:dG (dp b e) ⟨10,77,0,0,0,0,false⟩=0
 y:yy (dp b e) (iD l (dl b e)) ⟨11,77,0,0,0,0,false⟩
 z:yy (dp b e) (iD l (dl b e)) ⟨10,77,0,0,0,0,false⟩
 same:kQ (iD l (dl b e)).lines=kQ l.lines
 back:(iD (iD l (dl b e)) (dl (dp b e) ⟨11,77,0,0,0,0,false⟩)).lines=l.lines
 cost:kQ (iD (iD l (dl b e)) (dl (dp b e) ⟨10,77,0,0,0,0,false⟩)).lines=kQ l.lines-e.ay
 abm:(dp (dp b e) ⟨11,77,0,0,0,0,false⟩).aq.length=b.aq.length
 abn:(dp (dp b e) ⟨10,77,0,0,0,0,false⟩).aq.length=b.aq.length
 id:(dl b e).id≠0
theorem lost{b:aw}{l:cH}{n:Nat}{ch to af ay:Int}(h:Wl 50 b l n)(hn:n<=50)(ha:1<=af/\af<=4000)(hf:0<=ay/\ay<=300)(hc:dG b ⟨9,77,ch,to,af,ay,false⟩=0):S2 b l ⟨9,77,ch,to,af,ay,false⟩:=by
 generalize he:(⟨9,77,ch,to,af,ay,false⟩:aV)=e at *;have k9:e.kind=9:=by rw[<-he]
 have abo:e.af=af:=by rw[<-he]
 have abp:e.ay=ay:=by rw[<-he]
 have S3:e.key=77:=by rw[<-he]
 obtain⟨c1,c2,c3⟩:=rS hc;have yz:(bz b e).c=0:=by rw[<-yA x_14 c3];exact hc
 have hq:fL b e=0:=by
  rw[<-t8 k9]at yz;by_cases q:fL b e=0
  ·exact q
  grind[od]
 have hs:eM e.af e.ay=e.af+e.ay:=by
  have Ll:=hq;unfold fL at Ll;obtain⟨h2,_⟩:=ky x_3 Ll;obtain⟨h3,_⟩:=ky x_3 h2;obtain⟨_,g⟩:=ky x_3 h3;exact ye x_14
 have hw:bz b e=oH b e:=by rw[<-t8 k9,uZ hq]
 have hl:(bz b e).l=bR (bR [] 6 e.ch (-(e.af+e.ay))) 8 e.ch (e.af+e.ay):=by rw[hw];unfold oH;rw[hs]
 have bO:(bz b e).l≠[]:=Gw (k:=8) (c:=e.ch) (by rw[hl];simp only[fO,dU];grind);have tk:=Gv h x_2 hc x_2 bO x_2 (by simp_all[fO,dU]);have w1:=(h.wide (J:=77) x_2).step hc x_2 x_2 x_2 tk.oV tk.Gu;obtain⟨p1,p2,p3,p4⟩:=Gx hc;have Lm:(dp b e).aq=b.aq++[⟨77,e.ch,e.to,e.af,e.ay⟩]:=by rw[p3,hw,<-S3];rfl
 have yB:∀y∈b.aq,y.key<=50:=fun y hy=>h.keys _ (List.mem_append_right _ (List.mem_map_of_mem hy));have S4:(dp b e).aq.find? (fun c=>c.key==77)=some ⟨77,e.ch,e.to,e.af,e.ay⟩:=by
  rw[Lm,List.find?_append,S1 (g:=fun c:gz=>c.key) yB];simp
 have S5:jA (dp b e).aq 77=b.aq:=by
  rw[Lm];unfold jA;rw[List.filter_append,List.filter_eq_self.2 (fun y hy=>by grind)];simp
 have lG:=Gy hc;have Gz:(dp b e).next≠1125899906842624:=by have:=h.next;omega
 have code:∀k:Int,k=10\/k=11->dG (dp b e) ⟨k,77,0,0,0,0,false⟩=0/\(bz (dp b e) ⟨k,77,0,0,0,0,false⟩)=mN (dp b e) (decide (k=10)) ⟨77,e.ch,e.to,e.af,e.ay⟩:=fun k hk=>by
  have Ac:(bz (dp b e) ⟨k,77,0,0,0,0,false⟩)=mN (dp b e) (decide (k=10)) ⟨77,e.ch,e.to,e.af,e.ay⟩:=by
   rw[<-ua (e:=⟨k,77,0,0,0,0,false⟩) (by show 10<=k;omega)];exact DZ (e:=⟨k,77,0,0,0,0,false⟩) S4
  refine⟨?_,Ac⟩;rw[yA (by rw[lG];rcases hk with rfl|rfl<;>rfl) (SV Gz (by rcases hk with rfl|rfl<;>decide) (by rcases hk with rfl|rfl<;>decide) (by rcases hk with rfl|rfl<;>decide) (by rcases hk with rfl|rfl<;>decide)),Ac];grind[mN]
 obtain⟨g1,g2⟩:=code 10 (.inl rfl);obtain⟨b1,b2⟩:=code 11 (.inr rfl);have GA:(bz (dp b e) ⟨10,77,0,0,0,0,false⟩).l=bR (bR (bR [] 4 0 e.ay) 6 e.to e.af) 8 e.ch (-e.af-e.ay):=by rw[g2];rfl
 have GB:(bz (dp b e) ⟨11,77,0,0,0,0,false⟩).l=bR (bR [] 6 e.ch (e.af+e.ay)) 8 e.ch (-e.af-e.ay):=by rw[b2];rfl
 have t10:=Gv w1 x_2 g1 x_3 (Gw (k:=8) (c:=e.ch) (by rw[GA];simp only[fO,dU];grind)) x_19 (by rw[GA];simp only[fO,dU];omega);have t11:=Gv w1 x_2 b1 x_3 (Gw (k:=8) (c:=e.ch) (by rw[GB];simp only[fO,dU];grind)) x_19 (by simp_all[fO,dU]);have w0:kQ []=0:=rfl;have Ln:∀k:Int,k=10\/k=11->(dp (dp b e) ⟨k,77,0,0,0,0,false⟩).aq.length=b.aq.length:=fun k hk=>by
  grind[mN,dp]
 refine⟨tk,b1,g1,t11,t10,?_,?_,?_,Ln 11 (.inr rfl),Ln 10 (.inl rfl),?_⟩
 ·rw[tk.DY,hl];grind[Lh]
 ·refine Lo t11.oV.lF.lF h.oV.lF.lF fun k c=>?_;rw[t11.Gu,tk.Gu,hl,GB];simp only[fO,dU];omega
 ·rw[t10.DY,tk.DY,hl,GA];grind[Lh]
 rw[(rU hc bO).2];have:=(mX c1).next;grind

def jQ(x:aO)(s:Bool×List aO)(y:aO):Bool×List aO:=
 if s.1=true then (true,s.2++[y])else if cg y.acc x.acc=true then (false,s.2++[y])else
 if y.acc.kind=x.acc.kind/\y.acc.ch=x.acc.ch then (true,if y.af+x.af=0 then s.2 else s.2++[⟨y.acc,y.af+x.af⟩])else (true,s.2++[x]++[y])
def iE(x:aO)(l:List aO):Bool×List aO:=l.foldl (jQ x) (false,[])
theorem BU{x:aO}{l:List aO}{k:Nat}(h:k<l.length):iE x (l.take (k+1))=jQ x (iE x (l.take k)) l[k]:=by
 grind[iE,List.take_succ_eq_append_getElem]
theorem GD{x y:aO}{s:Bool×List aO}(h:s.1=true):jQ x s y=(true,s.2++[y]):=if_pos h
theorem GE{x y:aO}{s:Bool×List aO}(h:s.1=false)(h2:cg y.acc x.acc=true):jQ x s y=(false,s.2++[y]):=by simp_all[jQ]
theorem GF{x y:aO}{s:Bool×List aO}(h:s.1=false)(h2:cg y.acc x.acc=false)(h3:¬(y.acc.kind=x.acc.kind/\y.acc.ch=x.acc.ch)):jQ x s y=(true,s.2++[x]++[y]):=by simp_all[jQ]
theorem GG{x y:aO}{s:Bool×List aO}(h:s.1=false)(h2:cg y.acc x.acc=false)(h3:y.acc.kind=x.acc.kind/\y.acc.ch=x.acc.ch)(h4:¬y.af+x.af=0):jQ x s y=(true,s.2++[⟨y.acc,y.af+x.af⟩]):=by simp_all[jQ]
theorem GH{x y:aO}{s:Bool×List aO}(h:s.1=false)(h2:cg y.acc x.acc=false)(h3:y.acc.kind=x.acc.kind/\y.acc.ch=x.acc.ch)(h4:y.af+x.af=0):jQ x s y=(true,s.2):=by simp_all[jQ]
theorem D0{x:aO}:∀(l o:List aO),l.foldl (jQ x) (true,o)=(true,o++l)
 |[],o=>by simp
 |y::l,o=>by rw[List.foldl_cons,GD rfl,D0 l];simp
theorem GI{x:aO}:∀(l o:List aO),(if (l.foldl (jQ x) (false,o)).1=true then (l.foldl (jQ x) (false,o)).2 else (l.foldl (jQ x) (false,o)).2++[x])=o++kc l x
 |[],o=>by rfl
 |y::l,o=>by
  rw[List.foldl_cons];unfold kc;by_cases V:cg y.acc x.acc=true
  ·rw[GE rfl V,GI l,if_pos V];simp
  have pD:cg y.acc x.acc=false:=by simpa using V
  rw[if_neg V];by_cases h2:y.acc.kind=x.acc.kind/\y.acc.ch=x.acc.ch
  ·rw[if_pos h2];by_cases h3:y.af+x.af=0
   ·rw[GH rfl pD h2 h3,D0,if_pos h3];simp
   rw[GG rfl pD h2 h3,D0,if_neg h3];simp
  simp_all[GF,D0]
theorem Lp{x:aO}{l:List aO}(h:(iE x l).1=true):(iE x l).2=kc l x:=by
 have:=GI (x:=x) l [];rw[if_pos (show (l.foldl (jQ x) (false,[])).1=true from h)]at this;exact this
theorem Lq{x:aO}{l:List aO}(h:(iE x l).1=false):(iE x l).2++[x]=kc l x:=by
 have:=GI (x:=x) l [];rw[if_neg (show ¬(l.foldl (jQ x) (false,[])).1=true from by rw[show (l.foldl (jQ x) (false,[])).1=false from h];simp)]at this;exact this
theorem S6(x:aO)(s:Bool×List aO)(y:aO):(jQ x s y).2.length+(if (jQ x s y).1=true then 0 else 1)<=s.2.length+1+(if s.1=true then 0 else 1):=by
 grind[GD,cg,GE,GH,GG,GF]
theorem yC{x:aO}(l:List aO):(iE x l).2.length<=l.length+1:=by
 have key:∀(l:List aO) (s:Bool×List aO),(l.foldl (jQ x) s).2.length+(if (l.foldl (jQ x) s).1=true then 0 else 1)<=s.2.length+l.length+(if s.1=true then 0 else 1):=by
  intro l;induction l with
  |nil=>intro s;exact Nat.le_refl _
  |cons y l ih=>
   intro s;rw[List.foldl_cons];have V:=ih (jQ x s y);have h2:=S6 x s y;simp only[List.length_cons];omega
 grind[iE]
def wP(b:Int)(l:List aO):Prop:=∀z∈l,-b<=z.af/\z.af<=b
theorem Lr{b c:Int}{x:aO}(hc:0<=c)(hb:0<=b)(hx:-c<=x.af/\x.af<=c):∀ {l:List aO},wP b l->wP (b+c) (kc l x)
 |[],_=>fun z hz=>by grind[kc]
 |y::l,h=>by
  have hy:=h y x_19;have hl:wP b l:=fun z hz=>h z (by simp[hz]);have ih:=Lr hc hb hx hl;intro z hz;unfold kc at hz;split at hz
  ·rcases List.mem_cons.1 hz with rfl|hz
   ·omega
   exact ih z hz
  split at hz
  ·split at hz
   ·have:=hl z hz;omega
   rcases List.mem_cons.1 hz with rfl|hz
   ·grind
   have:=hl z hz;omega
  rcases List.mem_cons.1 hz with rfl|hz
  ·omega
  have:=h z hz;omega
theorem S7{x:aO}(l:List aO):(kc l x).length<=l.length+1:=by
 have:=yC (x:=x) l;by_cases q:(iE x l).1=true
 ·grind[Lp]
 have e:=Lq (x:=x) (l:=l) (by simpa using q);have key:∀(l:List aO),(kc l x).length<=l.length+1:=by
  intro l;induction l with
  |nil=>unfold kc;simp
  |cons y l ih=>
   unfold kc;split
   ·simp;omega
   split
   ·split
    ·simp;omega
    simp
   simp
 grind
theorem S8(a:Acc):GC prog 275 [.agg [int a.kind,int a.ch]] [] (aD (nd a)) []:=by
 refine gi 2 func275 rfl ntmps275 rfl ?_;intro L O w0;refine sL<|ab (zX 2001 Z) Z<|ar Z<|Y<|aS<|sL<|lf 0 oW Z<|aj ac Z<|ak Z<|aQ Z ?_;refine AL.bool (t:=6) rfl ?_ ?_
 ·intro V;refine aa Z<|aa Z<|aa Z<|aU Z<|Y<|aY Z<|sL<|ar Z<|Y<|aR<|rT ?_;refine az trivial ?_;refine Bool.eq_iff_iff.2 ?_;rw[ve];grind
 intro V;refine lf 0 oW Z<|aj ac Z<|ak Z<|bj Z<|Y<|cE rfl ?_ ?_
 ·intro h2;refine sL<|ar Z<|Y<|aR<|rT ?_;refine az trivial ?_;refine Bool.eq_iff_iff.2 ?_;rw[ve];grind
 intro h2;refine aK<|gT<|aS<|sL<|lf 0 oW Z<|aj ac Z<|ak Z<|Y<|cE rfl ?_ ?_
 ·intro h3;refine sL<|lf 1 rV Z<|aj ac Z<|ak Z<|bv Z<|Y<|aR<|rT ?_;refine az trivial ?_;refine Bool.eq_iff_iff.2 ?_;rw[ve];grind
 intro h3;refine aK<|gA<|lf 1 rV Z<|aj ac Z<|ak Z<|aQ Z ?_;refine AL.bool (t:=20) rfl ?_ ?_
 ·intro h4;refine lf 1 rV Z<|aj ac Z<|ak Z<|bj Z<|bv Z<|Y<|aR ?_;refine az trivial ?_;refine Bool.eq_iff_iff.2 ?_;simp_all[ve]
 intro h4;refine aa Z<|aa Z<|aa Z<|bL Z<|lT [2,24] [2001] ?_;refine ar Z<|Y<|aR ?_;refine az trivial ?_;refine Bool.eq_iff_iff.2 ?_;rw[ve];grind
theorem Ls(n:Int):GC prog 276 [int n] [] (aD (dL n)) []:=by
 refine gi 2 func276 rfl ntmps276 rfl ?_;intro L O w0;refine sL<|ar Z<|nA<|ae Z<|ak Z<|aQ Z ?_;refine AL.bool (t:=5) rfl ?_ ?_
 ·intro V;refine ae Z<|ak Z<|bj Z<|bv Z<|Y<|aR ?_;refine az trivial ?_;grind[dL,aI]
 intro V;refine aa Z<|aa Z<|bL Z<|ar Z<|Y<|aR ?_;refine az trivial ?_;grind[dL,aI]
theorem Lt(l:List aO)(hn:l.length<=320):GC prog 262 [.p (.ab 167 3 (ah ct l))] [] (aD (rW l)) []:=by
 refine gi 2 func262 rfl ntmps262 rfl ?_;intro L O w0;refine sL<|ar Z<|nA<|ao Z<|Y<|aS<|sL<|bm Z<|ba hZ Z<|ae Z<|Y<|aB ?_;refine aW [0,2,6,7] [] (D:=Nat) (fun k=>[(3,int (bG qh (l.take k))),(8,int (k:Int))]) (fun k=>[]) (fun k=>k<=l.length/\∀j,j<k->oX l j=true) (fun k=>l.length-k) (0) (⟨Nat.zero_le _,fun j h=>absurd h x_2⟩) ⟨rfl,rfl,trivial⟩ trivial ?_;intro k hI;obtain⟨eN,bB⟩:=hI;refine sL<|ak Z<|Y<|aS<|cE rfl ?_ ?_
 ·intro V;refine aK<|gT<|aS<|aB<|sL<|ae Z ?_;have hk:k<l.length:=by simpa[ap]using V
  refine li k cV Z (bS hk)<|d6 oo iV Z<|ab (zA 2005 eP Z) Z<|ao Z<|ab (zB 2005 vf vg Z) Z<|Y<|aS<|aS<|aG 34 []<|yq 0 (rf 0 jf Z)<|yq 1 (dw pP i0 Z)<|cm 2 Z (zC [] [] [] func275 (S8 l[k].acc) (trivial) Z Z)<|gX [0,2,3,4,5,6,7,8,15] [2005] ?_;refine yq 3 (gQ Z)<|yq 4 (dx Z) ?_;refine AG.bool (t:=17) rfl ?_ ?_
  ·intro h2;refine bt 5 Z<|bt 6 Z<|bt 7 Z<|ep 8 Z<|ep 9 Z<|ep 10 Z<|ep 11 Z<|ep 12 Z<|ep 13 Z<|bt 14 Z<|bt 15 Z<|bt 16 Z<|bt 17 Z<|bt 18 Z<|yq 19 (bA Z)<|yq 20 (cF Z)<|bt 21 Z<|bt 22 Z<|bt 23 Z<|bt 24 Z<|yq 25 (bA Z)<|yq 26 (cF Z)<|bt 27 Z<|bt 28 Z<|bt 29 Z<|yq 30 (bA Z)<|yq 31 (cF Z)<|bt 32 Z<|bt 33 Z<|yq 34 (bA Z) ?_;refine gD<|gT<|aY Z<|sL<|ar Z<|Y<|aR<|rT<|rB<|rT<|rT<|rB<|rT ?_;refine az trivial ?_;first|(exfalso;simp only[decide_eq_true_eq]at *;omega)|grind[rX,lX]
  intro h2;refine yq 5 (dW Z)<|yq 6 (dt Z)<|yq 7 (dx Z) ?_;refine AG.bool (t:=20) rfl ?_ ?_
  ·intro h3;refine tq 8 (ng Z)<|tq 9 (dW Z) ?_;have hp:0<k:=by simpa using h3
   refine tq 10 (qV rfl x_82)<|tq 11 (rd (x:=.rp _) (yt (i:=k-1) rfl cV rfl rfl ?hn1 (bS (by omega:k-1<l.length))) rfl) ?_;case hn1=>omega
   refine tq 12 (rd (x:=.rp _) (nM jf rfl) rfl)<|tq 13 (gm pP i0 rfl)<|yq 14 (rf 0 jf rfl)<|yq 15 (dw pP i0 rfl)<|cm 16 rfl (zC [] [] [] func263 (GJ (l[k-1]' x_2).acc l[k].acc) (trivial) rfl rfl)<|gX [0,2,3,4,5,6,7,8,17,20,29] [2005] ?_;refine yq 17 (gQ Z)<|yq 18 (cv Z)<|yq 19 (cv Z)<|yq 20 (dx Z) ?_;refine AG.bool (t:=33) rfl ?_ ?_
   ·intro h4;refine bt 21 Z<|bt 22 Z<|bt 23 Z<|bt 24 Z<|yq 25 (bA Z)<|yq 26 (cF Z)<|bt 27 Z<|bt 28 Z<|bt 29 Z<|yq 30 (bA Z)<|yq 31 (cF Z)<|bt 32 Z<|bt 33 Z<|yq 34 (bA Z)<|gD<|gT<|aY Z<|sL<|ar Z<|Y<|aR<|rT<|rB<|rT<|rT<|rB<|rT ?_;refine az trivial ?_;first|(exfalso;simp only[decide_eq_true_eq]at *;omega)|grind[rX,lX,nV]
   intro h4;refine yq 21 (rf 2 ni Z)<|yq 22 (aZ ac Z)<|cm 23 Z (zC [] [] [] func276 (Ls l[k].af) (trivial) Z Z)<|yq 24 (gQ Z)<|yq 25 (cv Z)<|yq 26 (dx Z) ?_;refine AG.bool (t:=39) rfl ?_ ?_
   ·intro h5;refine bt 27 Z<|bt 28 Z<|bt 29 Z<|yq 30 (bA Z)<|yq 31 (cF Z)<|bt 32 Z<|bt 33 Z<|yq 34 (bA Z)<|gD<|gT<|aY Z<|sL<|ar Z<|Y<|aR<|rT<|rB<|rT<|rT<|rB<|rT ?_;refine az trivial ?_;first|(exfalso;simp only[decide_eq_true_eq]at *;omega)|grind[rX,lX]
   intro h5;refine yq 27 (rf 2 ni Z)<|yq 28 (aZ ac Z)<|yq 29 (dt Z)<|yq 30 (cv Z)<|yq 31 (dx Z) ?_;refine AG.bool (t:=44) rfl ?_ ?_
   ·intro h6;refine bt 32 Z<|bt 33 Z<|yq 34 (bA Z)<|gD<|gT<|aY Z<|sL<|ar Z<|Y<|aR<|rT<|rB<|rT<|rT<|rB<|rT ?_;refine az trivial ?_;first|(exfalso;simp only[decide_eq_true_eq]at *;omega)|grind[rX,lX]
   intro h6;refine yq 32 (dW Z)<|yq 33 (dt Z)<|yq 34 (cv Z)<|gX [0,2,3,5,6,7,8,47] [2005] ?_;refine gD<|gT<|cE rfl ?_ ?_
   ·intro h7;refine sL<|ar Z<|Y<|aR<|rT<|rB<|rT<|rT<|rB<|rT ?_;grind
   intro h7;refine aK<|gT<|aL<|ae Z<|lf 2 ni Z<|aj ac Z ?_;have yD:vh l k l[k]=true:=by
    rcases Nat.eq_zero_or_pos k with q|q
    ·omega
    grind[nV]
   have kd:oX l k=true:=by rw[lX hk,yD];simp_all[dL]
   have yE:dL l[k].af=true:=by rw[lX hk]at kd;simp only[Bool.and_eq_true]at kd;exact kd.1.2
   refine eo rfl ⟨rfl,D1 x_2 hk bB yE⟩<|ao Z<|lN<|gB<|gT<|aL<|bg Z<|ae Z<|Y ?_;refine x_121
  intro h3;refine ep 8 Z<|ep 9 Z<|ep 10 Z<|ep 11 Z<|ep 12 Z<|ep 13 Z<|bt 14 Z<|bt 15 Z<|bt 16 Z<|bt 17 Z<|yq 18 (kK Z)<|yq 19 (kK Z)<|yq 20 (rG Z)<|yq 21 (rf 2 ni Z)<|yq 22 (aZ ac Z)<|cm 23 Z (zC [] [] [] func276 (Ls l[k].af) (trivial) Z Z)<|gX [0,2,3,4,5,6,7,8,33,36] [2005] ?_;refine yq 24 (gQ Z)<|yq 25 (cv Z)<|yq 26 (dx Z) ?_;refine AG.bool (t:=39) rfl ?_ ?_
  ·intro h8;refine bt 27 Z<|bt 28 Z<|bt 29 Z<|yq 30 (bA Z)<|yq 31 (cF Z)<|bt 32 Z<|bt 33 Z<|yq 34 (bA Z)<|gD<|gT<|aY Z<|sL<|ar Z<|Y<|aR<|rT<|rB<|rT<|rT<|rB<|rT ?_;refine az trivial ?_;first|(exfalso;simp only[decide_eq_true_eq]at *;omega)|grind[rX,lX]
  intro h8;refine yq 27 (rf 2 ni Z)<|yq 28 (aZ ac Z)<|yq 29 (dt Z)<|yq 30 (cv Z)<|yq 31 (dx Z) ?_;refine AG.bool (t:=44) rfl ?_ ?_
  ·intro h9;refine bt 32 Z<|bt 33 Z<|yq 34 (bA Z)<|gD<|gT<|aY Z<|sL<|ar Z<|Y<|aR<|rT<|rB<|rT<|rT<|rB<|rT ?_;refine az trivial ?_;first|(exfalso;simp only[decide_eq_true_eq]at *;omega)|grind[rX,lX]
  intro h9;refine yq 32 (dW Z)<|yq 33 (dt Z)<|yq 34 (cv Z)<|gD<|gT<|cE rfl ?_ ?_
  ·intro dh;refine sL<|ar Z<|Y<|aR<|rT<|rB<|rT<|rT<|rB<|rT ?_;grind
  intro dh;refine aK<|gT<|aL<|ae Z<|lf 2 ni Z<|aj ac Z ?_;have yD:vh l k l[k]=true:=by
   rcases Nat.eq_zero_or_pos k with q|q
   ·subst q;rfl
   grind
  have kd:oX l k=true:=by rw[lX hk,yD];simp_all[dL]
  have yE:dL l[k].af=true:=by rw[lX hk]at kd;simp only[Bool.and_eq_true]at kd;exact kd.1.2
  refine eo rfl ⟨rfl,D1 x_2 hk bB yE⟩<|ao Z<|lN<|gB<|gT<|aL<|bg Z<|ae Z<|Y ?_;refine x_121
 intro V;refine aE<|eT<|eT<|eB<|gA<|ae Z<|ak Z<|bv Z<|Y<|aR ?_;refine az trivial ?_;have yF:¬k<l.length:=by simpa[ap]using V
 obtain rfl:k=l.length:=by omega
 simp_all[D2,vi]
theorem BV(x:cH):GC prog 207 [cR x] [] (aD (eQ x)) []:=by
 refine gi 2 func207 rfl ntmps207 rfl ?_;intro L O w0;refine sL<|ab (zX 2001 Z) Z<|ar Z<|nA<|lf 0 pW Z<|aj ac Z<|ak Z<|aQ Z ?_;refine AL.bool (t:=6) rfl ?_ ?_
 ·intro V;refine lf 0 pW Z<|aj ac Z<|ak Z<|bj Z<|aQ Z ?_;refine AL.bool (t:=11) rfl ?_ ?_
  ·intro h2;refine lf 1 jY Z<|bo gY Z<|ba hZ Z<|ak Z<|bj Z<|aQ Z ?_;refine AL.bool (t:=17) rfl ?_ ?_
   ·intro h3;refine lf 1 jY Z<|bo gY Z<|ab (zC [] [] [] func262 (Lt x.lines (by have h:=h3;simp only[ap,decide_eq_true_eq]at h;omega)) (trivial) rfl rfl) Z<|lT [2,17,20] [2001] ?_;refine bj Z<|bv Z<|Y<|aR ?_;refine az trivial ?_;grind[eQ,ap,aI]
   intro h3;refine aa Z<|aa Z<|aa Z<|bL Z<|ar Z<|Y<|aR ?_;refine az trivial ?_;grind[eQ,ap]
  intro h2;refine aa Z<|aa Z<|aa Z<|aa Z<|bL Z<|dm Z<|aa Z<|aa Z<|aa Z<|bL Z<|ar Z<|Y<|aR ?_;refine az trivial ?_;grind[eQ,aI]
 intro V;refine aa Z<|aa Z<|aa Z<|bL Z<|dm Z<|aa Z<|aa Z<|aa Z<|aa Z<|bL Z<|dm Z<|aa Z<|aa Z<|aa Z<|bL Z<|ar Z<|Y<|aR ?_;refine az trivial ?_;grind[eQ,aI]
theorem S9(n:Int)(l:List aO):GC prog 208 [.agg [int n,.p (.ab 167 3 (ah ct l))]] [] (aD (iL n l)) []:=by
 refine gi 2 func208 rfl ntmps208 rfl ?_;intro L O w0;refine sL<|ab (zX 2001 Z) Z<|ar Z<|nA<|lf 0 wN Z<|aj ac Z<|ak Z<|aQ Z ?_;refine AL.bool (t:=6) rfl ?_ ?_
 ·intro V;refine lf 0 wN Z<|aj ac Z<|ak Z<|bj Z<|aQ Z ?_;refine AL.bool (t:=11) rfl ?_ ?_
  ·intro h2;refine lf 1 t7 Z<|bo gY Z<|ba hZ Z<|ak Z<|bj Z<|aQ Z ?_;refine AL.bool (t:=17) rfl ?_ ?_
   ·intro h3;refine lf 1 t7 Z<|bo gY Z<|ba hZ Z<|ak Z<|bj Z<|aQ Z ?_;refine AL.bool (t:=23) rfl ?_ ?_
    ·intro h4;refine lf 1 t7 Z<|bo gY Z<|ab (zC [] [] [] func262 (Lt l (by have h:=h4;simp only[ap,decide_eq_true_eq]at h;omega)) (trivial) rfl rfl) Z<|lT [2,23,26] [2001] ?_;refine bj Z<|bv Z<|Y<|aR ?_;refine az trivial ?_;grind[iL,ap,aI]
    intro h4;refine aa Z<|aa Z<|aa Z<|bL Z<|ar Z<|Y<|aR ?_;refine az trivial ?_;grind[iL,ap,aI]
   intro h3;refine aa Z<|aa Z<|aa Z<|aa Z<|bL Z<|dm Z<|aa Z<|aa Z<|aa Z<|bL Z<|ar Z<|Y<|aR ?_;refine az trivial ?_;grind[iL,ap,aI]
  intro h2;refine aa Z<|aa Z<|aa Z<|aa Z<|bL Z<|dm Z<|aa Z<|aa Z<|aa Z<|aa Z<|bL Z<|dm Z<|aa Z<|aa Z<|aa Z<|bL Z<|ar Z<|Y<|aR ?_;refine az trivial ?_;grind[iL,aI]
 intro V;refine aa Z<|aa Z<|aa Z<|bL Z<|dm Z<|aa Z<|aa Z<|aa Z<|aa Z<|bL Z<|dm Z<|aa Z<|aa Z<|aa Z<|aa Z<|bL Z<|dm Z<|aa Z<|aa Z<|aa Z<|bL Z<|ar Z<|Y<|aR ?_;refine az trivial ?_;grind[iL,aI]
theorem GK(l:List aO)(x:aO)(hn:l.length<=1000)(hb:wP 1152921504606846976 l)(hx:-1152921504606846976<=x.af/\x.af<=1152921504606846976):GC prog 209 [.p (.ab 167 3 (ah ct l)),.agg [int x.acc.kind,int x.acc.ch,int x.af]] [] (.own 2009) [(2009,dc (kc l x))]:=by
 refine gi 4 func209 rfl ntmps209 rfl ?_;intro L O w0;refine sL<|ab (zX 2003 rfl) Z<|e9 Z<|nA<|ab (zS 2009 [] cV eP rfl x_19) Z<|bD Z<|nA<|ar Z<|Y<|aS<|sL<|bm Z<|ba hZ Z<|ae Z<|Y<|aB ?_;refine aW [3,4,5,10,11] [2003] (D:=Nat) (fun k=>[(6,aD (iE x (l.take k)).1),(12,int (k:Int))]) (fun k=>[(2009,dc (iE x (l.take k)).2)]) (fun k=>k<=l.length) (fun k=>l.length-k) (0) (Nat.zero_le _) ⟨rfl,rfl,trivial⟩ ⟨rfl,trivial⟩ ?_;intro k hI;refine sL<|ak Z<|Y<|aS<|cE rfl ?_ ?_
 ·intro V;refine aK<|gT<|aS<|aB<|sL ?_;have hk:k<l.length:=by simpa[ap]using V
  have hyb:=hb _ (List.getElem_mem hk);refine li k cV Z (bS hk)<|d6 oo iV Z<|ab (zA 2008 eP Z) Z<|ab (zB 2008 vf vg Z) Z<|Y<|aS<|sL<|aQ Z<|bX Z<|aQ Z ?_;refine AL.bool (t:=18) rfl ?_ ?_
  ·intro h2;refine lf 0 jf Z<|aP pP i0 Z<|lf 0 jf Z<|aP pP i0 Z<|ab (zC [] [] [] func263 (GJ l[k].acc x.acc) (trivial) Z Z) Z<|lT [3,4,5,6,8,10,11,12,18,23] [2003,2008,2009] ?_;refine bX Z<|bj Z<|Y<|cE rfl ?_ ?_
   ·intro h3;refine aS<|sL<|lf 0 jf Z<|aP pP i0 Z<|lf 0 jf Z<|aP pP i0 Z<|lq (rd (x:=fy) (j0 rfl (.inr rfl) rfl rfl uR wA wB Ad ?hn1) rfl) ?_;case hn1=>exact x_24
    refine Y<|cE rfl ?_ ?_
    ·intro h4;refine aL<|bW Z<|aP oo iV Z<|ab (zS 2033 (ah ct [x]) cV eP rfl) Z<|ab (zP 2009 cV eP lE rfl x_18 (by grind[yC,ah])) Z<|bD Z<|nA<|cI Z<|nA<|lf 0 jf Z<|aP pP i0 Z<|lf 0 jf Z<|aP pP i0 Z<|lq (rd (x:=fy) (j0 rfl (.inl rfl) rfl rfl uR wA wB Ad ?hn2) rfl) ?_;case hn2=>exact x_24
     refine bJ 56 false rfl x_14<|Y<|aN Z<|aK<|gT<|aL<|bW Z<|aP oo iV Z<|ab (zS 2059 (ah ct [l[k]]) cV eP rfl) Z<|lT [3,4,5,6,10,11,12,57,59] [2003,2008,2009,2033,2059] ?_;refine ab (zP 2009 cV eP lE rfl x_18 (by grind[yC,ah])) Z<|bD Z<|lN<|gB<|gT<|aL<|bg Z<|ae Z<|Y ?_;have dM:iE x (l.take (k+1))=jQ x (iE x (l.take k)) l[k]:=BU hk;have sZ:(iE x (l.take k)).1=false:=by simpa using h2
     have dY:cg l[k].acc x.acc=false:=by simpa using h3
     have BW:¬(l[k].acc.kind=x.acc.kind/\l[k].acc.ch=x.acc.ch):=by have h:=h4;simp only[dA,Bool.and_true,Bool.and_eq_true,Bool.not_eq_true',Bool.and_eq_false_iff,Bool.not_eq_false',beq_iff_eq,beq_eq_false_iff_ne]at h;omega
     rw[GF sZ dY BW]at dM;refine⟨k+1,hk,by omega,⟨(Eq.trans (b:=aD true) rfl (congrArg aD (by rw[dM]))),(iq rfl),trivial⟩,⟨(Eq.trans (b:=dc ((iE x (l.take k)).2++[x]++[l[k]])) (congrArg (AO.ai 167 3) (by grind[fx])) (congrArg dc (by rw[dM]))),trivial⟩,rfl,rfl⟩
    intro h4;refine sL<|lf 2 ni Z<|aj ac Z<|lf 2 ni Z<|aj ac Z<|bg Z<|ak Z<|Y<|cE rfl ?_ ?_
    ·intro h5;refine aL<|bW Z<|lf 0 jf Z<|aP pP i0 Z<|lf 2 ni Z<|aj ac Z<|lf 2 ni Z<|aj ac Z<|bg Z<|lq (rd (x:=oo) (cP Z DK Z Z Z) Z) ?_;refine ab (zS 2050 (ah ct [⟨l[k].acc,l[k].af+x.af⟩]) cV eP rfl) Z<|lT [3,4,5,6,8,10,11,12,41,50] [2003,2008,2009,2050] ?_;refine ab (zP 2009 cV eP lE rfl x_18 (by grind[yC,ah])) Z<|bD Z<|nA<|cI Z<|nA<|lf 0 jf Z<|aP pP i0 Z<|lf 0 jf Z<|aP pP i0 Z<|lq (rd (x:=fy) (j0 rfl (.inl rfl) rfl rfl uR wA wB Ad ?hn3) rfl) ?_;case hn3=>exact x_24
     refine bJ 56 true rfl x_14<|Y<|aY Z<|aE<|eT<|eB<|gT<|aL<|bg Z<|ae Z<|Y ?_;have dM:iE x (l.take (k+1))=jQ x (iE x (l.take k)) l[k]:=BU hk;have sZ:(iE x (l.take k)).1=false:=by simpa using h2
     have dY:cg l[k].acc x.acc=false:=by simpa using h3
     have BW:(l[k].acc.kind=x.acc.kind/\l[k].acc.ch=x.acc.ch):=by have h:=h4;simp only[dA,Bool.and_true,Bool.and_eq_true,Bool.not_eq_true',Bool.and_eq_false_iff,Bool.not_eq_false',beq_iff_eq,beq_eq_false_iff_ne]at h;omega
     have wQ:¬l[k].af+x.af=0:=by simpa using h5
     rw[GG sZ dY BW wQ]at dM;refine⟨k+1,hk,by omega,⟨(Eq.trans (b:=aD true) rfl (congrArg aD (by rw[dM]))),(iq rfl),trivial⟩,⟨(Eq.trans (b:=dc ((iE x (l.take k)).2++[⟨l[k].acc,l[k].af+x.af⟩])) (congrArg (AO.ai 167 3) (fx ct _ [_]).symm) (congrArg dc (by rw[dM]))),trivial⟩,rfl,rfl⟩
    intro h5;refine aK<|gA<|cI Z<|nA<|lf 0 jf Z<|aP pP i0 Z<|lf 0 jf Z<|aP pP i0 Z<|lq (rd (x:=fy) (j0 rfl (.inl rfl) rfl rfl uR wA wB Ad ?hn4) rfl) ?_;case hn4=>exact x_24
    refine bJ 56 true rfl x_14<|Y<|aY Z<|aE<|eT<|eB<|gT<|aL<|bg Z<|ae Z<|Y ?_;have dM:iE x (l.take (k+1))=jQ x (iE x (l.take k)) l[k]:=BU hk;have sZ:(iE x (l.take k)).1=false:=by simpa using h2
    have dY:cg l[k].acc x.acc=false:=by simpa using h3
    have BW:(l[k].acc.kind=x.acc.kind/\l[k].acc.ch=x.acc.ch):=by have h:=h4;simp only[dA,Bool.and_true,Bool.and_eq_true,Bool.not_eq_true',Bool.and_eq_false_iff,Bool.not_eq_false',beq_iff_eq,beq_eq_false_iff_ne]at h;omega
    have wQ:l[k].af+x.af=0:=by simpa using h5
    rw[GH sZ dY BW wQ]at dM;refine⟨k+1,hk,by omega,⟨(Eq.trans (b:=aD true) rfl (congrArg aD (by rw[dM]))),(iq rfl),trivial⟩,⟨(Eq.trans (b:=dc ((iE x (l.take k)).2)) rfl (congrArg dc (by rw[dM]))),trivial⟩,rfl,rfl⟩
   intro h3;refine aK<|gT<|aL<|bW Z<|aP oo iV Z<|ab (zS 2059 (ah ct [l[k]]) cV eP Z) Z<|lT [3,4,5,6,10,11,12,57,59] [2003,2008,2009,2059] ?_;refine ab (zP 2009 cV eP lE rfl x_18 (by grind[yC,ah])) Z<|bD Z<|lN<|gB<|gT<|aL<|bg Z<|ae Z<|Y ?_;have dM:iE x (l.take (k+1))=jQ x (iE x (l.take k)) l[k]:=BU hk;have sZ:(iE x (l.take k)).1=false:=by simpa using h2
   have dY:cg l[k].acc x.acc=true:=by simpa using h3
   rw[GE sZ dY]at dM;refine⟨k+1,hk,by omega,⟨(Eq.trans (b:=aD (iE x (l.take k)).1) rfl (congrArg aD x_14)),(iq rfl),trivial⟩,⟨(Eq.trans (b:=dc ((iE x (l.take k)).2++[l[k]])) (congrArg (AO.ai 167 3) (fx ct _ [_]).symm) (congrArg dc (by rw[dM]))),trivial⟩,rfl,rfl⟩
  intro h2;refine aa Z<|aa Z<|aa Z<|aa Z<|aa Z<|aa Z<|bL Z<|Y<|aN Z<|aK<|gT<|aL<|bW Z<|aP oo iV Z<|ab (zS 2059 (ah ct [l[k]]) cV eP rfl) Z<|ab (zP 2009 cV eP lE rfl x_18 (by grind[yC,ah])) Z<|bD Z<|lN<|gB<|gT<|aL<|bg Z<|ae Z<|Y ?_;have dM:iE x (l.take (k+1))=jQ x (iE x (l.take k)) l[k]:=BU hk;have sZ:(iE x (l.take k)).1=true:=by simpa using h2
  rw[GD sZ]at dM;refine⟨k+1,hk,by omega,⟨(Eq.trans (b:=aD (iE x (l.take k)).1) rfl (congrArg aD x_14)),(iq rfl),trivial⟩,⟨(Eq.trans (b:=dc ((iE x (l.take k)).2++[l[k]])) (congrArg (AO.ai 167 3) (fx ct _ [_]).symm) (congrArg dc (by rw[dM]))),trivial⟩,rfl,rfl⟩
 intro V;refine aE<|eT<|eT<|eB<|gT<|aS<|sL<|aQ Z<|bX Z<|Y<|cE rfl ?_ ?_
 ·intro h6;refine aL<|bW Z<|aP oo iV Z<|ab (zS 2066 (ah ct [x]) cV eP Z) Z<|lT [4,5,64,66] [2003,2009,2066] ?_;refine ab (zP 2009 cV eP lE rfl x_18 (by grind[yC,ah])) Z<|bD Z<|nA<|bW Z<|bD Z<|Y<|aR ?_;have dZ:k=l.length:=by have h:=V;simp only[ap,decide_eq_false_iff_not]at h;omega
  subst dZ;refine ax ?_ ⟨(Eq.trans (b:=dc ((iE x (l.take l.length)).2++[x])) (congrArg (AO.ai 167 3) (fx ct _ [_]).symm) (congrArg dc (by grind[Lq]))),trivial⟩;rfl
 intro h6;refine aK<|gA<|bW Z<|bD Z<|Y<|aR ?_;have dZ:k=l.length:=by have h:=V;simp only[ap,decide_eq_false_iff_not]at h;omega
 subst dZ;refine ax ?_ ⟨(congrArg dc (by grind[Lp])),trivial⟩;rfl

def yG{α:Type}(l m:List α)(k:Nat):Prop:=∀j (V:j<l.length) (h2:j<m.length),j<k->l[j]=m[j]
theorem yG.zero{α:Type}(l m:List α):yG l m 0:=fun j _ _ h=>absurd h x_2
theorem yG.next{α:Type}{l m:List α}{k:Nat}(h:yG l m k)(V:k<l.length)(h2:k<m.length)(e:l[k]=m[k]):yG l m (k+1):=fun j q1 q2 q3=>by
 by_cases r:j=k
 ·grind
 exact h j q1 q2 x_2
theorem yG.all{α:Type}{l m:List α}{k:Nat}(h:yG l m k)(hl:l.length=m.length)(hk:¬k<l.length):l=m:=List.ext_getElem hl fun j q1 q2=>h j q1 q2 x_2
theorem Ta:GC prog 36 [] [] (.agg [int 0,int 1,int 0,.p (.v (.slice none 0 0)),.p (.v (.slice none 0 0)),.p (.v (.slice none 0 0))]) []:=by
 refine GC.intro (rs:=[.cell 0 50 (some 6)]) func36 rfl ntmps36 x_8 ⟨rfl,rfl,cu,trivial⟩ ?_;intro L O w0;refine sL<|ab (zA 2000 mD Z) Z<|nA<|lq (rd (x:=.agg [c6,c6,c6,vV _,vV _,vV _]) (cP Z s6 Z Z Z) Z)<|ab (zB 2000 eu ew Z) Z<|Y<|aR ?_;trivial
theorem QH:GC prog 36 [] [] (cj pm) []:=GX.imp Ta (fun x bd ⟨e1,e2⟩=>by
 subst e1 e2;exact⟨cj pm,fe.agg (ff.cons (fe.refl _) (ff.cons (fe.refl _) (ff.cons (fe.refl _) (ff.cons (fe.nil _ _) (ff.cons (fe.nil _ _) (ff.cons (fe.nil _ _) ff.nil)))))),rfl,rfl⟩)
theorem J7{x:aw}{es:List aV}:∀k,k<=es.length->∀p∈(bK x (es.take k)).ps,p.lines.length<=1000
 |0,_=>by grind[Tb]
 |k+1,h=>by
  rw[fl x_2];have ih:=J7 (x:=x) (es:=es) k x_2;unfold kz;dsimp only;split
  ·rename_i q;intro p hp;rcases List.mem_append.1 hp with r|r
   ·exact ih p r
   rw[List.mem_singleton.1 r];by_cases z:(bz (bK x (es.take k)).now es[k]).l=[]
   ·rw[(ub q.1 z).2];simp
   rw[(rU q.1 z).2];have:=(Ab q.1).len;show (bz _ _).l.length<=1000;omega
  exact ih
theorem QJ(ps:List dX)(nu:∀p∈ps,p.lines.length<=1000)(hn:ps.length<=1000000):GC prog 175 [.agg [int 0,.p (.v (.slice none 0 0))],.p (.ab 92 2 (qI ps))] [] (.au [cR (jJ ⟨0,[]⟩ ps).1,int (jJ ⟨0,[]⟩ ps).2]) []:=GC.amZ (SU ⟨0,[]⟩ ps rfl nu hn) (ff.cons (fe.agg (ff.cons (fe.refl _) (ff.cons (fe.nil _ _) ff.nil))) (ff.cons (fe.refl _) ff.nil))
theorem QB:eG pm=true:=by rfl

theorem D3{l p:List aO}{k:Nat}(h:k<p.length):iM l (p.take (k+1))=kc (iM l (p.take k)) p[k]:=by
 grind[iM,List.take_succ_eq_append_getElem]
theorem D4{l p:List aO}(hl:∀z∈l,dL z.af=true)(hp:∀z∈p,dL z.af=true):∀k,k<=p.length->(iM l (p.take k)).length<=l.length+k/\wP (1125899906842624+k*1125899906842624) (iM l (p.take k))
 |0,_=>by
  rw[List.take_zero];exact⟨Nat.le_refl _,fun z hz=>by have:=cJ.1 (hl z hz);omega⟩
 |k+1,h=>by
  obtain⟨V,h2⟩:=D4 hl hp k x_2;rw[D3 x_2];have h3:=S7 (x:=p[k]) (iM l (p.take k));have h4:=cJ.1 (hp _ (List.getElem_mem (show k<p.length by omega)));refine⟨by omega,?_⟩;have:=Lr (c:=1125899906842624) x_2 x_2 (x:=p[k]) x_99 h2;intro z hz;have:=this z hz;push_cast at *;omega
theorem Lv{l:cH}{p:dX}(h:(eQ l&&iL p.id p.lines)=false):iR l p=1:=by simp_all[iR]
theorem Tc{l:cH}{p:dX}(h:eQ l=true)(h2:iL p.id p.lines=true)(h3:p.id<=l.last):iR l p=2:=by simp_all[iR]
theorem GL{l:cH}{p:dX}(h:eQ l=true)(h2:iL p.id p.lines=true)(h3:¬p.id<=l.last)(h4:eQ ⟨p.id,iM l.lines p.lines⟩=true):iR l p=0:=by simp_all[iR]
theorem GM{l:cH}{p:dX}(h:eQ l=true)(h2:iL p.id p.lines=true)(h3:¬p.id<=l.last)(h4:eQ ⟨p.id,iM l.lines p.lines⟩=false):iR l p=3:=by simp_all[iR]
def Td(l:cH)(p:dX):AV->List (Nat×AO)->Prop:=fun y ob=>ob=[]/\((iR l p≠0/\y=.au [.agg [int 0,.p (.v (.slice none 0 0))],int (iR l p)])\/(iR l p=0/\y=.au [.agg [int p.id,.p (.ab 167 3 (ah ct (iM l.lines p.lines)))],int 0]))
theorem x_125{p:Prop}(c:p:=by exact ⟨k+1,hk,by omega,x_11,⟨(by rw[D3 hk];rfl),trivial⟩,rfl,rfl⟩):p:=c
theorem Te(l:cH)(p:dX)(hp:p.lines.length<=1000):GX prog 109 [cR l,DT p] [] (Td l p):=by
 refine GX.intro (rs:=[.cell 4 53 (some 2),.tmp 5]) func109 rfl ntmps109 x_8 x_134 ?_;intro L O w0;refine sL<|ab (zX 2002 Z) Z<|ab (zX 2003 Z) Z<|ab (zA 2004 ld Z) Z<|ao Z<|Y<|aS<|sL<|aP kj eZ Z<|ab (zC [] [] [] func207 (BV l) (trivial) Z Z) Z<|bX Z<|aQ Z ?_;refine AL.bool (t:=12) rfl ?_ ?_
 ·intro V;refine aa Z<|aa Z<|aa Z<|aU Z<|Y<|aY Z<|sL<|lq (rd (x:=.agg [c6,vV _]) (cP Z lP Z Z Z) Z)<|ab (zB 2004 cA cB Z) Z<|ao Z<|Y<|aR<|rT ?_;refine fN ((.au [.agg [int 0,.p (.v (.slice none 0 0))],int 1])) [] ?_ rfl trivial;have hc:iR l p=1:=Lv (by simp_all);exact x_49
 intro V;refine aP kj ol Z<|ab (zC [] [] [] func208 (S9 p.id p.lines) (trivial) Z Z) Z<|lT [2,3,4,5,12,14] [2002,2003,2004] ?_;refine bX Z<|bj Z<|Y<|cE rfl ?_ ?_
 ·intro h2;refine sL<|lq (rd (x:=.agg [c6,vV _]) (cP Z lP Z Z Z) Z)<|ab (zB 2004 cA cB Z) Z<|ao Z<|Y<|aR<|rT ?_;refine fN ((.au [.agg [int 0,.p (.v (.slice none 0 0))],int 1])) [] ?_ rfl trivial;have hc:iR l p=1:=Lv (by simp_all);exact x_49
 intro h2;refine aK<|gT<|aS<|sL<|lf 0 wN Z<|aj ac Z<|lf 0 pW Z<|aj ac Z<|ak Z<|Y<|cE rfl ?_ ?_
 ·intro h3;refine sL<|lq (rd (x:=.agg [c6,vV _]) (cP Z lP Z Z Z) Z)<|ab (zB 2004 cA cB Z) Z<|ao Z<|Y<|aR<|rT ?_;refine fN ((.au [.agg [int 0,.p (.v (.slice none 0 0))],int 2])) [] ?_ rfl trivial;have hc:iR l p=2:=Tc x_14 x_14 x_14;exact x_49
 intro h3;refine aK<|gT<|aS<|aG 8 [2026]<|tq 0 (rf 0 wN Z)<|tq 1 (aZ ac Z)<|tq 3 (rf 1 jY Z)<|tq 4 (jj gY Z) ?_;refine AG.two (i:=2) (j:=7) x_37 ?_ ?_
 ·refine oe.st (i:=2) rfl (BO 2026 (rows:=[]) rfl rfl x_3 cV eP rfl rfl rfl rfl x_19 rfl x_3 x_3) x_3 rfl ?_;refine gX [3,4,5,25,26,28] [2002,2003,2004,2026] ?_;refine AG.two (i:=5) (j:=7) x_37 ?_ ?_
  ·have gH:eQ l=true:=by simpa using V
   have oU:iL p.id p.lines=true:=by simpa using h2
   obtain⟨qY,lD,-,-⟩:=va gH;obtain⟨BT,nS,-,-⟩:=DU oU;have hold:¬p.id<=l.last:=by simpa using h3
   refine oe.st (i:=5) rfl (St.gJ 2026 rfl rfl x_3 cV eP rfl x_3 rfl rfl (Src.p rfl) (by grind[ah,maxLen]) (Nat.le_trans (Nat.mul_le_mul_left _ lE) x_69)) x_3 rfl ?_;refine AG.freeze 2026 rfl ?_;refine tq 6 (rd (x:=kj) (cP Z lP Z Z Z) Z)<|cm 7 Z (zA 2006 ld Z)<|yl Z (zB 2006 cA cB Z)<|gT<|aS<|sL<|lf 1 t7 Z<|bo gY Z<|ba hZ Z<|ae Z<|Y<|aB ?_;refine aW [4,5,6,32,33] [2002,2003,2004] (D:=Nat) (fun k=>[(34,int (k:Int))]) (fun k=>[(2006,.box 53 none [int p.id,.p (.ab 167 3 (ah ct (iM l.lines (p.lines.take k))))])]) (fun k=>k<=p.lines.length) (fun k=>p.lines.length-k) (0) (Nat.zero_le _) ⟨rfl,trivial⟩ ⟨rfl,trivial⟩ ?_;intro k hI;refine sL<|ak Z<|Y<|aS<|cE rfl ?_ ?_
   ·intro h4;refine aK<|gT<|aS<|aB<|sL ?_;have hk:k<p.lines.length:=by simpa[ap]using h4
    have nj:=D4 lD nS k x_2;have Lw:(k:Int)<=8:=by omega
    have ml:=nj.1;have pE:wP 1152921504606846976 (iM l.lines (p.lines.take k)):=fun z hz=>by have V:=nj.2 z hz;omega
    have Lx:=cJ.1 (nS _ (List.getElem_mem hk));have uc:-1152921504606846976<=p.lines[k].af/\p.lines[k].af<=1152921504606846976:=by omega
    refine li k cV rfl (bS hk)<|d6 oo iV Z<|ab (zA 2008 eP rfl) Z<|ab (zB 2008 vf vg rfl) Z<|Y<|aL<|lf 1 jY Z<|bo gY Z<|aP oo iV Z<|ab (zC [(2009,60)] [60] [] func209 (GK (iM l.lines (p.lines.take k)) p.lines[k] x_2 pE uc) (trivial) rfl rfl) Z<|lT [4,5,6,32,33,34,41] [60,2002,2003,2004,2006,2008] ?_;refine AL.freeze 60 rfl ?_;refine lf 1 jY Z<|ab (zB 2006 z8 z' Z) Z<|lN<|gB<|gT<|aL<|bg Z<|ae Z<|Y ?_;refine x_125
   intro h4;refine aE<|eT<|eT<|eB<|gT<|aS<|sL ?_;have dZ:p.lines.take k=p.lines:=List.take_of_length_le x_33;rw[dZ];refine aP kj eZ rfl ?_;refine ab (zC [] [] [] func207 (BV ⟨p.id,iM l.lines p.lines⟩) (trivial) rfl rfl) Z<|bX Z<|Y<|cE rfl ?_ ?_
   ·intro h5;refine sL<|lq (rd (x:=.agg [c6,vV _]) (cP Z lP Z Z Z) Z)<|ab (zB 2004 cA cB Z) Z<|ao Z<|Y<|aR<|rT ?_;refine fN ((.au [.agg [int 0,.p (.v (.slice none 0 0))],int 3])) [] ?_ rfl trivial;have hc:iR l p=3:=GM gH oU hold x_14;exact x_49
   intro h5;refine aK<|gA<|aP kj eZ Z<|ab (zB 2004 cA cB Z) Z<|ao Z<|Y<|aR ?_;refine fN ((.au [.agg [int p.id,.p (.ab 167 3 (ah ct (iM l.lines p.lines)))],int 0])) [] ?_ rfl trivial;exact⟨rfl,.inr ⟨GL gH oU hold x_14,rfl⟩⟩
  refine oe.st (i:=7) rfl (St.alloc 2006 rfl rfl x_3 ld) x_3 rfl ?_;refine gX [3,4,5,6,25,26,28] [2002,2003,2004,2006,2026] ?_;have gH:eQ l=true:=by simpa using V
  have oU:iL p.id p.lines=true:=by simpa using h2
  obtain⟨qY,lD,-,-⟩:=va gH;obtain⟨BT,nS,-,-⟩:=DU oU;have hold:¬p.id<=l.last:=by simpa using h3
  refine cm 5 rfl (zP 2026 cV eP lE rfl (Src.p rfl)) ?_;refine AG.freeze 2026 rfl ?_;refine yq 6 (rd (x:=kj) (cP Z lP Z Z Z) Z)<|yl Z (zB 2006 cA cB Z)<|gT<|aS<|sL<|lf 1 t7 Z<|bo gY Z<|ba hZ Z<|ae Z<|Y<|aB ?_;refine aW [4,5,6,32,33] [2002,2003,2004] (D:=Nat) (fun k=>[(34,int (k:Int))]) (fun k=>[(2006,.box 53 none [int p.id,.p (.ab 167 3 (ah ct (iM l.lines (p.lines.take k))))])]) (fun k=>k<=p.lines.length) (fun k=>p.lines.length-k) (0) (Nat.zero_le _) ⟨rfl,trivial⟩ ⟨rfl,trivial⟩ ?_;intro k hI;refine sL<|ak Z<|Y<|aS<|cE rfl ?_ ?_
  ·intro h6;refine aK<|gT<|aS<|aB<|sL ?_;have hk:k<p.lines.length:=by simpa[ap]using h6
   have nj:=D4 lD nS k x_2;have Lw:(k:Int)<=8:=by omega
   have ml:=nj.1;have pE:wP 1152921504606846976 (iM l.lines (p.lines.take k)):=fun z hz=>by have V:=nj.2 z hz;omega
   have Lx:=cJ.1 (nS _ (List.getElem_mem hk));have uc:-1152921504606846976<=p.lines[k].af/\p.lines[k].af<=1152921504606846976:=by omega
   refine li k cV rfl (bS hk)<|d6 oo iV Z<|ab (zA 2008 eP rfl) Z<|ab (zB 2008 vf vg rfl) Z<|Y<|aL<|lf 1 jY Z<|bo gY Z<|aP oo iV Z<|ab (zC [(2009,60)] [60] [] func209 (GK (iM l.lines (p.lines.take k)) p.lines[k] x_2 pE uc) (trivial) rfl rfl) Z<|lT [4,5,6,32,33,34,41] [60,2002,2003,2004,2006,2008] ?_;refine AL.freeze 60 rfl ?_;refine lf 1 jY Z<|ab (zB 2006 z8 z' Z) Z<|lN<|gB<|gT<|aL<|bg Z<|ae Z<|Y ?_;refine x_125
  intro h6;refine aE<|eT<|eT<|eB<|gT<|aS<|sL ?_;have dZ:p.lines.take k=p.lines:=List.take_of_length_le x_33;rw[dZ];refine aP kj eZ rfl ?_;refine ab (zC [] [] [] func207 (BV ⟨p.id,iM l.lines p.lines⟩) (trivial) rfl rfl) Z<|bX Z<|Y<|cE rfl ?_ ?_
  ·intro h7;refine sL<|lq (rd (x:=.agg [c6,vV _]) (cP Z lP Z Z Z) Z)<|ab (zB 2004 cA cB Z) Z<|ao Z<|Y<|aR<|rT ?_;refine fN ((.au [.agg [int 0,.p (.v (.slice none 0 0))],int 3])) [] ?_ rfl trivial;have hc:iR l p=3:=GM gH oU hold x_14;exact x_49
  intro h7;refine aK<|gA<|aP kj eZ Z<|ab (zB 2004 cA cB Z) Z<|ao Z<|Y<|aR ?_;refine fN ((.au [.agg [int p.id,.p (.ab 167 3 (ah ct (iM l.lines p.lines)))],int 0])) [] ?_ rfl trivial;exact⟨rfl,.inr ⟨GL gH oU hold x_14,rfl⟩⟩
 refine oe.st (i:=7) rfl (St.alloc 2006 rfl rfl x_3 ld) x_3 rfl ?_;refine gX [3,4,5,6,25,28] [2002,2003,2004,2006] ?_;refine cm 2 rfl (zS 2026 [] cV eP rfl x_19) ?_;have gH:eQ l=true:=by simpa using V
 have oU:iL p.id p.lines=true:=by simpa using h2
 obtain⟨qY,lD,-,-⟩:=va gH;obtain⟨BT,nS,-,-⟩:=DU oU;have hold:¬p.id<=l.last:=by simpa using h3
 refine cm 5 rfl (zP 2026 cV eP lE rfl (Src.p rfl)) ?_;refine AG.freeze 2026 rfl ?_;refine yq 6 (rd (x:=kj) (cP Z lP Z Z Z) Z)<|yl Z (zB 2006 cA cB Z)<|gT<|aS<|sL<|lf 1 t7 Z<|bo gY Z<|ba hZ Z<|ae Z<|Y<|aB ?_;refine aW [4,5,6,32,33] [2002,2003,2004] (D:=Nat) (fun k=>[(34,int (k:Int))]) (fun k=>[(2006,.box 53 none [int p.id,.p (.ab 167 3 (ah ct (iM l.lines (p.lines.take k))))])]) (fun k=>k<=p.lines.length) (fun k=>p.lines.length-k) (0) (Nat.zero_le _) ⟨rfl,trivial⟩ ⟨rfl,trivial⟩ ?_;intro k hI;refine sL<|ak Z<|Y<|aS<|cE rfl ?_ ?_
 ·intro h8;refine aK<|gT<|aS<|aB<|sL ?_;have hk:k<p.lines.length:=by simpa[ap]using h8
  have nj:=D4 lD nS k x_2;have Lw:(k:Int)<=8:=by omega
  have ml:=nj.1;have pE:wP 1152921504606846976 (iM l.lines (p.lines.take k)):=fun z hz=>by have V:=nj.2 z hz;omega
  have Lx:=cJ.1 (nS _ (List.getElem_mem hk));have uc:-1152921504606846976<=p.lines[k].af/\p.lines[k].af<=1152921504606846976:=by omega
  refine li k cV rfl (bS hk)<|d6 oo iV Z<|ab (zA 2008 eP rfl) Z<|ab (zB 2008 vf vg rfl) Z<|Y<|aL<|lf 1 jY Z<|bo gY Z<|aP oo iV Z<|ab (zC [(2009,60)] [60] [] func209 (GK (iM l.lines (p.lines.take k)) p.lines[k] x_2 pE uc) (trivial) rfl rfl) Z<|lT [4,5,6,32,33,34,41] [60,2002,2003,2004,2006,2008] ?_;refine AL.freeze 60 rfl ?_;refine lf 1 jY Z<|ab (zB 2006 z8 z' Z) Z<|lN<|gB<|gT<|aL<|bg Z<|ae Z<|Y ?_;refine x_125
 intro h8;refine aE<|eT<|eT<|eB<|gT<|aS<|sL ?_;have dZ:p.lines.take k=p.lines:=List.take_of_length_le x_33;rw[dZ];refine aP kj eZ rfl ?_;refine ab (zC [] [] [] func207 (BV ⟨p.id,iM l.lines p.lines⟩) (trivial) rfl rfl) Z<|bX Z<|Y<|cE rfl ?_ ?_
 ·intro h9;refine sL<|lq (rd (x:=.agg [c6,vV _]) (cP Z lP Z Z Z) Z)<|ab (zB 2004 cA cB Z) Z<|ao Z<|Y<|aR<|rT ?_;refine fN ((.au [.agg [int 0,.p (.v (.slice none 0 0))],int 3])) [] ?_ rfl trivial;have hc:iR l p=3:=GM gH oU hold x_14;exact x_49
 intro h9;refine aK<|gA<|aP kj eZ Z<|ab (zB 2004 cA cB Z) Z<|ao Z<|Y<|aR ?_;refine fN ((.au [.agg [int p.id,.p (.ab 167 3 (ah ct (iM l.lines p.lines)))],int 0])) [] ?_ rfl trivial;exact⟨rfl,.inr ⟨GL gH oU hold x_14,rfl⟩⟩
theorem GO(l:cH)(p:dX)(hp:p.lines.length<=1000):GC prog 109 [cR l,DT p] [] (.au [cR (qi l p),int (iR l p)]) []:=GX.imp (Te l p hp) (fun x bd ⟨e1,e2⟩=>by
 subst e1;rcases e2 with⟨h,rfl⟩|⟨h,rfl⟩
 ·rw[show qi l p=⟨0,[]⟩from if_neg h];exact⟨_,fe.au (ff.cons (fe.agg (ff.cons (fe.refl _) (ff.cons (fe.nil _ _) ff.nil))) (ff.cons (fe.refl _) ff.nil)),rfl,rfl⟩
 simp_all[qi,fe.refl])
theorem yH{l:cH}{ps:List dX}{k:Nat}(h:k<ps.length):fP l (ps.take (k+1))=BX (fP l (ps.take k)) ps[k]:=by
 grind[fP,List.take_succ_eq_append_getElem]
theorem D5{l:cH}{ps:List dX}(hl:l.lines.length<=320):∀k,k<=ps.length->(fP l (ps.take k)).1.lines.length<=320/\0<=(fP l (ps.take k)).2/\(fP l (ps.take k)).2<=k
 |0,_=>by rw[List.take_zero];exact⟨hl,Int.le_refl _,Int.le_refl _⟩
 |k+1,h=>by
  rw[yH x_2];obtain⟨V,h2,h3⟩:=D5 (ps:=ps) hl k x_2;unfold BX;split
  ·rename_i q;refine⟨?_,by dsimp only;omega,by dsimp only;omega⟩;have:=(va (Tf q).2.2.2).1;unfold qi;rw[if_pos q];exact this
  omega
def Tg(l:cH)(ps:List dX):AV->List (Nat×AO)->Prop:=fun y ob=>ob=[]/\((eQ l=false/\y=.au [.agg [int 0,.p (.v (.slice none 0 0))],int (-1)])\/(eQ l=true/\y=.au [cR (fP l ps).1,int (fP l ps).2]))
theorem Th(l:cH)(ps:List dX)(nu:∀p∈ps,p.lines.length<=1000)(hn:ps.length<=1000000):GX prog 169 [cR l,.p (.ab 92 2 (qI ps))] [] (Tg l ps):=by
 refine GX.intro (rs:=[.cell 4 53 (some 2),.tmp 5]) func169 rfl ntmps169 x_8 x_134 ?_;intro L O w0;refine sL<|ab (zX 2002 Z) Z<|ab (zA 2004 ld Z) Z<|ao Z<|Y<|aS<|sL<|aP kj eZ Z<|ab (zC [] [] [] func207 (BV l) (trivial) Z Z) Z<|bX Z<|Y<|cE rfl ?_ ?_
 ·intro V;refine sL<|lq (rd (x:=.agg [c6,vV _]) (cP Z lP Z Z Z) Z)<|ab (zB 2004 cA cB Z) Z<|ao Z<|Y<|aR<|rT ?_;refine fN ((.au [.agg [int 0,.p (.v (.slice none 0 0))],int (-1)])) [] ?_ rfl trivial;exact⟨rfl,.inl ⟨by grind,rfl⟩⟩
 intro V;refine aK<|gT<|aS<|aG 8 [2018]<|tq 0 (rf 0 pW Z)<|tq 1 (aZ ac Z)<|tq 3 (rf 1 jY Z)<|tq 4 (jj gY Z) ?_;refine AG.two (i:=2) (j:=7) x_37 ?_ ?_
 ·refine oe.st (i:=2) rfl (BO 2018 (rows:=[]) rfl rfl x_3 cV eP rfl rfl rfl rfl x_19 rfl x_3 x_3) x_3 rfl ?_;refine gX [1,4,5,17,18,20] [2002,2004,2018] ?_;refine AG.two (i:=5) (j:=7) x_37 ?_ ?_
  ·have gH:eQ l=true:=by simpa using V
   obtain⟨qY,lD,-,-⟩:=va gH;refine oe.st (i:=5) rfl (St.gJ 2018 rfl rfl x_3 cV eP rfl x_3 rfl rfl (Src.p rfl) (by grind[ah,maxLen]) (Nat.le_trans (Nat.mul_le_mul_left _ lE) x_69)) x_3 rfl ?_;refine AG.freeze 2018 rfl ?_;refine tq 6 (rd (x:=kj) (cP Z lP Z Z Z) Z)<|cm 7 Z (zA 2006 ld Z)<|yl Z (zB 2006 cA cB Z)<|gA<|ao Z<|Y<|aS<|sL<|bm Z<|ba pX Z<|ae Z<|Y<|aB ?_;refine aW [4,5,6,23,24] [2002,2004] (D:=Nat) (fun k=>[(7,int (fP l (ps.take k)).2),(25,int (k:Int))]) (fun k=>[(2006,.box 53 none [int (fP l (ps.take k)).1.last,.p (.ab 167 3 (ah ct (fP l (ps.take k)).1.lines))])]) (fun k=>k<=ps.length) (fun k=>ps.length-k) (0) (Nat.zero_le _) ⟨rfl,rfl,trivial⟩ ⟨rfl,trivial⟩ ?_;intro k hI;refine sL<|ak Z<|Y<|aS<|cE rfl ?_ ?_
   ·intro h2;refine aK<|gT<|aS<|aB<|sL ?_;have hk:k<ps.length:=by simpa[fw]using h2
    have hs:=D5 (ps:=ps) qY k x_2;refine li k vb Z (DV hk)<|d6 kj ol Z<|ab (zA 2009 pC Z) Z<|ab (zB 2009 na nb Z) Z<|nA<|aP kj eZ Z<|aP kj ol Z<|ab (zC [] [] [] func109 (GO (fP l (ps.take k)).1 ps[k] (nu _ (List.getElem_mem hk))) (trivial) Z Z) Z<|lT [4,5,6,7,23,24,25,32] [2002,2004,2006,2009] ?_;refine cT (.au [kj,c6]) Z<|iB kj Z<|dE Z<|ab (zA 2010 ld Z) Z<|ab (zB 2010 cA cB Z) Z<|ao Z<|nA<|ae Z<|ak Z<|Y<|cE rfl ?_ ?_
    ·intro h3;refine sL<|aP kj eZ Z<|ab (zB 2006 cA cB Z) Z<|Y<|aL<|ae Z<|bg Z<|ao Z<|lN<|gB<|gT<|aL<|bg Z<|ae Z<|Y ?_;have dM:fP l (ps.take (k+1))=(qi (fP l (ps.take k)).1 ps[k],(fP l (ps.take k)).2+1):=by
      rw[yH hk];exact if_pos x_14
     refine x_43
    intro h3;refine aK<|gB<|gT<|aL<|bg Z<|ae Z<|Y ?_;have dM:fP l (ps.take (k+1))=fP l (ps.take k):=by
     rw[yH hk];exact if_neg x_14
    refine x_43
   intro h2;refine aE<|eT<|eT<|eB<|gA<|aP kj eZ Z<|ae Z<|ab (zB 2004 cA cB Z) Z<|lT [4,5,42] [2002,2004,2006] ?_;refine ao Z<|Y<|aR ?_;have dZ:ps.take k=ps:=List.take_of_length_le (by grind[fw]);rw[dZ];refine fN ((.au [cR (fP l ps).1,int (fP l ps).2])) [] ?_ rfl trivial;exact⟨rfl,.inr ⟨gH,rfl⟩⟩
  refine oe.st (i:=7) rfl (St.alloc 2006 rfl rfl x_3 ld) x_3 rfl ?_;have gH:eQ l=true:=by simpa using V
  obtain⟨qY,lD,-,-⟩:=va gH;refine cm 5 rfl (zP 2018 cV eP lE rfl (Src.p rfl)) ?_;refine AG.freeze 2018 rfl ?_;refine yq 6 (rd (x:=kj) (cP Z lP Z Z Z) Z)<|yl Z (zB 2006 cA cB Z)<|gA<|ao Z<|Y<|aS<|sL<|bm Z<|ba pX Z<|ae Z<|Y<|aB ?_;refine aW [4,5,6,23,24] [2002,2004] (D:=Nat) (fun k=>[(7,int (fP l (ps.take k)).2),(25,int (k:Int))]) (fun k=>[(2006,.box 53 none [int (fP l (ps.take k)).1.last,.p (.ab 167 3 (ah ct (fP l (ps.take k)).1.lines))])]) (fun k=>k<=ps.length) (fun k=>ps.length-k) (0) (Nat.zero_le _) ⟨rfl,rfl,trivial⟩ ⟨rfl,trivial⟩ ?_;intro k hI;refine sL<|ak Z<|Y<|aS<|cE rfl ?_ ?_
  ·intro h4;refine aK<|gT<|aS<|aB<|sL ?_;have hk:k<ps.length:=by simpa[fw]using h4
   have hs:=D5 (ps:=ps) qY k x_2;refine li k vb Z (DV hk)<|d6 kj ol Z<|ab (zA 2009 pC Z) Z<|ab (zB 2009 na nb Z) Z<|lT [4,5,6,7,9,23,24,25] [2002,2004,2006,2009] ?_;refine nA<|aP kj eZ Z<|aP kj ol Z<|ab (zC [] [] [] func109 (GO (fP l (ps.take k)).1 ps[k] (nu _ (List.getElem_mem hk))) (trivial) Z Z) Z<|cT (.au [kj,c6]) Z<|iB kj Z<|dE Z<|ab (zA 2010 ld Z) Z<|ab (zB 2010 cA cB Z) Z<|ao Z<|nA<|ae Z<|ak Z<|Y<|cE rfl ?_ ?_
   ·intro h5;refine sL<|aP kj eZ Z<|ab (zB 2006 cA cB Z) Z<|Y<|aL<|ae Z<|bg Z<|ao Z<|lN<|gB<|gT<|aL<|bg Z<|ae Z<|Y ?_;have dM:fP l (ps.take (k+1))=(qi (fP l (ps.take k)).1 ps[k],(fP l (ps.take k)).2+1):=by
     rw[yH hk];exact if_pos x_14
    refine x_43
   intro h5;refine aK<|gB<|gT<|aL<|bg Z<|ae Z<|Y ?_;have dM:fP l (ps.take (k+1))=fP l (ps.take k):=by
    rw[yH hk];exact if_neg x_14
   refine x_43
  intro h4;refine aE<|eT<|eT<|eB<|gA<|aP kj eZ Z<|ae Z<|ab (zB 2004 cA cB Z) Z<|lT [4,5,42] [2002,2004,2006] ?_;refine ao Z<|Y<|aR ?_;have dZ:ps.take k=ps:=List.take_of_length_le (by grind[fw]);rw[dZ];refine fN ((.au [cR (fP l ps).1,int (fP l ps).2])) [] ?_ rfl trivial;exact⟨rfl,.inr ⟨gH,rfl⟩⟩
 refine oe.st (i:=7) rfl (St.alloc 2006 rfl rfl x_3 ld) x_3 rfl ?_;refine cm 2 rfl (zS 2018 [] cV eP rfl x_19) ?_;have gH:eQ l=true:=by simpa using V
 obtain⟨qY,lD,-,-⟩:=va gH;refine cm 5 rfl (zP 2018 cV eP lE rfl (Src.p rfl)) ?_;refine AG.freeze 2018 rfl ?_;refine yq 6 (rd (x:=kj) (cP Z lP Z Z Z) Z)<|yl Z (zB 2006 cA cB Z)<|gA<|ao Z<|Y<|aS<|sL<|bm Z<|ba pX Z<|ae Z<|Y<|aB ?_;refine aW [4,5,6,23,24] [2002,2004] (D:=Nat) (fun k=>[(7,int (fP l (ps.take k)).2),(25,int (k:Int))]) (fun k=>[(2006,.box 53 none [int (fP l (ps.take k)).1.last,.p (.ab 167 3 (ah ct (fP l (ps.take k)).1.lines))])]) (fun k=>k<=ps.length) (fun k=>ps.length-k) (0) (Nat.zero_le _) ⟨rfl,rfl,trivial⟩ ⟨rfl,trivial⟩ ?_;intro k hI;refine sL<|ak Z<|Y<|aS<|cE rfl ?_ ?_
 ·intro h6;refine aK<|gT<|aS<|aB<|sL ?_;have hk:k<ps.length:=by simpa[fw]using h6
  have hs:=D5 (ps:=ps) qY k x_2;refine li k vb Z (DV hk)<|d6 kj ol Z<|ab (zA 2009 pC Z) Z<|lT [4,5,6,7,9,23,24,25,28] [2002,2004,2006,2009] ?_;refine ab (zB 2009 na nb Z) Z<|nA<|aP kj eZ Z<|aP kj ol Z<|ab (zC [] [] [] func109 (GO (fP l (ps.take k)).1 ps[k] (nu _ (List.getElem_mem hk))) (trivial) Z Z) Z<|cT (.au [kj,c6]) Z<|iB kj Z<|dE Z<|ab (zA 2010 ld Z) Z<|ab (zB 2010 cA cB Z) Z<|ao Z<|nA<|ae Z<|ak Z<|Y<|cE rfl ?_ ?_
  ·intro h7;refine sL<|aP kj eZ Z<|ab (zB 2006 cA cB Z) Z<|lT [4,5,6,7,23,24,25] [2002,2004,2006,2009,2010] ?_;refine Y<|aL<|ae Z<|bg Z<|ao Z<|lN<|gB<|gT<|aL<|bg Z<|ae Z<|Y ?_;have dM:fP l (ps.take (k+1))=(qi (fP l (ps.take k)).1 ps[k],(fP l (ps.take k)).2+1):=by
    rw[yH hk];exact if_pos x_14
   refine x_43
  intro h7;refine aK<|gB<|gT<|aL<|bg Z<|ae Z<|Y ?_;have dM:fP l (ps.take (k+1))=fP l (ps.take k):=by
   rw[yH hk];exact if_neg x_14
  refine x_43
 intro h6;refine aE<|eT<|eT<|eB<|gA<|aP kj eZ Z<|ae Z<|ab (zB 2004 cA cB Z) Z<|ao Z<|Y<|aR ?_;have dZ:ps.take k=ps:=List.take_of_length_le (by grind[fw]);rw[dZ];refine fN ((.au [cR (fP l ps).1,int (fP l ps).2])) [] ?_ rfl trivial;exact⟨rfl,.inr ⟨gH,rfl⟩⟩
theorem Ti(l:cH)(ps:List dX)(hl:eQ l=true)(nu:∀p∈ps,p.lines.length<=1000)(hn:ps.length<=1000000):GC prog 169 [cR l,.p (.ab 92 2 (qI ps))] [] (.au [cR (fP l ps).1,int (fP l ps).2]) []:=(Th l ps nu hn).gc fun y o ⟨e1,e2⟩=>by
 grind
theorem QF(ps:List dX)(nu:∀p∈ps,p.lines.length<=1000)(hn:ps.length<=1000000):GC prog 169 [.agg [int 0,.p (.v (.slice none 0 0))],.p (.ab 92 2 (qI ps))] [] (.au [cR (fP ⟨0,[]⟩ ps).1,int (fP ⟨0,[]⟩ ps).2]) []:=GC.amZ (Ti ⟨0,[]⟩ ps rfl nu hn) (ff.cons (fe.agg (ff.cons (fe.refl _) (ff.cons (fe.nil _ _) ff.nil))) (ff.cons (fe.refl _) ff.nil))
end Go.Proofs.YtflhgkmhmcfimaaGreat

