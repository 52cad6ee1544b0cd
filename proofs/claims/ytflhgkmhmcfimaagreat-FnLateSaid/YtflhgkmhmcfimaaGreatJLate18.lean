/- Texts of the proof of FnFnLate, joined: BalW, LedS, FwdS, FwdT, AllF, ED4, FwdU, PoEq, HubS, EG1. -/
import Derived.Test.YtflhgkmhmcfimaaGreatJLate17
import Derived.Test.YtflhgkmhmcfimaaGreatJLate5
import Derived.Test.YtflhgkmhmcfimaaGreatJLate14
import Derived.Test.YtflhgkmhmcfimaaGreatJLate8
namespace Go.Proofs.YtflhgkmhmcfimaaGreat
set_option maxRecDepth 100000
open Tryz
open Go.RowKit
set_option linter.unusedSimpArgs false
set_option linter.unusedVariables false
instance {l:List be} {ch:Int}:Decidable (ed l ch):=inferInstanceAs (Decidable (∃c,c∈l/\c.id=ch))
def iS(k c:Int)(x:aO):Int:=if x.acc.kind=k/\x.acc.ch=c then x.af else 0
def bU(l:List aO)(k c:Int):Int:=bG (iS k c) l
theorem dU(k c:Int):bU [] k c=0:=rfl
theorem fm(x:aO)(l:List aO)(k c:Int):bU (x::l) k c=iS k c x+bU l k c:=jT _ _ _
theorem ML{x:aO}{k c:Int}:∀(l:List aO),bU (fV l x) k c=bU l k c+iS k c x
 |[]=>by grind[fV,fm]
 |y::l=>by
  unfold fV;split
  ·rw[fm,fm,ML l];omega
  rw[fm];omega
theorem fO(l:List aO)(k c n k' c':Int):bU (bR l k c n) k' c'=bU l k' c'+(if k=k'/\c=c' then n else 0):=by
 by_cases q:n=0
 ·grind[BK]
 rw[BL q,ML];rfl
theorem qr(c:be)(l:List be)(ch:Int):fz (c::l) ch=if c.id=ch then c else fz l ch:=by
 unfold fz;grind
theorem EJ(l m:List be)(ch:Int):fz (l++m) ch=if ed l ch then fz l ch else fz m ch:=by
 induction l with
 |nil=>rfl
 |cons c l ih=>
  rw[List.cons_append,qr,qr,ih];by_cases q:c.id=ch
  ·rw[if_pos q,if_pos q,if_pos ⟨c,by simp,q⟩]
  rw[if_neg q,if_neg q];have e:ed (c::l) ch↔ed l ch:=⟨fun⟨d,hd,r⟩=>by
   rcases List.mem_cons.1 hd with rfl|hd
   ·exact absurd r q
   exact⟨d,hd,r⟩,fun⟨d,hd,r⟩=>⟨d,by simp[hd],r⟩⟩
  grind
theorem UE{l:List be}{ch:Int}(h:¬ed l ch):fz l ch=BM:=by
 rcases jt l ch with⟨_,r⟩|⟨i,c,_,q,_,r⟩
 ·exact r
 exact absurd ⟨c,dB q,r⟩ h
theorem HO{f:be->be}(hf:∀c,(f c).id=c.id)(a ch:Int):∀(l:List be),fz (cC l a f) ch=if ch=a/\ed l a then f (fz l a)else fz l ch
 |[]=>by rw[if_neg (fun⟨_,c,hc,_⟩=>by grind)];rfl
 |c::l=>by
  have ih:=HO hf a ch l;have e0:cC (c::l) a f=(if c.id=a then f c else c)::cC l a f:=rfl;have hid:(if c.id=a then f c else c).id=c.id:=by split<;>simp[hf]
  rw[e0,qr,hid];by_cases q:c.id=ch
  ·rw[if_pos q];by_cases r:ch=a;all_goals simp_all[ed,qr]
  rw[if_neg q,ih];by_cases r:ch=a;all_goals simp_all[ed,qr]
def hP(l:List be)(ch:Int):Int:=(fz l ch).loc
theorem MM{f:be->be}(hf:∀c,(f c).id=c.id){n:Int}(hn:∀c,(f c).loc=c.loc+n){l:List be}{a:Int}(ht:ed l a)(ch:Int):hP (cC l a f) ch=hP l ch+(if a=ch then n else 0):=by
 unfold hP;rw[HO hf];grind
theorem HP{f:be->be}(hf:∀c,(f c).id=c.id)(hn:∀c,(f c).loc=c.loc)(l:List be)(a ch:Int):hP (cC l a f) ch=hP l ch:=by
 grind[hP,HO]
theorem AJ{l:List be}{a b:Int}{f g:be->be}(hf:∀c,(f c).id=c.id)(hg:∀c,(g c).id=c.id){n m:Int}(hn:∀c,(f c).loc=c.loc+n)(hm:∀c,(g c).loc=c.loc+m)(ta:ed l a\/n=0)(tb:ed l b\/m=0)(ch:Int):hP (cC (cC l a f) b g) ch=hP l ch+(if a=ch then n else 0)+(if b=ch then m else 0):=by
 have V:hP (cC l a f) ch=hP l ch+(if a=ch then n else 0):=by
  rcases ta with t|t
  ·simp_all[MM]
  simp_all[HP]
 have h2:hP (cC (cC l a f) b g) ch=hP (cC l a f) ch+(if b=ch then m else 0):=by
  rcases tb with t|t
  ·simp_all[MM,tn]
  simp_all[HP]
 rw[h2,V]
theorem MN{f:be->be}(hf:∀c,(f c).id=c.id)(hn:∀c,(f c).loc=c.loc)(ch:Int):∀(l:List be),hP (l.map f) ch=hP l ch
 |[]=>rfl
 |c::l=>by
  have ih:=MN hf hn ch l;unfold hP at *;rw[List.map_cons,qr,qr,hf];split
  ·exact hn c
  exact ih
theorem MO(ch a:Int):∀(l:List be),hP (ny l a) ch=if a=ch then 0 else hP l ch
 |[]=>by show (0:Int)=_;split<;>rfl
 |c::l=>by
  have ih:=MO ch a l;unfold hP ny at *;rw[List.filter_cons];by_cases q:c.id=a
  ·simp_all[qr]
  rw[show (!(c.id==a))=true from by simp[q],if_pos rfl,qr,qr];grind
theorem UF{l:List be}{c:be}(hn:¬ed l c.id)(ch:Int):hP (ly l c) ch=if c.id=ch then c.loc else hP l ch:=by
 unfold hP ly;have my:∀k,∀m:List be,(∀d∈m,d∈l)->ed m k->ed l k:=fun k m h ⟨d,hd,r⟩=>⟨d,h d hd,r⟩;rw[EJ];have e:fz l ch=if ed (l.take (lV l c.id)) ch then fz (l.take (lV l c.id)) ch else fz (l.drop (lV l c.id)) ch:=by
  rw[<-EJ,List.take_append_drop]
 by_cases q:c.id=ch
 ·subst q;rw[if_pos ⟨c,by simp,rfl⟩,if_pos rfl,EJ,if_neg (fun z=>hn (my _ _ (fun d hd=>List.mem_of_mem_take hd) z)),qr,if_pos rfl]
 rw[if_neg q,e];have e2:ed (l.take (lV l c.id)++[c]) ch↔ed (l.take (lV l c.id)) ch:=⟨fun⟨d,hd,r⟩=>by
  rcases List.mem_append.1 hd with hd|hd
  ·exact⟨d,hd,r⟩
  rw[List.mem_singleton]at hd;subst hd;exact absurd r q,fun⟨d,hd,r⟩=>⟨d,by simp[hd],r⟩⟩
 by_cases t:ed (l.take (lV l c.id)) ch;all_goals simp_all[EJ]
structure AK(x y:aw)(l:List aO):Prop where
 za:y.aA=x.aA+bU l 1 0
 loc:∀ch,hP y.ag ch=hP x.ag ch+bU l 6 ch
 out:∀ch,fB y ch=fB x ch+bU l 8 ch
 gh:∀ch,bU l 7 ch=0
theorem AK.refl(x:aw):AK x x []:=⟨by simp[dU],fun ch=>by simp[dU],fun ch=>by simp[dU],fun ch=>rfl⟩
theorem x_37{p:Prop}(c:p:=by intro c;first|rfl|(dsimp only;omega)):p:=c
theorem x_136{p:Prop}(c:p:=by intro c;rfl):p:=c
theorem MP{x:aw}{e:aV}(h:dG x e=0):AK x (bz x e).b (bz x e).l:=by
 obtain⟨V,h2,h3⟩:=rS h;have b:=mX V;have mS:(eG x&&co e)=true:=by rw[V,h2];rfl
 have hw:(bz x e).c=0:=by rw[<-yA mS h3];exact h
 have bO:=HK h2;by_cases k1:e.kind=1
 ·rw[<-yY k1];unfold zb;refine⟨?_,fun ch=>?_,fun ch=>?_,fun ch=>?_⟩<;>simp only[fO,dU]<;>simp;rfl
 by_cases k2:e.kind=2
 ·rw[<-xy k2]at hw ⊢;by_cases q:gO x e=0
  ·rw[tK q];have iY:=zY (DB q);have EK:¬ed x.ag e.ch:=fun⟨c,q1,q2⟩=>iY c q1 q2;refine⟨?_,fun ch=>?_,fun ch=>?_,fun ch=>?_⟩
   ·simp only[fO,dU];simp;omega
   ·show hP (ly x.ag _) ch=_;rw[UF EK];simp only[fO,dU];by_cases r:e.ch=ch
    ·subst r;have:hP x.ag e.ch=0:=by unfold hP;rw[UE EK];rfl
     simp[this]
    simp[r]
   ·simp only[fO,dU];simp;rfl
   simp only[fO,dU];simp
  grind[sK]
 by_cases k3:e.kind=3
 ·rw[<-yZ k3]at hw ⊢;by_cases q:ir x e=0
  ·rw[yf q];unfold zZ;refine⟨?_,fun ch=>?_,fun ch=>?_,fun ch=>?_⟩
   ·simp only[fO,dU];simp
   ·show hP (ny x.ag _) ch=_;rw[MO];simp only[fO,dU];by_cases r:e.ch=ch
    ·subst r;simp;unfold hP;omega
    simp[r]
   ·simp only[fO,dU];simp;rfl
   simp only[fO,dU];simp
  grind[tM]
 by_cases k4:e.kind=4
 ·rw[<-vK k4];unfold ou;split
  ·exact AK.refl x
  refine⟨by simp[dU],fun ch=>?_,fun ch=>?_,fun ch=>rfl⟩
  ·rw[dU,Int.add_zero];show hP (cC x.ag e.ch _) ch=_;simp[HP]
  rw[dU,Int.add_zero];rfl
 by_cases k5:e.kind=5
 ·rw[<-xz k5]at hw ⊢;by_cases q:gg x e=0
  ·rw[sR q];have t2:ed x.ag e.to:=by
    have V:dz x e=0:=by
     by_cases q':dz x e=0
     ·exact q'
     rw[jx q']at q;exact q
    unfold dz at V;obtain⟨h2,_⟩:=ky x_3 V;obtain⟨h3,_⟩:=ky x_3 h2;obtain⟨h4,_⟩:=ky x_3 h3;unfold im at h4;obtain⟨h5,_⟩:=ky x_3 h4;refine Classical.byContradiction fun hn=>?_;have Cc:eS x.ag e.to=-1:=by
     rcases jt x.ag e.to with⟨r,_⟩|⟨i,c,r,s,_,t⟩
     ·exact r
     exact absurd ⟨c,dB s,t⟩ hn
    rw[j9 Cc]at h5;exact mp x_3 h5
   refine⟨?_,fun ch=>?_,fun ch=>?_,fun ch=>?_⟩
   ·unfold mI;simp only[fO,dU];simp
   ·unfold mI;dsimp only;refine Eq.trans (AJ (n:=0) (m:=-e.af) x_136 x_136 x_37 x_37 (.inr rfl) (.inl t2) ch) ?_;simp only[fO,dU];simp
   ·unfold fB mI;dsimp only;rw[zc];unfold dK;simp only[fO,dU];simp;omega
   unfold mI;simp only[fO,dU];simp
  grind[jm]
 by_cases k6:e.kind=6\/e.kind=7
 ·rw[<-uv k6];unfold mR;split
  ·rename_i y hy;have hm:=List.mem_of_find?_eq_some hy;have q:=b.hs y hm;have ho:∀ch,bG (dK ch) (jS x.an y.key)+dK ch y=bG (dK ch) x.an:=fun ch=>by
    have:=AH (g:=fun z:eV=>z.key) (f:=dK ch) (AE b).1 hm;unfold jS;omega
   unfold pN;split
   ·refine⟨?_,fun ch=>?_,fun ch=>?_,fun ch=>?_⟩
    ·simp only[fO,dU];simp
    ·dsimp only;refine Eq.trans (AJ (n:=y.cW) (m:=0) x_136 x_136 x_37 x_37 (.inl q.ti) (.inr rfl) ch) ?_;simp only[fO,dU];simp
    ·have:=ho ch;unfold fB;dsimp only;unfold dK at this ⊢;simp only[fO,dU];simp;by_cases r:y.out=ch
     ·rw[if_pos r]at this ⊢;omega
     rw[if_neg r]at this ⊢;omega
    simp only[fO,dU];simp
   refine⟨?_,fun ch=>?_,fun ch=>?_,fun ch=>?_⟩
   ·simp only[fO,dU];simp
   ·dsimp only;refine Eq.trans (AJ (n:=0) (m:=y.c9) x_136 x_136 x_37 x_37 (.inr rfl) (.inl q.to) ch) ?_;simp only[fO,dU];simp
   ·have:=ho ch;unfold fB;dsimp only;unfold dK at this ⊢;simp only[fO,dU];simp;by_cases r:y.out=ch
    ·rw[if_pos r]at this ⊢;omega
    rw[if_neg r]at this ⊢;omega
   simp only[fO,dU];simp
  simp[AK.refl]
 by_cases k8:e.kind=8
 ·rw[<-y7 k8];refine⟨?_,fun ch=>?_,fun ch=>?_,fun ch=>rfl⟩
  ·show x.aA=x.aA+0;omega
  ·show hP (x.ag.map (l8 x.tick)) ch=hP x.ag ch+0;rw[Int.add_zero];grind[MN,l8]
  show bG (dK ch) (x.an.map kx)+bG (eR ch) x.aq=fB x ch+0;rw[Int.add_zero];unfold fB;congr 1;exact HS fun h _=>rfl
 by_cases k9:e.kind=9
 ·rw[<-t8 k9]at hw ⊢;by_cases q:fL x e=0
  ·rw[uZ q];have g9:gI e.af e.ay=true/\ed x.ag e.ch:=by
    unfold fL at q;obtain⟨h2,_⟩:=ky x_3 q;obtain⟨h3,_⟩:=ky x_3 h2;obtain⟨h4,g⟩:=ky x_3 h3;refine⟨by simpa using g,?_⟩;unfold kv at h4;obtain⟨h5,_⟩:=ky x_3 h4;refine Classical.byContradiction fun hn=>?_;have Cc:eS x.ag e.ch=-1:=by
     rcases jt x.ag e.ch with⟨r,_⟩|⟨i,c,r,s,_,t⟩
     ·exact r
     exact absurd ⟨c,dB s,t⟩ hn
    rcases jt x.ag e.to with⟨r,_⟩|⟨i,c,r,s,_,t⟩
    ·rw[j9 r]at h5;exact mp x_3 h5
    rw[ka r,j9 Cc]at h5;exact mp x_3 h5
   have hs:eM e.af e.ay=e.af+e.ay:=ye g9.1;unfold oH;refine⟨?_,fun ch=>?_,fun ch=>?_,fun ch=>?_⟩
   ·simp only[fO,dU];simp
   ·dsimp only;refine Eq.trans (AJ (n:=-eM e.af e.ay) (m:=0) x_136 x_136 x_37 x_37 (.inl g9.2) (.inr rfl) ch) ?_;simp only[fO,dU];simp
   ·unfold fB;dsimp only;rw[zc];unfold eR;simp only[fO,dU];simp;rw[hs];omega
   simp only[fO,dU];simp
  grind[od]
 have:=y8 h2;rw[<-ua x_2];unfold nm;split
 ·rename_i y hy;have hm:=List.mem_of_find?_eq_some hy;have q:=b.cs y hm;have ho:∀ch,bG (eR ch) (jA x.aq y.key)+eR ch y=bG (eR ch) x.aq:=fun ch=>by
   have:=AH (g:=fun z:gz=>z.key) (f:=eR ch) (AE b).2 hm;unfold jA;omega
  unfold mN;split
  ·refine⟨?_,fun ch=>?_,fun ch=>?_,fun ch=>?_⟩
   ·simp only[fO,dU];simp
   ·dsimp only;refine Eq.trans (AJ (n:=0) (m:=y.af) x_136 x_136 x_37 x_37 (.inr rfl) (.inl q.to) ch) ?_;simp only[fO,dU];simp
   ·have:=ho ch;unfold fB;dsimp only;unfold eR at this ⊢;simp only[fO,dU];simp;by_cases r:y.fI=ch
    ·rw[if_pos r]at this ⊢;omega
    rw[if_neg r]at this ⊢;omega
   simp only[fO,dU];simp
  refine⟨?_,fun ch=>?_,fun ch=>?_,fun ch=>?_⟩
  ·simp only[fO,dU];simp
  ·dsimp only;refine Eq.trans (AJ (n:=y.af+y.ay) (m:=0) x_136 x_136 x_37 x_37 (.inl q.ti) (.inr rfl) ch) ?_;simp only[fO,dU];simp
  ·have:=ho ch;unfold fB;dsimp only;unfold eR at this ⊢;simp only[fO,dU];simp;by_cases r:y.fI=ch
   ·rw[if_pos r]at this ⊢;omega
   rw[if_neg r]at this ⊢;omega
  simp only[fO,dU];simp
 simp[AK.refl]

def eQ(x:cH):Bool:=aI x.last 0 1125899906842624&&decide (x.lines.length<=320)&&rW x.lines
def EL(l:List aO)(a:Acc):Int:=match l with|[]=>0|x::r=>if x.acc.kind=a.kind/\x.acc.ch=a.ch then x.af else EL r a
def balance(x:cH)(a:Acc):Int:=if eQ x&&nd a then EL x.lines a else 0
def HT(x:aw)(ch:Int):Int:=if 0<=eS x.ag ch then (match x.ag[(eS x.ag ch).toNat]? with|some c=>c.loc|none=>0)else 0
def HU(x:aw)(ch:Int):Int:=if 0<=eS x.ag ch then fB x ch else 0
def EM(x:aw)(l:cH)(ch:Int):Bool:=(balance l ⟨6,ch⟩==HT x ch)&&(balance l ⟨8,ch⟩==HU x ch)&&(balance l ⟨7,ch⟩==0)
def EN(x:aw)(l:cH):Bool:=eG x&&eQ l&&(l.last==x.next-1)&&(balance l ⟨1,0⟩==x.aA)&&(List.range 99).all fun j=>EM x l ((j:Int)+1)
theorem iG.ok{l:List aO}{m:Nat}(h:iG l 0 m):rW l=true:=by
 rw[D2 fun j hj=>?_]
 ·have:bG qh l=0:=h.sum;grind
 rw[lX hj];have hm:=List.getElem_mem hj;obtain⟨a1,a2,a3⟩:=h.af _ hm;have hp:vh l j l[j]=true:=by
  rcases Nat.eq_zero_or_pos j with q|q
  ·subst q;rfl
  rw[nV q hj];exact List.pairwise_iff_getElem.1 h.gS _ _ _ _ x_2
 have V:nd l[j].acc=true:=ve.2 (h.acc _ hm);grind[dL,cJ]
theorem wV{l:List aO}(h:rW l=true):iG l 0 l.length:=by
 have bB:∀j,j<l.length->oX l j=true:=fun j hj=>by
  simp_all[rW]
 have mq:bG o6 l=0:=by
  rw[D2 bB,beq_iff_eq]at h;exact h
 have MQ:∀j (hj:j<l.length),nd l[j].acc=true/\l[j].af≠0/\dL l[j].af=true/\vh l j l[j]=true:=fun j hj=>by
  simp_all[lX]
 have Ck:∀y∈l,nd y.acc=true/\y.af≠0/\dL y.af=true:=fun y hy=>by
  obtain⟨j,hj,rfl⟩:=List.getElem_of_mem hy;grind
 refine⟨?_,fun y hy=>ve.1 (Ck y hy).1,fun y hy=>⟨(Ck y hy).2.1,cJ.1 (Ck y hy).2.2⟩,mq,Nat.le_refl _⟩;rw[List.pairwise_iff_getElem];intro i j hi hj gF;induction j with
 |zero=>omega
 |succ j ih=>
  grind[nV,vr]
theorem GZ{a b:Acc}(h:cg a b=true):¬(a.kind=b.kind/\a.ch=b.ch):=fun⟨V,h2⟩=>by
 grind[cg]
theorem Ah{a b:Acc}(h:cg a b=false)(h2:cg b a=false):a.kind=b.kind/\a.ch=b.ch:=by
 grind[cg]
theorem Ea{a b:Acc}(h:a.kind=b.kind/\a.ch=b.ch):a=b:=by
 cases a;simp_all
structure UG(a b r:List aO):Prop where
 gS:r.Pairwise fun a b=>cg a.acc b.acc=true
 acc:∀y∈r,∃z,(z∈a\/z∈b)/\y.acc=z.acc
 af:∀y∈r,y.af≠0/\-1125899906842624<=y.af/\y.af<=1125899906842624
 sum:bG o6 r=bG o6 a+bG o6 b
 zd:∀k c,bU r k c=bU a k c+bU b k c
def rk(l:List aO):Prop:=(l.Pairwise fun a b=>cg a.acc b.acc=true)/\∀y∈l,y.af≠0/\-1125899906842624<=y.af/\y.af<=1125899906842624
theorem rk.tail{x:aO}{l:List aO}(h:rk (x::l)):rk l:=⟨(List.pairwise_cons.1 h.1).2,fun y hy=>h.2 y (by simp[hy])⟩
theorem Cq:∀(n:Nat) (a b r:List aO),a.length+b.length<=n->rk a->rk b->fM a b=some r->UG a b r
 |n,[],b,r,_,_,hb,h=>by
  rw[yo]at h;injection h with h;subst h;exact⟨hb.1,fun y hy=>⟨y,.inr hy,rfl⟩,hb.2,by simp[EF],fun k c=>by simp[dU]⟩
 |n,x::a,[],r,_,ha,_,h=>by
  rw[z6]at h;injection h with h;subst h;exact⟨ha.1,fun y hy=>⟨y,.inl hy,rfl⟩,ha.2,by simp[EF],fun k c=>by simp[dU]⟩
 |0,x::a,y::b,r,hn,_,_,_=>by grind
 |n+1,x::a,y::b,r,hn,ha,hb,h=>by
  simp only[List.length_cons]at hn;have ip:=List.pairwise_cons.1 ha.1;have kA:=List.pairwise_cons.1 hb.1;by_cases q1:cg x.acc y.acc=true
  ·rw[BI q1]at h;obtain⟨s,hs,rfl⟩:=Option.map_eq_some_iff.1 h;have g:=Cq n a (y::b) s x_15 ha.tail hb hs;refine⟨List.pairwise_cons.2 ⟨fun z hz=>?_,g.gS⟩,fun z hz=>?_,fun z hz=>?_,?_,fun k c=>?_⟩
   ·obtain⟨u,hu,e⟩:=g.acc z hz;rw[e];rcases hu with hu|hu
    ·grind
    rcases List.mem_cons.1 hu with rfl|hu;all_goals grind[vr]
   ·rcases List.mem_cons.1 hz with rfl|hz
    ·grind
    obtain⟨u,hu,e⟩:=g.acc z hz;grind
   ·rcases List.mem_cons.1 hz with rfl|hz
    ·exact ha.2 _ x_20
    exact g.af z hz
   ·rw[jT,jT,g.sum];omega
   rw[fm,fm,g.zd];omega
  have q1:cg x.acc y.acc=false:=by simpa using q1
  by_cases q2:cg y.acc x.acc=true
  ·rw[BJ q1 q2]at h;obtain⟨s,hs,rfl⟩:=Option.map_eq_some_iff.1 h;have g:=Cq n (x::a) b s x_15 ha hb.tail hs;refine⟨List.pairwise_cons.2 ⟨fun z hz=>?_,g.gS⟩,fun z hz=>?_,fun z hz=>?_,?_,fun k c=>?_⟩
   ·obtain⟨u,hu,e⟩:=g.acc z hz;rw[e];rcases hu with hu|hu
    ·rcases List.mem_cons.1 hu with rfl|hu
     ·exact q2
     exact vr q2 (ip.1 u hu)
    grind
   ·rcases List.mem_cons.1 hz with rfl|hz
    ·grind
    obtain⟨u,hu,e⟩:=g.acc z hz;grind
   ·rcases List.mem_cons.1 hz with rfl|hz
    ·exact hb.2 _ x_20
    exact g.af z hz
   ·rw[jT,g.sum,jT,jT];omega
   rw[fm,g.zd,fm,fm];omega
  have q2:cg y.acc x.acc=false:=by simpa using q2
  have e:=Ah q1 q2;have ee:x.acc=y.acc:=Ea e;have hk:∀k c,iS k c x+iS k c y=if x.acc.kind=k/\x.acc.ch=c then x.af+y.af else 0:=fun k c=>by
   unfold iS;rw[e.1,e.2];split<;>omega
  by_cases q3:dL (x.af+y.af)=true
  ·by_cases q4:x.af+y.af=0
   ·rw[Eb q1 q2 q3 q4]at h;have g:=Cq n a b r x_2 ha.tail hb.tail h;refine⟨g.gS,fun z hz=>?_,g.af,?_,fun k c=>?_⟩
    ·obtain⟨u,hu,e⟩:=g.acc z hz;exact⟨u,hu.imp (by intro q;simp[q]) (by intro q;simp[q]),e⟩
    ·rw[g.sum,jT,jT];unfold o6;omega
    rw[g.zd,fm,fm];have:=hk k c;rw[q4]at this;split at this<;>omega
   rw[Ec q1 q2 q3 q4]at h;obtain⟨s,hs,rfl⟩:=Option.map_eq_some_iff.1 h;have g:=Cq n a b s x_2 ha.tail hb.tail hs;refine⟨List.pairwise_cons.2 ⟨fun z hz=>?_,g.gS⟩,fun z hz=>?_,fun z hz=>?_,?_,fun k c=>?_⟩
   ·obtain⟨u,hu,e⟩:=g.acc z hz;rw[e];rcases hu with hu|hu
    ·exact ip.1 u hu
    show cg x.acc u.acc=true;rw[ee];exact kA.1 u hu
   ·rcases List.mem_cons.1 hz with rfl|hz
    ·exact⟨x,.inl x_20,rfl⟩
    obtain⟨u,hu,e⟩:=g.acc z hz;exact⟨u,hu.imp (by intro q;simp[q]) (by intro q;simp[q]),e⟩
   ·rcases List.mem_cons.1 hz with rfl|hz
    ·exact⟨q4,cJ.1 q3⟩
    exact g.af z hz
   ·rw[jT,g.sum,jT,jT];unfold o6;dsimp only;omega
   rw[fm,g.zd,fm,fm];have:=hk k c;show (if x.acc.kind=k/\x.acc.ch=c then x.af+y.af else 0)+_=_;omega
  grind[MR]
theorem iG.lF{l:List aO}{s:Int}{m:Nat}(h:iG l s m):rk l:=⟨h.gS,h.af⟩
theorem Ee{a b r:List aO}{s t:Int}{m k:Nat}(ha:iG a s m)(hb:iG b t k)(h:fM a b=some r):iG r (s+t) r.length/\∀k c,bU r k c=bU a k c+bU b k c:=by
 have g:=Cq _ a b r (Nat.le_refl _) ha.lF hb.lF h;exact⟨⟨g.gS,fun y hy=>by
  obtain⟨z,hz,e⟩:=g.acc y hy;rw[e];rcases hz with hz|hz
  ·exact ha.acc z hz
  exact hb.acc z hz,g.af,by rw[g.sum,ha.sum,hb.sum],Nat.le_refl _⟩,g.zd⟩
theorem MS{a:Acc}:∀ {l:List aO},(l.Pairwise fun a b=>cg a.acc b.acc=true)->EL l a=bU l a.kind a.ch
 |[],_=>rfl
 |x::l,h=>by
  rw[List.pairwise_cons]at h;have ih:=MS (a:=a) h.2;rw[fm];unfold EL iS;split
  ·rename_i q;have:bU l a.kind a.ch=0:=by
    unfold bU;refine vM fun y hy=>?_;unfold iS;rw[if_neg];rintro⟨r1,r2⟩;exact GZ (h.1 y hy) x_106
   omega
  omega
structure ra(x:aw)(l:cH):Prop where
 book:eG x=true
 lF:iG l.lines 0 320
 last:l.last=x.next-1
 za:bU l.lines 1 0=x.aA
 loc:∀ch,1<=ch/\ch<=99->bU l.lines 6 ch=hP x.ag ch
 out:∀ch,1<=ch/\ch<=99->bU l.lines 8 ch=fB x ch
 gh:∀ch,1<=ch/\ch<=99->bU l.lines 7 ch=0
theorem MT(x:aw)(ch:Int):HT x ch=hP x.ag ch:=by
 unfold HT hP;rcases jt x.ag ch with⟨q,r⟩|⟨i,c,q,r,s,_⟩
 ·rw[if_neg x_2,r];rfl
 grind
theorem MU{x:aw}{ch:Int}(b:hD x):HU x ch=fB x ch:=by
 unfold HU;split
 ·rfl
 rename_i q;exact(b.none fun t=>q (MV.2 t)).1.symm
theorem ra.ia{x:aw}{l:cH}(h:ra x l):eQ l=true:=by
 have hn:=(mX h.book).next;have:=h.last;unfold eQ;rw[h.lF.ok,cJ.2 x_2,decide_eq_true h.lF.len];rfl
theorem xB{l:cH}{k c:Int}(h:eQ l=true)(hl:l.lines.Pairwise fun a b=>cg a.acc b.acc=true)(ha:nd ⟨k,c⟩=true):balance l ⟨k,c⟩=bU l.lines k c:=by
 grind[balance,MS]
theorem AM{k c:Int}(hk:6<=k/\k<=8)(hc:1<=c/\c<=99):nd ⟨k,c⟩=true:=ve.2 (.inr ⟨hk.1,hk.2,hc.1,hc.2⟩)
theorem MW:nd ⟨1,0⟩=true:=ve.2 (.inl ⟨by decide,by decide,rfl⟩)
theorem ra.yes{x:aw}{l:cH}(h:ra x l):EN x l=true:=by
 have b:=mX h.book;have hl:=h.ia;have hp:=h.lF.gS;unfold EN;rw[h.book,hl,xB hl hp MW,h.za,h.last];simp only[beq_self_eq_true,Bool.true_and,List.all_eq_true,List.mem_range];intro j hj;have hc:1<=(j:Int)+1/\(j:Int)+1<=99:=by omega
 unfold EM;rw[xB hl hp (AM x_3 hc),xB hl hp (AM x_3 hc),xB hl hp (AM x_3 hc),MT,MU b,h.loc _ hc,h.out _ hc,h.gh _ hc];simp
theorem abr{x:aw}{l:cH}(h:EN x l=true):ra x l:=by
 unfold EN at h;simp only[Bool.and_eq_true,List.all_eq_true,List.mem_range,beq_iff_eq]at h;obtain⟨⟨⟨⟨V,h2⟩,h3⟩,h4⟩,h5⟩:=h;have b:=mX V;have Cr:=h2;unfold eQ at Cr;simp only[Bool.and_eq_true,decide_eq_true_eq]at Cr;have ln:=wV Cr.2;have hp:=ln.gS;have zd:∀ch,1<=ch/\ch<=99->EM x l ch=true:=fun ch hc=>by
  have:=h5 (ch-1).toNat x_2;grind
 have ge:∀ch,1<=ch/\ch<=99->bU l.lines 6 ch=hP x.ag ch/\bU l.lines 8 ch=fB x ch/\bU l.lines 7 ch=0:=fun ch hc=>by
  simp_all[EM,xB,AM,MT,MU]
 rw[xB h2 hp MW]at h4;exact⟨V,⟨ln.gS,ln.acc,ln.af,ln.sum,Cr.1.2⟩,h3,h4,fun ch hc=>(ge ch hc).1,fun ch hc=>(ge ch hc).2.1,fun ch hc=>(ge ch hc).2.2⟩
theorem UH{x:aw}{e:aV}{l:cH}(h:ra x l)(hc:dG x e=0)(hp:(bz x e).l≠[]){m:List aO}(hm:fM l.lines (dl x e).lines=some m)(hl:m.length<=320):ra (dp x e) ⟨(dl x e).id,m⟩:=by
 have g:=MP hc;obtain⟨e1,e2⟩:=rU hc hp;rw[e2]at hm;obtain⟨k1,k2⟩:=Ee h.lF (Ab hc) hm;refine⟨Gy hc,⟨k1.gS,k1.acc,k1.af,k1.sum,hl⟩,?_,?_,fun ch hh=>?_,fun ch hh=>?_,fun ch hh=>?_⟩
 ·grind[xA]
 ·rw[e1];show bU m 1 0=(bz x e).b.aA;rw[k2,h.za,g.za]
 ·rw[e1];show bU m 6 ch=hP (bz x e).b.ag ch;rw[k2,h.loc ch hh,g.loc ch]
 ·rw[e1];show bU m 8 ch=fB (bz x e).b ch;rw[k2,h.out ch hh,g.out ch]
 show bU m 7 ch=0;rw[k2,h.gh ch hh,g.gh ch];rfl
def iv(l:cH)(p:dX):Int:=if (eQ l&&iL p.id p.lines)=true then (if p.id<=l.last then 2 else match fM l.lines p.lines with|none=>3|some m=>if 320<m.length then 3 else 0)else 1
def iD(l:cH)(p:dX):cH:=if iv l p=0 then ⟨p.id,(fM l.lines p.lines).getD []⟩else ⟨0,[]⟩
theorem HV{l:cH}{p:dX}(h:iv l p=0):eQ l=true/\iL p.id p.lines=true/\l.last<p.id/\∃m,fM l.lines p.lines=some m/\m.length<=320:=by
 unfold iv at h;grind
theorem G2{l:cH}{p:dX}(h:iv l p=0){m:List aO}(hm:fM l.lines p.lines=some m):iD l p=⟨p.id,m⟩:=by simp_all[iD]
theorem SP{l:cH}{p:dX}(h:iv l p≠0):iD l p=⟨0,[]⟩:=if_neg h
theorem S0{x:aw}{e:aV}{l:cH}(h:ra x l)(hc:dG x e=0)(hp:(dl x e).lines≠[])(hq:iv l (dl x e)=0):ra (dp x e) (iD l (dl x e)):=by
 obtain⟨_,_,_,m,hm,hl⟩:=HV hq;rw[G2 hq hm];grind[UH,ub]
theorem va{l:cH}(h:eQ l=true):l.lines.length<=320/\(∀z∈l.lines,dL z.af=true)/\0<=l.last/\l.last<=1125899906842624:=by
 unfold eQ at h;simp only[Bool.and_eq_true,decide_eq_true_eq]at h;have:=cJ.1 h.1.1;exact⟨h.1.2,fun z hz=>cJ.2 ((wV h.2).af z hz).2,this.1,this.2⟩
theorem DU{n:Int}{l:List aO}(h:iL n l=true):l.length<=8/\(∀z∈l,dL z.af=true)/\1<=n/\n<=1125899906842624:=by
 unfold iL at h;simp only[Bool.and_eq_true]at h;have V:=cJ.1 h.1.1;have h2:=cJ.1 h.1.2;exact⟨by omega,fun z hz=>cJ.2 ((wV h.2).af z hz).2,V.1,V.2⟩
theorem Gp{l:cH}{p:dX}(h:(eQ l&&iL p.id p.lines)=false):iv l p=1:=by simp_all[iv]
theorem Le{l:cH}{p:dX}(h:eQ l=true)(h2:iL p.id p.lines=true)(h3:p.id<=l.last):iv l p=2:=by simp_all[iv]
theorem Lf{l:cH}{p:dX}(h:eQ l=true)(h2:iL p.id p.lines=true)(h3:¬p.id<=l.last)(h4:fM l.lines p.lines=none):iv l p=3:=by simp_all[iv]
theorem Lg{l:cH}{p:dX}(h:eQ l=true)(h2:iL p.id p.lines=true)(h3:¬p.id<=l.last){m:List aO}(h4:fM l.lines p.lines=some m)(h5:320<m.length):iv l p=3:=by simp_all[iv]
theorem Gr{l:cH}{p:dX}(h:eQ l=true)(h2:iL p.id p.lines=true)(h3:¬p.id<=l.last){m:List aO}(h4:fM l.lines p.lines=some m)(h5:m.length<=320):iv l p=0:=by simp_all[iv,if_neg]
def B2(s:cH×Int)(p:dX):cH×Int:=if iv s.1 p=0 then (iD s.1 p,s.2+1)else s
def jJ(l:cH)(ps:List dX):cH×Int:=ps.foldl B2 (l,0)
theorem Gs{l:cH}{ps:List dX}{k:Nat}(h:k<ps.length):jJ l (ps.take (k+1))=B2 (jJ l (ps.take k)) ps[k]:=by
 grind[jJ,List.take_succ_eq_append_getElem]
theorem UI(l:cH)(p:dX):(iD l p).lines.length<=320:=by
 unfold iD;split
 ·rename_i h;obtain⟨_,_,_,m,hm,hl⟩:=HV h;grind
 simp
theorem FS{l:cH}{ps:List dX}(hl:l.lines.length<=320):∀k,k<=ps.length->(jJ l (ps.take k)).1.lines.length<=320/\0<=(jJ l (ps.take k)).2/\(jJ l (ps.take k)).2<=k
 |0,_=>by rw[List.take_zero];exact⟨hl,Int.le_refl _,Int.le_refl _⟩
 |k+1,h=>by
  rw[Gs x_2];obtain⟨V,h2,h3⟩:=FS (ps:=ps) hl k x_2;unfold B2;split
  ·exact⟨UI _ _,by dsimp only;omega,by dsimp only;omega⟩
  exact⟨V,h2,by omega⟩

theorem ov{k c:Int}{a:Acc}:∀ {l:List aO},(∀y∈l,cg a y.acc=true)->a.kind=k->a.ch=c->bU l k c=0
 |[],_,_,_=>rfl
 |x::l,h,V,h2=>by
  rw[fm,ov (fun y hy=>h y (by simp[hy])) V h2];have:=GZ (h x x_20);unfold iS;omega
theorem Lo:∀ {a b:List aO},rk a->rk b->(∀k c,bU a k c=bU b k c)->a=b
 |[],[],_,_,_=>rfl
 |x::a,[],ha,_,h=>by
  have V:=h x.acc.kind x.acc.ch;rw[fm,ov (List.pairwise_cons.1 ha.1).1 rfl rfl,dU]at V;unfold iS at V;rw[if_pos ⟨rfl,rfl⟩]at V;exact absurd x_2 (ha.2 x x_20).1
 |[],y::b,_,hb,h=>by
  have V:=h y.acc.kind y.acc.ch;rw[fm,ov (List.pairwise_cons.1 hb.1).1 rfl rfl,dU]at V;unfold iS at V;rw[if_pos ⟨rfl,rfl⟩]at V;exact absurd x_2 (hb.2 y x_20).1
 |x::a,y::b,ha,hb,h=>by
  have pa:=List.pairwise_cons.1 ha.1;have pb:=List.pairwise_cons.1 hb.1;by_cases q1:cg x.acc y.acc=true
  ·have V:=h x.acc.kind x.acc.ch;rw[fm,ov pa.1 rfl rfl,ov (a:=x.acc) (l:=y::b) (fun z hz=>by
    rcases List.mem_cons.1 hz with rfl|hz
    ·exact q1
    exact vr q1 (pb.1 z hz)) rfl rfl]at V
   unfold iS at V;rw[if_pos ⟨rfl,rfl⟩]at V;exact absurd x_2 (ha.2 x x_20).1
  by_cases q2:cg y.acc x.acc=true
  ·have V:=h y.acc.kind y.acc.ch;rw[fm (x:=y),ov pb.1 rfl rfl,ov (a:=y.acc) (l:=x::a) (fun z hz=>by
    rcases List.mem_cons.1 hz with rfl|hz
    ·exact q2
    exact vr q2 (pa.1 z hz)) rfl rfl]at V
   unfold iS at V;rw[if_pos ⟨rfl,rfl⟩]at V;exact absurd x_2 (hb.2 y x_20).1
  have e:=Ea (Ah (by simpa using q1) (by simpa using q2));have V:=h x.acc.kind x.acc.ch;rw[fm,ov pa.1 rfl rfl,fm,ov pb.1 (by rw[e]) (by rw[e])]at V;unfold iS at V;rw[if_pos ⟨rfl,rfl⟩,if_pos ⟨by rw[e],by rw[e]⟩]at V;have G0:x=y:=by
   cases x;cases y;simp at e V;simp[e,V]
  subst G0;rw[Lo ha.tail hb.tail fun k c=>by
   have:=h k c;rw[fm,fm]at this;omega]
theorem SZ{l:cH}{p:dX}(h:iv l p=0):iG (iD l p).lines 0 320/\(∀k c,bU (iD l p).lines k c=bU l.lines k c+bU p.lines k c)/\(iD l p).last=p.id:=by
 obtain⟨V,h2,_,m,hm,hl⟩:=HV h;rw[G2 h hm];unfold eQ at V;unfold iL at h2;simp only[Bool.and_eq_true]at V h2;obtain⟨k1,k2⟩:=Ee (wV V.2) (wV h2.2) hm;exact⟨⟨k1.gS,k1.acc,k1.af,k1.sum,hl⟩,k2,rfl⟩
def qZ(l:List aO):Int:=bG (fun j:Nat=>bU l 6 (j+1)+bU l 7 (j+1)+bU l 8 (j+1)) (List.range 99)
theorem Gt{α:Type}{f g:α->Int}:∀(l:List α),bG (fun x=>f x+g x) l=bG f l+bG g l
 |[]=>rfl
 |x::l=>by rw[jT,jT,jT,Gt l];omega
theorem DW{α:Type}{f g:α->Int}:∀ {l:List α},(∀x∈l,f x=g x)->bG f l=bG g l
 |[],_=>rfl
 |x::l,h=>by rw[jT,jT,h x x_20,DW fun y hy=>h y (by simp[hy])]
theorem MX(n:Int)(c:Int):∀(m:Nat),1<=c->c<=m->bG (fun j:Nat=>if c=(j:Int)+1 then n else 0) (List.range m)=n
 |0,V,h2=>by omega
 |m+1,V,h2=>by
  rw[List.range_succ];have e:bG (fun j:Nat=>if c=(j:Int)+1 then n else 0) (List.range m++[m])=bG (fun j:Nat=>if c=(j:Int)+1 then n else 0) (List.range m)+(if c=(m:Int)+1 then n else 0):=zc _ _ _;rw[e];by_cases q:c=(m:Int)+1
  ·rw[if_pos q,vM fun j hj=>?_,Int.zero_add];grind
  rw[if_neg q,MX n c m V x_2,Int.add_zero]
def wT(x:aO):Int:=if x.acc.kind=1\/6<=x.acc.kind then x.af else 0
def kQ(l:List aO):Int:=bG wT l
theorem UJ:qZ []=0:=vM fun j _=>rfl
theorem UK(x:aO)(l:List aO)(hv:om x.acc):qZ (x::l)=qZ l+(if 6<=x.acc.kind then x.af else 0):=by
 have e:qZ (x::l)=bG (fun j:Nat=>(bU l 6 (j+1)+bU l 7 (j+1)+bU l 8 (j+1))+(if 6<=x.acc.kind/\x.acc.ch=(j:Int)+1 then x.af else 0)) (List.range 99):=DW fun j hj=>by
  rw[fm,fm,fm];unfold iS;rcases hv with⟨v1,v2,v3⟩|⟨v1,v2,v3,v4⟩;all_goals omega
 rw[e,Gt];show qZ l+_=_;by_cases q:6<=x.acc.kind
 ·rw[if_pos q];rcases hv with⟨v1,v2,v3⟩|⟨v1,v2,v3,v4⟩
  ·omega
  simp_all[MX]
 rw[if_neg q,vM fun j _=>if_neg fun z=>q z.1]
theorem DX{l:List aO}(hv:∀y∈l,om y.acc):bG o6 l=bU l 1 0+bU l 2 0+bU l 3 0+bU l 4 0+bU l 5 0+qZ l/\kQ l=bU l 1 0+qZ l:=by
 induction l with
 |nil=>trivial
 |cons x l ih=>
  obtain⟨i1,i2⟩:=ih (fun y hy=>hv y (by simp[hy]));have v:=hv x x_20;have e1:bG o6 (x::l)=x.af+bG o6 l:=jT _ _ _;have e2:kQ (x::l)=wT x+kQ l:=jT _ _ _;rw[e1,e2,i1,i2,UK x l v];simp only[fm];unfold iS wT;rcases v with⟨v1,v2,v3⟩|⟨v1,v2,v3,v4⟩;all_goals omega
theorem UL{l:List aO}(h:l.Pairwise fun a b=>cg a.acc b.acc=true)(hv:∀y∈l,om y.acc):l.length<=302:=by
 have key:∀(l:List aO) (b:Int),(l.Pairwise fun a b=>cg a.acc b.acc=true)->(∀y∈l,om y.acc)->(∀y∈l,b<=(if y.acc.kind<=5 then y.acc.kind-1 else 5+(y.acc.kind-6)*99+(y.acc.ch-1)))->b<=302->(l.length:Int)<=302-b:=by
  intro l;induction l with
  |nil=>simp
  |cons x l ih=>
   intro b hp hv hb _;rw[List.pairwise_cons]at hp;have hx:=hb x x_20;have vx:=hv x x_20;have:=ih (b+1) hp.2 (fun y hy=>hv y (by simp[hy])) (fun y hy=>by
    have vy:=hv y (by simp[hy]);have hl:=hp.1 y hy;unfold cg at hl;simp only[Bool.or_eq_true,Bool.and_eq_true,decide_eq_true_eq,beq_iff_eq]at hl;unfold om at vx vy;split at hx<;>split<;>omega) (by unfold om at vx;split at hx<;>omega)
   grind
 have:=key l 0 h hv (fun y hy=>by
  grind[om]) x_2
 omega
theorem EO:∀(n:Nat) (a b:List aO),a.length+b.length<=n->rk a->rk b->(∀k c,dL (bU a k c+bU b k c)=true)->∃m,fM a b=some m
 |n,[],b,_,_,_,_=>⟨b,yo b⟩
 |n,x::a,[],_,_,_,_=>⟨_,z6 _⟩
 |0,x::a,y::b,hn,_,_,_=>by grind
 |n+1,x::a,y::b,hn,ha,hb,h=>by
  simp only[List.length_cons]at hn;have pa:=List.pairwise_cons.1 ha.1;have pb:=List.pairwise_cons.1 hb.1;have r0:dL 0=true:=cJ.2 x_2;have cut:∀ {z:aO} {a' b':List aO},(∀k c,z.acc.kind=k->z.acc.ch=c->bU a' k c=0/\bU b' k c=0)->(∀k c,¬(z.acc.kind=k/\z.acc.ch=c)->bU a' k c+bU b' k c=bU (x::a) k c+bU (y::b) k c)->∀k c,dL (bU a' k c+bU b' k c)=true:=fun V h2 k c=>by
   rename_i z a' b';by_cases q:z.acc.kind=k/\z.acc.ch=c
   ·obtain⟨e1,e2⟩:=V k c q.1 q.2;rw[e1,e2];exact r0
   rw[h2 k c q];exact h k c
  by_cases q1:cg x.acc y.acc=true
  ·obtain⟨m,hm⟩:=EO n a (y::b) x_80 ha.tail hb (cut (z:=x) (fun k c e1 e2=>⟨ov pa.1 e1 e2,ov (a:=x.acc) (fun w hw=>by
    rcases List.mem_cons.1 hw with rfl|hw
    ·exact q1
    exact vr q1 (pb.1 w hw)) e1 e2⟩) (fun k c q=>by rw[fm x];unfold iS;rw[if_neg q];omega))
   exact⟨_,by rw[BI q1,hm];rfl⟩
  have q1:cg x.acc y.acc=false:=by simpa using q1
  by_cases q2:cg y.acc x.acc=true
  ·obtain⟨m,hm⟩:=EO n (x::a) b x_80 ha hb.tail (cut (z:=y) (fun k c e1 e2=>⟨ov (a:=y.acc) (fun w hw=>by
    rcases List.mem_cons.1 hw with rfl|hw
    ·exact q2
    exact vr q2 (pa.1 w hw)) e1 e2,ov pb.1 e1 e2⟩) (fun k c q=>by rw[fm y];unfold iS;rw[if_neg q];omega))
   exact⟨_,by rw[BJ q1 q2,hm];rfl⟩
  have q2:cg y.acc x.acc=false:=by simpa using q2
  have e:=Ea (Ah q1 q2);have hr:dL (x.af+y.af)=true:=by
   have:=h x.acc.kind x.acc.ch;rw[fm,ov pa.1 rfl rfl,fm,ov pb.1 (by rw[e]) (by rw[e])]at this;unfold iS at this;rw[if_pos ⟨rfl,rfl⟩,if_pos ⟨by rw[e],by rw[e]⟩,Int.add_zero,Int.add_zero]at this;exact this
  obtain⟨m,hm⟩:=EO n a b x_2 ha.tail hb.tail (cut (z:=x) (fun k c e1 e2=>⟨ov pa.1 e1 e2,ov pb.1 (by rw[<-e];exact e1) (by rw[<-e];exact e2)⟩) (fun k c q=>by
   rw[fm x,fm y];unfold iS;rw[if_neg q,if_neg (fun z=>q ⟨by rw[e];exact z.1,by rw[e];exact z.2⟩)];omega))
  by_cases q4:x.af+y.af=0
  ·exact⟨m,by rw[Eb q1 q2 hr q4,hm]⟩
  exact⟨_,by rw[Ec q1 q2 hr q4,hm];rfl⟩
theorem MY{l:List aO}(hv:∀y∈l,om y.acc){k c:Int}(h:¬om ⟨k,c⟩):bU l k c=0:=vM fun y hy=>by
 unfold iS;rw[if_neg];rintro⟨e1,e2⟩;apply h;rw[<-e1,<-e2];exact hv y hy
theorem UM{x:aw}{e:aV}(h:dG x e=0)(hp:(dl x e).id≠0):iL (dl x e).id (dl x e).lines=true:=by
 obtain⟨q1,q2,q3,q4⟩:=UC h hp;have hn:=(mX (rS h).1).next;unfold iL;rw[q3.ok,q1,cJ.2 hn,cJ.2 ⟨by omega,by have:=q3.len;omega⟩];rfl
theorem UN{x:aw}{e:aV}{l:cH}(h:ra x l)(hc:dG x e=0)(hp:(dl x e).lines≠[])(hq:∀k,2<=k->k<=5->dL (bU l.lines k 0+bU (bz x e).l k 0)=true):iv l (dl x e)=0:=by
 have HD:(bz x e).l≠[]:=fun r=>hp (by rw[(ub hc r).2]);obtain⟨e1,e2⟩:=rU hc HD;have g:=MP hc;have ln:=Ab hc;have ze:=mX (Gy hc);have hid:(dl x e).id≠0:=by
  rw[e2];have:=(mX h.book).next;show x.next≠0;omega
 have hl:(dl x e).lines=(bz x e).l:=by rw[e2]
 have hw:(dp x e).aA=(bz x e).b.aA:=by rw[e1]
 have y':(dp x e).ag=(bz x e).b.ag:=by rw[e1]
 have ho:∀ch,fB (dp x e) ch=fB (bz x e).b ch:=fun ch=>by rw[e1];rfl
 obtain⟨m,hm⟩:=EO _ l.lines (bz x e).l (Nat.le_refl _) h.lF.lF ln.lF (fun k c=>by
  by_cases v:om ⟨k,c⟩
  ·rcases v with⟨v1,v2,v3⟩|⟨v1,v2,v3,v4⟩
   ·have v3:c=0:=v3;subst v3;by_cases k1:k=1
    ·subst k1;have:=ze.aA;rw[hw,g.za]at this;rw[h.za];unfold eY at this;exact cJ.2 x_2
    exact hq k (by simp at v1;omega) v2
   have v3:1<=c:=v3;have v4:c<=99:=v4;rcases(by simp at v1 v2;omega:k=6\/k=7\/k=8)with q|q|q
   ·subst q;rw[h.loc c ⟨v3,v4⟩,<-g.loc c,<-y'];unfold hP;rcases jt (dp x e).ag c with⟨_,r⟩|⟨i,d,_,r2,r3,_⟩
    ·rw[r];exact cJ.2 (by show -1125899906842624<=(0:Int)/\(0:Int)<=_;omega)
    rw[r3];have:=(ze.ch d (dB r2)).loc;unfold eY at this;exact cJ.2 x_2
   ·subst q;rw[h.gh c ⟨v3,v4⟩,g.gh c];exact cJ.2 x_2
   subst q;rw[h.out c ⟨v3,v4⟩,<-g.out c,<-ho];by_cases t:ed (dp x e).ag c
   ·obtain⟨d,hd,rfl⟩:=t;have k1:=ze.sum d hd;have k2:=ze.ch d hd;have k3:=ut ze.hs ze.cs d.id;have k4:=k2.loc;have k5:=k2.aC;have k6:=k2.size;unfold fB jh at *;unfold eY at *;exact cJ.2 x_2
   rw[(ze.none t).1];exact cJ.2 x_2
  rw[MY h.lF.acc v,MY ln.acc v];exact cJ.2 x_2)
 obtain⟨k1,_⟩:=Ee h.lF ln hm;rw[<-hl]at hm;refine Gr h.ia (UM hc hid) ?_ hm (by have:=UL k1.gS k1.acc;omega);rw[e2,h.last];grind

structure MZ(x:aw)(e:aV):Prop where
 eq:bU (bz x e).l 2 0=if e.kind=1 then -e.af else 0
 inc:-2000001<=bU (bz x e).l 3 0/\bU (bz x e).l 3 0<=0
 yx:0<=bU (bz x e).l 4 0
 wO:bU (bz x e).l 5 0=0
structure Wl(K:Int)(x:aw)(l:cH)(n:Nat):Prop where
 oV:ra x l
 eq:-(200000+n*1000000)<=bU l.lines 2 0/\bU l.lines 2 0<=0
 inc:-(n*2000001)<=bU l.lines 3 0/\bU l.lines 3 0<=0
 yx:0<=bU l.lines 4 0
 wO:bU l.lines 5 0=0
 base:∀c∈x.ag,c.base<=1000000
 vd:∀h∈x.an,h.cW<=h.c9+2000001
 next:x.next<=10+n
 keys:∀k∈dN x,k<=K
theorem UO{b p a:Int}(hb:0<=b/\b<=1000000)(hp:0<=p/\p<=1000000)(ha:0<=a/\a<=1000000):0<=kG b p a/\kG b p a<=2000001:=by
 unfold kG;split
 ·unfold eM;split
  ·unfold zf;have V:0<=a*p:=Int.mul_nonneg ha.1 hp.1;have h2:a*p<=1000000*1000000:=Int.mul_le_mul ha.2 hp.2 hp.1 x_2;omega
  omega
 omega
theorem outer{x:aw}{e:aV}(h:dG x e=0)(hk:e.kind≠3)(hh:∀h∈x.an,h.cW<=h.c9+2000001):MZ x e:=by
 obtain⟨V,h2,h3⟩:=rS h;have b:=mX V;have zero:∀ {l:List aO},l=[]->e.kind≠1->(bz x e).l=l->MZ x e:=fun e1 e2 e3=>by
  subst e1;exact⟨by rw[e3,if_neg e2];rfl,by grind[dU],by grind[dU],by rw[e3];rfl⟩
 by_cases k1:e.kind=1
 ·have hw:(bz x e).l=bR (bR [] 1 0 e.af) 2 0 (-e.af):=by rw[<-yY k1];rfl
  refine⟨?_,?_,?_,?_⟩<;>rw[hw]<;>simp only[fO,dU]<;>simp[k1]
 by_cases k2:e.kind=2
 ·by_cases q:gO x e=0
  ·have hw:(bz x e).l=bR (bR [] 6 e.ch e.af) 1 0 (-e.af):=by rw[<-xy k2,tK q]
   refine⟨?_,?_,?_,?_⟩<;>rw[hw]<;>simp only[fO,dU]<;>simp[k1]
  exact zero rfl k1 (by rw[<-xy k2,sK q])
 by_cases k4:e.kind=4
 ·exact zero rfl k1 (by rw[<-vK k4];grind[ou])
 by_cases k5:e.kind=5
 ·by_cases q:gg x e=0
  ·have hw:(bz x e).l=bR (bR [] 6 e.to (-e.af)) 8 e.to e.af:=by rw[<-xz k5,sR q];rfl
   refine⟨?_,?_,?_,?_⟩<;>rw[hw]<;>simp only[fO,dU]<;>simp[k1]
  exact zero rfl k1 (by rw[<-xz k5,jm q])
 by_cases k6:e.kind=6\/e.kind=7
 ·cases hy:x.an.find? (fun c=>c.key==e.key)with
  |none=>exact zero rfl k1 (by rw[<-uv k6,M0 hy])
  |some y=>
   have hm:=List.mem_of_find?_eq_some hy;have q:=b.hs y hm;have q2:=q.out;have q3:=hh y hm;have hw:bz x e=pN x (decide (e.kind=6)) y:=by rw[<-uv k6,HW hy]
   by_cases g:e.kind=6
   ·have zg:(bz x e).l=bR (bR (bR [] 3 0 (y.c9-y.cW)) 6 y.gh y.cW) 8 y.out (-y.c9):=by rw[hw,decide_eq_true g];rfl
    refine⟨?_,?_,?_,?_⟩<;>rw[zg]<;>simp only[fO,dU]<;>simp[k1]<;>omega
   have zg:(bz x e).l=bR (bR [] 6 y.out y.c9) 8 y.out (-y.c9):=by rw[hw,decide_eq_false g];rfl
   refine⟨?_,?_,?_,?_⟩<;>rw[zg]<;>simp only[fO,dU]<;>simp[k1]
 by_cases k8:e.kind=8
 ·exact zero rfl k1 (by rw[<-y7 k8];rfl)
 by_cases k9:e.kind=9
 ·by_cases q:fL x e=0
  ·have hw:(bz x e).l=bR (bR [] 6 e.ch (-eM e.af e.ay)) 8 e.ch (eM e.af e.ay):=by rw[<-t8 k9,uZ q];rfl
   refine⟨?_,?_,?_,?_⟩<;>rw[hw]<;>simp only[fO,dU]<;>simp[k1]
  exact zero rfl k1 (by rw[<-t8 k9,od q])
 have:=y8 h2;cases hy:x.aq.find? (fun c=>c.key==e.key)with
 |none=>exact zero rfl k1 (by rw[<-ua x_2,M1 hy])
 |some y=>
  have hm:=List.mem_of_find?_eq_some hy;have q:=(b.cs y hm).ay;unfold eY at q;have hw:bz x e=mN x (decide (e.kind=10)) y:=by rw[<-ua x_2,DZ hy]
  by_cases g:e.kind=10
  ·have zg:(bz x e).l=bR (bR (bR [] 4 0 y.ay) 6 y.to y.af) 8 y.fI (-y.af-y.ay):=by rw[hw,decide_eq_true g];rfl
   refine⟨?_,?_,?_,?_⟩<;>rw[zg]<;>simp only[fO,dU]<;>simp[k1];omega
  have zg:(bz x e).l=bR (bR [] 6 y.fI (y.af+y.ay)) 8 y.fI (-y.af-y.ay):=by rw[hw,decide_eq_false g];rfl
  refine⟨?_,?_,?_,?_⟩<;>rw[zg]<;>simp only[fO,dU]<;>simp[k1]
theorem HX{l:List be}{a:Int}{f:be->be}(hf:∀c,c.base<=1000000->(f c).base<=1000000)(h:∀c∈l,c.base<=1000000):∀c∈cC l a f,c.base<=1000000:=fun c hc=>by
 obtain⟨d,hd,rfl⟩:=Cs hc;grind
theorem AN{l:List be}{a b:Int}{f g:be->be}(hf:∀c,(f c).base=c.base)(hg:∀c,(g c).base=c.base)(h:∀c∈l,c.base<=1000000):∀c∈cC (cC l a f) b g,c.base<=1000000:=HX (fun c q=>by grind) (HX (fun c q=>by grind) h)
theorem UP{K:Int}{x:aw}{e:aV}(h:dG x e=0)(ha:e.af<=1000000)(AP:e.key<=K)(hb:∀c∈x.ag,c.base<=1000000)(hh:∀h∈x.an,h.cW<=h.c9+2000001)(jF:∀k∈dN x,k<=K) :
 (∀c∈(bz x e).b.ag,c.base<=1000000)/\(∀h∈(bz x e).b.an,h.cW<=h.c9+2000001)/\∀k∈dN (bz x e).b,k<=K:=by
 obtain⟨V,h2,h3⟩:=rS h
 have b:=mX V
 have mS:(eG x&&co e)=true:=by rw[V,h2];rfl
 have hw:(bz x e).c=0:=by rw[<-yA mS h3];exact h
 have am:=uu h2
 rw[cY,cY]at am
 by_cases k1:e.kind=1
 ·rw[<-yY k1];trivial
 by_cases k2:e.kind=2
 ·rw[<-xy k2]at hw ⊢
  by_cases q:gO x e=0
  ·rw[tK q]
   refine⟨fun c hc=>?_,hh,jF⟩
   rcases EP hc with r|rfl
   ·exact hb c r
   show (0:Int)<=1000000;omega
  grind[sK]
 by_cases k3:e.kind=3
 ·rw[<-yZ k3]at hw ⊢
  by_cases q:ir x e=0
  ·rw[yf q]
   exact⟨fun c hc=>hb c (List.mem_filter.1 hc).1,hh,jF⟩
  grind[tM]
 by_cases k4:e.kind=4
 ·rw[<-vK k4]
  unfold ou
  split
  ·grind
  exact⟨HX (fun c _=>ha) hb,hh,jF⟩
 by_cases k5:e.kind=5
 ·rw[<-xz k5]at hw ⊢
  by_cases q:gg x e=0
  ·rw[sR q]
   have UQ:cn x e<=e.af+2000001:=by
    have hc:(fz x.ag e.to).base<=1000000/\0<=(fz x.ag e.to).base/\0<=(fz x.ag e.to).br/\(fz x.ag e.to).br<=1000000:=by
     rcases jt x.ag e.to with⟨_,r⟩|⟨i,c,_,r2,r3,_⟩
     ·rw[r];exact⟨by decide,by decide,by decide,by decide⟩
     rw[r3];have k:=b.ch c (dB r2);have k2:=k.base;unfold eY at k2;exact⟨hb c (dB r2),k2.1,k.br.1,k.br.2⟩
    have hf:=UO (b:=(fz x.ag e.to).base) (p:=(fz x.ag e.to).br) (a:=e.af) ⟨hc.2.1,hc.1⟩ hc.2.2 ⟨am.1.1,ha⟩;unfold cn eM;split<;>omega
   refine⟨AN (fun _=>rfl) (fun _=>rfl) hb,fun y hy=>?_,fun k hk=>?_⟩
   ·rcases List.mem_append.1 hy with r|r
    ·exact hh y r
    rw[List.mem_singleton.1 r];exact UQ
   unfold dN mI at hk
   dsimp only at hk
   rw[List.map_append,List.append_assoc]at hk
   rcases List.mem_append.1 hk with r|r
   ·exact jF k (List.mem_append_left _ r)
   rcases List.mem_append.1 r with r|r
   ·simp at r;omega
   exact jF k (List.mem_append_right _ r)
  grind[jm]
 by_cases k6:e.kind=6\/e.kind=7
 ·rw[<-uv k6]
  unfold mR
  split
  ·rename_i y hy
   have my:∀z∈jS x.an y.key,z∈x.an:=fun z hz=>(List.mem_filter.1 hz).1
   have xk:∀k∈(jS x.an y.key).map (fun h=>h.key)++x.aq.map (fun h=>h.key),k<=K:=fun k hk=>by
    rcases List.mem_append.1 hk with r|r
    ·obtain⟨z,hz,rfl⟩:=List.mem_map.1 r;exact jF _ (List.mem_append_left _ (List.mem_map_of_mem (my z hz)))
    exact jF k (List.mem_append_right _ r)
   unfold pN
   split
   ·exact⟨AN (fun _=>rfl) (fun _=>rfl) hb,fun z hz=>hh z (my z hz),xk⟩
   exact⟨AN (fun _=>rfl) (fun _=>rfl) hb,fun z hz=>hh z (my z hz),xk⟩
  grind
 by_cases k8:e.kind=8
 ·rw[<-y7 k8]
  refine⟨fun c hc=>?_,fun z hz=>?_,fun k hk=>?_⟩
  ·obtain⟨d,hd,rfl⟩:=List.mem_map.1 hc
   grind[l8]
  ·obtain⟨d,hd,rfl⟩:=List.mem_map.1 hz
   exact hh d hd
  refine jF k ?_
  unfold dN p' at hk
  dsimp only at hk
  rw[List.map_map]at hk
  exact hk
 by_cases k9:e.kind=9
 ·rw[<-t8 k9]at hw ⊢
  by_cases q:fL x e=0
  ·rw[uZ q]
   refine⟨AN (fun _=>rfl) (fun _=>rfl) hb,hh,fun k hk=>?_⟩
   unfold dN oH at hk
   dsimp only at hk
   rw[List.map_append]at hk
   rcases List.mem_append.1 hk with r|r
   ·exact jF k (List.mem_append_left _ r)
   rcases List.mem_append.1 r with r|r
   ·exact jF k (List.mem_append_right _ r)
   simp at r;omega
  grind[od]
 have:=y8 h2
 rw[<-ua x_2]
 unfold nm
 split
 ·rename_i y hy
  have xk:∀k∈x.an.map (fun h=>h.key)++(jA x.aq y.key).map (fun h=>h.key),k<=K:=fun k hk=>by
   rcases List.mem_append.1 hk with r|r
   ·exact jF k (List.mem_append_left _ r)
   obtain⟨z,hz,rfl⟩:=List.mem_map.1 r;exact jF _ (List.mem_append_right _ (List.mem_map_of_mem (List.mem_filter.1 hz).1))
  unfold mN
  split
  ·exact⟨AN (fun _=>rfl) (fun _=>rfl) hb,hh,xk⟩
  exact⟨AN (fun _=>rfl) (fun _=>rfl) hb,hh,xk⟩
 grind
theorem Gx{x:aw}{e:aV}(h:dG x e=0):(dp x e).ag=(bz x e).b.ag/\(dp x e).an=(bz x e).b.an/\(dp x e).aq=(bz x e).b.aq/\(dp x e).next<=x.next+1:=by
 by_cases r:(bz x e).l=[]
 ·rw[(ub h r).1];exact⟨rfl,rfl,rfl,by rw[xA];omega⟩
 rw[(rU h r).1];exact⟨rfl,rfl,rfl,by grind[xA]⟩
theorem Wl.step{K:Int}{x:aw}{l l':cH}{n:Nat}{e:aV}(h:Wl K x l n)(hc:dG x e=0)(hk:e.kind≠3)(ha:e.af<=1000000)(AP:e.key<=K)(hl:ra (dp x e) l')(hs:∀k c,bU l'.lines k c=bU l.lines k c+bU (bz x e).l k c):Wl K (dp x e) l' (n+1):=by
 have o:=outer hc hk h.vd;obtain⟨s1,s2,s3⟩:=UP hc ha AP h.base h.vd h.keys;obtain⟨p1,p2,p3,p4⟩:=Gx hc;have am:=uu (rS hc).2.1;rw[cY,cY]at am;have e1:=h.eq;have e2:=h.inc;have e3:=h.yx;have e4:=h.wO;have e5:=h.next;have o1:=o.eq;have o2:=o.inc;have o3:=o.yx;have o4:=o.wO;refine⟨hl,?_,?_,?_,?_,by rw[p1];exact s1,by rw[p2];exact s2,by omega,fun k hk=>s3 k ?_⟩
 ·rw[hs,o1];push_cast;split<;>omega
 ·rw[hs];push_cast;omega
 all_goals grind[dN]
theorem Wl.UR{K:Int}{x:aw}{l:cH}{n:Nat}(h:Wl K x l n):bU l.lines 4 0<=200000+n*3000001:=by
 have t:=(DX h.oV.lF.acc).1;have t0:bG o6 l.lines=0:=h.oV.lF.sum;have b:=mX h.oV.book;have hw:=b.aA;rw[<-h.oV.za]at hw;unfold eY at hw;have hS:0<=qZ l.lines:=by
  unfold qZ;have key:∀(m:List Nat),(∀j∈m,j<99)->0<=bG (fun j:Nat=>bU l.lines 6 (j+1)+bU l.lines 7 (j+1)+bU l.lines 8 (j+1)) m:=by
   intro m;induction m with
   |nil=>intro _;exact Int.le_refl _
   |cons j m ih=>
    intro hm;rw[jT];have hj:=hm j x_20;have i1:=ih (fun z hz=>hm z (by simp[hz]));have hc:1<=(j:Int)+1/\(j:Int)+1<=99:=by omega
    rw[h.oV.loc _ hc,h.oV.gh _ hc,h.oV.out _ hc];have l1:0<=hP x.ag ((j:Int)+1):=by
     unfold hP;rcases jt x.ag ((j:Int)+1)with⟨_,r⟩|⟨i,d,_,r2,r3,_⟩
     ·rw[r];trivial
     rw[r3];have:=(b.ch d (dB r2)).loc;grind[eY]
    have l2:0<=fB x ((j:Int)+1):=by
     have:=ut b.hs b.cs ((j:Int)+1);unfold fB;omega
    omega
  exact key _ (fun j hj=>List.mem_range.1 hj)
 have e1:=h.eq;have e2:=h.inc;have e3:=h.wO;omega
theorem Wl.SY{K:Int}{x:aw}{l:cH}{n:Nat}{e:aV}(h:Wl K x l n)(hn:n<=100)(hc:dG x e=0)(hk:e.kind≠3)(hp:(dl x e).lines≠[])(ha:e.af<=1000000)(hr:bU (bz x e).l 4 0<=1000000000):iv l (dl x e)=0:=by
 have o:=outer hc hk h.vd;have am:=uu (rS hc).2.1;rw[cY,cY]at am;have e1:=h.eq;have e2:=h.inc;have e3:=h.yx;have e4:=h.wO;have e5:=h.UR;have o1:=o.eq;have o2:=o.inc;have o3:=o.yx;have o4:=o.wO;refine UN h.oV hc hp fun k k2 k5=>cJ.2 ?_;grind

abbrev BZ(r:fg):AV:=.au [cj r.now,.p (.ab 92 2 (qI r.ps)),.p (.ab 3 1 (ah kt r.jD))]
theorem LC{f:FuncId}{args:List AV}{r:fg}(h:GN prog f args [] [] (GW r)):GC prog f args [] (BZ r) []:=
 (GX.frozen (Z:=fun y=>y=BZ r) (show GX prog f args [] _ from h) fun x ob ⟨l1,F1,hs,hF,hM,e,⟨vs,hv,e1,e2,e3⟩⟩=>by
   subst e e1 e2 e3;refine⟨BZ r,?_,rfl⟩;have hT:Tl (bx (Ag r vs++je 1000000 (fZ vs r.ps))) (fZ vs r.ps):=by
    rw[Gm rfl];exact Tl.tl hF
   exact Still.au (.cons (Still.agg (.cons (Still.p _) (.cons (Still.p _) (.cons (Still.p _) (.cons (Still.row (id:=1) (e:=⟨159,none⟩) (sz:=7) (rows:=ah aX r.now.ag) rfl) (.cons (Still.row (id:=2) (e:=⟨218,none⟩) (sz:=7) (rows:=ah go r.now.an) rfl) (.cons (Still.row (id:=3) (e:=⟨220,none⟩) (sz:=5) (rows:=ah iX r.now.aq) rfl) .nil)))))))
    (.cons (Still.own (id:=14) (e:=⟨92,none⟩) (sz:=2) (rows:=lH vs r.ps) rfl (Tk hT hv (s:=0) fun i hi=>by simp)) (.cons (Still.row (id:=15) (e:=⟨3,none⟩) (sz:=1) (rows:=ah kt r.jD) rfl) .nil)))).mono fun y o ⟨e1,e2⟩=>⟨e2,e1⟩
theorem QI(x:aw)(es:List aV)(hw:di x)(we:∀e∈es,l7 e)(hm:es.length<=1048576):GC prog 35 [cj x,.p (.ab 81 7 (ah fR es))] [] (BZ (sB x es)) []:=LC (Tm x es hw we hm)
theorem QM(x:aw)(es:List aV)(hw:di x)(we:∀e∈es,l7 e)(hm:es.length<=1048576):GC prog 167 [cj x,.p (.ab 81 7 (ah fR es))] [] (BZ (sB x es)) []:=LC (Tn x es hw we hm)

set_option maxHeartbeats 16000000
set_option maxRecDepth 100000
abbrev pm:aw:=⟨0,1,0,[],[],[]⟩
theorem FT:di pm:=⟨by simp,by simp,by simp,by simp⟩
theorem QC{x:aw}{es:List aV}(hw:di x)(we:∀e∈es,l7 e):di (sB x es).now:=by
 unfold sB;split
 ·have:=D9 hw we es.length (Nat.le_refl _);grind
 exact⟨by simp[rg],by simp[rg],by simp[rg],by simp[rg]⟩
section
variable {a b c:Int}{l:List be}{h:List eV}{i:List gz}
theorem mem_set{α:Type}{l:List α}{k:Nat}{x:α}{p:α->Prop}(h:∀y∈l,p y)(hx:p x):∀y∈l.set k x,p y:=fun y hy=>by
 grind
theorem di.D'(w:di ⟨a,b,c,l,h,i⟩){k:Nat}{x:be}(hx:qn x):di ⟨a,b,c,l.set k x,h,i⟩:=⟨mem_set w.ag hx,w.an,w.aq,by show (l.set k x).length<=_;rw[List.length_set];exact w.len⟩
theorem di.Tp(w:di ⟨a,b,c,l,h,i⟩){k:Nat}{x:eV}(hx:ue x):di ⟨a,b,c,l,h.set k x,i⟩:=⟨w.ag,mem_set w.an hx,w.aq,w.len⟩
theorem di.Tq(w:di ⟨a,b,c,l,h,i⟩){k:Nat}{x:gz}(hx:vo x):di ⟨a,b,c,l,h,i.set k x⟩:=⟨w.ag,w.an,mem_set w.aq hx,w.len⟩
theorem di.loc(w:di ⟨a,b,c,l,h,i⟩){k:Nat}(hk:k<l.length){n:Int}(hn:i64 n):di ⟨a,b,c,l.set k { l[k]with loc:=n },h,i⟩:=w.D' (by have:=w.ag _ (List.getElem_mem hk);grind[qn])
theorem di.cM(w:di ⟨a,b,c,l,h,i⟩){k:Nat}(hk:k<l.length){n:Int}(hn:i64 n):di ⟨a,b,c,l.set k { l[k]with cM:=n },h,i⟩:=w.D' (by have:=w.ag _ (List.getElem_mem hk);grind[qn])
theorem di.key(w:di ⟨a,b,c,l,h,i⟩){k:Nat}(hk:k<h.length){n:Int}(hn:i64 n):di ⟨a,b,c,l,h.set k { h[k]with key:=n },i⟩:=w.Tp (by have:=w.an _ (List.getElem_mem hk);grind[ue])
theorem di.to(w:di ⟨a,b,c,l,h,i⟩){k:Nat}(hk:k<i.length):di ⟨a,b,c,l,h,i.set k { i[k]with to:=i[k].fI }⟩:=w.Tq (by have:=w.aq _ (List.getElem_mem hk);grind[vo])
theorem di.swap(w:di ⟨a,b,c,l,h,i⟩)(hk:1<l.length):di ⟨a,b,c,(l.set 0 l[1]).set 1 (l[0]' x_2),h,i⟩:=(w.D' (w.ag _ (List.getElem_mem hk))).D' (w.ag _ (List.getElem_mem _))
end
theorem Tr:GC prog 168 [] [] (.agg [int 0,int 1,int 0,.p (.v (.slice none 0 0)),.p (.v (.slice none 0 0)),.p (.v (.slice none 0 0))]) []:=by
 refine GC.intro (rs:=[.cell 0 50 (some 6)]) func168 rfl ntmps168 x_8 ⟨rfl,rfl,cu,trivial⟩ ?_;intro L O w0;refine sL<|ab (zA 2000 mD Z) Z<|nA<|lq (rd (x:=.agg [U _ _,U _ _,U _ _,vV _,vV _,vV _]) (cP Z s6 Z Z Z) Z)<|ab (zB 2000 eu ew Z) Z<|Y<|aR ?_;trivial
theorem QL:GC prog 168 [] [] (cj pm) []:=GX.imp Tr (fun x bd ⟨e1,e2⟩=>by
 subst e1 e2;exact⟨cj pm,fe.agg (ff.cons (fe.refl _) (ff.cons (fe.refl _) (ff.cons (fe.refl _) (ff.cons (fe.nil _ _) (ff.cons (fe.nil _ _) (ff.cons (fe.nil _ _) ff.nil)))))),rfl,rfl⟩)

def kc:List aO->aO->List aO
 |[],x=>[x]
 |y::l,x=>if cg y.acc x.acc then y::kc l x else if y.acc.kind=x.acc.kind/\y.acc.ch=x.acc.ch then (if y.af+x.af=0 then l else ⟨y.acc,y.af+x.af⟩::l)else x::y::l
theorem LD{x:aO}{k c:Int}:∀(l:List aO),bU (kc l x) k c=bU l k c+iS k c x
 |[]=>by grind[kc,fm]
 |y::l=>by
  unfold kc;split
  ·rw[fm,fm,LD l];omega
  split
  ·rename_i q;have e:iS k c y+iS k c x=if y.acc.kind=k/\y.acc.ch=c then y.af+x.af else 0:=by
    unfold iS;rw[<-q.1,<-q.2];split<;>omega
   split
   ·rename_i r;rw[r]at e;rw[fm];split at e<;>omega
   rw[fm,fm];have e2:iS k c ⟨y.acc,y.af+x.af⟩=if y.acc.kind=k/\y.acc.ch=c then y.af+x.af else 0:=rfl
   rw[e2];omega
  grind[fm]
def iM(l:List aO)(p:List aO):List aO:=p.foldl kc l
theorem GY{k c:Int}:∀(p l:List aO),bU (iM l p) k c=bU l k c+bU p k c
 |[],l=>by rw[dU];show bU l k c=_;omega
 |x::p,l=>by
  show bU (iM (kc l x) p) k c=_;rw[GY p,LD,fm];omega
def iR(l:cH)(p:dX):Int:=if (eQ l&&iL p.id p.lines)=true then (if p.id<=l.last then 2 else if eQ ⟨p.id,iM l.lines p.lines⟩=true then 0 else 3)else 1
def qi(l:cH)(p:dX):cH:=if iR l p=0 then ⟨p.id,iM l.lines p.lines⟩else ⟨0,[]⟩
theorem Tf{l:cH}{p:dX}(h:iR l p=0):eQ l=true/\iL p.id p.lines=true/\l.last<p.id/\eQ ⟨p.id,iM l.lines p.lines⟩=true:=by
 unfold iR at h;grind
theorem Wl.mono{K:Int}{x:aw}{l:cH}{n m:Nat}(h:Wl K x l n)(hm:n<=m):Wl K x l m:=by
 have e1:=h.eq;have e2:=h.inc;have e5:=h.next;exact⟨h.oV,by omega,by omega,h.yx,h.wO,h.base,h.vd,by omega,h.keys⟩
theorem Lj{x:aw}{e:aV}(h:dG x e=0):(dl x e).lines=(bz x e).l:=by
 by_cases r:(bz x e).l=[];all_goals simp_all[ub,rU]
def BX(s:cH×Int)(p:dX):cH×Int:=if iR s.1 p=0 then (qi s.1 p,s.2+1)else s
def fP(l:cH)(ps:List dX):cH×Int:=ps.foldl BX (l,0)
structure F3(ch to:Int)(s:fg):Prop where
 wl:Wl 50 s.now (fP ⟨0,[]⟩ s.ps).1 0
 h:s.now.an=[]
 c:s.now.aq=[]
 n:s.now.next=4
 a:fz s.now.ag ch=⟨ch,18000,9000,9000,0,0,0⟩
 b:fz s.now.ag to=⟨to,18000,9000,9000,0,0,0⟩
 ta:ed s.now.ag ch
 tb:ed s.now.ag to

def rh(l:List aO):Prop:=(l.Pairwise fun a b=>cg a.acc b.acc=true)/\∀y∈l,y.af≠0
theorem rh.tail{x:aO}{l:List aO}(h:rh (x::l)):rh l:=⟨(List.pairwise_cons.1 h.1).2,fun y hy=>h.2 y (by simp[hy])⟩
theorem uf{k c:Int}:∀ {l:List aO},(∀y∈l,cg ⟨k,c⟩ y.acc=true)->bU l k c=0
 |[],_=>rfl
 |y::l,h=>by
  rw[fm,uf (fun z hz=>h z (by simp[hz]))];unfold iS;rw[if_neg (fun q=>GZ (h y x_20) ⟨q.1.symm,q.2.symm⟩)];rfl
theorem vp{x:aO}{l:List aO}(h:(x::l).Pairwise fun a b=>cg a.acc b.acc=true):bU (x::l) x.acc.kind x.acc.ch=x.af:=by
 simp_all[fm,uf,iS]
theorem B0{x y:aO}{l:List aO}(h:(y::l).Pairwise fun a b=>cg a.acc b.acc=true)(q:cg x.acc y.acc=true):∀z∈y::l,cg x.acc z.acc=true:=fun z hz=>by
 rcases List.mem_cons.1 hz with rfl|hz;all_goals grind[vr,List.pairwise_cons]
theorem LE:∀ {a b:List aO},rh a->rh b->(∀k c,bU a k c=bU b k c)->a=b
 |[],[],_,_,_=>rfl
 |[],y::b,_,hb,h=>by
  have:=h y.acc.kind y.acc.ch;rw[vp hb.1,dU]at this;exact absurd this.symm (hb.2 y x_20)
 |x::a,[],ha,_,h=>by
  have:=h x.acc.kind x.acc.ch;rw[vp ha.1,dU]at this;exact absurd this (ha.2 x x_20)
 |x::a,y::b,ha,hb,h=>by
  by_cases q1:cg x.acc y.acc=true
  ·have:=h x.acc.kind x.acc.ch;rw[vp ha.1,uf (B0 hb.1 q1)]at this;exact absurd this (ha.2 x x_20)
  by_cases q2:cg y.acc x.acc=true
  ·have:=h y.acc.kind y.acc.ch;rw[vp hb.1,uf (B0 ha.1 q2)]at this;exact absurd this.symm (hb.2 y x_20)
  have e:=Ah (by simpa using q1) (by simpa using q2);have V:=h x.acc.kind x.acc.ch;rw[vp ha.1,e.1,e.2,vp hb.1]at V;have G0:x=y:=by
   obtain⟨xa,xm⟩:=x;obtain⟨ya,ym⟩:=y;have:=Ea e;simp only at this V;rw[this,V]
  subst G0;rw[LE ha.tail hb.tail fun k c=>by have:=h k c;rw[fm,fm]at this;omega]
theorem LF{x:aO}:∀ {l:List aO} {z:aO},z∈kc l x->z.acc=x.acc\/∃y∈l,z.acc=y.acc
 |[],z,h=>by
  simp_all[kc]
 |y::l,z,h=>by
  unfold kc at h;split at h
  ·rcases List.mem_cons.1 h with rfl|h
   ·exact .inr ⟨_,by simp,rfl⟩
   rcases LF h with q|⟨u,hu,q⟩
   ·exact .inl q
   exact .inr ⟨u,by simp[hu],q⟩
  grind
theorem LH{x:aO}(hx:x.af≠0):∀ {l:List aO},rh l->rh (kc l x)
 |[],_=>by
  unfold kc;exact⟨by simp,fun y hy=>by grind⟩
 |y::l,h=>by
  have hp:=List.pairwise_cons.1 h.1;unfold kc;by_cases q1:cg y.acc x.acc=true
  ·rw[if_pos q1];have ih:=LH hx h.tail;refine⟨List.pairwise_cons.2 ⟨fun z hz=>?_,ih.1⟩,fun z hz=>?_⟩
   ·grind[LF]
   rcases List.mem_cons.1 hz with rfl|hz
   ·exact h.2 _ x_20
   exact ih.2 z hz
  rw[if_neg q1];by_cases q2:y.acc.kind=x.acc.kind/\y.acc.ch=x.acc.ch
  ·rw[if_pos q2];by_cases q3:y.af+x.af=0
   ·rw[if_pos q3];exact h.tail
   rw[if_neg q3];exact⟨List.pairwise_cons.2 ⟨fun z hz=>hp.1 z hz,hp.2⟩,fun z hz=>by
    rcases List.mem_cons.1 hz with rfl|hz
    ·exact q3
    exact h.2 z (by simp[hz])⟩
  rw[if_neg q2];have q4:cg x.acc y.acc=true:=by
   cases e:cg x.acc y.acc with
   |true=>rfl
   |false=>grind[Ah]
  refine⟨List.pairwise_cons.2 ⟨B0 h.1 q4,h.1⟩,fun z hz=>?_⟩;rcases List.mem_cons.1 hz with rfl|hz
  ·exact hx
  exact h.2 z hz
theorem LI:∀ {p l:List aO},(∀y∈p,y.af≠0)->rh l->rh (iM l p)
 |[],l,_,h=>h
 |x::p,l,hp,h=>LI (p:=p) (l:=kc l x) (fun y hy=>hp y (by simp[hy])) (LH (hp x x_20) h)
theorem G1{k c:Int}{x:aO}{s:Int}(h:¬dL s=true)(h0:k=x.acc.kind/\c=x.acc.ch->s=0):¬(x.acc.kind=k/\x.acc.ch=c):=fun q=>h (by rw[h0 ⟨q.1.symm,q.2.symm⟩];rfl)
theorem B1:∀(n:Nat) (a b:List aO),a.length+b.length<=n->rh a->rh b->fM a b=none->∃k c,¬dL (bU a k c+bU b k c)=true
 |n,[],b,_,_,_,h=>by grind[yo]
 |n,x::a,[],_,_,_,h=>by grind[z6]
 |0,x::a,y::b,hn,_,_,_=>by grind
 |n+1,x::a,y::b,hn,ha,hb,h=>by
  simp only[List.length_cons]at hn;have ip:=List.pairwise_cons.1 ha.1;have kA:=List.pairwise_cons.1 hb.1;by_cases q1:cg x.acc y.acc=true
  ·rw[BI q1,Option.map_eq_none_iff]at h;obtain⟨k,c,g⟩:=B1 n a (y::b) x_80 ha.tail hb h;refine⟨k,c,?_⟩;have bO:=G1 (k:=k) (c:=c) (x:=x) g (fun⟨e1,e2⟩=>by rw[e1,e2,uf (fun z hz=>ip.1 z hz),uf (B0 hb.1 q1)];rfl);simp_all[iS,if_neg,fm]
  have q1:cg x.acc y.acc=false:=by simpa using q1
  by_cases q2:cg y.acc x.acc=true
  ·rw[BJ q1 q2,Option.map_eq_none_iff]at h;obtain⟨k,c,g⟩:=B1 n (x::a) b x_80 ha hb.tail h;refine⟨k,c,?_⟩;have bO:=G1 (k:=k) (c:=c) (x:=y) g (fun⟨e1,e2⟩=>by rw[e1,e2,uf (fun z hz=>kA.1 z hz),uf (B0 ha.1 q2)];rfl);simp_all[iS,if_neg,fm]
  have q2:cg y.acc x.acc=false:=by simpa using q2
  have e:=Ah q1 q2;have tail (g:∃k c,¬dL (bU a k c+bU b k c)=true):∃k c,¬dL (bU (x::a) k c+bU (y::b) k c)=true:=by
   obtain⟨k,c,g⟩:=g;refine⟨k,c,?_⟩;have bO:=G1 (k:=k) (c:=c) (x:=x) g (fun⟨e1,e2⟩=>by rw[e1,e2,uf (fun z hz=>ip.1 z hz),e.1,e.2,uf (fun z hz=>kA.1 z hz)];rfl);have e1:iS k c x=0:=if_neg bO;have e2:iS k c y=0:=if_neg (fun q=>bO x_106);rw[fm x,fm y,e1,e2,Int.zero_add,Int.zero_add];exact g
  by_cases q3:dL (x.af+y.af)=true
  ·by_cases q4:x.af+y.af=0
   ·rw[Eb q1 q2 q3 q4]at h;exact tail (B1 n a b x_2 ha.tail hb.tail h)
   rw[Ec q1 q2 q3 q4,Option.map_eq_none_iff]at h;exact tail (B1 n a b x_2 ha.tail hb.tail h)
  refine⟨x.acc.kind,x.acc.ch,?_⟩;rw[vp ha.1,e.1,e.2,vp hb.1];exact q3
theorem rk.gS{l:List aO}(h:rk l):rh l:=⟨h.1,fun y hy=>(h.2 y hy).1⟩
theorem LJ{k c:Int}:∀ {l:List aO},rk l->dL (bU l k c)=true
 |[],_=>rfl
 |x::l,h=>by
  by_cases q:x.acc.kind=k/\x.acc.ch=c
  ·obtain⟨rfl,rfl⟩:=q;rw[vp h.1];exact cJ.2 (h.2 x x_20).2
  have e:iS k c x=0:=if_neg q;rw[fm,e,Int.zero_add];exact LJ h.tail
theorem LK{l:cH}{p:dX}:iR l p=iv l p/\qi l p=iD l p:=by
 by_cases h0:(eQ l&&iL p.id p.lines)=true
 ·have LL:=h0;rw[Bool.and_eq_true]at LL;obtain⟨hl,hp⟩:=LL;have rl:=hl;unfold eQ at rl;simp only[Bool.and_eq_true]at rl;have la:=wV rl.2;have Ed:=hp;unfold iL at Ed;simp only[Bool.and_eq_true]at Ed;have lp:=wV Ed.2;have hid:=cJ.1 Ed.1.1;have hs:rh (iM l.lines p.lines):=LI (fun y hy=>(lp.af y hy).1) la.lF.gS;by_cases ho:p.id<=l.last
  ·have c1:iR l p=2:=by unfold iR;rw[if_pos h0,if_pos ho]
   have c2:iv l p=2:=Le hl hp ho;exact⟨by rw[c1,c2],by unfold qi iD;rw[c1,c2];rfl⟩
  cases hm:fM l.lines p.lines with
  |none=>
   have c2:iv l p=3:=Lf hl hp ho hm;obtain⟨k,c,g⟩:=B1 _ _ _ (Nat.le_refl _) la.lF.gS lp.lF.gS hm;have Ts:eQ ⟨p.id,iM l.lines p.lines⟩=false:=Bool.eq_false_iff.2 fun q=>by
    unfold eQ at q;simp only[Bool.and_eq_true]at q;have:=LJ (k:=k) (c:=c) (wV q.2).lF;rw[GY]at this;exact g this
   have c1:iR l p=3:=by unfold iR;rw[if_pos h0,if_neg ho,if_neg (by simp[Ts])]
   exact⟨by rw[c1,c2],by unfold qi iD;rw[c1,c2];rfl⟩
  |some m=>
   obtain⟨lm,mq⟩:=Ee la lp hm;have em:iM l.lines p.lines=m:=LE hs lm.lF.gS fun k c=>by rw[GY,mq]
   have g9:rW m=true:=iG.ok (m:=m.length) lm;by_cases hlen:320<m.length
   ·have c2:iv l p=3:=Lg hl hp ho hm hlen;have c1:iR l p=3:=by
     unfold iR;rw[if_pos h0,if_neg ho,em,if_neg];unfold eQ;rw[show decide ((⟨p.id,m⟩:cH).lines.length<=320)=false by simp;omega];simp
    exact⟨by rw[c1,c2],by unfold qi iD;rw[c1,c2];rfl⟩
   have c2:iv l p=0:=Gr hl hp ho hm x_2;have c1:iR l p=0:=by
    unfold iR;rw[if_pos h0,if_neg ho,em,if_pos];unfold eQ;rw[g9,cJ.2 (show 0<=p.id/\p.id<=1125899906842624 by omega),decide_eq_true (show (⟨p.id,m⟩:cH).lines.length<=320 by show m.length<=320;omega)];rfl
   refine⟨by rw[c1,c2],?_⟩;rw[G2 c2 hm];unfold qi;rw[if_pos c1,em]
 simp_all[iR,if_neg,Gp,qi,iD]
theorem QE{l:cH}{ps:List dX}:fP l ps=jJ l ps:=by
 unfold fP jJ;have:BX=B2:=by
  funext s p;unfold BX B2;rw[LK.1,LK.2]
 rw[this]

def lZ{α:Type}(enc:α->List Value):List α->List α->Bool
 |[],[]=>true
 |x::a,y::b=>dA (enc x) (enc y)&&lZ enc a b
 |_,_=>false
theorem tD{α:Type}{enc:α->List Value}:∀ {a b:List α},a.length≠b.length->lZ enc a b=false
 |[],[],h=>absurd rfl h
 |[],_::_,_=>rfl
 |_::_,[],_=>rfl
 |x::a,y::b,h=>by unfold lZ;rw[tD (a:=a) (b:=b) (by simpa using h),Bool.and_false]
theorem qF{α:Type}{enc:α->List Value}:∀ {a b:List α} {k:Nat} (V:k<a.length) (h2:k<b.length),dA (enc a[k]) (enc b[k])=false->lZ enc a b=false
 |x::a,y::b,0,_,_,h=>by grind[lZ]
 |x::a,y::b,k+1,V,h2,h=>by unfold lZ;rw[qF (a:=a) (b:=b) (k:=k) x_15 x_15 x_15,Bool.and_false]
theorem JR{α:Type}{enc:α->List Value}:∀ {a b:List α},a.length=b.length->(∀(k:Nat) (V:k<a.length) (h2:k<b.length),dA (enc a[k]) (enc b[k])=true)->lZ enc a b=true
 |[],[],_,_=>rfl
 |[],_::_,h,_=>by cases h
 |_::_,[],h,_=>by cases h
 |x::a,y::b,h,hk=>by
  unfold lZ;rw[show dA (enc x) (enc y)=true from hk 0 x_20 x_20,JR (a:=a) (b:=b) (by simpa using h) (fun k V h2=>by have:=hk (k+1) x_21 x_27;simpa using this)];rfl
def kY(a b:aw):Bool:=decide (a.tick=b.tick)&&decide (a.next=b.next)&&decide (a.aA=b.aA)&&lZ aX a.ag b.ag&&lZ go a.an b.an&&lZ iX a.aq b.aq
def mC(a b:aw):Bool:=eG a&&eG b&&kY a b
def qE(a b:cH):Bool:=decide (a.last=b.last)&&lZ ct a.lines b.lines
abbrev de(es:List aV):fg:=sB pm es
abbrev d5(es:List aV):cH×Int:=jJ ⟨0,[]⟩ (de es).ps
def eK(l:List Int):Bool:=l.all fun c=>decide (c=0)
def eL(es:List aV):Bool:=eK (de es).jD&&decide ((d5 es).2=((de es).ps.length:Int))
def pZ(es m:List aV):Bool:=decide (m.length<=es.length)&&lZ fR (es.drop (es.length-m.length)) m
def zV(h:mm):Bool:=ik h.log.bT&&aI h.log.next 0 h.log.bT.cells.length&&aI h.log.dP 1 16000000&&decide (((dH h.log.bT).length:Int)=h.log.next)&&eL (f8 h.log.bT)&&mC (de (f8 h.log.bT)).now h.book&&qE (d5 (f8 h.log.bT)).1 h.ia&&pZ (f8 h.log.bT) (h.f9++h.wait)
abbrev Bu(h:mm):AV:=.agg [.p (.ab 195 1 (oS h.log.bT.cells)),.p (.ab 192 2 (oT h.log.bT.bu)),int h.log.next,int h.log.dP,int h.book.tick,int h.book.next,int h.book.aA,.p (.ab 159 7 (ah aX h.book.ag)),.p (.ab 218 7 (ah go h.book.an)),.p (.ab 220 5 (ah iX h.book.aq)),int h.ia.last,.p (.ab 167 3 (ah ct h.ia.lines)),.p (.ab 81 7 (ah fR h.wait)),.p (.ab 81 7 (ah fR h.f9))]

abbrev cR(l:cH):AV:=.agg [int l.last,.p (.ab 167 3 (ah ct l.lines))]
abbrev DT(p:dX):AV:=.agg [int p.id,.p (.ab 167 3 (ah ct p.lines))]
theorem Lb(x:cH):GC prog 121 [cR x] [] (aD (eQ x)) []:=by
 refine gi 2 func121 rfl ntmps121 rfl ?_;intro L O w0;refine sL<|ab (zX 2001 Z) Z<|ar Z<|nA<|lf 0 pW Z<|aj ac Z<|ab (zC [] [] [] func189 (wM _) (trivial) Z Z) Z<|aQ Z ?_;refine AL.bool (t:=6) rfl ?_ ?_
 ·intro V;refine lf 1 jY Z<|bo gY Z<|ba hZ Z<|ak Z<|bj Z<|aQ Z ?_;refine AL.bool (t:=12) rfl ?_ ?_
  ·intro h2;refine lf 1 jY Z<|bo gY Z<|ab (zC [] [] [] func222 (Ld x.lines (by have h:=h2;simp only[ap,decide_eq_true_eq]at h;omega)) (trivial) rfl rfl) Z<|lT [2,12,15] [2001] ?_;refine bj Z<|bv Z<|Y<|aR ?_;refine az trivial ?_;grind[eQ,ap,bb]
  intro h2;refine aa Z<|aa Z<|aa Z<|bL Z<|ar Z<|Y<|aR ?_;refine az trivial ?_;grind[eQ,ap]
 intro V;refine aa Z<|aa Z<|aa Z<|aa Z<|bL Z<|dm Z<|aa Z<|aa Z<|aa Z<|bL Z<|ar Z<|Y<|aR ?_;refine az trivial ?_;grind[eQ,bb]
def SI(l:cH)(p:dX):AV->List (Nat×AO)->Prop:=fun y ob=>ob=[]/\((iv l p≠0/\y=.au [.agg [int 0,.p (.v (.slice none 0 0))],int (iv l p)])\/(iv l p=0/\y=.au [.agg [int p.id,.p (.ab 167 3 (ah ct ((fM l.lines p.lines).getD [])))],int 0]))
theorem SJ{a b r:List aO}(hn:a.length+b.length<=1000000)(ha:∀z∈a,dL z.af=true)(hb:∀z∈b,dL z.af=true)(h:fM a b=some r):GC prog 123 [.p (.ab 167 3 (ah ct a)),.p (.ab 167 3 (ah ct b))] [] (.au [.own 50,aD true]) [(50,dc r)]:=
 (Gc a b hn ha hb).gc fun y o q=>by grind[z7]
theorem SK{a b:List aO}(hn:a.length+b.length<=1000000)(ha:∀z∈a,dL z.af=true)(hb:∀z∈b,dL z.af=true)(h:fM a b=none):GC prog 123 [.p (.ab 167 3 (ah ct a)),.p (.ab 167 3 (ah ct b))] [] (.au [.p (.v (.slice none 0 0)),aD false]) []:=
 (Gc a b hn ha hb).gc fun y o q=>by grind[z7]
theorem x_49{p:Prop}(c:p:=by exact ⟨rfl,.inl ⟨by omega,by rw[hc]⟩⟩):p:=c
theorem SL(l:cH)(p:dX)(hp:p.lines.length<=1000):GX prog 42 [cR l,DT p] [] (SI l p):=by
 refine GX.intro (rs:=[.cell 4 53 (some 2),.tmp 5]) func42 rfl ntmps42 x_8 ⟨rfl,rfl,eZ,rfl,trivial⟩ ?_;intro L O w0;refine sL<|ab (zX 2002 Z) Z<|ab (zX 2003 Z) Z<|ab (zA 2004 ld Z) Z<|ao Z<|Y<|aS<|sL<|aP (.agg [U _ _,vL _ _ _]) eZ Z<|ab (zC [] [] [] func121 (Lb l) (trivial) Z Z) Z<|bX Z<|aQ Z ?_;refine AL.bool (t:=11) rfl ?_ ?_
 ·intro V;refine aa Z<|aa Z<|aa Z<|aU Z<|Y<|aY Z<|sL<|lq (rd (x:=.agg [U _ _,vV _]) (cP Z lP Z Z Z) Z)<|ab (zB 2004 cA cB Z) Z<|ao Z<|Y<|aR<|rT ?_;refine fN ((.au [.agg [int 0,.p (.v (.slice none 0 0))],int 1])) [] ?_ rfl trivial;have hc:iv l p=1:=Gp (by simp_all);exact x_49
 intro V;refine aP (.agg [U _ _,vL _ _ _]) ol Z<|ab (zC [] [] [] func122 (SM p.id p.lines hp) (trivial) Z Z) Z<|lT [2,3,4,5,11,13] [2002,2003,2004] ?_;refine bX Z<|bj Z<|Y ?_;refine AW.cond rfl ?_ ?_
 ·intro h2;refine sL<|lq (rd (x:=.agg [U _ _,vV _]) (cP Z lP Z Z Z) Z)<|ab (zB 2004 cA cB Z) Z<|ao Z<|Y<|aR<|rT ?_;refine fN ((.au [.agg [int 0,.p (.v (.slice none 0 0))],int 1])) [] ?_ rfl trivial;have hc:iv l p=1:=Gp (by simp_all);exact x_49
 intro h2;refine aK<|gT<|aS<|sL<|lf 0 wN Z<|aj ac Z<|lf 0 pW Z<|aj ac Z<|ak Z<|Y ?_;refine AW.cond rfl ?_ ?_
 ·intro h3;refine sL<|lq (rd (x:=.agg [U _ _,vV _]) (cP Z lP Z Z Z) Z)<|ab (zB 2004 cA cB Z) Z<|ao Z<|Y<|aR<|rT ?_;refine fN ((.au [.agg [int 0,.p (.v (.slice none 0 0))],int 2])) [] ?_ rfl trivial;have hc:iv l p=2:=Le x_15 x_15 x_15;exact x_49
 intro h3;refine aK<|gA<|lf 1 jY Z<|bo gY Z<|lf 1 t7 Z<|bo gY Z ?_;have gH:eQ l=true:=by simpa using V
 have oU:iL p.id p.lines=true:=by simpa using h2
 obtain⟨qY,lD,-,-⟩:=va gH;obtain⟨BT,nS,-,-⟩:=DU oU;have hold:¬p.id<=l.last:=by simpa using h3
 rcases hmg:fM l.lines p.lines with _|r
 ·skip;refine ab (zC [] [] [] func123 (SK x_2 lD nS hmg) (trivial) rfl rfl) Z<|lT [3,4,5,28] [2002,2003,2004] ?_;refine cT (.au [vV _,vB false]) Z<|SN Z<|iB (vB false) Z<|e9 Z<|ar Z<|Y<|aS<|sL<|dm Z<|Gq Z<|bM Z<|aa Z<|aa Z<|aa Z<|aU Z<|Y<|aY Z<|sL<|lq (rd (x:=.agg [U _ _,vV _]) (cP Z lP Z Z Z) Z)<|ab (zB 2004 cA cB Z) Z<|ao Z<|Y<|aR<|rT ?_;refine fN ((.au [.agg [int 0,.p (.v (.slice none 0 0))],int 3])) [] ?_ rfl trivial;have hc:iv l p=3:=Lf gH oU hold hmg;exact x_49
 skip;refine ab (zC [(50,50)] [50] [] func123 (SJ x_2 lD nS hmg) (trivial) rfl rfl) Z<|cT (.au [.own _,vB true]) Z<|qT Z<|iB (vB true) Z<|bD Z<|cI Z<|Y<|aS<|sL<|bM Z<|ma Z<|dm Z<|bW Z<|ba hZ Z<|ak Z<|bj Z<|Y ?_;refine AW.cond rfl ?_ ?_
 ·intro h4;refine sL<|lq (rd (x:=.agg [U _ _,vV _]) (cP Z lP Z Z Z) Z)<|ab (zB 2004 cA cB Z) Z<|lT [3,4,5,6] [50,2002,2003,2004] ?_;refine ao Z<|Y<|aR<|rT ?_;refine fN ((.au [.agg [int 0,.p (.v (.slice none 0 0))],int 3])) [] ?_ rfl trivial;have hc:iv l p=3:=Lg gH oU hold hmg x_33;exact x_49
 intro h4;refine aK<|gA<|lf 0 wN Z<|aj ac Z ?_;refine AL.freeze 50 rfl ?_;refine bm Z<|lq (rd (x:=.agg [U _ _,vL _ _ _]) (cP Z lP Z Z Z) Z)<|ab (zB 2004 cA cB Z) Z<|ao Z<|Y<|aR ?_;refine fN ((.au [.agg [int p.id,.p (.ab 167 3 (ah ct r))],int 0])) [] ?_ rfl trivial;exact⟨rfl,.inr ⟨Gr gH oU hold hmg x_33,by grind⟩⟩
theorem SO(l:cH)(p:dX)(hp:p.lines.length<=1000):GC prog 42 [cR l,DT p] [] (.au [cR (iD l p),int (iv l p)]) []:=GX.imp (SL l p hp) (fun x bd ⟨e1,e2⟩=>by
 subst e1;rcases e2 with⟨h,rfl⟩|⟨h,rfl⟩
 ·rw[SP h];exact⟨_,fe.au (ff.cons (fe.agg (ff.cons (fe.refl _) (ff.cons (fe.nil _ _) ff.nil))) (ff.cons (fe.refl _) ff.nil)),rfl,rfl⟩
 simp_all[iD,fe.refl])
theorem SQ(l:List aO)(hl:l.length<=1000):GC prog 140 [.p (.ab 167 3 (ah ct l))] [] (.own 51) [(51,dc l)]:=by
 refine gi 2 func140 rfl ntmps140 rfl ?_;intro L O w0;refine sL<|e9 Z<|nA<|bm Z<|ab (qJ 51 rfl rfl x_3 cV eP rfl x_3 rfl (Src.p rfl) x_99 (Nat.le_trans (Nat.mul_le_mul_left _ lE) x_131)) Z<|bD Z<|Y<|aR ?_;trivial
theorem SR(l:cH)(hl:l.lines.length<=1000):GC prog 57 [cR l] [] (cR l) []:=by
 refine GC.intro (rs:=[.cell 2 53 (some 2)]) func57 rfl ntmps57 x_8 ⟨rfl,rfl,eZ,trivial⟩ ?_;intro L O w0;refine sL<|ab (zX 2001 Z) Z<|ab (zA 2002 ld Z) Z<|Y<|aS<|aG 6 [51]<|tq 0 (rf 0 pW Z)<|tq 1 (aZ ac Z)<|yq 2 (rf 1 jY Z)<|yq 3 (jj gY Z)<|cm 4 Z (zC [(51,51)] [51] [] func140 (SQ l.lines hl) (trivial) Z Z) ?_;refine AG.freeze 51 rfl ?_;refine yq 5 (rd (x:=.agg [U _ _,vL _ _ _]) (cP Z lP Z Z Z) Z)<|yl Z (zB 2002 cA cB Z)<|gT<|aR ?_;trivial
theorem DV{ps:List dX}{k:Nat}(h:k<ps.length):(qI ps)[k]? = some [.v (.int .i64 ps[k].id),.ab 167 3 (ah ct ps[k].lines)]:=by grind[qI]
def SS(l:cH)(ps:List dX):AV->List (Nat×AO)->Prop:=fun y ob=>ob=[]/\((eQ l=false/\y=.au [.agg [int 0,.p (.v (.slice none 0 0))],int (-1)])\/(eQ l=true/\y=.au [cR (jJ l ps).1,int (jJ l ps).2]))
theorem x_54{p:Prop}(c:p:=by exact Eq.trans (b:=int _) rfl (congrArg int (by rw[dM]))):p:=c
theorem x_81{p:Prop}(c:p:=by exact ⟨k+1,hk,by omega,⟨x_54,(iq rfl),trivial⟩,⟨(by rw[dM];rfl),trivial⟩,rfl,rfl⟩):p:=c
theorem ST(l:cH)(ps:List dX)(nu:∀p∈ps,p.lines.length<=1000)(hn:ps.length<=1000000):GX prog 175 [cR l,.p (.ab 92 2 (qI ps))] [] (SS l ps):=by
 refine GX.intro (rs:=[.cell 4 53 (some 2),.tmp 5]) func175 rfl ntmps175 x_8 ⟨rfl,rfl,eZ,rfl,trivial⟩ ?_;intro L O w0;refine sL<|ab (zX 2002 Z) Z<|ab (zA 2004 ld Z) Z<|ao Z<|Y<|aS<|sL<|aP (.agg [U _ _,vL _ _ _]) eZ Z<|ab (zC [] [] [] func121 (Lb l) (trivial) Z Z) Z<|bX Z<|Y ?_;refine AW.cond rfl ?_ ?_
 ·intro V;refine sL<|lq (rd (x:=.agg [U _ _,vV _]) (cP Z lP Z Z Z) Z)<|ab (zB 2004 cA cB Z) Z<|ao Z<|Y<|aR<|rT ?_;refine fN ((.au [.agg [int 0,.p (.v (.slice none 0 0))],int (-1)])) [] ?_ rfl trivial;exact⟨rfl,.inl ⟨by grind,rfl⟩⟩
 intro V;refine aK<|gA<|aP (.agg [U _ _,vL _ _ _]) eZ Z ?_;have gH:eQ l=true:=by simpa using V
 obtain⟨qY,lD,-,-⟩:=va gH;refine ab (zC [] [] [] func57 (SR l x_2) (trivial) rfl rfl) Z<|ab (zA 2006 ld rfl) Z<|ab (zB 2006 cA cB rfl) Z<|nA<|ao Z<|Y<|aS<|sL<|bm Z<|ba pX Z<|ae Z<|Y<|aB ?_;refine aW [4,5,6,18,19] [2002,2004] (D:=Nat) (fun k=>[(7,int (jJ l (ps.take k)).2),(20,int (k:Int))]) (fun k=>[(2006,.box 53 none [int (jJ l (ps.take k)).1.last,.p (.ab 167 3 (ah ct (jJ l (ps.take k)).1.lines))])]) (fun k=>k<=ps.length) (fun k=>ps.length-k) (0) (Nat.zero_le _) ⟨rfl,rfl,trivial⟩ ⟨rfl,trivial⟩ ?_;intro k hI;refine sL<|ak Z<|Y<|aS ?_;refine AW.cond rfl ?_ ?_
 ·intro h2;refine aK<|gT<|aS<|aB<|sL ?_;have hk:k<ps.length:=by simpa[fw]using h2
  have hs:=FS (ps:=ps) qY k x_2;refine li k vb Z (DV hk)<|d6 (.agg [U _ _,vL _ _ _]) ol Z<|ab (zA 2009 pC Z) Z<|lT [4,5,6,7,9,18,19,20,23] [2002,2004,2006,2009] ?_;refine ab (zB 2009 na nb Z) Z<|nA<|aP (.agg [U _ _,vL _ _ _]) eZ Z<|aP (.agg [U _ _,vL _ _ _]) ol Z<|ab (zC [] [] [] func42 (SO (jJ l (ps.take k)).1 ps[k] (nu _ (List.getElem_mem hk))) (trivial) Z Z) Z<|cT (.au [.agg [U _ _,vL _ _ _],U _ _]) Z<|iB (.agg [U _ _,vL _ _ _]) Z<|dE Z<|ab (zA 2010 ld Z) Z<|ab (zB 2010 cA cB Z) Z<|ao Z<|nA<|ae Z<|ak Z<|Y ?_;refine AW.cond rfl ?_ ?_
  ·intro h3;refine sL<|aP (.agg [U _ _,vL _ _ _]) eZ Z<|ab (zB 2006 cA cB Z) Z<|lT [4,5,6,7,18,19,20] [2002,2004,2006,2009,2010] ?_;refine Y<|aL<|ae Z<|bg Z<|ao Z<|lN<|gB<|gT<|aL<|bg Z<|ae Z<|Y ?_;have dM:jJ l (ps.take (k+1))=(iD (jJ l (ps.take k)).1 ps[k],(jJ l (ps.take k)).2+1):=by
    rw[Gs hk];exact if_pos x_15
   refine x_81
  intro h3;refine aK<|gB<|gT<|aL<|bg Z<|ae Z<|Y ?_;have dM:jJ l (ps.take (k+1))=jJ l (ps.take k):=by
   rw[Gs hk];exact if_neg x_15
  refine x_81
 intro h2;refine aE<|eT<|eT<|eB<|gA<|aP (.agg [U _ _,vL _ _ _]) eZ Z<|ae Z<|ab (zB 2004 cA cB Z) Z<|ao Z<|Y<|aR ?_;have dZ:ps.take k=ps:=List.take_of_length_le (by grind[fw]);rw[dZ];refine fN ((.au [cR (jJ l ps).1,int (jJ l ps).2])) [] ?_ rfl trivial;exact⟨rfl,.inr ⟨gH,rfl⟩⟩
theorem SU(l:cH)(ps:List dX)(hl:eQ l=true)(nu:∀p∈ps,p.lines.length<=1000)(hn:ps.length<=1000000):GC prog 175 [cR l,.p (.ab 92 2 (qI ps))] [] (.au [cR (jJ l ps).1,int (jJ l ps).2]) []:=(ST l ps nu hn).gc fun y o ⟨e1,e2⟩=>by
 grind
end Go.Proofs.YtflhgkmhmcfimaaGreat

