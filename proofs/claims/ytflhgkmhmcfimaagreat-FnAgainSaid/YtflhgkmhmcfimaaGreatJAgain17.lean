/- Texts of the proof of FnFnAgain, joined: BalW, LedS, FwdS, FwdT, AllF, Cur1, ED1, ED2, ED3, ED4. -/
import Derived.Test.YtflhgkmhmcfimaaGreatJAgain16
import Derived.Test.YtflhgkmhmcfimaaGreatJAgain5
import Derived.Test.YtflhgkmhmcfimaaGreatQNum
import Derived.Test.YtflhgkmhmcfimaaGreatJAgain8
namespace Go.Proofs.YtflhgkmhmcfimaaGreat
set_option maxRecDepth 100000
open Tryz
open Go.RowKit
set_option linter.unusedSimpArgs false
set_option linter.unusedVariables false
instance {l:List be} {ch:Int}:Decidable (ed l ch):=inferInstanceAs (Decidable (∃c,c∈l/\c.id=ch))
def iS(k c:Int)(x:aO):Int:=if x.acc.kind=k/\x.acc.ch=c then x.af else 0
def bU(l:List aO)(k c:Int):Int:=bG (iS k c) l
theorem dU(k c:Int):bU [] k c=0:=rfl
theorem fm(x:aO)(l:List aO)(k c:Int):bU (x::l) k c=iS k c x+bU l k c:=jT _ _ _
theorem ML{x:aO}{k c:Int}:∀(l:List aO),bU (fV l x) k c=bU l k c+iS k c x
 |[]=>by grind[fV,fm]
 |y::l=>by
  unfold fV;split
  ·rw[fm,fm,ML l];omega
  rw[fm];omega
theorem fO(l:List aO)(k c n k' c':Int):bU (bR l k c n) k' c'=bU l k' c'+(if k=k'/\c=c' then n else 0):=by
 by_cases q:n=0
 ·grind[BK]
 rw[BL q,ML];rfl
theorem qr(c:be)(l:List be)(ch:Int):fz (c::l) ch=if c.id=ch then c else fz l ch:=by
 unfold fz;grind
theorem EJ(l m:List be)(ch:Int):fz (l++m) ch=if ed l ch then fz l ch else fz m ch:=by
 induction l with
 |nil=>rfl
 |cons c l ih=>
  rw[List.cons_append,qr,qr,ih];by_cases q:c.id=ch
  ·rw[if_pos q,if_pos q,if_pos ⟨c,by simp,q⟩]
  rw[if_neg q,if_neg q];have e:ed (c::l) ch↔ed l ch:=⟨fun⟨d,hd,r⟩=>by
   rcases List.mem_cons.1 hd with rfl|hd
   ·exact absurd r q
   exact⟨d,hd,r⟩,fun⟨d,hd,r⟩=>⟨d,by simp[hd],r⟩⟩
  grind
theorem UE{l:List be}{ch:Int}(h:¬ed l ch):fz l ch=BM:=by
 rcases jt l ch with⟨_,r⟩|⟨i,c,_,q,_,r⟩
 ·exact r
 exact absurd ⟨c,dB q,r⟩ h
theorem HO{f:be->be}(hf:∀c,(f c).id=c.id)(a ch:Int):∀(l:List be),fz (cC l a f) ch=if ch=a/\ed l a then f (fz l a)else fz l ch
 |[]=>by rw[if_neg (fun⟨_,c,hc,_⟩=>by grind)];rfl
 |c::l=>by
  have ih:=HO hf a ch l;have e0:cC (c::l) a f=(if c.id=a then f c else c)::cC l a f:=rfl;have hid:(if c.id=a then f c else c).id=c.id:=by split<;>simp[hf]
  rw[e0,qr,hid];by_cases q:c.id=ch
  ·rw[if_pos q];by_cases r:ch=a;all_goals simp_all[ed,qr]
  rw[if_neg q,ih];by_cases r:ch=a;all_goals simp_all[ed,qr]
def hP(l:List be)(ch:Int):Int:=(fz l ch).loc
theorem MM{f:be->be}(hf:∀c,(f c).id=c.id){n:Int}(hn:∀c,(f c).loc=c.loc+n){l:List be}{a:Int}(ht:ed l a)(ch:Int):hP (cC l a f) ch=hP l ch+(if a=ch then n else 0):=by
 unfold hP;rw[HO hf];grind
theorem HP{f:be->be}(hf:∀c,(f c).id=c.id)(hn:∀c,(f c).loc=c.loc)(l:List be)(a ch:Int):hP (cC l a f) ch=hP l ch:=by
 grind[hP,HO]
theorem AJ{l:List be}{a b:Int}{f g:be->be}(hf:∀c,(f c).id=c.id)(hg:∀c,(g c).id=c.id){n m:Int}(hn:∀c,(f c).loc=c.loc+n)(hm:∀c,(g c).loc=c.loc+m)(ta:ed l a\/n=0)(tb:ed l b\/m=0)(ch:Int):hP (cC (cC l a f) b g) ch=hP l ch+(if a=ch then n else 0)+(if b=ch then m else 0):=by
 have V:hP (cC l a f) ch=hP l ch+(if a=ch then n else 0):=by
  rcases ta with t|t
  ·simp_all[MM]
  simp_all[HP]
 have h2:hP (cC (cC l a f) b g) ch=hP (cC l a f) ch+(if b=ch then m else 0):=by
  rcases tb with t|t
  ·simp_all[MM,tn]
  simp_all[HP]
 rw[h2,V]
theorem MN{f:be->be}(hf:∀c,(f c).id=c.id)(hn:∀c,(f c).loc=c.loc)(ch:Int):∀(l:List be),hP (l.map f) ch=hP l ch
 |[]=>rfl
 |c::l=>by
  have ih:=MN hf hn ch l;unfold hP at *;rw[List.map_cons,qr,qr,hf];split
  ·exact hn c
  exact ih
theorem MO(ch a:Int):∀(l:List be),hP (ny l a) ch=if a=ch then 0 else hP l ch
 |[]=>by show (0:Int)=_;split<;>rfl
 |c::l=>by
  have ih:=MO ch a l;unfold hP ny at *;rw[List.filter_cons];by_cases q:c.id=a
  ·simp_all[qr]
  rw[show (!(c.id==a))=true from by simp[q],if_pos rfl,qr,qr];grind
theorem UF{l:List be}{c:be}(hn:¬ed l c.id)(ch:Int):hP (ly l c) ch=if c.id=ch then c.loc else hP l ch:=by
 unfold hP ly;have my:∀k,∀m:List be,(∀d∈m,d∈l)->ed m k->ed l k:=fun k m h ⟨d,hd,r⟩=>⟨d,h d hd,r⟩;rw[EJ];have e:fz l ch=if ed (l.take (lV l c.id)) ch then fz (l.take (lV l c.id)) ch else fz (l.drop (lV l c.id)) ch:=by
  rw[<-EJ,List.take_append_drop]
 by_cases q:c.id=ch
 ·subst q;rw[if_pos ⟨c,by simp,rfl⟩,if_pos rfl,EJ,if_neg (fun z=>hn (my _ _ (fun d hd=>List.mem_of_mem_take hd) z)),qr,if_pos rfl]
 rw[if_neg q,e];have e2:ed (l.take (lV l c.id)++[c]) ch↔ed (l.take (lV l c.id)) ch:=⟨fun⟨d,hd,r⟩=>by
  rcases List.mem_append.1 hd with hd|hd
  ·exact⟨d,hd,r⟩
  rw[List.mem_singleton]at hd;subst hd;exact absurd r q,fun⟨d,hd,r⟩=>⟨d,by simp[hd],r⟩⟩
 by_cases t:ed (l.take (lV l c.id)) ch;all_goals simp_all[EJ]
structure AK(x y:aw)(l:List aO):Prop where
 za:y.aA=x.aA+bU l 1 0
 loc:∀ch,hP y.ag ch=hP x.ag ch+bU l 6 ch
 out:∀ch,fB y ch=fB x ch+bU l 8 ch
 gh:∀ch,bU l 7 ch=0
theorem AK.refl(x:aw):AK x x []:=⟨by simp[dU],fun ch=>by simp[dU],fun ch=>by simp[dU],fun ch=>rfl⟩
theorem x_39{p:Prop}(c:p:=by intro c;first|rfl|(dsimp only;omega)):p:=c
theorem x_128{p:Prop}(c:p:=by intro c;rfl):p:=c
theorem MP{x:aw}{e:aV}(h:dG x e=0):AK x (bz x e).b (bz x e).l:=by
 obtain⟨V,h2,h3⟩:=rS h;have b:=mX V;have mS:(eG x&&co e)=true:=by rw[V,h2];rfl
 have hw:(bz x e).c=0:=by rw[<-yA mS h3];exact h
 have bO:=HK h2;by_cases k1:e.kind=1
 ·rw[<-yY k1];unfold zb;refine⟨?_,fun ch=>?_,fun ch=>?_,fun ch=>?_⟩<;>simp only[fO,dU]<;>simp;rfl
 by_cases k2:e.kind=2
 ·rw[<-xy k2]at hw ⊢;by_cases q:gO x e=0
  ·rw[tK q];have iY:=zY (DB q);have EK:¬ed x.ag e.ch:=fun⟨c,q1,q2⟩=>iY c q1 q2;refine⟨?_,fun ch=>?_,fun ch=>?_,fun ch=>?_⟩
   ·simp only[fO,dU];simp;omega
   ·show hP (ly x.ag _) ch=_;rw[UF EK];simp only[fO,dU];by_cases r:e.ch=ch
    ·subst r;have:hP x.ag e.ch=0:=by unfold hP;rw[UE EK];rfl
     simp[this]
    simp[r]
   ·simp only[fO,dU];simp;rfl
   simp only[fO,dU];simp
  grind[sK]
 by_cases k3:e.kind=3
 ·rw[<-yZ k3]at hw ⊢;by_cases q:ir x e=0
  ·rw[yf q];unfold zZ;refine⟨?_,fun ch=>?_,fun ch=>?_,fun ch=>?_⟩
   ·simp only[fO,dU];simp
   ·show hP (ny x.ag _) ch=_;rw[MO];simp only[fO,dU];by_cases r:e.ch=ch
    ·subst r;simp;unfold hP;omega
    simp[r]
   ·simp only[fO,dU];simp;rfl
   simp only[fO,dU];simp
  grind[tM]
 by_cases k4:e.kind=4
 ·rw[<-vK k4];unfold ou;split
  ·exact AK.refl x
  refine⟨by simp[dU],fun ch=>?_,fun ch=>?_,fun ch=>rfl⟩
  ·rw[dU,Int.add_zero];show hP (cC x.ag e.ch _) ch=_;simp[HP]
  rw[dU,Int.add_zero];rfl
 by_cases k5:e.kind=5
 ·rw[<-xz k5]at hw ⊢;by_cases q:gg x e=0
  ·rw[sR q];have t2:ed x.ag e.to:=by
    have V:dz x e=0:=by
     by_cases q':dz x e=0
     ·exact q'
     rw[jx q']at q;exact q
    unfold dz at V;obtain⟨h2,_⟩:=ky x_3 V;obtain⟨h3,_⟩:=ky x_3 h2;obtain⟨h4,_⟩:=ky x_3 h3;unfold im at h4;obtain⟨h5,_⟩:=ky x_3 h4;refine Classical.byContradiction fun hn=>?_;have Cc:eS x.ag e.to=-1:=by
     rcases jt x.ag e.to with⟨r,_⟩|⟨i,c,r,s,_,t⟩
     ·exact r
     exact absurd ⟨c,dB s,t⟩ hn
    rw[j9 Cc]at h5;exact mp x_3 h5
   refine⟨?_,fun ch=>?_,fun ch=>?_,fun ch=>?_⟩
   ·unfold mI;simp only[fO,dU];simp
   ·unfold mI;dsimp only;refine Eq.trans (AJ (n:=0) (m:=-e.af) x_128 x_128 x_39 x_39 (.inr rfl) (.inl t2) ch) ?_;simp only[fO,dU];simp
   ·unfold fB mI;dsimp only;rw[zc];unfold dK;simp only[fO,dU];simp;omega
   unfold mI;simp only[fO,dU];simp
  grind[jm]
 by_cases k6:e.kind=6\/e.kind=7
 ·rw[<-uv k6];unfold mR;split
  ·rename_i y hy;have hm:=List.mem_of_find?_eq_some hy;have q:=b.hs y hm;have ho:∀ch,bG (dK ch) (jS x.an y.key)+dK ch y=bG (dK ch) x.an:=fun ch=>by
    have:=AH (g:=fun z:eV=>z.key) (f:=dK ch) (AE b).1 hm;unfold jS;omega
   unfold pN;split
   ·refine⟨?_,fun ch=>?_,fun ch=>?_,fun ch=>?_⟩
    ·simp only[fO,dU];simp
    ·dsimp only;refine Eq.trans (AJ (n:=y.cW) (m:=0) x_128 x_128 x_39 x_39 (.inl q.ti) (.inr rfl) ch) ?_;simp only[fO,dU];simp
    ·have:=ho ch;unfold fB;dsimp only;unfold dK at this ⊢;simp only[fO,dU];simp;by_cases r:y.out=ch
     ·rw[if_pos r]at this ⊢;omega
     rw[if_neg r]at this ⊢;omega
    simp only[fO,dU];simp
   refine⟨?_,fun ch=>?_,fun ch=>?_,fun ch=>?_⟩
   ·simp only[fO,dU];simp
   ·dsimp only;refine Eq.trans (AJ (n:=0) (m:=y.c9) x_128 x_128 x_39 x_39 (.inr rfl) (.inl q.to) ch) ?_;simp only[fO,dU];simp
   ·have:=ho ch;unfold fB;dsimp only;unfold dK at this ⊢;simp only[fO,dU];simp;by_cases r:y.out=ch
    ·rw[if_pos r]at this ⊢;omega
    rw[if_neg r]at this ⊢;omega
   simp only[fO,dU];simp
  simp[AK.refl]
 by_cases k8:e.kind=8
 ·rw[<-y7 k8];refine⟨?_,fun ch=>?_,fun ch=>?_,fun ch=>rfl⟩
  ·show x.aA=x.aA+0;omega
  ·show hP (x.ag.map (l8 x.tick)) ch=hP x.ag ch+0;rw[Int.add_zero];grind[MN,l8]
  show bG (dK ch) (x.an.map kx)+bG (eR ch) x.aq=fB x ch+0;rw[Int.add_zero];unfold fB;congr 1;exact HS fun h _=>rfl
 by_cases k9:e.kind=9
 ·rw[<-t8 k9]at hw ⊢;by_cases q:fL x e=0
  ·rw[uZ q];have g9:gI e.af e.ay=true/\ed x.ag e.ch:=by
    unfold fL at q;obtain⟨h2,_⟩:=ky x_3 q;obtain⟨h3,_⟩:=ky x_3 h2;obtain⟨h4,g⟩:=ky x_3 h3;refine⟨by simpa using g,?_⟩;unfold kv at h4;obtain⟨h5,_⟩:=ky x_3 h4;refine Classical.byContradiction fun hn=>?_;have Cc:eS x.ag e.ch=-1:=by
     rcases jt x.ag e.ch with⟨r,_⟩|⟨i,c,r,s,_,t⟩
     ·exact r
     exact absurd ⟨c,dB s,t⟩ hn
    rcases jt x.ag e.to with⟨r,_⟩|⟨i,c,r,s,_,t⟩
    ·rw[j9 r]at h5;exact mp x_3 h5
    rw[ka r,j9 Cc]at h5;exact mp x_3 h5
   have hs:eM e.af e.ay=e.af+e.ay:=ye g9.1;unfold oH;refine⟨?_,fun ch=>?_,fun ch=>?_,fun ch=>?_⟩
   ·simp only[fO,dU];simp
   ·dsimp only;refine Eq.trans (AJ (n:=-eM e.af e.ay) (m:=0) x_128 x_128 x_39 x_39 (.inl g9.2) (.inr rfl) ch) ?_;simp only[fO,dU];simp
   ·unfold fB;dsimp only;rw[zc];unfold eR;simp only[fO,dU];simp;rw[hs];omega
   simp only[fO,dU];simp
  grind[od]
 have:=y8 h2;rw[<-ua x_2];unfold nm;split
 ·rename_i y hy;have hm:=List.mem_of_find?_eq_some hy;have q:=b.cs y hm;have ho:∀ch,bG (eR ch) (jA x.aq y.key)+eR ch y=bG (eR ch) x.aq:=fun ch=>by
   have:=AH (g:=fun z:gz=>z.key) (f:=eR ch) (AE b).2 hm;unfold jA;omega
  unfold mN;split
  ·refine⟨?_,fun ch=>?_,fun ch=>?_,fun ch=>?_⟩
   ·simp only[fO,dU];simp
   ·dsimp only;refine Eq.trans (AJ (n:=0) (m:=y.af) x_128 x_128 x_39 x_39 (.inr rfl) (.inl q.to) ch) ?_;simp only[fO,dU];simp
   ·have:=ho ch;unfold fB;dsimp only;unfold eR at this ⊢;simp only[fO,dU];simp;by_cases r:y.fI=ch
    ·rw[if_pos r]at this ⊢;omega
    rw[if_neg r]at this ⊢;omega
   simp only[fO,dU];simp
  refine⟨?_,fun ch=>?_,fun ch=>?_,fun ch=>?_⟩
  ·simp only[fO,dU];simp
  ·dsimp only;refine Eq.trans (AJ (n:=y.af+y.ay) (m:=0) x_128 x_128 x_39 x_39 (.inl q.ti) (.inr rfl) ch) ?_;simp only[fO,dU];simp
  ·have:=ho ch;unfold fB;dsimp only;unfold eR at this ⊢;simp only[fO,dU];simp;by_cases r:y.fI=ch
   ·rw[if_pos r]at this ⊢;omega
   rw[if_neg r]at this ⊢;omega
  simp only[fO,dU];simp
 simp[AK.refl]

def eQ(x:cH):Bool:=aI x.last 0 1125899906842624&&decide (x.lines.length<=320)&&rW x.lines
def EL(l:List aO)(a:Acc):Int:=match l with|[]=>0|x::r=>if x.acc.kind=a.kind/\x.acc.ch=a.ch then x.af else EL r a
def balance(x:cH)(a:Acc):Int:=if eQ x&&nd a then EL x.lines a else 0
def HT(x:aw)(ch:Int):Int:=if 0<=eS x.ag ch then (match x.ag[(eS x.ag ch).toNat]? with|some c=>c.loc|none=>0)else 0
def HU(x:aw)(ch:Int):Int:=if 0<=eS x.ag ch then fB x ch else 0
def EM(x:aw)(l:cH)(ch:Int):Bool:=(balance l ⟨6,ch⟩==HT x ch)&&(balance l ⟨8,ch⟩==HU x ch)&&(balance l ⟨7,ch⟩==0)
def EN(x:aw)(l:cH):Bool:=eG x&&eQ l&&(l.last==x.next-1)&&(balance l ⟨1,0⟩==x.aA)&&(List.range 99).all fun j=>EM x l ((j:Int)+1)
theorem iG.ok{l:List aO}{m:Nat}(h:iG l 0 m):rW l=true:=by
 rw[D2 fun j hj=>?_]
 ·have:bG qh l=0:=h.sum;grind
 rw[lX hj];have hm:=List.getElem_mem hj;obtain⟨a1,a2,a3⟩:=h.af _ hm;have hp:vh l j l[j]=true:=by
  rcases Nat.eq_zero_or_pos j with q|q
  ·subst q;rfl
  rw[nV q hj];exact List.pairwise_iff_getElem.1 h.gS _ _ _ _ x_2
 have V:nd l[j].acc=true:=ve.2 (h.acc _ hm);grind[dL,cJ]
theorem wV{l:List aO}(h:rW l=true):iG l 0 l.length:=by
 have bB:∀j,j<l.length->oX l j=true:=fun j hj=>by
  simp_all[rW]
 have mq:bG o6 l=0:=by
  rw[D2 bB,beq_iff_eq]at h;exact h
 have MQ:∀j (hj:j<l.length),nd l[j].acc=true/\l[j].af≠0/\dL l[j].af=true/\vh l j l[j]=true:=fun j hj=>by
  simp_all[lX]
 have Ck:∀y∈l,nd y.acc=true/\y.af≠0/\dL y.af=true:=fun y hy=>by
  obtain⟨j,hj,rfl⟩:=List.getElem_of_mem hy;grind
 refine⟨?_,fun y hy=>ve.1 (Ck y hy).1,fun y hy=>⟨(Ck y hy).2.1,cJ.1 (Ck y hy).2.2⟩,mq,Nat.le_refl _⟩;rw[List.pairwise_iff_getElem];intro i j hi hj gF;induction j with
 |zero=>omega
 |succ j ih=>
  grind[nV,vr]
theorem GZ{a b:Acc}(h:cg a b=true):¬(a.kind=b.kind/\a.ch=b.ch):=fun⟨V,h2⟩=>by
 grind[cg]
theorem Ah{a b:Acc}(h:cg a b=false)(h2:cg b a=false):a.kind=b.kind/\a.ch=b.ch:=by
 grind[cg]
theorem Ea{a b:Acc}(h:a.kind=b.kind/\a.ch=b.ch):a=b:=by
 cases a;simp_all
structure UG(a b r:List aO):Prop where
 gS:r.Pairwise fun a b=>cg a.acc b.acc=true
 acc:∀y∈r,∃z,(z∈a\/z∈b)/\y.acc=z.acc
 af:∀y∈r,y.af≠0/\-1125899906842624<=y.af/\y.af<=1125899906842624
 sum:bG o6 r=bG o6 a+bG o6 b
 zd:∀k c,bU r k c=bU a k c+bU b k c
def rk(l:List aO):Prop:=(l.Pairwise fun a b=>cg a.acc b.acc=true)/\∀y∈l,y.af≠0/\-1125899906842624<=y.af/\y.af<=1125899906842624
theorem rk.tail{x:aO}{l:List aO}(h:rk (x::l)):rk l:=⟨(List.pairwise_cons.1 h.1).2,fun y hy=>h.2 y (by simp[hy])⟩
theorem Cq:∀(n:Nat) (a b r:List aO),a.length+b.length<=n->rk a->rk b->fM a b=some r->UG a b r
 |n,[],b,r,_,_,hb,h=>by
  rw[yo]at h;injection h with h;subst h;exact⟨hb.1,fun y hy=>⟨y,.inr hy,rfl⟩,hb.2,by simp[EF],fun k c=>by simp[dU]⟩
 |n,x::a,[],r,_,ha,_,h=>by
  rw[z6]at h;injection h with h;subst h;exact⟨ha.1,fun y hy=>⟨y,.inl hy,rfl⟩,ha.2,by simp[EF],fun k c=>by simp[dU]⟩
 |0,x::a,y::b,r,hn,_,_,_=>by grind
 |n+1,x::a,y::b,r,hn,ha,hb,h=>by
  simp only[List.length_cons]at hn;have ip:=List.pairwise_cons.1 ha.1;have kA:=List.pairwise_cons.1 hb.1;by_cases q1:cg x.acc y.acc=true
  ·rw[BI q1]at h;obtain⟨s,hs,rfl⟩:=Option.map_eq_some_iff.1 h;have g:=Cq n a (y::b) s x_14 ha.tail hb hs;refine⟨List.pairwise_cons.2 ⟨fun z hz=>?_,g.gS⟩,fun z hz=>?_,fun z hz=>?_,?_,fun k c=>?_⟩
   ·obtain⟨u,hu,e⟩:=g.acc z hz;rw[e];rcases hu with hu|hu
    ·grind
    rcases List.mem_cons.1 hu with rfl|hu;all_goals grind[vr]
   ·rcases List.mem_cons.1 hz with rfl|hz
    ·grind
    obtain⟨u,hu,e⟩:=g.acc z hz;grind
   ·rcases List.mem_cons.1 hz with rfl|hz
    ·exact ha.2 _ x_19
    exact g.af z hz
   ·rw[jT,jT,g.sum];omega
   rw[fm,fm,g.zd];omega
  have q1:cg x.acc y.acc=false:=by simpa using q1
  by_cases q2:cg y.acc x.acc=true
  ·rw[BJ q1 q2]at h;obtain⟨s,hs,rfl⟩:=Option.map_eq_some_iff.1 h;have g:=Cq n (x::a) b s x_14 ha hb.tail hs;refine⟨List.pairwise_cons.2 ⟨fun z hz=>?_,g.gS⟩,fun z hz=>?_,fun z hz=>?_,?_,fun k c=>?_⟩
   ·obtain⟨u,hu,e⟩:=g.acc z hz;rw[e];rcases hu with hu|hu
    ·rcases List.mem_cons.1 hu with rfl|hu
     ·exact q2
     exact vr q2 (ip.1 u hu)
    grind
   ·rcases List.mem_cons.1 hz with rfl|hz
    ·grind
    obtain⟨u,hu,e⟩:=g.acc z hz;grind
   ·rcases List.mem_cons.1 hz with rfl|hz
    ·exact hb.2 _ x_19
    exact g.af z hz
   ·rw[jT,g.sum,jT,jT];omega
   rw[fm,g.zd,fm,fm];omega
  have q2:cg y.acc x.acc=false:=by simpa using q2
  have e:=Ah q1 q2;have ee:x.acc=y.acc:=Ea e;have hk:∀k c,iS k c x+iS k c y=if x.acc.kind=k/\x.acc.ch=c then x.af+y.af else 0:=fun k c=>by
   unfold iS;rw[e.1,e.2];split<;>omega
  by_cases q3:dL (x.af+y.af)=true
  ·by_cases q4:x.af+y.af=0
   ·rw[Eb q1 q2 q3 q4]at h;have g:=Cq n a b r x_2 ha.tail hb.tail h;refine⟨g.gS,fun z hz=>?_,g.af,?_,fun k c=>?_⟩
    ·obtain⟨u,hu,e⟩:=g.acc z hz;exact⟨u,hu.imp (by intro q;simp[q]) (by intro q;simp[q]),e⟩
    ·rw[g.sum,jT,jT];unfold o6;omega
    rw[g.zd,fm,fm];have:=hk k c;rw[q4]at this;split at this<;>omega
   rw[Ec q1 q2 q3 q4]at h;obtain⟨s,hs,rfl⟩:=Option.map_eq_some_iff.1 h;have g:=Cq n a b s x_2 ha.tail hb.tail hs;refine⟨List.pairwise_cons.2 ⟨fun z hz=>?_,g.gS⟩,fun z hz=>?_,fun z hz=>?_,?_,fun k c=>?_⟩
   ·obtain⟨u,hu,e⟩:=g.acc z hz;rw[e];rcases hu with hu|hu
    ·exact ip.1 u hu
    show cg x.acc u.acc=true;rw[ee];exact kA.1 u hu
   ·rcases List.mem_cons.1 hz with rfl|hz
    ·exact⟨x,.inl x_19,rfl⟩
    obtain⟨u,hu,e⟩:=g.acc z hz;exact⟨u,hu.imp (by intro q;simp[q]) (by intro q;simp[q]),e⟩
   ·rcases List.mem_cons.1 hz with rfl|hz
    ·exact⟨q4,cJ.1 q3⟩
    exact g.af z hz
   ·rw[jT,g.sum,jT,jT];unfold o6;dsimp only;omega
   rw[fm,g.zd,fm,fm];have:=hk k c;show (if x.acc.kind=k/\x.acc.ch=c then x.af+y.af else 0)+_=_;omega
  grind[MR]
theorem iG.lF{l:List aO}{s:Int}{m:Nat}(h:iG l s m):rk l:=⟨h.gS,h.af⟩
theorem Ee{a b r:List aO}{s t:Int}{m k:Nat}(ha:iG a s m)(hb:iG b t k)(h:fM a b=some r):iG r (s+t) r.length/\∀k c,bU r k c=bU a k c+bU b k c:=by
 have g:=Cq _ a b r (Nat.le_refl _) ha.lF hb.lF h;exact⟨⟨g.gS,fun y hy=>by
  obtain⟨z,hz,e⟩:=g.acc y hy;rw[e];rcases hz with hz|hz
  ·exact ha.acc z hz
  exact hb.acc z hz,g.af,by rw[g.sum,ha.sum,hb.sum],Nat.le_refl _⟩,g.zd⟩
theorem MS{a:Acc}:∀ {l:List aO},(l.Pairwise fun a b=>cg a.acc b.acc=true)->EL l a=bU l a.kind a.ch
 |[],_=>rfl
 |x::l,h=>by
  rw[List.pairwise_cons]at h;have ih:=MS (a:=a) h.2;rw[fm];unfold EL iS;split
  ·rename_i q;have:bU l a.kind a.ch=0:=by
    unfold bU;refine vM fun y hy=>?_;unfold iS;rw[if_neg];rintro⟨r1,r2⟩;exact GZ (h.1 y hy) x_99
   omega
  omega
structure ra(x:aw)(l:cH):Prop where
 book:eG x=true
 lF:iG l.lines 0 320
 last:l.last=x.next-1
 za:bU l.lines 1 0=x.aA
 loc:∀ch,1<=ch/\ch<=99->bU l.lines 6 ch=hP x.ag ch
 out:∀ch,1<=ch/\ch<=99->bU l.lines 8 ch=fB x ch
 gh:∀ch,1<=ch/\ch<=99->bU l.lines 7 ch=0
theorem MT(x:aw)(ch:Int):HT x ch=hP x.ag ch:=by
 unfold HT hP;rcases jt x.ag ch with⟨q,r⟩|⟨i,c,q,r,s,_⟩
 ·rw[if_neg x_2,r];rfl
 grind
theorem MU{x:aw}{ch:Int}(b:hD x):HU x ch=fB x ch:=by
 unfold HU;split
 ·rfl
 rename_i q;exact(b.none fun t=>q (MV.2 t)).1.symm
theorem ra.ia{x:aw}{l:cH}(h:ra x l):eQ l=true:=by
 have hn:=(mX h.book).next;have:=h.last;unfold eQ;rw[h.lF.ok,cJ.2 x_2,decide_eq_true h.lF.len];rfl
theorem xB{l:cH}{k c:Int}(h:eQ l=true)(hl:l.lines.Pairwise fun a b=>cg a.acc b.acc=true)(ha:nd ⟨k,c⟩=true):balance l ⟨k,c⟩=bU l.lines k c:=by
 grind[balance,MS]
theorem AM{k c:Int}(hk:6<=k/\k<=8)(hc:1<=c/\c<=99):nd ⟨k,c⟩=true:=ve.2 (.inr ⟨hk.1,hk.2,hc.1,hc.2⟩)
theorem MW:nd ⟨1,0⟩=true:=ve.2 (.inl ⟨by decide,by decide,rfl⟩)
theorem ra.yes{x:aw}{l:cH}(h:ra x l):EN x l=true:=by
 have b:=mX h.book;have hl:=h.ia;have hp:=h.lF.gS;unfold EN;rw[h.book,hl,xB hl hp MW,h.za,h.last];simp only[beq_self_eq_true,Bool.true_and,List.all_eq_true,List.mem_range];intro j hj;have hc:1<=(j:Int)+1/\(j:Int)+1<=99:=by omega
 unfold EM;rw[xB hl hp (AM x_3 hc),xB hl hp (AM x_3 hc),xB hl hp (AM x_3 hc),MT,MU b,h.loc _ hc,h.out _ hc,h.gh _ hc];simp
theorem abr{x:aw}{l:cH}(h:EN x l=true):ra x l:=by
 unfold EN at h;simp only[Bool.and_eq_true,List.all_eq_true,List.mem_range,beq_iff_eq]at h;obtain⟨⟨⟨⟨V,h2⟩,h3⟩,h4⟩,h5⟩:=h;have b:=mX V;have Cr:=h2;unfold eQ at Cr;simp only[Bool.and_eq_true,decide_eq_true_eq]at Cr;have ln:=wV Cr.2;have hp:=ln.gS;have zd:∀ch,1<=ch/\ch<=99->EM x l ch=true:=fun ch hc=>by
  have:=h5 (ch-1).toNat x_2;grind
 have ge:∀ch,1<=ch/\ch<=99->bU l.lines 6 ch=hP x.ag ch/\bU l.lines 8 ch=fB x ch/\bU l.lines 7 ch=0:=fun ch hc=>by
  simp_all[EM,xB,AM,MT,MU]
 rw[xB h2 hp MW]at h4;exact⟨V,⟨ln.gS,ln.acc,ln.af,ln.sum,Cr.1.2⟩,h3,h4,fun ch hc=>(ge ch hc).1,fun ch hc=>(ge ch hc).2.1,fun ch hc=>(ge ch hc).2.2⟩
theorem akN{x:aw}{e:aV}{l:cH}(h:ra x l)(hc:dG x e=0)(hp:(bz x e).l=[]):ra (dp x e) l:=by
 have g:=MP hc;rw[hp]at g;have e1:=(ub hc hp).1;refine⟨Gy hc,h.lF,?_,?_,fun ch hh=>?_,fun ch hh=>?_,h.gh⟩
 ·rw[e1,xA];exact h.last
 ·rw[e1,h.za];have:=g.za;rw[dU]at this;omega
 ·rw[e1,h.loc ch hh];have:=g.loc ch;rw[dU]at this;omega
 rw[e1,h.out ch hh];have:=g.out ch;rw[dU]at this;omega
theorem UH{x:aw}{e:aV}{l:cH}(h:ra x l)(hc:dG x e=0)(hp:(bz x e).l≠[]){m:List aO}(hm:fM l.lines (dl x e).lines=some m)(hl:m.length<=320):ra (dp x e) ⟨(dl x e).id,m⟩:=by
 have g:=MP hc;obtain⟨e1,e2⟩:=rU hc hp;rw[e2]at hm;obtain⟨k1,k2⟩:=Ee h.lF (Ab hc) hm;refine⟨Gy hc,⟨k1.gS,k1.acc,k1.af,k1.sum,hl⟩,?_,?_,fun ch hh=>?_,fun ch hh=>?_,fun ch hh=>?_⟩
 ·grind[xA]
 ·rw[e1];show bU m 1 0=(bz x e).b.aA;rw[k2,h.za,g.za]
 ·rw[e1];show bU m 6 ch=hP (bz x e).b.ag ch;rw[k2,h.loc ch hh,g.loc ch]
 ·rw[e1];show bU m 8 ch=fB (bz x e).b ch;rw[k2,h.out ch hh,g.out ch]
 show bU m 7 ch=0;rw[k2,h.gh ch hh,g.gh ch];rfl
def iv(l:cH)(p:dX):Int:=if (eQ l&&iL p.id p.lines)=true then (if p.id<=l.last then 2 else match fM l.lines p.lines with|none=>3|some m=>if 320<m.length then 3 else 0)else 1
def iD(l:cH)(p:dX):cH:=if iv l p=0 then ⟨p.id,(fM l.lines p.lines).getD []⟩else ⟨0,[]⟩
theorem HV{l:cH}{p:dX}(h:iv l p=0):eQ l=true/\iL p.id p.lines=true/\l.last<p.id/\∃m,fM l.lines p.lines=some m/\m.length<=320:=by
 unfold iv at h;grind
theorem G2{l:cH}{p:dX}(h:iv l p=0){m:List aO}(hm:fM l.lines p.lines=some m):iD l p=⟨p.id,m⟩:=by simp_all[iD]
theorem SP{l:cH}{p:dX}(h:iv l p≠0):iD l p=⟨0,[]⟩:=if_neg h
theorem S0{x:aw}{e:aV}{l:cH}(h:ra x l)(hc:dG x e=0)(hp:(dl x e).lines≠[])(hq:iv l (dl x e)=0):ra (dp x e) (iD l (dl x e)):=by
 obtain⟨_,_,_,m,hm,hl⟩:=HV hq;rw[G2 hq hm];grind[UH,ub]
theorem ajc{x:aw}{e:aV}{l:cH}(h:ra x l)(hc:dG x e=0)(hp:(dl x e).lines=[]):ra (dp x e) l:=by
 refine akN h hc ?_;refine Classical.byContradiction fun r=>?_;rw[(rU hc r).2]at hp;exact r hp
theorem va{l:cH}(h:eQ l=true):l.lines.length<=320/\(∀z∈l.lines,dL z.af=true)/\0<=l.last/\l.last<=1125899906842624:=by
 unfold eQ at h;simp only[Bool.and_eq_true,decide_eq_true_eq]at h;have:=cJ.1 h.1.1;exact⟨h.1.2,fun z hz=>cJ.2 ((wV h.2).af z hz).2,this.1,this.2⟩
theorem DU{n:Int}{l:List aO}(h:iL n l=true):l.length<=8/\(∀z∈l,dL z.af=true)/\1<=n/\n<=1125899906842624:=by
 unfold iL at h;simp only[Bool.and_eq_true]at h;have V:=cJ.1 h.1.1;have h2:=cJ.1 h.1.2;exact⟨by omega,fun z hz=>cJ.2 ((wV h.2).af z hz).2,V.1,V.2⟩
theorem Gp{l:cH}{p:dX}(h:(eQ l&&iL p.id p.lines)=false):iv l p=1:=by simp_all[iv]
theorem Le{l:cH}{p:dX}(h:eQ l=true)(h2:iL p.id p.lines=true)(h3:p.id<=l.last):iv l p=2:=by simp_all[iv]
theorem Lf{l:cH}{p:dX}(h:eQ l=true)(h2:iL p.id p.lines=true)(h3:¬p.id<=l.last)(h4:fM l.lines p.lines=none):iv l p=3:=by simp_all[iv]
theorem Lg{l:cH}{p:dX}(h:eQ l=true)(h2:iL p.id p.lines=true)(h3:¬p.id<=l.last){m:List aO}(h4:fM l.lines p.lines=some m)(h5:320<m.length):iv l p=3:=by simp_all[iv]
theorem Gr{l:cH}{p:dX}(h:eQ l=true)(h2:iL p.id p.lines=true)(h3:¬p.id<=l.last){m:List aO}(h4:fM l.lines p.lines=some m)(h5:m.length<=320):iv l p=0:=by simp_all[iv,if_neg]
def B2(s:cH×Int)(p:dX):cH×Int:=if iv s.1 p=0 then (iD s.1 p,s.2+1)else s
def jJ(l:cH)(ps:List dX):cH×Int:=ps.foldl B2 (l,0)
theorem Gs{l:cH}{ps:List dX}{k:Nat}(h:k<ps.length):jJ l (ps.take (k+1))=B2 (jJ l (ps.take k)) ps[k]:=by
 grind[jJ,List.take_succ_eq_append_getElem]
theorem UI(l:cH)(p:dX):(iD l p).lines.length<=320:=by
 unfold iD;split
 ·rename_i h;obtain⟨_,_,_,m,hm,hl⟩:=HV h;grind
 simp
theorem FS{l:cH}{ps:List dX}(hl:l.lines.length<=320):∀k,k<=ps.length->(jJ l (ps.take k)).1.lines.length<=320/\0<=(jJ l (ps.take k)).2/\(jJ l (ps.take k)).2<=k
 |0,_=>by rw[List.take_zero];exact⟨hl,Int.le_refl _,Int.le_refl _⟩
 |k+1,h=>by
  rw[Gs x_2];obtain⟨V,h2,h3⟩:=FS (ps:=ps) hl k x_2;unfold B2;split
  ·exact⟨UI _ _,by dsimp only;omega,by dsimp only;omega⟩
  exact⟨V,h2,by omega⟩
theorem ajb{x:aw}{l:cH}(h:ra x l){es:List aV}:∀k,k<=es.length->(jJ l (bK x (es.take k)).ps).2<=(bK x (es.take k)).ps.length/\((jJ l (bK x (es.take k)).ps).2=(bK x (es.take k)).ps.length->ra (bK x (es.take k)).now (jJ l (bK x (es.take k)).ps).1)
 |0,_=>by rw[List.take_zero];exact⟨Int.le_refl _,fun _=>h⟩
 |k+1,hk=>by
  rw[fl x_2];obtain⟨V,h2⟩:=ajb h (es:=es) k x_2;generalize bK x (es.take k)=s at *;generalize es[k]=e at *;by_cases c:dG s.now e=0
  ·by_cases q:(dl s.now e).lines=[]
   ·rw[Oo q,Fk c];exact⟨V,fun r=>ajc (h2 r) c q⟩
   rw[Om c q,Fk c];have e1:jJ l (s.ps++[dl s.now e])=B2 (jJ l s.ps) (dl s.now e):=by unfold jJ;rw[List.foldl_append];rfl
   rw[e1,List.length_append,List.length_singleton];unfold B2;split
   ·rename_i r;refine⟨by dsimp only;omega,fun z=>?_⟩;dsimp only at z;exact S0 (h2 x_2) c q r
   exact⟨by omega,fun z=>by omega⟩
  rw[On c,Ol c];exact⟨V,h2⟩

theorem ov{k c:Int}{a:Acc}:∀ {l:List aO},(∀y∈l,cg a y.acc=true)->a.kind=k->a.ch=c->bU l k c=0
 |[],_,_,_=>rfl
 |x::l,h,V,h2=>by
  rw[fm,ov (fun y hy=>h y (by simp[hy])) V h2];have:=GZ (h x x_19);unfold iS;omega
theorem Lo:∀ {a b:List aO},rk a->rk b->(∀k c,bU a k c=bU b k c)->a=b
 |[],[],_,_,_=>rfl
 |x::a,[],ha,_,h=>by
  have V:=h x.acc.kind x.acc.ch;rw[fm,ov (List.pairwise_cons.1 ha.1).1 rfl rfl,dU]at V;unfold iS at V;rw[if_pos ⟨rfl,rfl⟩]at V;exact absurd x_2 (ha.2 x x_19).1
 |[],y::b,_,hb,h=>by
  have V:=h y.acc.kind y.acc.ch;rw[fm,ov (List.pairwise_cons.1 hb.1).1 rfl rfl,dU]at V;unfold iS at V;rw[if_pos ⟨rfl,rfl⟩]at V;exact absurd x_2 (hb.2 y x_19).1
 |x::a,y::b,ha,hb,h=>by
  have pa:=List.pairwise_cons.1 ha.1;have pb:=List.pairwise_cons.1 hb.1;by_cases q1:cg x.acc y.acc=true
  ·have V:=h x.acc.kind x.acc.ch;rw[fm,ov pa.1 rfl rfl,ov (a:=x.acc) (l:=y::b) (fun z hz=>by
    rcases List.mem_cons.1 hz with rfl|hz
    ·exact q1
    exact vr q1 (pb.1 z hz)) rfl rfl]at V
   unfold iS at V;rw[if_pos ⟨rfl,rfl⟩]at V;exact absurd x_2 (ha.2 x x_19).1
  by_cases q2:cg y.acc x.acc=true
  ·have V:=h y.acc.kind y.acc.ch;rw[fm (x:=y),ov pb.1 rfl rfl,ov (a:=y.acc) (l:=x::a) (fun z hz=>by
    rcases List.mem_cons.1 hz with rfl|hz
    ·exact q2
    exact vr q2 (pa.1 z hz)) rfl rfl]at V
   unfold iS at V;rw[if_pos ⟨rfl,rfl⟩]at V;exact absurd x_2 (hb.2 y x_19).1
  have e:=Ea (Ah (by simpa using q1) (by simpa using q2));have V:=h x.acc.kind x.acc.ch;rw[fm,ov pa.1 rfl rfl,fm,ov pb.1 (by rw[e]) (by rw[e])]at V;unfold iS at V;rw[if_pos ⟨rfl,rfl⟩,if_pos ⟨by rw[e],by rw[e]⟩]at V;have G0:x=y:=by
   cases x;cases y;simp at e V;simp[e,V]
  subst G0;rw[Lo ha.tail hb.tail fun k c=>by
   have:=h k c;rw[fm,fm]at this;omega]
theorem SZ{l:cH}{p:dX}(h:iv l p=0):iG (iD l p).lines 0 320/\(∀k c,bU (iD l p).lines k c=bU l.lines k c+bU p.lines k c)/\(iD l p).last=p.id:=by
 obtain⟨V,h2,_,m,hm,hl⟩:=HV h;rw[G2 h hm];unfold eQ at V;unfold iL at h2;simp only[Bool.and_eq_true]at V h2;obtain⟨k1,k2⟩:=Ee (wV V.2) (wV h2.2) hm;exact⟨⟨k1.gS,k1.acc,k1.af,k1.sum,hl⟩,k2,rfl⟩
def qZ(l:List aO):Int:=bG (fun j:Nat=>bU l 6 (j+1)+bU l 7 (j+1)+bU l 8 (j+1)) (List.range 99)
theorem Gt{α:Type}{f g:α->Int}:∀(l:List α),bG (fun x=>f x+g x) l=bG f l+bG g l
 |[]=>rfl
 |x::l=>by rw[jT,jT,jT,Gt l];omega
theorem DW{α:Type}{f g:α->Int}:∀ {l:List α},(∀x∈l,f x=g x)->bG f l=bG g l
 |[],_=>rfl
 |x::l,h=>by rw[jT,jT,h x x_19,DW fun y hy=>h y (by simp[hy])]
theorem MX(n:Int)(c:Int):∀(m:Nat),1<=c->c<=m->bG (fun j:Nat=>if c=(j:Int)+1 then n else 0) (List.range m)=n
 |0,V,h2=>by omega
 |m+1,V,h2=>by
  rw[List.range_succ];have e:bG (fun j:Nat=>if c=(j:Int)+1 then n else 0) (List.range m++[m])=bG (fun j:Nat=>if c=(j:Int)+1 then n else 0) (List.range m)+(if c=(m:Int)+1 then n else 0):=zc _ _ _;rw[e];by_cases q:c=(m:Int)+1
  ·rw[if_pos q,vM fun j hj=>?_,Int.zero_add];grind
  rw[if_neg q,MX n c m V x_2,Int.add_zero]
def wT(x:aO):Int:=if x.acc.kind=1\/6<=x.acc.kind then x.af else 0
def kQ(l:List aO):Int:=bG wT l
theorem UJ:qZ []=0:=vM fun j _=>rfl
theorem UK(x:aO)(l:List aO)(hv:om x.acc):qZ (x::l)=qZ l+(if 6<=x.acc.kind then x.af else 0):=by
 have e:qZ (x::l)=bG (fun j:Nat=>(bU l 6 (j+1)+bU l 7 (j+1)+bU l 8 (j+1))+(if 6<=x.acc.kind/\x.acc.ch=(j:Int)+1 then x.af else 0)) (List.range 99):=DW fun j hj=>by
  rw[fm,fm,fm];unfold iS;rcases hv with⟨v1,v2,v3⟩|⟨v1,v2,v3,v4⟩;all_goals omega
 rw[e,Gt];show qZ l+_=_;by_cases q:6<=x.acc.kind
 ·rw[if_pos q];rcases hv with⟨v1,v2,v3⟩|⟨v1,v2,v3,v4⟩
  ·omega
  simp_all[MX]
 rw[if_neg q,vM fun j _=>if_neg fun z=>q z.1]
theorem DX{l:List aO}(hv:∀y∈l,om y.acc):bG o6 l=bU l 1 0+bU l 2 0+bU l 3 0+bU l 4 0+bU l 5 0+qZ l/\kQ l=bU l 1 0+qZ l:=by
 induction l with
 |nil=>trivial
 |cons x l ih=>
  obtain⟨i1,i2⟩:=ih (fun y hy=>hv y (by simp[hy]));have v:=hv x x_19;have e1:bG o6 (x::l)=x.af+bG o6 l:=jT _ _ _;have e2:kQ (x::l)=wT x+kQ l:=jT _ _ _;rw[e1,e2,i1,i2,UK x l v];simp only[fm];unfold iS wT;rcases v with⟨v1,v2,v3⟩|⟨v1,v2,v3,v4⟩;all_goals omega
theorem UL{l:List aO}(h:l.Pairwise fun a b=>cg a.acc b.acc=true)(hv:∀y∈l,om y.acc):l.length<=302:=by
 have key:∀(l:List aO) (b:Int),(l.Pairwise fun a b=>cg a.acc b.acc=true)->(∀y∈l,om y.acc)->(∀y∈l,b<=(if y.acc.kind<=5 then y.acc.kind-1 else 5+(y.acc.kind-6)*99+(y.acc.ch-1)))->b<=302->(l.length:Int)<=302-b:=by
  intro l;induction l with
  |nil=>simp
  |cons x l ih=>
   intro b hp hv hb _;rw[List.pairwise_cons]at hp;have hx:=hb x x_19;have vx:=hv x x_19;have:=ih (b+1) hp.2 (fun y hy=>hv y (by simp[hy])) (fun y hy=>by
    have vy:=hv y (by simp[hy]);have hl:=hp.1 y hy;unfold cg at hl;simp only[Bool.or_eq_true,Bool.and_eq_true,decide_eq_true_eq,beq_iff_eq]at hl;unfold om at vx vy;split at hx<;>split<;>omega) (by unfold om at vx;split at hx<;>omega)
   grind
 have:=key l 0 h hv (fun y hy=>by
  grind[om]) x_2
 omega
theorem EO:∀(n:Nat) (a b:List aO),a.length+b.length<=n->rk a->rk b->(∀k c,dL (bU a k c+bU b k c)=true)->∃m,fM a b=some m
 |n,[],b,_,_,_,_=>⟨b,yo b⟩
 |n,x::a,[],_,_,_,_=>⟨_,z6 _⟩
 |0,x::a,y::b,hn,_,_,_=>by grind
 |n+1,x::a,y::b,hn,ha,hb,h=>by
  simp only[List.length_cons]at hn;have pa:=List.pairwise_cons.1 ha.1;have pb:=List.pairwise_cons.1 hb.1;have r0:dL 0=true:=cJ.2 x_2;have cut:∀ {z:aO} {a' b':List aO},(∀k c,z.acc.kind=k->z.acc.ch=c->bU a' k c=0/\bU b' k c=0)->(∀k c,¬(z.acc.kind=k/\z.acc.ch=c)->bU a' k c+bU b' k c=bU (x::a) k c+bU (y::b) k c)->∀k c,dL (bU a' k c+bU b' k c)=true:=fun V h2 k c=>by
   rename_i z a' b';by_cases q:z.acc.kind=k/\z.acc.ch=c
   ·obtain⟨e1,e2⟩:=V k c q.1 q.2;rw[e1,e2];exact r0
   rw[h2 k c q];exact h k c
  by_cases q1:cg x.acc y.acc=true
  ·obtain⟨m,hm⟩:=EO n a (y::b) x_74 ha.tail hb (cut (z:=x) (fun k c e1 e2=>⟨ov pa.1 e1 e2,ov (a:=x.acc) (fun w hw=>by
    rcases List.mem_cons.1 hw with rfl|hw
    ·exact q1
    exact vr q1 (pb.1 w hw)) e1 e2⟩) (fun k c q=>by rw[fm x];unfold iS;rw[if_neg q];omega))
   exact⟨_,by rw[BI q1,hm];rfl⟩
  have q1:cg x.acc y.acc=false:=by simpa using q1
  by_cases q2:cg y.acc x.acc=true
  ·obtain⟨m,hm⟩:=EO n (x::a) b x_74 ha hb.tail (cut (z:=y) (fun k c e1 e2=>⟨ov (a:=y.acc) (fun w hw=>by
    rcases List.mem_cons.1 hw with rfl|hw
    ·exact q2
    exact vr q2 (pa.1 w hw)) e1 e2,ov pb.1 e1 e2⟩) (fun k c q=>by rw[fm y];unfold iS;rw[if_neg q];omega))
   exact⟨_,by rw[BJ q1 q2,hm];rfl⟩
  have q2:cg y.acc x.acc=false:=by simpa using q2
  have e:=Ea (Ah q1 q2);have hr:dL (x.af+y.af)=true:=by
   have:=h x.acc.kind x.acc.ch;rw[fm,ov pa.1 rfl rfl,fm,ov pb.1 (by rw[e]) (by rw[e])]at this;unfold iS at this;rw[if_pos ⟨rfl,rfl⟩,if_pos ⟨by rw[e],by rw[e]⟩,Int.add_zero,Int.add_zero]at this;exact this
  obtain⟨m,hm⟩:=EO n a b x_2 ha.tail hb.tail (cut (z:=x) (fun k c e1 e2=>⟨ov pa.1 e1 e2,ov pb.1 (by rw[<-e];exact e1) (by rw[<-e];exact e2)⟩) (fun k c q=>by
   rw[fm x,fm y];unfold iS;rw[if_neg q,if_neg (fun z=>q ⟨by rw[e];exact z.1,by rw[e];exact z.2⟩)];omega))
  by_cases q4:x.af+y.af=0
  ·exact⟨m,by rw[Eb q1 q2 hr q4,hm]⟩
  exact⟨_,by rw[Ec q1 q2 hr q4,hm];rfl⟩
theorem MY{l:List aO}(hv:∀y∈l,om y.acc){k c:Int}(h:¬om ⟨k,c⟩):bU l k c=0:=vM fun y hy=>by
 unfold iS;rw[if_neg];rintro⟨e1,e2⟩;apply h;rw[<-e1,<-e2];exact hv y hy
theorem UM{x:aw}{e:aV}(h:dG x e=0)(hp:(dl x e).id≠0):iL (dl x e).id (dl x e).lines=true:=by
 obtain⟨q1,q2,q3,q4⟩:=UC h hp;have hn:=(mX (rS h).1).next;unfold iL;rw[q3.ok,q1,cJ.2 hn,cJ.2 ⟨by omega,by have:=q3.len;omega⟩];rfl
theorem UN{x:aw}{e:aV}{l:cH}(h:ra x l)(hc:dG x e=0)(hp:(dl x e).lines≠[])(hq:∀k,2<=k->k<=5->dL (bU l.lines k 0+bU (bz x e).l k 0)=true):iv l (dl x e)=0:=by
 have HD:(bz x e).l≠[]:=fun r=>hp (by rw[(ub hc r).2]);obtain⟨e1,e2⟩:=rU hc HD;have g:=MP hc;have ln:=Ab hc;have ze:=mX (Gy hc);have hid:(dl x e).id≠0:=by
  rw[e2];have:=(mX h.book).next;show x.next≠0;omega
 have hl:(dl x e).lines=(bz x e).l:=by rw[e2]
 have hw:(dp x e).aA=(bz x e).b.aA:=by rw[e1]
 have y':(dp x e).ag=(bz x e).b.ag:=by rw[e1]
 have ho:∀ch,fB (dp x e) ch=fB (bz x e).b ch:=fun ch=>by rw[e1];rfl
 obtain⟨m,hm⟩:=EO _ l.lines (bz x e).l (Nat.le_refl _) h.lF.lF ln.lF (fun k c=>by
  by_cases v:om ⟨k,c⟩
  ·rcases v with⟨v1,v2,v3⟩|⟨v1,v2,v3,v4⟩
   ·have v3:c=0:=v3;subst v3;by_cases k1:k=1
    ·subst k1;have:=ze.aA;rw[hw,g.za]at this;rw[h.za];unfold eY at this;exact cJ.2 x_2
    exact hq k (by simp at v1;omega) v2
   have v3:1<=c:=v3;have v4:c<=99:=v4;rcases(by simp at v1 v2;omega:k=6\/k=7\/k=8)with q|q|q
   ·subst q;rw[h.loc c ⟨v3,v4⟩,<-g.loc c,<-y'];unfold hP;rcases jt (dp x e).ag c with⟨_,r⟩|⟨i,d,_,r2,r3,_⟩
    ·rw[r];exact cJ.2 (by show -1125899906842624<=(0:Int)/\(0:Int)<=_;omega)
    rw[r3];have:=(ze.ch d (dB r2)).loc;unfold eY at this;exact cJ.2 x_2
   ·subst q;rw[h.gh c ⟨v3,v4⟩,g.gh c];exact cJ.2 x_2
   subst q;rw[h.out c ⟨v3,v4⟩,<-g.out c,<-ho];by_cases t:ed (dp x e).ag c
   ·obtain⟨d,hd,rfl⟩:=t;have k1:=ze.sum d hd;have k2:=ze.ch d hd;have k3:=ut ze.hs ze.cs d.id;have k4:=k2.loc;have k5:=k2.aC;have k6:=k2.size;unfold fB jh at *;unfold eY at *;exact cJ.2 x_2
   rw[(ze.none t).1];exact cJ.2 x_2
  rw[MY h.lF.acc v,MY ln.acc v];exact cJ.2 x_2)
 obtain⟨k1,_⟩:=Ee h.lF ln hm;rw[<-hl]at hm;refine Gr h.ia (UM hc hid) ?_ hm (by have:=UL k1.gS k1.acc;omega);rw[e2,h.last];grind

structure MZ(x:aw)(e:aV):Prop where
 eq:bU (bz x e).l 2 0=if e.kind=1 then -e.af else 0
 inc:-2000001<=bU (bz x e).l 3 0/\bU (bz x e).l 3 0<=0
 yx:0<=bU (bz x e).l 4 0
 wO:bU (bz x e).l 5 0=0
structure Wl(K:Int)(x:aw)(l:cH)(n:Nat):Prop where
 oV:ra x l
 eq:-(200000+n*1000000)<=bU l.lines 2 0/\bU l.lines 2 0<=0
 inc:-(n*2000001)<=bU l.lines 3 0/\bU l.lines 3 0<=0
 yx:0<=bU l.lines 4 0
 wO:bU l.lines 5 0=0
 base:∀c∈x.ag,c.base<=1000000
 vd:∀h∈x.an,h.cW<=h.c9+2000001
 next:x.next<=10+n
 keys:∀k∈dN x,k<=K
theorem UO{b p a:Int}(hb:0<=b/\b<=1000000)(hp:0<=p/\p<=1000000)(ha:0<=a/\a<=1000000):0<=kG b p a/\kG b p a<=2000001:=by
 unfold kG;split
 ·unfold eM;split
  ·unfold zf;have V:0<=a*p:=Int.mul_nonneg ha.1 hp.1;have h2:a*p<=1000000*1000000:=Int.mul_le_mul ha.2 hp.2 hp.1 x_2;omega
  omega
 omega
theorem outer{x:aw}{e:aV}(h:dG x e=0)(hk:e.kind≠3)(hh:∀h∈x.an,h.cW<=h.c9+2000001):MZ x e:=by
 obtain⟨V,h2,h3⟩:=rS h;have b:=mX V;have zero:∀ {l:List aO},l=[]->e.kind≠1->(bz x e).l=l->MZ x e:=fun e1 e2 e3=>by
  subst e1;exact⟨by rw[e3,if_neg e2];rfl,by grind[dU],by grind[dU],by rw[e3];rfl⟩
 by_cases k1:e.kind=1
 ·have hw:(bz x e).l=bR (bR [] 1 0 e.af) 2 0 (-e.af):=by rw[<-yY k1];rfl
  refine⟨?_,?_,?_,?_⟩<;>rw[hw]<;>simp only[fO,dU]<;>simp[k1]
 by_cases k2:e.kind=2
 ·by_cases q:gO x e=0
  ·have hw:(bz x e).l=bR (bR [] 6 e.ch e.af) 1 0 (-e.af):=by rw[<-xy k2,tK q]
   refine⟨?_,?_,?_,?_⟩<;>rw[hw]<;>simp only[fO,dU]<;>simp[k1]
  exact zero rfl k1 (by rw[<-xy k2,sK q])
 by_cases k4:e.kind=4
 ·exact zero rfl k1 (by rw[<-vK k4];grind[ou])
 by_cases k5:e.kind=5
 ·by_cases q:gg x e=0
  ·have hw:(bz x e).l=bR (bR [] 6 e.to (-e.af)) 8 e.to e.af:=by rw[<-xz k5,sR q];rfl
   refine⟨?_,?_,?_,?_⟩<;>rw[hw]<;>simp only[fO,dU]<;>simp[k1]
  exact zero rfl k1 (by rw[<-xz k5,jm q])
 by_cases k6:e.kind=6\/e.kind=7
 ·cases hy:x.an.find? (fun c=>c.key==e.key)with
  |none=>exact zero rfl k1 (by rw[<-uv k6,M0 hy])
  |some y=>
   have hm:=List.mem_of_find?_eq_some hy;have q:=b.hs y hm;have q2:=q.out;have q3:=hh y hm;have hw:bz x e=pN x (decide (e.kind=6)) y:=by rw[<-uv k6,HW hy]
   by_cases g:e.kind=6
   ·have zg:(bz x e).l=bR (bR (bR [] 3 0 (y.c9-y.cW)) 6 y.gh y.cW) 8 y.out (-y.c9):=by rw[hw,decide_eq_true g];rfl
    refine⟨?_,?_,?_,?_⟩<;>rw[zg]<;>simp only[fO,dU]<;>simp[k1]<;>omega
   have zg:(bz x e).l=bR (bR [] 6 y.out y.c9) 8 y.out (-y.c9):=by rw[hw,decide_eq_false g];rfl
   refine⟨?_,?_,?_,?_⟩<;>rw[zg]<;>simp only[fO,dU]<;>simp[k1]
 by_cases k8:e.kind=8
 ·exact zero rfl k1 (by rw[<-y7 k8];rfl)
 by_cases k9:e.kind=9
 ·by_cases q:fL x e=0
  ·have hw:(bz x e).l=bR (bR [] 6 e.ch (-eM e.af e.ay)) 8 e.ch (eM e.af e.ay):=by rw[<-t8 k9,uZ q];rfl
   refine⟨?_,?_,?_,?_⟩<;>rw[hw]<;>simp only[fO,dU]<;>simp[k1]
  exact zero rfl k1 (by rw[<-t8 k9,od q])
 have:=y8 h2;cases hy:x.aq.find? (fun c=>c.key==e.key)with
 |none=>exact zero rfl k1 (by rw[<-ua x_2,M1 hy])
 |some y=>
  have hm:=List.mem_of_find?_eq_some hy;have q:=(b.cs y hm).ay;unfold eY at q;have hw:bz x e=mN x (decide (e.kind=10)) y:=by rw[<-ua x_2,DZ hy]
  by_cases g:e.kind=10
  ·have zg:(bz x e).l=bR (bR (bR [] 4 0 y.ay) 6 y.to y.af) 8 y.fI (-y.af-y.ay):=by rw[hw,decide_eq_true g];rfl
   refine⟨?_,?_,?_,?_⟩<;>rw[zg]<;>simp only[fO,dU]<;>simp[k1];omega
  have zg:(bz x e).l=bR (bR [] 6 y.fI (y.af+y.ay)) 8 y.fI (-y.af-y.ay):=by rw[hw,decide_eq_false g];rfl
  refine⟨?_,?_,?_,?_⟩<;>rw[zg]<;>simp only[fO,dU]<;>simp[k1]
theorem HX{l:List be}{a:Int}{f:be->be}(hf:∀c,c.base<=1000000->(f c).base<=1000000)(h:∀c∈l,c.base<=1000000):∀c∈cC l a f,c.base<=1000000:=fun c hc=>by
 obtain⟨d,hd,rfl⟩:=Cs hc;grind
theorem AN{l:List be}{a b:Int}{f g:be->be}(hf:∀c,(f c).base=c.base)(hg:∀c,(g c).base=c.base)(h:∀c∈l,c.base<=1000000):∀c∈cC (cC l a f) b g,c.base<=1000000:=HX (fun c q=>by grind) (HX (fun c q=>by grind) h)
theorem UP{K:Int}{x:aw}{e:aV}(h:dG x e=0)(ha:e.af<=1000000)(AP:e.key<=K)(hb:∀c∈x.ag,c.base<=1000000)(hh:∀h∈x.an,h.cW<=h.c9+2000001)(jF:∀k∈dN x,k<=K) :
 (∀c∈(bz x e).b.ag,c.base<=1000000)/\(∀h∈(bz x e).b.an,h.cW<=h.c9+2000001)/\∀k∈dN (bz x e).b,k<=K:=by
 obtain⟨V,h2,h3⟩:=rS h
 have b:=mX V
 have mS:(eG x&&co e)=true:=by rw[V,h2];rfl
 have hw:(bz x e).c=0:=by rw[<-yA mS h3];exact h
 have am:=uu h2
 rw[cY,cY]at am
 by_cases k1:e.kind=1
 ·rw[<-yY k1];trivial
 by_cases k2:e.kind=2
 ·rw[<-xy k2]at hw ⊢
  by_cases q:gO x e=0
  ·rw[tK q]
   refine⟨fun c hc=>?_,hh,jF⟩
   rcases EP hc with r|rfl
   ·exact hb c r
   show (0:Int)<=1000000;omega
  grind[sK]
 by_cases k3:e.kind=3
 ·rw[<-yZ k3]at hw ⊢
  by_cases q:ir x e=0
  ·rw[yf q]
   exact⟨fun c hc=>hb c (List.mem_filter.1 hc).1,hh,jF⟩
  grind[tM]
 by_cases k4:e.kind=4
 ·rw[<-vK k4]
  unfold ou
  split
  ·grind
  exact⟨HX (fun c _=>ha) hb,hh,jF⟩
 by_cases k5:e.kind=5
 ·rw[<-xz k5]at hw ⊢
  by_cases q:gg x e=0
  ·rw[sR q]
   have UQ:cn x e<=e.af+2000001:=by
    have hc:(fz x.ag e.to).base<=1000000/\0<=(fz x.ag e.to).base/\0<=(fz x.ag e.to).br/\(fz x.ag e.to).br<=1000000:=by
     rcases jt x.ag e.to with⟨_,r⟩|⟨i,c,_,r2,r3,_⟩
     ·rw[r];exact⟨by decide,by decide,by decide,by decide⟩
     rw[r3];have k:=b.ch c (dB r2);have k2:=k.base;unfold eY at k2;exact⟨hb c (dB r2),k2.1,k.br.1,k.br.2⟩
    have hf:=UO (b:=(fz x.ag e.to).base) (p:=(fz x.ag e.to).br) (a:=e.af) ⟨hc.2.1,hc.1⟩ hc.2.2 ⟨am.1.1,ha⟩;unfold cn eM;split<;>omega
   refine⟨AN (fun _=>rfl) (fun _=>rfl) hb,fun y hy=>?_,fun k hk=>?_⟩
   ·rcases List.mem_append.1 hy with r|r
    ·exact hh y r
    rw[List.mem_singleton.1 r];exact UQ
   unfold dN mI at hk
   dsimp only at hk
   rw[List.map_append,List.append_assoc]at hk
   rcases List.mem_append.1 hk with r|r
   ·exact jF k (List.mem_append_left _ r)
   rcases List.mem_append.1 r with r|r
   ·simp at r;omega
   exact jF k (List.mem_append_right _ r)
  grind[jm]
 by_cases k6:e.kind=6\/e.kind=7
 ·rw[<-uv k6]
  unfold mR
  split
  ·rename_i y hy
   have my:∀z∈jS x.an y.key,z∈x.an:=fun z hz=>(List.mem_filter.1 hz).1
   have xk:∀k∈(jS x.an y.key).map (fun h=>h.key)++x.aq.map (fun h=>h.key),k<=K:=fun k hk=>by
    rcases List.mem_append.1 hk with r|r
    ·obtain⟨z,hz,rfl⟩:=List.mem_map.1 r;exact jF _ (List.mem_append_left _ (List.mem_map_of_mem (my z hz)))
    exact jF k (List.mem_append_right _ r)
   unfold pN
   split
   ·exact⟨AN (fun _=>rfl) (fun _=>rfl) hb,fun z hz=>hh z (my z hz),xk⟩
   exact⟨AN (fun _=>rfl) (fun _=>rfl) hb,fun z hz=>hh z (my z hz),xk⟩
  grind
 by_cases k8:e.kind=8
 ·rw[<-y7 k8]
  refine⟨fun c hc=>?_,fun z hz=>?_,fun k hk=>?_⟩
  ·obtain⟨d,hd,rfl⟩:=List.mem_map.1 hc
   grind[l8]
  ·obtain⟨d,hd,rfl⟩:=List.mem_map.1 hz
   exact hh d hd
  refine jF k ?_
  unfold dN p' at hk
  dsimp only at hk
  rw[List.map_map]at hk
  exact hk
 by_cases k9:e.kind=9
 ·rw[<-t8 k9]at hw ⊢
  by_cases q:fL x e=0
  ·rw[uZ q]
   refine⟨AN (fun _=>rfl) (fun _=>rfl) hb,hh,fun k hk=>?_⟩
   unfold dN oH at hk
   dsimp only at hk
   rw[List.map_append]at hk
   rcases List.mem_append.1 hk with r|r
   ·exact jF k (List.mem_append_left _ r)
   rcases List.mem_append.1 r with r|r
   ·exact jF k (List.mem_append_right _ r)
   simp at r;omega
  grind[od]
 have:=y8 h2
 rw[<-ua x_2]
 unfold nm
 split
 ·rename_i y hy
  have xk:∀k∈x.an.map (fun h=>h.key)++(jA x.aq y.key).map (fun h=>h.key),k<=K:=fun k hk=>by
   rcases List.mem_append.1 hk with r|r
   ·exact jF k (List.mem_append_left _ r)
   obtain⟨z,hz,rfl⟩:=List.mem_map.1 r;exact jF _ (List.mem_append_right _ (List.mem_map_of_mem (List.mem_filter.1 hz).1))
  unfold mN
  split
  ·exact⟨AN (fun _=>rfl) (fun _=>rfl) hb,hh,xk⟩
  exact⟨AN (fun _=>rfl) (fun _=>rfl) hb,hh,xk⟩
 grind
theorem Gx{x:aw}{e:aV}(h:dG x e=0):(dp x e).ag=(bz x e).b.ag/\(dp x e).an=(bz x e).b.an/\(dp x e).aq=(bz x e).b.aq/\(dp x e).next<=x.next+1:=by
 by_cases r:(bz x e).l=[]
 ·rw[(ub h r).1];exact⟨rfl,rfl,rfl,by rw[xA];omega⟩
 rw[(rU h r).1];exact⟨rfl,rfl,rfl,by grind[xA]⟩
theorem Wl.step{K:Int}{x:aw}{l l':cH}{n:Nat}{e:aV}(h:Wl K x l n)(hc:dG x e=0)(hk:e.kind≠3)(ha:e.af<=1000000)(AP:e.key<=K)(hl:ra (dp x e) l')(hs:∀k c,bU l'.lines k c=bU l.lines k c+bU (bz x e).l k c):Wl K (dp x e) l' (n+1):=by
 have o:=outer hc hk h.vd;obtain⟨s1,s2,s3⟩:=UP hc ha AP h.base h.vd h.keys;obtain⟨p1,p2,p3,p4⟩:=Gx hc;have am:=uu (rS hc).2.1;rw[cY,cY]at am;have e1:=h.eq;have e2:=h.inc;have e3:=h.yx;have e4:=h.wO;have e5:=h.next;have o1:=o.eq;have o2:=o.inc;have o3:=o.yx;have o4:=o.wO;refine⟨hl,?_,?_,?_,?_,by rw[p1];exact s1,by rw[p2];exact s2,by omega,fun k hk=>s3 k ?_⟩
 ·rw[hs,o1];push_cast;split<;>omega
 ·rw[hs];push_cast;omega
 all_goals grind[dN]
theorem Wl.UR{K:Int}{x:aw}{l:cH}{n:Nat}(h:Wl K x l n):bU l.lines 4 0<=200000+n*3000001:=by
 have t:=(DX h.oV.lF.acc).1;have t0:bG o6 l.lines=0:=h.oV.lF.sum;have b:=mX h.oV.book;have hw:=b.aA;rw[<-h.oV.za]at hw;unfold eY at hw;have hS:0<=qZ l.lines:=by
  unfold qZ;have key:∀(m:List Nat),(∀j∈m,j<99)->0<=bG (fun j:Nat=>bU l.lines 6 (j+1)+bU l.lines 7 (j+1)+bU l.lines 8 (j+1)) m:=by
   intro m;induction m with
   |nil=>intro _;exact Int.le_refl _
   |cons j m ih=>
    intro hm;rw[jT];have hj:=hm j x_19;have i1:=ih (fun z hz=>hm z (by simp[hz]));have hc:1<=(j:Int)+1/\(j:Int)+1<=99:=by omega
    rw[h.oV.loc _ hc,h.oV.gh _ hc,h.oV.out _ hc];have l1:0<=hP x.ag ((j:Int)+1):=by
     unfold hP;rcases jt x.ag ((j:Int)+1)with⟨_,r⟩|⟨i,d,_,r2,r3,_⟩
     ·rw[r];trivial
     rw[r3];have:=(b.ch d (dB r2)).loc;grind[eY]
    have l2:0<=fB x ((j:Int)+1):=by
     have:=ut b.hs b.cs ((j:Int)+1);unfold fB;omega
    omega
  exact key _ (fun j hj=>List.mem_range.1 hj)
 have e1:=h.eq;have e2:=h.inc;have e3:=h.wO;omega
theorem Wl.SY{K:Int}{x:aw}{l:cH}{n:Nat}{e:aV}(h:Wl K x l n)(hn:n<=100)(hc:dG x e=0)(hk:e.kind≠3)(hp:(dl x e).lines≠[])(ha:e.af<=1000000)(hr:bU (bz x e).l 4 0<=1000000000):iv l (dl x e)=0:=by
 have o:=outer hc hk h.vd;have am:=uu (rS hc).2.1;rw[cY,cY]at am;have e1:=h.eq;have e2:=h.inc;have e3:=h.yx;have e4:=h.wO;have e5:=h.UR;have o1:=o.eq;have o2:=o.inc;have o3:=o.yx;have o4:=o.wO;refine UN h.oV hc hp fun k k2 k5=>cJ.2 ?_;grind

abbrev BZ(r:fg):AV:=.au [cj r.now,.p (.ab 92 2 (qI r.ps)),.p (.ab 3 1 (ah kt r.jD))]
theorem LC{f:FuncId}{args:List AV}{r:fg}(h:GN prog f args [] [] (GW r)):GC prog f args [] (BZ r) []:=
 (GX.frozen (Z:=fun y=>y=BZ r) (show GX prog f args [] _ from h) fun x ob ⟨l1,F1,hs,hF,hM,e,⟨vs,hv,e1,e2,e3⟩⟩=>by
   subst e e1 e2 e3;refine⟨BZ r,?_,rfl⟩;have hT:Tl (bx (Ag r vs++je 1000000 (fZ vs r.ps))) (fZ vs r.ps):=by
    rw[Gm rfl];exact Tl.tl hF
   exact Still.au (.cons (Still.agg (.cons (Still.p _) (.cons (Still.p _) (.cons (Still.p _) (.cons (Still.row (id:=1) (e:=⟨159,none⟩) (sz:=7) (rows:=ah aX r.now.ag) rfl) (.cons (Still.row (id:=2) (e:=⟨218,none⟩) (sz:=7) (rows:=ah go r.now.an) rfl) (.cons (Still.row (id:=3) (e:=⟨220,none⟩) (sz:=5) (rows:=ah iX r.now.aq) rfl) .nil)))))))
    (.cons (Still.own (id:=14) (e:=⟨92,none⟩) (sz:=2) (rows:=lH vs r.ps) rfl (Tk hT hv (s:=0) fun i hi=>by simp)) (.cons (Still.row (id:=15) (e:=⟨3,none⟩) (sz:=1) (rows:=ah kt r.jD) rfl) .nil)))).mono fun y o ⟨e1,e2⟩=>⟨e2,e1⟩
theorem QI(x:aw)(es:List aV)(hw:di x)(we:∀e∈es,l7 e)(hm:es.length<=1048576):GC prog 35 [cj x,.p (.ab 81 7 (ah fR es))] [] (BZ (sB x es)) []:=LC (Tm x es hw we hm)
theorem QM(x:aw)(es:List aV)(hw:di x)(we:∀e∈es,l7 e)(hm:es.length<=1048576):GC prog 167 [cj x,.p (.ab 81 7 (ah fR es))] [] (BZ (sB x es)) []:=LC (Tn x es hw we hm)

theorem akO(x:Int)(m:Nat)(hm:m<9223372036854775808):0<=bits BinOp.and IntKind.i64 x (m:Int)/\bits BinOp.and IntKind.i64 x (m:Int)<=m:=by
 have V:(BitVec.ofInt 64 x &&& BitVec.ofInt 64 (m:Int)).toNat<=m:=by
  rw[BitVec.toNat_and];have h2:(BitVec.ofInt 64 (m:Int)).toNat=m:=by
   rw[BitVec.toNat_ofInt];omega
  rw[h2];exact Nat.and_le_right
 have h3:bits BinOp.and IntKind.i64 x (m:Int)=IntKind.i64.wrap ((BitVec.ofInt 64 x &&& BitVec.ofInt 64 (m:Int)).toNat:Int):=rfl;rw[h3];generalize (BitVec.ofInt 64 x &&& BitVec.ofInt 64 (m:Int)).toNat=z at *;have h4:IntKind.i64.wrap (z:Int)=z:=by
  simp[IntKind.wrap,IntKind.bits,IntKind.signed];omega
 rw[h4];omega
abbrev ahN(b:Int):List Value:=[.int .u8 b]
abbrev ahm(g:Value)(code:List Int)(i:Nat)(h:Int):AO:=.box 224 (some g) [.p (.ab 5 1 (ah ahN code)),int (i:Int),int h]
def ahk(code:List Int)(i:Nat):Prop:=i<=code.length/\code.length<=1048576
def DrR(g:Value)(code:List Int)(R:AV->Prop):AV->List (Nat×AO)->Prop:=fun x ob=>∃i h,ahk code i/\R x/\ob=[(0,ahm g code i h)]
def DrI(R:Int->Prop):AV->Prop:=fun x=>∃n,R n/\x=int n
theorem ahn{g:Value}{code:List Int}{i:Nat}{h:Int}{R:AV->Prop}:∀x bd,DrR g code R x bd->pins [(0,ahm g code i h)] bd [0]:=fun x bd ⟨_,_,_,_,e⟩=>by
 subst e;exact⟨stays.box (Eq.refl 3),trivial⟩
theorem ajD(x:Int)(m:Nat)(hm:m<9223372036854775808):0<=bits .and .i64 x (m:Int)/\bits .and .i64 x (m:Int)<=m:=akO x m hm
theorem ajE{n m:Int}(h0:0<=n)(hm:1<=m):0<=n.tmod m/\n.tmod m<m:=⟨Int.tmod_nonneg _ h0,Int.tmod_lt_of_pos _ x_2⟩

set_option maxHeartbeats 16000000
set_option maxRecDepth 100000
theorem akD(code:List Int)(hm:code.length<=1048576):GX prog 96 [.p (.ab 5 1 (ah ahN code))] [] (fun x ob=>∃h,x=.ptr 31 0 0/\ob=[(31,.box 224 none [.p (.ab 5 1 (ah ahN code)),int ((0:Nat):Int),int h])]):=by
 refine GX.intro (rs:=[.tmp 2]) func96 rfl ntmps96 x_8 ⟨rfl,trivial⟩ ?_;intro L O w0;refine sL<|e9 Z<|nA<|bm Z<|ba kE Z ?_;refine eo rfl ⟨rfl,ce (by rw[ap];unfold i64;omega)⟩<|ao Z<|Y<|aS<|sL<|ao Z<|Y<|aB ?_;refine aW [0,2] [] (D:=Nat×Int) (fun d=>[(4,int (d.1:Int)),(3,int d.2)]) (fun d=>[]) (fun d=>d.1<=code.length) (fun d=>code.length-d.1) ((0,_)) (Nat.zero_le _) ⟨rfl,rfl,trivial⟩ trivial ?_;intro ⟨j,q⟩ hI;replace hI:j<=code.length:=hI;refine aS<|sL<|ae Z<|bm Z<|ba kE Z<|ak Z<|aQ Z ?_;refine AL.bool (t:=12) rfl ?_ ?_
 ·intro V;refine ae Z<|ak Z<|bj Z<|Y<|cE rfl ?_ ?_
  ·intro h2;refine aK<|gT<|aS<|aB<|aL<|ae Z<|lq (rd (x:=c6) (kg Z Z Z (Fd Z) Z) Z)<|bm Z<|ae Z ?_;have hj:j<code.length:=by have h:=V;rw[ap]at h;simp only[decide_eq_true_eq,Bool.and_eq_true]at h;omega
   refine li j fh Z (bS hj)<|oy tf Z<|lq (rd (x:=c6) (me Z pK lM Z) Z)<|lq (rd (x:=c6) (kg Z Z Z (N7 Z) Z) Z)<|lq (rd (x:=c6) (kg Z Z Z (N7 Z) Z) Z)<|lq (rd (x:=c6) (kg Z Z Z (N8 Z) Z) Z)<|ao Z<|lN<|gB<|gT<|aL<|ae Z<|bg Z<|ao Z<|Y ?_;refine⟨(j+1,_),hj,by show code.length-(j+1)<code.length-j;omega,x_83,trivial,rfl,rfl⟩
  intro h2;refine aE<|eT<|eT<|eB<|gA<|bm Z<|ae Z<|lT [2,28,29] [] ?_;refine lq (rd (x:=.agg [c7,c6,c6]) (cP Z ajw Z Z Z) Z)<|ab (zX 31 Z) Z<|lC Z<|Y<|aR ?_;refine fN (.ptr 31 0 0) [(31,.box 224 none [.p (.ab 5 1 (ah ahN code)),int ((0:Nat):Int),int q])] ?_ rfl ⟨rfl,trivial⟩;exact⟨_,rfl,rfl⟩
 intro V;refine aa Z<|aa Z<|bL Z<|Y<|aN Z<|aE<|eT<|eT<|eB<|gA<|bm Z<|ae Z<|lq (rd (x:=.agg [c7,c6,c6]) (cP Z ajw Z Z Z) Z)<|ab (zX 31 Z) Z<|lC Z<|Y<|aR ?_;refine fN (.ptr 31 0 0) [(31,.box 224 none [.p (.ab 5 1 (ah ahN code)),int ((0:Nat):Int),int q])] ?_ rfl ⟨rfl,trivial⟩;exact⟨_,rfl,rfl⟩
theorem aip(g:Value)(code:List Int)(i:Nat)(h:Int)(hc:ahk code i):GX prog 184 [.ptr 0 0 0] [(0,ahm g code i h)] (DrR g code (DrI fun n=>0<=n/\n<=255)):=by
 refine GX.intro (rs:=[.tmp 2]) func184 rfl ntmps184 x_8 ⟨rfl,trivial⟩ ?_;intro L O w0;refine sL<|ao Z<|nA<|aM Z<|aM Z<|lc Z<|lf 2 aiz Z<|aj ac Z<|lq (rd (x:=c6) (kg Z Z Z (Fd Z) Z) Z)<|lq (rd (x:=c6) (kg Z Z Z (N7 Z) Z) Z)<|lc Z<|lf 2 aiz Z<|ab (zB 0 ca cb Z) Z<|Y<|aS<|aF []<|pq 0 (dJ Z)<|pq 1 (qc Z)<|pq 2 (qf 2 aiz Z)<|sq 3 (aZ ac Z) ?_;refine sq 4 (iC rfl ⟨rfl,by decide,by decide⟩)<|vq 5 (cG rfl)<|vq 6 (rc rfl)<|vq 7 (rf 2 aiz rfl)<|vq 8 (aZ ac rfl) ?_;refine vq 9 (iC rfl ⟨rfl,by decide,by decide⟩)<|vq 10 (rd (x:=c6) (kg rfl rfl rfl (akM rfl) rfl) rfl)<|vq 11 (rd (x:=c6) (kg rfl rfl rfl (N8 rfl) rfl) rfl)<|vq 12 (j8 rfl)<|fD<|gT<|aS<|aS<|aF []<|pq 0 (dJ rfl)<|pq 1 (qc rfl)<|pq 2 (qf 1 aiy rfl)<|sq 3 (aZ ac rfl)<|vq 4 (cG rfl)<|vq 5 (rc rfl)<|fT [0,2,3,28,30] [0] ?_;refine vq 6 (rf 0 ajv Z)<|vq 7 (jj kb Z)<|vq 8 (le kE Z)<|vq 9 (dt Z)<|fD<|gT<|cE rfl ?_ ?_
 ·intro V;refine aS<|aF []<|pq 0 (gL c6 Z)<|pq 1 (dJ Z)<|pq 2 (qc Z)<|pq 3 (qf 0 ajv Z)<|sq 4 (jj kb Z)<|vq 5 (cG Z)<|vq 6 (rc Z)<|vq 7 (rf 1 aiy Z)<|vq 8 (aZ ac Z) ?_;have hi:i<code.length:=by have h:=V;rw[ap]at h;simp only[decide_eq_true_eq]at h;omega
  refine vq 9 (ri i fh Z (bS hi))<|vq 10 (qU tf Z)<|vq 11 (rd (x:=c6) (me Z pK lM Z) Z)<|vq 12 (rd (x:=c6) (kg Z Z Z (N7 Z) Z) Z)<|vq 13 (rd (x:=c6) (kg Z Z Z (N8 Z) Z) Z)<|vq 14 (j8 Z)<|fD<|gT<|aL<|aM Z<|aM Z<|lc Z<|lf 1 aiy Z<|aj ac Z ?_;refine eo rfl ⟨rfl,ce (by unfold i64;have:=hc.2;omega)⟩<|lc Z<|lf 1 aiy Z<|ab (zB 0 ca cb rfl) Z<|lT [2,3] [0] ?_;refine nA<|ae Z<|ao Z<|Y<|aR ?_;refine fN (int _) [(0,ahm g code (i+1) _)] ?_ rfl ⟨(congrArg (fun z:Int=>AO.box 224 (some g) [.p (.ab 5 1 (ah ahN code)),int z,int _]) x_2),trivial⟩;exact⟨i+1,_,⟨hi,hc.2⟩,⟨_,ajD _ 255 x_3,rfl⟩,rfl⟩
 intro V;refine aK<|gA<|ae Z<|ao Z<|Y<|aR ?_;refine fN (int _) [(0,ahm g code i _)] ?_ rfl ⟨rfl,trivial⟩;exact⟨i,_,hc,⟨_,ajD _ 255 x_3,rfl⟩,rfl⟩
theorem x_15{p:Prop}(c:p:=by exact ⟨⟨0,rfl,rfl⟩,trivial⟩):p:=c
theorem ahp(g:Value)(code:List Int)(i:Nat)(h m:Int)(hc:ahk code i):GX prog 98 [.ptr 0 0 0,int m] [(0,ahm g code i h)] (DrR g code (DrI fun n=>0<=n/\(n<m\/m<=0/\n=0))):=by
 refine GX.intro (rs:=[.tmp 4]) func98 rfl ntmps98 x_8 ⟨rfl,trivial⟩ ?_;intro L O w0;refine sL<|ao Z<|Y<|aS<|sL<|ae Z<|ak Z<|Y<|cE rfl ?_ ?_
 ·intro V;refine sL<|ao Z<|Y<|aR<|rT ?_;have Ej:m<=0:=by have h:=V;simpa using h
  refine fN (int 0) [(0,ahm g code i h)] ?_ rfl ⟨rfl,trivial⟩;exact⟨i,h,hc,⟨0,⟨by omega,.inr ⟨Ej,rfl⟩⟩,rfl⟩,rfl⟩
 intro V;refine aK<|gT<|aS<|sL<|ae Z<|ak Z<|Y<|cE rfl ?_ ?_
 ·intro h2;refine sL<|aM Z ?_;refine alX [(0,0)] [] [0] func184 (aip g code _ _ hc) x_15 (ahn) Z ?_;intro xz1 oz1 fa;obtain⟨i1,q1,qC,⟨n1,⟨na1,nb1⟩,rfl⟩,rfl⟩:=fa;refine ae rfl ?_;refine eo rfl ⟨rfl,by have h:=V;simp only[decide_eq_false_iff_not]at h;omega⟩<|ao Z<|Y<|aR<|rT ?_;have hm1:1<=m:=by have h:=V;simp only[decide_eq_false_iff_not]at h;omega
  obtain⟨z1,z2⟩:=ajE (n:=n1) (m:=m) x_2 hm1;refine fN (int (n1.tmod m)) [(0,ahm g code i1 q1)] ?_ rfl ⟨rfl,trivial⟩;exact⟨i1,q1,qC,⟨_,⟨z1,.inl z2⟩,rfl⟩,rfl⟩
 intro h2;refine aK<|gA<|aM Z ?_;refine alX [(0,0)] [] [0] func184 (aip g code _ _ hc) x_15 (ahn) Z ?_;intro xz2 oz2 hz2;obtain⟨i2,q2,Cj,⟨n2,⟨na2,nb2⟩,rfl⟩,rfl⟩:=hz2;refine ao Z<|nA<|aM Z ?_;refine alX [(0,0)] [] [0] func184 (aip g code _ _ Cj) x_15 (ahn) Z ?_;intro xz3 oz3 hz3;obtain⟨i3,q3,hc3,⟨ahG,⟨na3,nb3⟩,rfl⟩,rfl⟩:=hz3;refine lT [0,1,4,5,20] [0] ?_;refine ao Z<|nA<|aM Z ?_;refine alX [(0,0)] [] [0] func184 (aip g code _ _ hc3) x_15 (ahn) Z ?_;intro xz4 oz4 hz4;obtain⟨i4,q4,hc4,⟨ahZ,⟨na4,nb4⟩,rfl⟩,rfl⟩:=hz4;refine ao Z<|nA<|aM Z ?_;refine alX [(0,0)] [] [0] func184 (aip g code _ _ hc4) x_15 (ahn) Z ?_;intro xz5 oz5 hz5;obtain⟨i5,q5,hc5,⟨ahU,⟨na5,nb5⟩,rfl⟩,rfl⟩:=hz5;refine ao Z<|nA<|ae Z<|bg Z<|ae Z<|bg Z<|bg Z<|ae Z<|bg Z<|bg Z<|ae Z<|bg Z<|ae Z ?_;refine eo rfl ⟨rfl,by have h:=V;simp only[decide_eq_false_iff_not]at h;omega⟩<|ao Z<|Y<|aR ?_;have hm1:1<=m:=by have h:=V;simp only[decide_eq_false_iff_not]at h;omega
 obtain⟨z1,z2⟩:=ajE (n:=(n2*16777216+ahG*65536+ahZ*256+ahU)) (m:=m) x_2 hm1;refine fN (int ((n2*16777216+ahG*65536+ahZ*256+ahU).tmod m)) [(0,ahm g code i5 q5)] ?_ rfl ⟨rfl,trivial⟩;exact⟨i5,q5,hc5,⟨_,⟨z1,.inl z2⟩,rfl⟩,rfl⟩

def DrE:AV->Prop:=fun x=>∃e,l7 e/\x=ju e
abbrev ahy(T:Option Value)(a b c d e f:Int)(g:Bool):AO:=.box 81 T [int a,int b,int c,int d,int e,int f,aD g]
abbrev Ev7:=Int×Int×Int×Int×Int×Int×Bool
abbrev f5(z:Ev7):aV:=⟨z.1,z.2.1,z.2.2.1,z.2.2.2.1,z.2.2.2.2.1,z.2.2.2.2.2.1,z.2.2.2.2.2.2⟩
theorem akQ(x:Int):-3<=x.tmod 4/\x.tmod 4<=3:=by cases x<;>simp[Int.tmod]<;>omega
theorem aim(g:Value)(code:List Int)(i:Nat)(h:Int)(hc:ahk code i):GX prog 104 [.ptr 0 0 0] [(0,ahm g code i h)] (DrR g code DrE):=by
 refine GX.intro (rs:=[.cell 2 81 (some 7)]) func104 rfl ntmps104 x_8 ⟨rfl,rfl,dD,trivial⟩ ?_;intro L O w0;refine sL<|ab (zA 2002 jl Z) Z<|nA<|aM Z ?_;refine alX [(0,0)] [] [0] func98 (ahp g code _ _ _ hc) x_15 (ahn) Z ?_;intro xz1 oz1 fa;obtain⟨i1,q1,qC,⟨n1,⟨na1,nb1⟩,rfl⟩,rfl⟩:=fa;refine bg Z<|ao Z<|nA<|ae Z<|lq (rd (x:=.agg [c6,c6,c6,c6,c6,c6,vB false]) (cP Z xF Z Z Z) Z)<|ab (zA 2004 jl Z) Z<|ab (zB 2004 mZ m0 Z) Z<|nA<|ae Z<|ab (zC [(60,60)] [60] [] func194 (Z4 _) (trivial) Z Z) Z<|bD Z<|Y ?_;refine aJ [0,2,4,5] [60,2002] (D:=Nat×Int×Ev7) (fun d=>[]) (fun d=>[(0,ahm g code d.1 d.2.1),(2004,ahy none d.2.2.1 d.2.2.2.1 d.2.2.2.2.1 d.2.2.2.2.2.1 d.2.2.2.2.2.2.1 d.2.2.2.2.2.2.2.1 d.2.2.2.2.2.2.2.2)]) (fun d=>ahk code d.1/\l7 (f5 d.2.2)) ?_ ?_
 ·refine sL<|bW Z<|lq (rj 0 n4 rfl (by show 0<6;decide))<|lq (rd (x:=fy) (dT rfl jN rfl rfl rfl (rfl) rfl) rfl)<|Y<|cE rfl ?_ ?_
  ·intro V;refine aL<|aM Z ?_;refine alX [(0,0)] [] [0] func98 (ahp g code _ _ _ qC) x_15 (ahn) Z ?_;intro xz2 oz2 hz2;obtain⟨i2,q2,Cj,⟨n2,⟨na2,nb2⟩,rfl⟩,rfl⟩:=hz2;refine lT [0,2,4,5,17] [0,60,2002,2004] ?_;refine bg Z<|lf 1 gE Z<|ab (zB 2004 ca cb Z) Z<|Y ?_;refine⟨(_,_,_,_,_,_,_,_,_),(by refine⟨by assumption,?_⟩;simp only[l7,i64,f5]at *;omega),trivial,⟨rfl,rfl,trivial⟩,rfl,rfl⟩
  intro V;refine aK<|gT ?_;refine⟨(_,_,_,_,_,_,_,_,_),(by refine⟨by assumption,?_⟩;simp only[l7,i64,f5]at *;omega),trivial,⟨rfl,rfl,trivial⟩,rfl,rfl⟩
 intro ⟨iJ6,qJ6,ea6,eb6,ec6,ed6,ee6,ef6,eg6⟩ hJ6;dsimp only;obtain⟨ah5,ain⟩:=hJ6;replace ah5:ahk code iJ6:=ah5;unfold l7 i64 at ain;simp only[f5]at ain;refine aJ [0,2,4,5] [60,2002] (D:=Nat×Int×Ev7) (fun d=>[]) (fun d=>[(0,ahm g code d.1 d.2.1),(2004,ahy none d.2.2.1 d.2.2.2.1 d.2.2.2.2.1 d.2.2.2.2.2.1 d.2.2.2.2.2.2.1 d.2.2.2.2.2.2.2.1 d.2.2.2.2.2.2.2.2)]) (fun d=>ahk code d.1/\l7 (f5 d.2.2)) ?_ ?_
 ·refine sL<|bW Z<|lq (rj 1 n4 rfl (by show 1<6;decide))<|lq (rd (x:=fy) (dT rfl jN rfl rfl rfl (rfl) rfl) rfl)<|Y<|cE rfl ?_ ?_
  ·intro h2;refine aL<|aM Z ?_;refine alX [(0,0)] [] [0] func98 (ahp g code _ _ _ ah5) x_15 (ahn) Z ?_;intro xz3 oz3 hz3;obtain⟨i3,q3,hc3,⟨ahG,⟨na3,nb3⟩,rfl⟩,rfl⟩:=hz3;refine bg Z<|lf 2 dn Z<|ab (zB 2004 ca cb Z) Z<|Y ?_;refine⟨(_,_,_,_,_,_,_,_,_),(by refine⟨by assumption,?_⟩;simp only[l7,i64,f5]at *;omega),trivial,⟨rfl,rfl,trivial⟩,rfl,rfl⟩
  intro h2;refine aK<|gT ?_;refine⟨(_,_,_,_,_,_,_,_,_),(by refine⟨by assumption,?_⟩;simp only[l7,i64,f5]at *;omega),trivial,⟨rfl,rfl,trivial⟩,rfl,rfl⟩
 intro ⟨iJ8,qJ8,ea8,eb8,ec8,ed8,ee8,ef8,eg8⟩ hJ8;dsimp only;obtain⟨aid,aio⟩:=hJ8;replace aid:ahk code iJ8:=aid;unfold l7 i64 at aio;simp only[f5]at aio;refine aJ [0,2,4,5] [60,2002] (D:=Nat×Int×Ev7) (fun d=>[]) (fun d=>[(0,ahm g code d.1 d.2.1),(2004,ahy none d.2.2.1 d.2.2.2.1 d.2.2.2.2.1 d.2.2.2.2.2.1 d.2.2.2.2.2.2.1 d.2.2.2.2.2.2.2.1 d.2.2.2.2.2.2.2.2)]) (fun d=>ahk code d.1/\l7 (f5 d.2.2)) ?_ ?_
 ·refine sL<|bW Z<|lq (rj 2 n4 rfl (by show 2<6;decide))<|lq (rd (x:=fy) (dT rfl jN rfl rfl rfl (rfl) rfl) rfl)<|Y<|cE rfl ?_ ?_
  ·intro h3;refine aG 8 [0]<|tq 0 (rf 2 dn Z)<|tq 1 (aZ ac Z)<|yq 2 (cG Z) ?_;refine abA (i:=3) rfl x_37 (Un [(0,0)] [] [0] rfl x_87 rfl func98 rfl rfl (ahp g code _ _ _ aid) ⟨rfl,rfl,rfl⟩ x_15 (ahn) rfl) (exK (l:=[0]) rfl rfl) rfl ?_;rintro _ _ ⟨xz5,oz5,hz5,rfl,rfl⟩;obtain⟨i5,q5,hc5,⟨ahU,⟨na5,nb5⟩,rfl⟩,rfl⟩:=hz5;refine yq 4 (rd (x:=c6) (kg rfl rfl rfl (N7 rfl) rfl) rfl) ?_;refine yq 5 (iC rfl ⟨rfl,by decide⟩) ?_;have ht4:=akQ (IntKind.i64.wrap (ec8+ahU));refine yq 6 (qV rfl (by unfold i64;omega))<|yq 7 (rf 3 fK rfl)<|yl rfl (zB 2004 ca cb rfl)<|gT ?_;refine⟨(_,_,_,_,_,_,_,_,_),(by refine⟨by assumption,?_⟩;simp only[l7,i64,f5]at *;omega),trivial,⟨rfl,rfl,trivial⟩,rfl,rfl⟩
  intro h3;refine aK<|gT ?_;refine⟨(_,_,_,_,_,_,_,_,_),(by refine⟨by assumption,?_⟩;simp only[l7,i64,f5]at *;omega),trivial,⟨rfl,rfl,trivial⟩,rfl,rfl⟩
 intro ⟨iJ10,qJ10,ea10,eb10,ec10,ed10,ee10,ef10,eg10⟩ hJ10;dsimp only;obtain⟨ai8,ajF⟩:=hJ10;replace ai8:ahk code iJ10:=ai8;unfold l7 i64 at ajF;simp only[f5]at ajF;refine aJ [0,2,4,5] [60,2002] (D:=Nat×Int×Ev7) (fun d=>[]) (fun d=>[(0,ahm g code d.1 d.2.1),(2004,ahy none d.2.2.1 d.2.2.2.1 d.2.2.2.2.1 d.2.2.2.2.2.1 d.2.2.2.2.2.2.1 d.2.2.2.2.2.2.2.1 d.2.2.2.2.2.2.2.2)]) (fun d=>ahk code d.1/\l7 (f5 d.2.2)) ?_ ?_
 ·refine sL<|bW Z<|lq (rj 3 n4 rfl (by show 3<6;decide))<|lq (rd (x:=fy) (dT rfl jN rfl rfl rfl (rfl) rfl) rfl)<|Y<|cE rfl ?_ ?_
  ·intro h4;refine aL<|aM Z ?_;refine alX [(0,0)] [] [0] func98 (ahp g code _ _ _ ai8) x_15 (ahn) Z ?_;intro xz6 oz6 hz6;obtain⟨i6,q6,hc6,⟨ahB,⟨na6,nb6⟩,rfl⟩,rfl⟩:=hz6;refine bg Z<|bg Z<|lf 4 bN Z<|ab (zB 2004 ca cb Z) Z<|Y ?_;refine⟨(_,_,_,_,_,_,_,_,_),(by refine⟨by assumption,?_⟩;simp only[l7,i64,f5]at *;omega),trivial,⟨rfl,rfl,trivial⟩,rfl,rfl⟩
  intro h4;refine aK<|gT ?_;refine⟨(_,_,_,_,_,_,_,_,_),(by refine⟨by assumption,?_⟩;simp only[l7,i64,f5]at *;omega),trivial,⟨rfl,rfl,trivial⟩,rfl,rfl⟩
 intro ⟨iJ12,qJ12,ea12,eb12,ec12,ed12,ee12,ef12,eg12⟩ hJ12;dsimp only;obtain⟨ahX,ajG⟩:=hJ12;replace ahX:ahk code iJ12:=ahX;unfold l7 i64 at ajG;simp only[f5]at ajG;refine aJ [0,2,4,5] [60,2002] (D:=Nat×Int×Ev7) (fun d=>[]) (fun d=>[(0,ahm g code d.1 d.2.1),(2004,ahy none d.2.2.1 d.2.2.2.1 d.2.2.2.2.1 d.2.2.2.2.2.1 d.2.2.2.2.2.2.1 d.2.2.2.2.2.2.2.1 d.2.2.2.2.2.2.2.2)]) (fun d=>ahk code d.1/\l7 (f5 d.2.2)) ?_ ?_
 ·refine sL<|bW Z<|lq (rj 4 n4 rfl (by show 4<6;decide))<|lq (rd (x:=fy) (dT rfl jN rfl rfl rfl (rfl) rfl) rfl)<|Y<|cE rfl ?_ ?_
  ·intro h5;refine aL<|aM Z ?_;refine alX [(0,0)] [] [0] func98 (ahp g code _ _ _ ahX) x_15 (ahn) Z ?_;intro xz7 oz7 hz7;obtain⟨i7,q7,hc7,⟨ah8,⟨na7,nb7⟩,rfl⟩,rfl⟩:=hz7;refine bg Z<|lf 5 fC Z<|ab (zB 2004 ca cb Z) Z<|Y ?_;refine⟨(_,_,_,_,_,_,_,_,_),(by refine⟨by assumption,?_⟩;simp only[l7,i64,f5]at *;omega),trivial,⟨rfl,rfl,trivial⟩,rfl,rfl⟩
  intro h5;refine aK<|gT ?_;refine⟨(_,_,_,_,_,_,_,_,_),(by refine⟨by assumption,?_⟩;simp only[l7,i64,f5]at *;omega),trivial,⟨rfl,rfl,trivial⟩,rfl,rfl⟩
 intro ⟨iJ14,qJ14,ea14,eb14,ec14,ed14,ee14,ef14,eg14⟩ hJ14;dsimp only;obtain⟨ai9,ajH⟩:=hJ14;replace ai9:ahk code iJ14:=ai9;unfold l7 i64 at ajH;simp only[f5]at ajH;refine aJ [0,2,4,5] [60,2002] (D:=Nat×Int×Ev7) (fun d=>[]) (fun d=>[(0,ahm g code d.1 d.2.1),(2004,ahy none d.2.2.1 d.2.2.2.1 d.2.2.2.2.1 d.2.2.2.2.2.1 d.2.2.2.2.2.2.1 d.2.2.2.2.2.2.2.1 d.2.2.2.2.2.2.2.2)]) (fun d=>ahk code d.1/\l7 (f5 d.2.2)) ?_ ?_
 ·refine aL<|bW Z<|lq (rj 5 n4 rfl (by show 5<6;decide))<|lq (rd (x:=fy) (dT rfl jN rfl rfl rfl (rfl) rfl) rfl)<|aQ rfl ?_;refine AL.bool (t:=56) rfl ?_ ?_
  ·intro h6;refine aM rfl ?_;refine alX [(0,0)] [] [0] func98 (ahp g code _ _ _ ai9) x_15 (ahn) Z ?_;intro xz8 oz8 hz8;obtain⟨i8,q8,hc8,⟨ahC,⟨na8,nb8⟩,rfl⟩,rfl⟩:=hz8;refine ak Z<|bj Z<|lf 6 pw Z<|ab (zB 2004 ES ET Z) Z<|Y ?_;refine⟨(_,_,_,_,_,_,_,_,_),(by refine⟨by assumption,?_⟩;simp only[l7,i64,f5]at *;omega),trivial,⟨rfl,rfl,trivial⟩,rfl,rfl⟩
  intro h6;refine aa Z<|aa Z<|aa Z<|bL Z<|lf 6 pw Z<|ab (zB 2004 ES ET Z) Z<|Y ?_;refine⟨(_,_,_,_,_,_,_,_,_),(by refine⟨by assumption,?_⟩;simp only[l7,i64,f5]at *;omega),trivial,⟨rfl,rfl,trivial⟩,rfl,rfl⟩
 intro ⟨iJ15,qJ15,ea15,eb15,ec15,ed15,ee15,ef15,eg15⟩ hJ15;dsimp only;obtain⟨ahM,aiq⟩:=hJ15;replace ahM:ahk code iJ15:=ahM;unfold l7 i64 at aiq;simp only[f5]at aiq;refine aJ [2,4] [60,2002] (D:=Nat×Int×Ev7) (fun d=>[]) (fun d=>[(0,ahm g code d.1 d.2.1),(2004,ahy none d.2.2.1 d.2.2.2.1 d.2.2.2.2.1 d.2.2.2.2.2.1 d.2.2.2.2.2.2.1 d.2.2.2.2.2.2.2.1 d.2.2.2.2.2.2.2.2)]) (fun d=>ahk code d.1/\l7 (f5 d.2.2)) ?_ ?_
 ·refine sL<|aM Z ?_;refine alX [(0,0)] [] [0] func98 (ahp g code _ _ _ ahM) x_15 (ahn) Z ?_;intro xz9 oz9 hz9;obtain⟨i9,q9,hc9,⟨ahT,⟨na9,nb9⟩,rfl⟩,rfl⟩:=hz9;refine ak Z<|aQ Z ?_;refine AL.bool (t:=65) rfl ?_ ?_
  ·intro h7;refine bW Z<|lq (rj 3 n4 rfl (by show 3<6;decide))<|lq (rd (x:=fy) (dT rfl jN rfl rfl rfl (rfl) rfl) rfl)<|bj Z<|Y<|cE rfl ?_ ?_
   ·intro h8;refine aL<|aM Z ?_;refine alX [(0,0)] [] [0] func98 (ahp g code _ _ _ hc9) x_15 (ahn) Z ?_;intro aiW aiX ah0;obtain⟨i10,q10,aik,⟨n10,⟨ail,aiY⟩,rfl⟩,rfl⟩:=ah0;refine bg Z<|lf 4 bN Z<|ab (zB 2004 ca cb Z) Z<|Y ?_;refine⟨(_,_,_,_,_,_,_,_,_),(by refine⟨by assumption,?_⟩;simp only[l7,i64,f5]at *;omega),trivial,⟨rfl,rfl,trivial⟩,rfl,rfl⟩
   intro h8;refine aK<|gT ?_;refine⟨(_,_,_,_,_,_,_,_,_),(by refine⟨by assumption,?_⟩;simp only[l7,i64,f5]at *;omega),trivial,⟨rfl,rfl,trivial⟩,rfl,rfl⟩
  intro h7;refine aa Z<|aa Z<|aa Z<|bL Z<|Y<|aN Z<|aK<|gT ?_;refine⟨(_,_,_,_,_,_,_,_,_),(by refine⟨by assumption,?_⟩;simp only[l7,i64,f5]at *;omega),trivial,⟨rfl,rfl,trivial⟩,rfl,rfl⟩
 intro ⟨iJ17,qJ17,ea17,eb17,ec17,ed17,ee17,ef17,eg17⟩ hJ17;dsimp only;obtain⟨air,ais⟩:=hJ17;replace air:ahk code iJ17:=air;unfold l7 i64 at ais;simp only[f5]at ais;refine sL<|aP iK dD Z<|ab (zB 2002 mZ m0 Z) Z<|Y<|aR ?_;refine fN (ju ⟨_,_,_,_,_,_,_⟩) [(0,ahm g code _ _)] ?_ rfl ⟨rfl,trivial⟩;exact⟨_,_,by assumption,⟨_,by simp only[l7,i64]at *;omega,rfl⟩,rfl⟩

def DrX(g:Value)(code:List Int)(R:AV->List (Nat×AO)->Prop):AV->List (Nat×AO)->Prop:=fun x ob=>∃i h ob2,ahk code i/\R x ob2/\ob=(0,ahm g code i h)::ob2
theorem aiU{g:Value}{code:List Int}{i:Nat}{h:Int}{R:AV->List (Nat×AO)->Prop}:∀x bd,DrX g code R x bd->pins [(0,ahm g code i h)] bd [0]:=fun x bd ⟨_,_,_,_,_,e⟩=>by
 subst e;exact⟨stays.box (Eq.refl 3),trivial⟩
theorem akR(x:Int):-2<=x.tmod 3/\x.tmod 3<=2:=by cases x<;>simp[Int.tmod]<;>omega
def vn(m:Int)(es:List aV):Prop:=(∀e∈es,l7 e)/\(es.length:Int)<=m
theorem vn.take{m:Int}{es:List aV}(h:vn m es)(k:Nat):vn m (es.take k):=⟨fun e he=>h.1 e (List.mem_of_mem_take he),by have:=h.2;grind⟩
theorem vn.add{m:Int}{es:List aV}(h:vn m es){e:aV}(he:l7 e):vn (m+1) (es++[e]):=⟨fun x hx=>by
 rcases List.mem_append.1 hx with q|q
 ·exact h.1 x q
 grind,by have:=h.2;grind⟩
theorem vn.mono{m n:Int}{es:List aV}(h:vn m es)(To:m<=n):vn n es:=⟨h.1,Int.le_trans h.2 To⟩
theorem x_30{p:Prop}(c:p:=by intro r hr;simp[ah]at hr;rcases hr with h|h|h|h|h<;>(subst h;rfl)):p:=c
theorem akl(g:Value)(code:List Int)(i:Nat)(h m:Int)(hc:ahk code i)(hm:0<=m/\m<=100):GX prog 183 [.ptr 0 0 0,int m] [(0,ahm g code i h)] (DrX g code fun x ob2=>∃es,vn (5+m) es/\x=.own 50/\ob2=[(50,.ai 81 7 (ah fR es))]):=by
 refine GX.intro (rs:=[.tmp 4]) func183 rfl ntmps183 x_8 ⟨rfl,trivial⟩ ?_;intro L O w0;refine sL<|e9 Z<|nA<|lq (rd (x:=.agg [c6,c6,c6,c6,c6,c6,vB false]) (cP Z xF Z Z Z) Z)<|lq (rd (x:=.agg [c6,c6,c6,c6,c6,c6,vB false]) (cP Z xF Z Z Z) Z)<|lq (rd (x:=.agg [c6,c6,c6,c6,c6,c6,vB false]) (cP Z xF Z Z Z) Z)<|lq (rd (x:=.agg [c6,c6,c6,c6,c6,c6,vB false]) (cP Z xF Z Z Z) Z)<|aM Z ?_;refine alX [(0,0)] [] [0] func98 (ahp g code _ _ _ hc) x_15 (ahn) Z ?_;intro xz1 oz1 fa;obtain⟨i1,q1,qC,⟨n1,⟨na1,nb1⟩,rfl⟩,rfl⟩:=fa;refine bg Z<|aM Z ?_;refine alX [(0,0)] [] [0] func98 (ahp g code _ _ _ qC) x_15 (ahn) Z ?_;intro xz2 oz2 hz2;obtain⟨i2,q2,Cj,⟨n2,⟨na2,nb2⟩,rfl⟩,rfl⟩:=hz2;refine aM rfl ?_;refine alX [(0,0)] [] [0] func98 (ahp g code _ _ _ Cj) x_15 (ahn) Z ?_;intro xz3 oz3 hz3;obtain⟨i3,q3,hc3,⟨ahG,⟨na3,nb3⟩,rfl⟩,rfl⟩:=hz3;refine lq (rd (x:=.agg [c6,c6,c6,c6,c6,c6,vB false]) (cP rfl xF rfl rfl rfl) rfl) ?_;refine ab (zS 50 (ah fR [⟨1,0,0,0,100000,0,false⟩,⟨2,0,1,0,20000,10000,false⟩,⟨2,0,2,0,10000,20000,false⟩,⟨2,0,3,0,15000,15000,false⟩,⟨4,0,1+n1,0,n2,ahG,false⟩]) jk jl rfl x_30) Z<|lT [0,1,4,20] [0,50] ?_;refine bD Z<|Y ?_;refine aJ [0,1,4] [] (D:=Nat×Int×List aV) (fun d=>[(5,.own 50)]) (fun d=>[(0,ahm g code d.1 d.2.1),(50,.ai 81 7 (ah fR d.2.2))]) (fun d=>ahk code d.1/\vn 5 d.2.2) ?_ ?_
 ·refine sL<|aM Z ?_;refine alX [(0,0)] [] [0] func98 (ahp g code _ _ _ hc3) x_15 (ahn) Z ?_;intro xz4 oz4 hz4;obtain⟨i4,q4,hc4,⟨ahZ,⟨na4,nb4⟩,rfl⟩,rfl⟩:=hz4;refine ak Z<|Y<|cE rfl ?_ ?_
  ·intro V;refine aL<|bW Z<|aM Z ?_;refine alX [(0,0)] [] [0] func98 (ahp g code _ _ _ hc4) x_15 (ahn) Z ?_;intro xz5 oz5 hz5;obtain⟨i5,q5,hc5,⟨ahU,⟨na5,nb5⟩,rfl⟩,rfl⟩:=hz5;obtain⟨m5,rfl⟩:=Int.eq_ofNat_of_zero_le na5;refine ab (akn 50 rfl rfl x_3 jk rfl rfl ⟨_,rfl⟩ (by simp[ah];omega)) Z<|bD Z<|Y ?_;refine⟨(_,_,List.take m5 [⟨1,0,0,0,100000,0,false⟩,⟨2,0,1,0,20000,10000,false⟩,⟨2,0,2,0,10000,20000,false⟩,⟨2,0,3,0,15000,15000,false⟩,⟨4,0,1+n1,0,n2,ahG,false⟩]),⟨by assumption,vn.take (m:=5) ⟨by intro e he;simp at he;rcases he with h|h|h|h|h<;>(subst h;unfold l7 i64;dsimp only;omega),by simp⟩ _⟩,⟨rfl,trivial⟩,⟨rfl,(congrArg (AO.ai 81 7) (List.map_take).symm),trivial⟩,rfl,rfl⟩
  intro V;refine aK<|gT ?_;refine⟨(_,_,[⟨1,0,0,0,100000,0,false⟩,⟨2,0,1,0,20000,10000,false⟩,⟨2,0,2,0,10000,20000,false⟩,⟨2,0,3,0,15000,15000,false⟩,⟨4,0,1+n1,0,n2,ahG,false⟩]),⟨by assumption,⟨by intro e he;simp at he;rcases he with h|h|h|h|h<;>(subst h;unfold l7 i64;dsimp only;omega),by simp⟩⟩,⟨rfl,trivial⟩,⟨rfl,rfl,trivial⟩,rfl,rfl⟩
 intro ⟨iJ4,qJ4,esJ⟩ hJ4;dsimp only;obtain⟨ajM,ajN⟩:=hJ4;simp only at ajM ajN;refine aS<|sL<|aM Z<|ae Z<|bg Z ?_;refine alX [(0,0)] [] [0] func98 (ahp g code _ _ _ ajM) x_15 (ahn) Z ?_;intro xz6 oz6 hz6;obtain⟨i6,q6,hc6,⟨ahB,⟨na6,nb6⟩,rfl⟩,rfl⟩:=hz6;refine ao Z<|Y<|aB ?_;obtain⟨kk,uG⟩:=Int.eq_ofNat_of_zero_le na6;refine aW [0,4] [] (D:=Nat×Int×Nat×List aV) (fun d=>[(6,int (d.2.2.1:Int)),(5,.own 50)]) (fun d=>[(0,ahm g code d.1 d.2.1),(50,.ai 81 7 (ah fR d.2.2.2))]) (fun d=>ahk code d.1/\vn (5+m-d.2.2.1) d.2.2.2/\(d.2.2.1:Int)<=m) (fun d=>d.2.2.1) ((_,_,kk,esJ)) (⟨by assumption,ajN.mono (by dsimp only;omega),by dsimp only;omega⟩) ⟨(congrArg int uG),rfl,trivial⟩ ⟨rfl,rfl,trivial⟩ ?_;intro ⟨iL,qL,kL,esL⟩ hI;obtain⟨hcL,hwL,hkL⟩:=hI;simp only at hcL hwL hkL;dsimp only;refine aS<|sL<|ae Z<|ak Z<|Y<|cE rfl ?_ ?_
 ·intro h2;refine aK<|gT<|aS<|aB<|aS ?_;have hk1:1<=kL:=by have h:=h2;simp only[decide_eq_true_eq]at h;omega
  refine aL<|aM Z ?_;refine alX [(0,0)] [] [0] func104 (aim g code _ _ hcL) x_15 (ahn) Z ?_;intro xz7 oz7 hz7;obtain⟨i7,q7,hc7,⟨⟨va7,vb7,vc7,vd7,ve7,vf7,vg7⟩,hw7,rfl⟩,rfl⟩:=hz7;refine ab (zA 2007 jl Z) Z<|ab (zB 2007 mZ m0 Z) Z<|Y ?_;refine aJ [0,4,5,6,7] [50] (D:=Nat×Int×Ev7) (fun d=>[]) (fun d=>[(0,ahm g code d.1 d.2.1),(2007,ahy none d.2.2.1 d.2.2.2.1 d.2.2.2.2.1 d.2.2.2.2.2.1 d.2.2.2.2.2.2.1 d.2.2.2.2.2.2.2.1 d.2.2.2.2.2.2.2.2)]) (fun d=>ahk code d.1/\l7 (f5 d.2.2)) ?_ ?_
  ·refine sL<|aM Z ?_;refine alX [(0,0)] [] [0] func98 (ahp g code _ _ _ hc7) x_15 (ahn) Z ?_;intro xz8 oz8 hz8;obtain⟨i8,q8,hc8,⟨ahC,⟨na8,nb8⟩,rfl⟩,rfl⟩:=hz8;refine ak Z<|Y<|cE rfl ?_ ?_
   ·intro h3;refine sL<|aM Z ?_;refine alX [(0,0)] [] [0] func98 (ahp g code _ _ _ hc8) x_15 (ahn) Z ?_;intro xz9 oz9 hz9;obtain⟨i9,q9,hc9,⟨ahT,⟨na9,nb9⟩,rfl⟩,rfl⟩:=hz9;refine lT [0,4,5,6,7,42] [0,50,2007] ?_;refine bg Z<|aM Z ?_;refine alX [(0,0)] [] [0] func98 (ahp g code _ _ _ hc9) x_15 (ahn) Z ?_;intro aiW aiX ah0;obtain⟨i10,q10,aik,⟨n10,⟨ail,aiY⟩,rfl⟩,rfl⟩:=ah0;refine bg Z<|aM Z ?_;refine alX [(0,0)] [] [0] func98 (ahp g code _ _ _ aik) x_15 (ahn) Z ?_;intro akY akZ akS;obtain⟨i11,q11,akT,⟨n11,⟨ak0,ak1⟩,rfl⟩,rfl⟩:=akS;refine bg Z<|aM Z ?_;refine alX [(0,0)] [] [0] func98 (ahp g code _ _ _ akT) x_15 (ahn) Z ?_;intro ak2 ak3 akU;obtain⟨i12,q12,ak4,⟨n12,⟨ak5,ak6⟩,rfl⟩,rfl⟩:=akU;refine ak Z<|lq (rd (x:=iK) (cP Z xF Z Z Z) Z)<|ab (zB 2007 mZ m0 Z) Z<|Y<|aL<|lf 2 dn Z<|aj ac Z ?_;refine eo rfl ⟨rfl,by decide⟩ ?_;have ht3:=akR (1+n10);refine bg Z<|lf 3 fK Z<|ab (zB 2007 ca cb Z) Z<|lT [0,4,5,6,7] [0,50,2007] ?_;refine Y ?_;refine⟨(_,_,_,_,_,_,_,_,_),(by refine⟨by assumption,?_⟩;simp only[l7,i64,f5]at *;omega),trivial,⟨rfl,rfl,trivial⟩,rfl,rfl⟩
   intro h3;refine aK<|gT ?_;refine⟨(_,_,_,_,_,_,_,_,_),(by refine⟨by assumption,?_⟩;simp only[l7,i64,f5]at *;omega),trivial,⟨rfl,rfl,trivial⟩,rfl,rfl⟩
  intro ⟨iJ11,qJ11,ea11,eb11,ec11,ed11,ee11,ef11,eg11⟩ hJ11;dsimp only;obtain⟨ahR,ait⟩:=hJ11;replace ahR:ahk code iJ11:=ahR;unfold l7 i64 at ait;simp only[f5]at ait;refine aL<|bW Z<|aP iK dD Z ?_;refine ab (zS 2061 (ah fR [⟨ea11,eb11,ec11,ed11,ee11,ef11,eg11⟩]) jk jl rfl) Z<|ab (zP 50 jk jl sD rfl x_18 (by have:=hwL.2;simp[ah];omega)) Z<|bD Z<|lN<|gB<|gT<|aL<|ae Z<|bg Z<|ao Z<|Y ?_;refine⟨(_,_,kL-1,esL++[⟨ea11,eb11,ec11,ed11,ee11,ef11,eg11⟩]),⟨by assumption,(hwL.add (by unfold l7 i64;dsimp only;omega)).mono (by dsimp only;omega),by dsimp only;omega⟩,by dsimp only;omega,⟨(Eq.trans (b:=int _) rfl (congrArg int (by dsimp only;omega))),rfl,trivial⟩,⟨rfl,(congrArg (AO.ai 81 7) (fx fR _ [_]).symm),trivial⟩,rfl,rfl⟩
 intro h2;refine aE<|eT<|eT<|eB<|gA<|bW Z<|bD Z<|Y<|aR ?_;refine fN (.own 50) [(0,ahm g code _ _),(50,.ai 81 7 (ah fR esL))] ?_ rfl ⟨rfl,rfl,trivial⟩;exact⟨_,_,_,hcL,⟨esL,hwL.mono x_2,rfl,rfl⟩,rfl⟩

abbrev pm:aw:=⟨0,1,0,[],[],[]⟩
theorem FT:di pm:=⟨by simp,by simp,by simp,by simp⟩
theorem QC{x:aw}{es:List aV}(hw:di x)(we:∀e∈es,l7 e):di (sB x es).now:=by
 unfold sB;split
 ·have:=D9 hw we es.length (Nat.le_refl _);grind
 exact⟨by simp[rg],by simp[rg],by simp[rg],by simp[rg]⟩
section
variable {a b c:Int}{l:List be}{h:List eV}{i:List gz}
theorem mem_set{α:Type}{l:List α}{k:Nat}{x:α}{p:α->Prop}(h:∀y∈l,p y)(hx:p x):∀y∈l.set k x,p y:=fun y hy=>by
 grind
theorem di.D'(w:di ⟨a,b,c,l,h,i⟩){k:Nat}{x:be}(hx:qn x):di ⟨a,b,c,l.set k x,h,i⟩:=⟨mem_set w.ag hx,w.an,w.aq,by show (l.set k x).length<=_;rw[List.length_set];exact w.len⟩
theorem di.Tp(w:di ⟨a,b,c,l,h,i⟩){k:Nat}{x:eV}(hx:ue x):di ⟨a,b,c,l,h.set k x,i⟩:=⟨w.ag,mem_set w.an hx,w.aq,w.len⟩
theorem di.Tq(w:di ⟨a,b,c,l,h,i⟩){k:Nat}{x:gz}(hx:vo x):di ⟨a,b,c,l,h,i.set k x⟩:=⟨w.ag,w.an,mem_set w.aq hx,w.len⟩
theorem di.loc(w:di ⟨a,b,c,l,h,i⟩){k:Nat}(hk:k<l.length){n:Int}(hn:i64 n):di ⟨a,b,c,l.set k { l[k]with loc:=n },h,i⟩:=w.D' (by have:=w.ag _ (List.getElem_mem hk);grind[qn])
theorem di.cM(w:di ⟨a,b,c,l,h,i⟩){k:Nat}(hk:k<l.length){n:Int}(hn:i64 n):di ⟨a,b,c,l.set k { l[k]with cM:=n },h,i⟩:=w.D' (by have:=w.ag _ (List.getElem_mem hk);grind[qn])
theorem di.key(w:di ⟨a,b,c,l,h,i⟩){k:Nat}(hk:k<h.length){n:Int}(hn:i64 n):di ⟨a,b,c,l,h.set k { h[k]with key:=n },i⟩:=w.Tp (by have:=w.an _ (List.getElem_mem hk);grind[ue])
theorem di.to(w:di ⟨a,b,c,l,h,i⟩){k:Nat}(hk:k<i.length):di ⟨a,b,c,l,h,i.set k { i[k]with to:=i[k].fI }⟩:=w.Tq (by have:=w.aq _ (List.getElem_mem hk);grind[vo])
theorem di.swap(w:di ⟨a,b,c,l,h,i⟩)(hk:1<l.length):di ⟨a,b,c,(l.set 0 l[1]).set 1 (l[0]' x_2),h,i⟩:=(w.D' (w.ag _ (List.getElem_mem hk))).D' (w.ag _ (List.getElem_mem _))
end
theorem Tr:GC prog 168 [] [] (.agg [int 0,int 1,int 0,.p (.v (.slice none 0 0)),.p (.v (.slice none 0 0)),.p (.v (.slice none 0 0))]) []:=by
 refine GC.intro (rs:=[.cell 0 50 (some 6)]) func168 rfl ntmps168 x_8 ⟨rfl,rfl,cu,trivial⟩ ?_;intro L O w0;refine sL<|ab (zA 2000 mD Z) Z<|nA<|lq (rd (x:=.agg [c6,c6,c6,vV _,vV _,vV _]) (cP Z s6 Z Z Z) Z)<|ab (zB 2000 eu ew Z) Z<|Y<|aR ?_;trivial
theorem QL:GC prog 168 [] [] (cj pm) []:=GX.imp Tr (fun x bd ⟨e1,e2⟩=>by
 subst e1 e2;exact⟨cj pm,fe.agg (ff.cons (fe.refl _) (ff.cons (fe.refl _) (ff.cons (fe.refl _) (ff.cons (fe.nil _ _) (ff.cons (fe.nil _ _) (ff.cons (fe.nil _ _) ff.nil)))))),rfl,rfl⟩)
end Go.Proofs.YtflhgkmhmcfimaaGreat

