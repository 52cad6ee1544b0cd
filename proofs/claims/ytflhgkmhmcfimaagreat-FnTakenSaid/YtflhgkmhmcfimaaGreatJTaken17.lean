/- Texts of the proof of FnFnTaken, joined: FwdS, FwdT, AllF, Cur1, ED1, ED2, ED3, ED4, FwdU, PoEq, HubS. -/
import Derived.Test.YtflhgkmhmcfimaaGreatJTaken16
import Derived.Test.YtflhgkmhmcfimaaGreatJTaken15
import Derived.Test.YtflhgkmhmcfimaaGreatJTaken5
import Derived.Test.YtflhgkmhmcfimaaGreatKNum
import Derived.Test.YtflhgkmhmcfimaaGreatJTaken8
namespace Go.Proofs.YtflhgkmhmcfimaaGreat
set_option maxRecDepth 100000
open Tryz
open Go.RowKit
set_option linter.unusedSimpArgs false
set_option linter.unusedVariables false
theorem ov{k c:Int}{a:Acc}:∀ {l:List aO},(∀y∈l,cg a y.acc=true)->a.kind=k->a.ch=c->bU l k c=0
 |[],_,_,_=>rfl
 |x::l,h,V,h2=>by
  rw[fm,ov (fun y hy=>h y (by simp[hy])) V h2];have:=GZ (h x (by simp));unfold iS;omega
theorem Lo:∀ {a b:List aO},rk a->rk b->(∀k c,bU a k c=bU b k c)->a=b
 |[],[],_,_,_=>rfl
 |x::a,[],ha,_,h=>by
  have V:=h x.acc.kind x.acc.ch;rw[fm,ov (List.pairwise_cons.1 ha.1).1 rfl rfl,dU]at V;unfold iS at V;rw[if_pos ⟨rfl,rfl⟩]at V;exact absurd (by omega) (ha.2 x (by simp)).1
 |[],y::b,_,hb,h=>by
  have V:=h y.acc.kind y.acc.ch;rw[fm,ov (List.pairwise_cons.1 hb.1).1 rfl rfl,dU]at V;unfold iS at V;rw[if_pos ⟨rfl,rfl⟩]at V;exact absurd (by omega) (hb.2 y (by simp)).1
 |x::a,y::b,ha,hb,h=>by
  have pa:=List.pairwise_cons.1 ha.1;have pb:=List.pairwise_cons.1 hb.1;by_cases q1:cg x.acc y.acc=true
  ·have V:=h x.acc.kind x.acc.ch;rw[fm,ov pa.1 rfl rfl,ov (a:=x.acc) (l:=y::b) (fun z hz=>by
    rcases List.mem_cons.1 hz with rfl|hz
    ·exact q1
    exact vr q1 (pb.1 z hz)) rfl rfl]at V
   unfold iS at V;rw[if_pos ⟨rfl,rfl⟩]at V;exact absurd (by omega) (ha.2 x (by simp)).1
  by_cases q2:cg y.acc x.acc=true
  ·have V:=h y.acc.kind y.acc.ch;rw[fm (x:=y),ov pb.1 rfl rfl,ov (a:=y.acc) (l:=x::a) (fun z hz=>by
    rcases List.mem_cons.1 hz with rfl|hz
    ·exact q2
    exact vr q2 (pa.1 z hz)) rfl rfl]at V
   unfold iS at V;rw[if_pos ⟨rfl,rfl⟩]at V;exact absurd (by omega) (hb.2 y (by simp)).1
  have e:=Ea (Ah (by simpa using q1) (by simpa using q2));have V:=h x.acc.kind x.acc.ch;rw[fm,ov pa.1 rfl rfl,fm,ov pb.1 (by rw[e]) (by rw[e])]at V;unfold iS at V;rw[if_pos ⟨rfl,rfl⟩,if_pos ⟨by rw[e],by rw[e]⟩]at V;have G0:x=y:=by
   cases x;cases y;simp at e V;simp[e,V]
  subst G0;rw[Lo ha.tail hb.tail fun k c=>by
   have:=h k c;rw[fm,fm]at this;omega]
theorem SZ{l:cH}{p:dX}(h:iv l p=0):iG (iD l p).lines 0 320/\(∀k c,bU (iD l p).lines k c=bU l.lines k c+bU p.lines k c)/\(iD l p).last=p.id:=by
 obtain⟨V,h2,_,m,hm,hl⟩:=HV h;rw[G2 h hm];unfold eQ at V;unfold iL at h2;simp only[Bool.and_eq_true]at V h2;obtain⟨k1,k2⟩:=Ee (wV V.2) (wV h2.2) hm;exact⟨⟨k1.gS,k1.acc,k1.af,k1.sum,hl⟩,k2,rfl⟩
def qZ(l:List aO):Int:=bG (fun j:Nat=>bU l 6 (j+1)+bU l 7 (j+1)+bU l 8 (j+1)) (List.range 99)
theorem Gt{α:Type}{f g:α->Int}:∀(l:List α),bG (fun x=>f x+g x) l=bG f l+bG g l
 |[]=>rfl
 |x::l=>by rw[jT,jT,jT,Gt l];omega
theorem DW{α:Type}{f g:α->Int}:∀ {l:List α},(∀x∈l,f x=g x)->bG f l=bG g l
 |[],_=>rfl
 |x::l,h=>by rw[jT,jT,h x (by simp),DW fun y hy=>h y (by simp[hy])]
theorem MX(n:Int)(c:Int):∀(m:Nat),1<=c->c<=m->bG (fun j:Nat=>if c=(j:Int)+1 then n else 0) (List.range m)=n
 |0,V,h2=>by omega
 |m+1,V,h2=>by
  rw[List.range_succ];have e:bG (fun j:Nat=>if c=(j:Int)+1 then n else 0) (List.range m++[m])=bG (fun j:Nat=>if c=(j:Int)+1 then n else 0) (List.range m)+(if c=(m:Int)+1 then n else 0):=zc _ _ _;rw[e];by_cases q:c=(m:Int)+1
  ·rw[if_pos q,vM fun j hj=>?_,Int.zero_add];grind
  rw[if_neg q,MX n c m V (by omega),Int.add_zero]
def wT(x:aO):Int:=if x.acc.kind=1\/6<=x.acc.kind then x.af else 0
def kQ(l:List aO):Int:=bG wT l
theorem UJ:qZ []=0:=vM fun j _=>rfl
theorem UK(x:aO)(l:List aO)(hv:om x.acc):qZ (x::l)=qZ l+(if 6<=x.acc.kind then x.af else 0):=by
 have e:qZ (x::l)=bG (fun j:Nat=>(bU l 6 (j+1)+bU l 7 (j+1)+bU l 8 (j+1))+(if 6<=x.acc.kind/\x.acc.ch=(j:Int)+1 then x.af else 0)) (List.range 99):=DW fun j hj=>by
  rw[fm,fm,fm];unfold iS;rcases hv with⟨v1,v2,v3⟩|⟨v1,v2,v3,v4⟩;all_goals omega
 rw[e,Gt];show qZ l+_=_;by_cases q:6<=x.acc.kind
 ·rw[if_pos q];rcases hv with⟨v1,v2,v3⟩|⟨v1,v2,v3,v4⟩
  ·omega
  simp_all[MX]
 rw[if_neg q,vM fun j _=>if_neg fun z=>q z.1]
theorem DX{l:List aO}(hv:∀y∈l,om y.acc):bG o6 l=bU l 1 0+bU l 2 0+bU l 3 0+bU l 4 0+bU l 5 0+qZ l/\kQ l=bU l 1 0+qZ l:=by
 induction l with
 |nil=>trivial
 |cons x l ih=>
  obtain⟨i1,i2⟩:=ih (fun y hy=>hv y (by simp[hy]));have v:=hv x (by simp);have e1:bG o6 (x::l)=x.af+bG o6 l:=jT _ _ _;have e2:kQ (x::l)=wT x+kQ l:=jT _ _ _;rw[e1,e2,i1,i2,UK x l v];simp only[fm];unfold iS wT;rcases v with⟨v1,v2,v3⟩|⟨v1,v2,v3,v4⟩;all_goals omega
theorem UL{l:List aO}(h:l.Pairwise fun a b=>cg a.acc b.acc=true)(hv:∀y∈l,om y.acc):l.length<=302:=by
 have key:∀(l:List aO) (b:Int),(l.Pairwise fun a b=>cg a.acc b.acc=true)->(∀y∈l,om y.acc)->(∀y∈l,b<=(if y.acc.kind<=5 then y.acc.kind-1 else 5+(y.acc.kind-6)*99+(y.acc.ch-1)))->b<=302->(l.length:Int)<=302-b:=by
  intro l;induction l with
  |nil=>simp
  |cons x l ih=>
   intro b hp hv hb _;rw[List.pairwise_cons]at hp;have hx:=hb x (by simp);have vx:=hv x (by simp);have:=ih (b+1) hp.2 (fun y hy=>hv y (by simp[hy])) (fun y hy=>by
    have vy:=hv y (by simp[hy]);have hl:=hp.1 y hy;unfold cg at hl;simp only[Bool.or_eq_true,Bool.and_eq_true,decide_eq_true_eq,beq_iff_eq]at hl;unfold om at vx vy;split at hx<;>split<;>omega) (by unfold om at vx;split at hx<;>omega)
   grind
 have:=key l 0 h hv (fun y hy=>by
  grind[om]) (by omega)
 omega
theorem EO:∀(n:Nat) (a b:List aO),a.length+b.length<=n->rk a->rk b->(∀k c,dL (bU a k c+bU b k c)=true)->∃m,fM a b=some m
 |n,[],b,_,_,_,_=>⟨b,yo b⟩
 |n,x::a,[],_,_,_,_=>⟨_,z6 _⟩
 |0,x::a,y::b,hn,_,_,_=>by grind
 |n+1,x::a,y::b,hn,ha,hb,h=>by
  simp only[List.length_cons]at hn;have pa:=List.pairwise_cons.1 ha.1;have pb:=List.pairwise_cons.1 hb.1;have r0:dL 0=true:=cJ.2 (by omega);have cut:∀ {z:aO} {a' b':List aO},(∀k c,z.acc.kind=k->z.acc.ch=c->bU a' k c=0/\bU b' k c=0)->(∀k c,¬(z.acc.kind=k/\z.acc.ch=c)->bU a' k c+bU b' k c=bU (x::a) k c+bU (y::b) k c)->∀k c,dL (bU a' k c+bU b' k c)=true:=fun V h2 k c=>by
   rename_i z a' b';by_cases q:z.acc.kind=k/\z.acc.ch=c
   ·obtain⟨e1,e2⟩:=V k c q.1 q.2;rw[e1,e2];exact r0
   rw[h2 k c q];exact h k c
  by_cases q1:cg x.acc y.acc=true
  ·obtain⟨m,hm⟩:=EO n a (y::b) x_80 ha.tail hb (cut (z:=x) (fun k c e1 e2=>⟨ov pa.1 e1 e2,ov (a:=x.acc) (fun w hw=>by
    rcases List.mem_cons.1 hw with rfl|hw
    ·exact q1
    exact vr q1 (pb.1 w hw)) e1 e2⟩) (fun k c q=>by rw[fm x];unfold iS;rw[if_neg q];omega))
   exact⟨_,by rw[BI q1,hm];rfl⟩
  have q1:cg x.acc y.acc=false:=by simpa using q1
  by_cases q2:cg y.acc x.acc=true
  ·obtain⟨m,hm⟩:=EO n (x::a) b x_80 ha hb.tail (cut (z:=y) (fun k c e1 e2=>⟨ov (a:=y.acc) (fun w hw=>by
    rcases List.mem_cons.1 hw with rfl|hw
    ·exact q2
    exact vr q2 (pa.1 w hw)) e1 e2,ov pb.1 e1 e2⟩) (fun k c q=>by rw[fm y];unfold iS;rw[if_neg q];omega))
   exact⟨_,by rw[BJ q1 q2,hm];rfl⟩
  have q2:cg y.acc x.acc=false:=by simpa using q2
  have e:=Ea (Ah q1 q2);have hr:dL (x.af+y.af)=true:=by
   have:=h x.acc.kind x.acc.ch;rw[fm,ov pa.1 rfl rfl,fm,ov pb.1 (by rw[e]) (by rw[e])]at this;unfold iS at this;rw[if_pos ⟨rfl,rfl⟩,if_pos ⟨by rw[e],by rw[e]⟩,Int.add_zero,Int.add_zero]at this;exact this
  obtain⟨m,hm⟩:=EO n a b (by omega) ha.tail hb.tail (cut (z:=x) (fun k c e1 e2=>⟨ov pa.1 e1 e2,ov pb.1 (by rw[<-e];exact e1) (by rw[<-e];exact e2)⟩) (fun k c q=>by
   rw[fm x,fm y];unfold iS;rw[if_neg q,if_neg (fun z=>q ⟨by rw[e];exact z.1,by rw[e];exact z.2⟩)];omega))
  by_cases q4:x.af+y.af=0
  ·exact⟨m,by rw[Eb q1 q2 hr q4,hm]⟩
  exact⟨_,by rw[Ec q1 q2 hr q4,hm];rfl⟩
theorem MY{l:List aO}(hv:∀y∈l,om y.acc){k c:Int}(h:¬om ⟨k,c⟩):bU l k c=0:=vM fun y hy=>by
 unfold iS;rw[if_neg];rintro⟨e1,e2⟩;apply h;rw[<-e1,<-e2];exact hv y hy
theorem UM{x:aw}{e:aV}(h:dG x e=0)(hp:(dl x e).id≠0):iL (dl x e).id (dl x e).lines=true:=by
 obtain⟨q1,q2,q3,q4⟩:=UC h hp;have hn:=(mX (rS h).1).next;unfold iL;rw[q3.ok,q1,cJ.2 hn,cJ.2 ⟨by omega,by have:=q3.len;omega⟩];rfl
theorem UN{x:aw}{e:aV}{l:cH}(h:ra x l)(hc:dG x e=0)(hp:(dl x e).lines≠[])(hq:∀k,2<=k->k<=5->dL (bU l.lines k 0+bU (bz x e).l k 0)=true):iv l (dl x e)=0:=by
 have HD:(bz x e).l≠[]:=fun r=>hp (by rw[(ub hc r).2]);obtain⟨e1,e2⟩:=rU hc HD;have g:=MP hc;have ln:=Ab hc;have ze:=mX (Gy hc);have hid:(dl x e).id≠0:=by
  rw[e2];have:=(mX h.book).next;show x.next≠0;omega
 have hl:(dl x e).lines=(bz x e).l:=by rw[e2]
 have hw:(dp x e).aA=(bz x e).b.aA:=by rw[e1]
 have y':(dp x e).ag=(bz x e).b.ag:=by rw[e1]
 have ho:∀ch,fB (dp x e) ch=fB (bz x e).b ch:=fun ch=>by rw[e1];rfl
 obtain⟨m,hm⟩:=EO _ l.lines (bz x e).l (Nat.le_refl _) h.lF.lF ln.lF (fun k c=>by
  by_cases v:om ⟨k,c⟩
  ·rcases v with⟨v1,v2,v3⟩|⟨v1,v2,v3,v4⟩
   ·have v3:c=0:=v3;subst v3;by_cases k1:k=1
    ·subst k1;have:=ze.aA;rw[hw,g.za]at this;rw[h.za];unfold eY at this;exact cJ.2 (by omega)
    exact hq k (by simp at v1;omega) v2
   have v3:1<=c:=v3;have v4:c<=99:=v4;rcases(by simp at v1 v2;omega:k=6\/k=7\/k=8)with q|q|q
   ·subst q;rw[h.loc c ⟨v3,v4⟩,<-g.loc c,<-y'];unfold hP;rcases jt (dp x e).ag c with⟨_,r⟩|⟨i,d,_,r2,r3,_⟩
    ·rw[r];exact cJ.2 (by show -1125899906842624<=(0:Int)/\(0:Int)<=_;omega)
    rw[r3];have:=(ze.ch d (dB r2)).loc;unfold eY at this;exact cJ.2 (by omega)
   ·subst q;rw[h.gh c ⟨v3,v4⟩,g.gh c];exact cJ.2 (by omega)
   subst q;rw[h.out c ⟨v3,v4⟩,<-g.out c,<-ho];by_cases t:ed (dp x e).ag c
   ·obtain⟨d,hd,rfl⟩:=t;have k1:=ze.sum d hd;have k2:=ze.ch d hd;have k3:=ut ze.hs ze.cs d.id;have k4:=k2.loc;have k5:=k2.aC;have k6:=k2.size;unfold fB jh at *;unfold eY at *;exact cJ.2 (by omega)
   rw[(ze.none t).1];exact cJ.2 (by omega)
  rw[MY h.lF.acc v,MY ln.acc v];exact cJ.2 (by omega))
 obtain⟨k1,_⟩:=Ee h.lF ln hm;rw[<-hl]at hm;refine Gr h.ia (UM hc hid) ?_ hm (by have:=UL k1.gS k1.acc;omega);rw[e2,h.last];grind

structure MZ(x:aw)(e:aV):Prop where
 eq:bU (bz x e).l 2 0=if e.kind=1 then -e.af else 0
 inc:-2000001<=bU (bz x e).l 3 0/\bU (bz x e).l 3 0<=0
 yx:0<=bU (bz x e).l 4 0
 wO:bU (bz x e).l 5 0=0
structure Wl(K:Int)(x:aw)(l:cH)(n:Nat):Prop where
 oV:ra x l
 eq:-(200000+n*1000000)<=bU l.lines 2 0/\bU l.lines 2 0<=0
 inc:-(n*2000001)<=bU l.lines 3 0/\bU l.lines 3 0<=0
 yx:0<=bU l.lines 4 0
 wO:bU l.lines 5 0=0
 base:∀c∈x.ag,c.base<=1000000
 vd:∀h∈x.an,h.cW<=h.c9+2000001
 next:x.next<=10+n
 keys:∀k∈dN x,k<=K
theorem UO{b p a:Int}(hb:0<=b/\b<=1000000)(hp:0<=p/\p<=1000000)(ha:0<=a/\a<=1000000):0<=kG b p a/\kG b p a<=2000001:=by
 unfold kG;split
 ·unfold eM;split
  ·unfold zf;have V:0<=a*p:=Int.mul_nonneg ha.1 hp.1;have h2:a*p<=1000000*1000000:=Int.mul_le_mul ha.2 hp.2 hp.1 (by omega);omega
  omega
 omega
theorem outer{x:aw}{e:aV}(h:dG x e=0)(hk:e.kind≠3)(hh:∀h∈x.an,h.cW<=h.c9+2000001):MZ x e:=by
 obtain⟨V,h2,h3⟩:=rS h;have b:=mX V;have zero:∀ {l:List aO},l=[]->e.kind≠1->(bz x e).l=l->MZ x e:=fun e1 e2 e3=>by
  subst e1;exact⟨by rw[e3,if_neg e2];rfl,by grind[dU],by grind[dU],by rw[e3];rfl⟩
 by_cases k1:e.kind=1
 ·have hw:(bz x e).l=bR (bR [] 1 0 e.af) 2 0 (-e.af):=by rw[<-yY k1];rfl
  refine⟨?_,?_,?_,?_⟩<;>rw[hw]<;>simp only[fO,dU]<;>simp[k1]
 by_cases k2:e.kind=2
 ·by_cases q:gO x e=0
  ·have hw:(bz x e).l=bR (bR [] 6 e.ch e.af) 1 0 (-e.af):=by rw[<-xy k2,tK q]
   refine⟨?_,?_,?_,?_⟩<;>rw[hw]<;>simp only[fO,dU]<;>simp[k1]
  exact zero rfl k1 (by rw[<-xy k2,sK q])
 by_cases k4:e.kind=4
 ·exact zero rfl k1 (by rw[<-vK k4];grind[ou])
 by_cases k5:e.kind=5
 ·by_cases q:gg x e=0
  ·have hw:(bz x e).l=bR (bR [] 6 e.to (-e.af)) 8 e.to e.af:=by rw[<-xz k5,sR q];rfl
   refine⟨?_,?_,?_,?_⟩<;>rw[hw]<;>simp only[fO,dU]<;>simp[k1]
  exact zero rfl k1 (by rw[<-xz k5,jm q])
 by_cases k6:e.kind=6\/e.kind=7
 ·cases hy:x.an.find? (fun c=>c.key==e.key)with
  |none=>exact zero rfl k1 (by rw[<-uv k6,M0 hy])
  |some y=>
   have hm:=List.mem_of_find?_eq_some hy;have q:=b.hs y hm;have q2:=q.out;have q3:=hh y hm;have hw:bz x e=pN x (decide (e.kind=6)) y:=by rw[<-uv k6,HW hy]
   by_cases g:e.kind=6
   ·have zg:(bz x e).l=bR (bR (bR [] 3 0 (y.c9-y.cW)) 6 y.gh y.cW) 8 y.out (-y.c9):=by rw[hw,decide_eq_true g];rfl
    refine⟨?_,?_,?_,?_⟩<;>rw[zg]<;>simp only[fO,dU]<;>simp[k1]<;>omega
   have zg:(bz x e).l=bR (bR [] 6 y.out y.c9) 8 y.out (-y.c9):=by rw[hw,decide_eq_false g];rfl
   refine⟨?_,?_,?_,?_⟩<;>rw[zg]<;>simp only[fO,dU]<;>simp[k1]
 by_cases k8:e.kind=8
 ·exact zero rfl k1 (by rw[<-y7 k8];rfl)
 by_cases k9:e.kind=9
 ·by_cases q:fL x e=0
  ·have hw:(bz x e).l=bR (bR [] 6 e.ch (-eM e.af e.ay)) 8 e.ch (eM e.af e.ay):=by rw[<-t8 k9,uZ q];rfl
   refine⟨?_,?_,?_,?_⟩<;>rw[hw]<;>simp only[fO,dU]<;>simp[k1]
  exact zero rfl k1 (by rw[<-t8 k9,od q])
 have:=y8 h2;cases hy:x.aq.find? (fun c=>c.key==e.key)with
 |none=>exact zero rfl k1 (by rw[<-ua (by omega),M1 hy])
 |some y=>
  have hm:=List.mem_of_find?_eq_some hy;have q:=(b.cs y hm).ay;unfold eY at q;have hw:bz x e=mN x (decide (e.kind=10)) y:=by rw[<-ua (by omega),DZ hy]
  by_cases g:e.kind=10
  ·have zg:(bz x e).l=bR (bR (bR [] 4 0 y.ay) 6 y.to y.af) 8 y.fI (-y.af-y.ay):=by rw[hw,decide_eq_true g];rfl
   refine⟨?_,?_,?_,?_⟩<;>rw[zg]<;>simp only[fO,dU]<;>simp[k1];omega
  have zg:(bz x e).l=bR (bR [] 6 y.fI (y.af+y.ay)) 8 y.fI (-y.af-y.ay):=by rw[hw,decide_eq_false g];rfl
  refine⟨?_,?_,?_,?_⟩<;>rw[zg]<;>simp only[fO,dU]<;>simp[k1]
theorem HX{l:List be}{a:Int}{f:be->be}(hf:∀c,c.base<=1000000->(f c).base<=1000000)(h:∀c∈l,c.base<=1000000):∀c∈cC l a f,c.base<=1000000:=fun c hc=>by
 obtain⟨d,hd,rfl⟩:=Cs hc;grind
theorem AN{l:List be}{a b:Int}{f g:be->be}(hf:∀c,(f c).base=c.base)(hg:∀c,(g c).base=c.base)(h:∀c∈l,c.base<=1000000):∀c∈cC (cC l a f) b g,c.base<=1000000:=HX (fun c q=>by grind) (HX (fun c q=>by grind) h)
theorem UP{K:Int}{x:aw}{e:aV}(h:dG x e=0)(ha:e.af<=1000000)(AP:e.key<=K)(hb:∀c∈x.ag,c.base<=1000000)(hh:∀h∈x.an,h.cW<=h.c9+2000001)(jF:∀k∈dN x,k<=K) :
 (∀c∈(bz x e).b.ag,c.base<=1000000)/\(∀h∈(bz x e).b.an,h.cW<=h.c9+2000001)/\∀k∈dN (bz x e).b,k<=K:=by
 obtain⟨V,h2,h3⟩:=rS h
 have b:=mX V
 have mS:(eG x&&co e)=true:=by rw[V,h2];rfl
 have hw:(bz x e).c=0:=by rw[<-yA mS h3];exact h
 have am:=uu h2
 rw[cY,cY]at am
 by_cases k1:e.kind=1
 ·rw[<-yY k1];trivial
 by_cases k2:e.kind=2
 ·rw[<-xy k2]at hw ⊢
  by_cases q:gO x e=0
  ·rw[tK q]
   refine⟨fun c hc=>?_,hh,jF⟩
   rcases EP hc with r|rfl
   ·exact hb c r
   show (0:Int)<=1000000;omega
  grind[sK]
 by_cases k3:e.kind=3
 ·rw[<-yZ k3]at hw ⊢
  by_cases q:ir x e=0
  ·rw[yf q]
   exact⟨fun c hc=>hb c (List.mem_filter.1 hc).1,hh,jF⟩
  grind[tM]
 by_cases k4:e.kind=4
 ·rw[<-vK k4]
  unfold ou
  split
  ·grind
  exact⟨HX (fun c _=>ha) hb,hh,jF⟩
 by_cases k5:e.kind=5
 ·rw[<-xz k5]at hw ⊢
  by_cases q:gg x e=0
  ·rw[sR q]
   have UQ:cn x e<=e.af+2000001:=by
    have hc:(fz x.ag e.to).base<=1000000/\0<=(fz x.ag e.to).base/\0<=(fz x.ag e.to).br/\(fz x.ag e.to).br<=1000000:=by
     rcases jt x.ag e.to with⟨_,r⟩|⟨i,c,_,r2,r3,_⟩
     ·rw[r];exact⟨by decide,by decide,by decide,by decide⟩
     rw[r3];have k:=b.ch c (dB r2);have k2:=k.base;unfold eY at k2;exact⟨hb c (dB r2),k2.1,k.br.1,k.br.2⟩
    have hf:=UO (b:=(fz x.ag e.to).base) (p:=(fz x.ag e.to).br) (a:=e.af) ⟨hc.2.1,hc.1⟩ hc.2.2 ⟨am.1.1,ha⟩;unfold cn eM;split<;>omega
   refine⟨AN (fun _=>rfl) (fun _=>rfl) hb,fun y hy=>?_,fun k hk=>?_⟩
   ·rcases List.mem_append.1 hy with r|r
    ·exact hh y r
    rw[List.mem_singleton.1 r];exact UQ
   unfold dN mI at hk
   dsimp only at hk
   rw[List.map_append,List.append_assoc]at hk
   rcases List.mem_append.1 hk with r|r
   ·exact jF k (List.mem_append_left _ r)
   rcases List.mem_append.1 r with r|r
   ·simp at r;omega
   exact jF k (List.mem_append_right _ r)
  grind[jm]
 by_cases k6:e.kind=6\/e.kind=7
 ·rw[<-uv k6]
  unfold mR
  split
  ·rename_i y hy
   have my:∀z∈jS x.an y.key,z∈x.an:=fun z hz=>(List.mem_filter.1 hz).1
   have xk:∀k∈(jS x.an y.key).map (fun h=>h.key)++x.aq.map (fun h=>h.key),k<=K:=fun k hk=>by
    rcases List.mem_append.1 hk with r|r
    ·obtain⟨z,hz,rfl⟩:=List.mem_map.1 r;exact jF _ (List.mem_append_left _ (List.mem_map_of_mem (my z hz)))
    exact jF k (List.mem_append_right _ r)
   unfold pN
   split
   ·exact⟨AN (fun _=>rfl) (fun _=>rfl) hb,fun z hz=>hh z (my z hz),xk⟩
   exact⟨AN (fun _=>rfl) (fun _=>rfl) hb,fun z hz=>hh z (my z hz),xk⟩
  grind
 by_cases k8:e.kind=8
 ·rw[<-y7 k8]
  refine⟨fun c hc=>?_,fun z hz=>?_,fun k hk=>?_⟩
  ·obtain⟨d,hd,rfl⟩:=List.mem_map.1 hc
   grind[l8]
  ·obtain⟨d,hd,rfl⟩:=List.mem_map.1 hz
   exact hh d hd
  refine jF k ?_
  unfold dN p' at hk
  dsimp only at hk
  rw[List.map_map]at hk
  exact hk
 by_cases k9:e.kind=9
 ·rw[<-t8 k9]at hw ⊢
  by_cases q:fL x e=0
  ·rw[uZ q]
   refine⟨AN (fun _=>rfl) (fun _=>rfl) hb,hh,fun k hk=>?_⟩
   unfold dN oH at hk
   dsimp only at hk
   rw[List.map_append]at hk
   rcases List.mem_append.1 hk with r|r
   ·exact jF k (List.mem_append_left _ r)
   rcases List.mem_append.1 r with r|r
   ·exact jF k (List.mem_append_right _ r)
   simp at r;omega
  grind[od]
 have:=y8 h2
 rw[<-ua (by omega)]
 unfold nm
 split
 ·rename_i y hy
  have xk:∀k∈x.an.map (fun h=>h.key)++(jA x.aq y.key).map (fun h=>h.key),k<=K:=fun k hk=>by
   rcases List.mem_append.1 hk with r|r
   ·exact jF k (List.mem_append_left _ r)
   obtain⟨z,hz,rfl⟩:=List.mem_map.1 r;exact jF _ (List.mem_append_right _ (List.mem_map_of_mem (List.mem_filter.1 hz).1))
  unfold mN
  split
  ·exact⟨AN (fun _=>rfl) (fun _=>rfl) hb,hh,xk⟩
  exact⟨AN (fun _=>rfl) (fun _=>rfl) hb,hh,xk⟩
 grind
theorem Gx{x:aw}{e:aV}(h:dG x e=0):(dp x e).ag=(bz x e).b.ag/\(dp x e).an=(bz x e).b.an/\(dp x e).aq=(bz x e).b.aq/\(dp x e).next<=x.next+1:=by
 by_cases r:(bz x e).l=[]
 ·rw[(ub h r).1];exact⟨rfl,rfl,rfl,by rw[xA];omega⟩
 rw[(rU h r).1];exact⟨rfl,rfl,rfl,by grind[xA]⟩
theorem Wl.step{K:Int}{x:aw}{l l':cH}{n:Nat}{e:aV}(h:Wl K x l n)(hc:dG x e=0)(hk:e.kind≠3)(ha:e.af<=1000000)(AP:e.key<=K)(hl:ra (dp x e) l')(hs:∀k c,bU l'.lines k c=bU l.lines k c+bU (bz x e).l k c):Wl K (dp x e) l' (n+1):=by
 have o:=outer hc hk h.vd;obtain⟨s1,s2,s3⟩:=UP hc ha AP h.base h.vd h.keys;obtain⟨p1,p2,p3,p4⟩:=Gx hc;have am:=uu (rS hc).2.1;rw[cY,cY]at am;have e1:=h.eq;have e2:=h.inc;have e3:=h.yx;have e4:=h.wO;have e5:=h.next;have o1:=o.eq;have o2:=o.inc;have o3:=o.yx;have o4:=o.wO;refine⟨hl,?_,?_,?_,?_,by rw[p1];exact s1,by rw[p2];exact s2,by omega,fun k hk=>s3 k ?_⟩
 ·rw[hs,o1];push_cast;split<;>omega
 ·rw[hs];push_cast;omega
 all_goals grind[dN]
theorem Wl.UR{K:Int}{x:aw}{l:cH}{n:Nat}(h:Wl K x l n):bU l.lines 4 0<=200000+n*3000001:=by
 have t:=(DX h.oV.lF.acc).1;have t0:bG o6 l.lines=0:=h.oV.lF.sum;have b:=mX h.oV.book;have hw:=b.aA;rw[<-h.oV.za]at hw;unfold eY at hw;have hS:0<=qZ l.lines:=by
  unfold qZ;have key:∀(m:List Nat),(∀j∈m,j<99)->0<=bG (fun j:Nat=>bU l.lines 6 (j+1)+bU l.lines 7 (j+1)+bU l.lines 8 (j+1)) m:=by
   intro m;induction m with
   |nil=>intro _;exact Int.le_refl _
   |cons j m ih=>
    intro hm;rw[jT];have hj:=hm j (by simp);have i1:=ih (fun z hz=>hm z (by simp[hz]));have hc:1<=(j:Int)+1/\(j:Int)+1<=99:=by omega
    rw[h.oV.loc _ hc,h.oV.gh _ hc,h.oV.out _ hc];have l1:0<=hP x.ag ((j:Int)+1):=by
     unfold hP;rcases jt x.ag ((j:Int)+1)with⟨_,r⟩|⟨i,d,_,r2,r3,_⟩
     ·rw[r];trivial
     rw[r3];have:=(b.ch d (dB r2)).loc;grind[eY]
    have l2:0<=fB x ((j:Int)+1):=by
     have:=ut b.hs b.cs ((j:Int)+1);unfold fB;omega
    omega
  exact key _ (fun j hj=>List.mem_range.1 hj)
 have e1:=h.eq;have e2:=h.inc;have e3:=h.wO;omega
theorem Wl.SY{K:Int}{x:aw}{l:cH}{n:Nat}{e:aV}(h:Wl K x l n)(hn:n<=100)(hc:dG x e=0)(hk:e.kind≠3)(hp:(dl x e).lines≠[])(ha:e.af<=1000000)(hr:bU (bz x e).l 4 0<=1000000000):iv l (dl x e)=0:=by
 have o:=outer hc hk h.vd;have am:=uu (rS hc).2.1;rw[cY,cY]at am;have e1:=h.eq;have e2:=h.inc;have e3:=h.yx;have e4:=h.wO;have e5:=h.UR;have o1:=o.eq;have o2:=o.inc;have o3:=o.yx;have o4:=o.wO;refine UN h.oV hc hp fun k k2 k5=>cJ.2 ?_;grind

abbrev BZ(r:fg):AV:=.au [cj r.now,.p (.ab 92 2 (qI r.ps)),.p (.ab 3 1 (ah kt r.jD))]
theorem LC{f:FuncId}{args:List AV}{r:fg}(h:GN prog f args [] [] (GW r)):GC prog f args [] (BZ r) []:=
 (GX.frozen (Z:=fun y=>y=BZ r) (show GX prog f args [] _ from h) fun x ob ⟨l1,F1,hs,hF,hM,e,⟨vs,hv,e1,e2,e3⟩⟩=>by
   subst e e1 e2 e3;refine⟨BZ r,?_,rfl⟩;have hT:Tl (bx (Ag r vs++je 1000000 (fZ vs r.ps))) (fZ vs r.ps):=by
    rw[Gm rfl];exact Tl.tl hF
   exact Still.au (.cons (Still.agg (.cons (Still.p _) (.cons (Still.p _) (.cons (Still.p _) (.cons (Still.row (id:=1) (e:=⟨159,none⟩) (sz:=7) (rows:=ah aX r.now.ag) rfl) (.cons (Still.row (id:=2) (e:=⟨218,none⟩) (sz:=7) (rows:=ah go r.now.an) rfl) (.cons (Still.row (id:=3) (e:=⟨220,none⟩) (sz:=5) (rows:=ah iX r.now.aq) rfl) .nil)))))))
    (.cons (Still.own (id:=14) (e:=⟨92,none⟩) (sz:=2) (rows:=lH vs r.ps) rfl (Tk hT hv (s:=0) fun i hi=>by simp)) (.cons (Still.row (id:=15) (e:=⟨3,none⟩) (sz:=1) (rows:=ah kt r.jD) rfl) .nil)))).mono fun y o ⟨e1,e2⟩=>⟨e2,e1⟩
theorem QI(x:aw)(es:List aV)(hw:di x)(we:∀e∈es,l7 e)(hm:es.length<=1048576):GC prog 35 [cj x,.p (.ab 81 7 (ah fR es))] [] (BZ (sB x es)) []:=LC (Tm x es hw we hm)
theorem QM(x:aw)(es:List aV)(hw:di x)(we:∀e∈es,l7 e)(hm:es.length<=1048576):GC prog 167 [cj x,.p (.ab 81 7 (ah fR es))] [] (BZ (sB x es)) []:=LC (Tn x es hw we hm)

theorem akO(x:Int)(m:Nat)(hm:m<9223372036854775808):0<=bits BinOp.and IntKind.i64 x (m:Int)/\bits BinOp.and IntKind.i64 x (m:Int)<=m:=by
 have V:(BitVec.ofInt 64 x &&& BitVec.ofInt 64 (m:Int)).toNat<=m:=by
  rw[BitVec.toNat_and];have h2:(BitVec.ofInt 64 (m:Int)).toNat=m:=by
   rw[BitVec.toNat_ofInt];omega
  rw[h2];exact Nat.and_le_right
 have h3:bits BinOp.and IntKind.i64 x (m:Int)=IntKind.i64.wrap ((BitVec.ofInt 64 x &&& BitVec.ofInt 64 (m:Int)).toNat:Int):=rfl;rw[h3];generalize (BitVec.ofInt 64 x &&& BitVec.ofInt 64 (m:Int)).toNat=z at *;have h4:IntKind.i64.wrap (z:Int)=z:=by
  simp[IntKind.wrap,IntKind.bits,IntKind.signed];omega
 rw[h4];omega
abbrev ahN(b:Int):List Value:=[.int .u8 b]
abbrev ahm(g:Value)(code:List Int)(i:Nat)(h:Int):AO:=.box 224 (some g) [.p (.ab 5 1 (ah ahN code)),int (i:Int),int h]
def ahk(code:List Int)(i:Nat):Prop:=i<=code.length/\code.length<=1048576
def DrR(g:Value)(code:List Int)(R:AV->Prop):AV->List (Nat×AO)->Prop:=fun x ob=>∃i h,ahk code i/\R x/\ob=[(0,ahm g code i h)]
def DrI(R:Int->Prop):AV->Prop:=fun x=>∃n,R n/\x=int n
theorem ahn{g:Value}{code:List Int}{i:Nat}{h:Int}{R:AV->Prop}:∀x bd,DrR g code R x bd->pins [(0,ahm g code i h)] bd [0]:=fun x bd ⟨_,_,_,_,e⟩=>by
 subst e;exact⟨stays.box (Eq.refl 3),trivial⟩
theorem ajD(x:Int)(m:Nat)(hm:m<9223372036854775808):0<=bits .and .i64 x (m:Int)/\bits .and .i64 x (m:Int)<=m:=akO x m hm
theorem ajE{n m:Int}(h0:0<=n)(hm:1<=m):0<=n.tmod m/\n.tmod m<m:=⟨Int.tmod_nonneg _ h0,Int.tmod_lt_of_pos _ (by omega)⟩

set_option maxHeartbeats 16000000
set_option maxRecDepth 100000
theorem akD(code:List Int)(hm:code.length<=1048576):GX prog 96 [.p (.ab 5 1 (ah ahN code))] [] (fun x ob=>∃h,x=.ptr 31 0 0/\ob=[(31,.box 224 none [.p (.ab 5 1 (ah ahN code)),int ((0:Nat):Int),int h])]):=by
 refine GX.intro (rs:=[.tmp 2]) func96 rfl ntmps96 x_7 ⟨rfl,trivial⟩ ?_;intro L O w0;refine sL<|e9 Z<|nA<|bm Z<|ba kE Z ?_;refine eo rfl ⟨rfl,ce (by rw[ap];unfold i64;omega)⟩<|ao Z<|Y<|aS<|sL<|ao Z<|Y<|aB ?_;refine aW [0,2] [] (D:=Nat×Int) (fun d=>[(4,int (d.1:Int)),(3,int d.2)]) (fun d=>[]) (fun d=>d.1<=code.length) (fun d=>code.length-d.1) ((0,_)) (Nat.zero_le _) ⟨rfl,rfl,trivial⟩ trivial ?_;intro ⟨j,q⟩ hI;replace hI:j<=code.length:=hI;refine aS<|sL<|ae Z<|bm Z<|ba kE Z<|ak Z<|aQ Z ?_;refine AL.bool (t:=12) rfl ?_ ?_
 ·intro V;refine ae Z<|ak Z<|bj Z<|Y ?_;refine AW.cond rfl ?_ ?_
  ·intro h2;refine aK<|gT<|aS<|aB<|aL<|ae Z<|lq (rd (x:=U _ _) (kg Z Z Z (Fd Z) Z) Z)<|bm Z<|ae Z ?_;have hj:j<code.length:=by have h:=V;rw[ap]at h;simp only[decide_eq_true_eq,Bool.and_eq_true]at h;omega
   refine li j fh Z (bS hj)<|oy tf Z<|lq (rd (x:=U _ _) (me Z pK lM Z) Z)<|lq (rd (x:=U _ _) (kg Z Z Z (N7 Z) Z) Z)<|lq (rd (x:=U _ _) (kg Z Z Z (N7 Z) Z) Z)<|lq (rd (x:=U _ _) (kg Z Z Z (N8 Z) Z) Z)<|ao Z<|lN<|gB<|gT<|aL<|ae Z<|bg Z<|ao Z<|Y ?_;refine⟨(j+1,_),hj,by show code.length-(j+1)<code.length-j;omega,x_84,trivial,rfl,rfl⟩
  intro h2;refine aE<|eT<|eT<|eB<|gA<|bm Z<|ae Z<|lT [2,28,29] [] ?_;refine lq (rd (x:=.agg [vL _ _ _,U _ _,U _ _]) (cP Z ajw Z Z Z) Z)<|ab (zX 31 Z) Z<|lC Z<|Y<|aR ?_;refine fN (.ptr 31 0 0) [(31,.box 224 none [.p (.ab 5 1 (ah ahN code)),int ((0:Nat):Int),int q])] ?_ rfl ⟨rfl,trivial⟩;exact⟨_,rfl,rfl⟩
 intro V;refine aa Z<|aa Z<|bL Z<|Y<|aN Z<|aE<|eT<|eT<|eB<|gA<|bm Z<|ae Z<|lq (rd (x:=.agg [vL _ _ _,U _ _,U _ _]) (cP Z ajw Z Z Z) Z)<|ab (zX 31 Z) Z<|lC Z<|Y<|aR ?_;refine fN (.ptr 31 0 0) [(31,.box 224 none [.p (.ab 5 1 (ah ahN code)),int ((0:Nat):Int),int q])] ?_ rfl ⟨rfl,trivial⟩;exact⟨_,rfl,rfl⟩
theorem aip(g:Value)(code:List Int)(i:Nat)(h:Int)(hc:ahk code i):GX prog 184 [.ptr 0 0 0] [(0,ahm g code i h)] (DrR g code (DrI fun n=>0<=n/\n<=255)):=by
 refine GX.intro (rs:=[.tmp 2]) func184 rfl ntmps184 x_7 ⟨rfl,trivial⟩ ?_;intro L O w0;refine sL<|ao Z<|nA<|aM Z<|aM Z<|lc Z<|lf 2 aiz Z<|aj ac Z<|lq (rd (x:=U _ _) (kg Z Z Z (Fd Z) Z) Z)<|lq (rd (x:=U _ _) (kg Z Z Z (N7 Z) Z) Z)<|lc Z<|lf 2 aiz Z<|ab (zB 0 ca cb Z) Z<|Y<|aS<|aF []<|pq 0 (dJ Z)<|pq 1 (qc Z)<|pq 2 (qf 2 aiz Z)<|sq 3 (aZ ac Z) ?_;refine sq 4 (iC rfl ⟨rfl,by decide,by decide⟩)<|vq 5 (cG rfl)<|vq 6 (rc rfl)<|vq 7 (rf 2 aiz rfl)<|vq 8 (aZ ac rfl) ?_;refine vq 9 (iC rfl ⟨rfl,by decide,by decide⟩)<|vq 10 (rd (x:=U _ _) (kg rfl rfl rfl (akM rfl) rfl) rfl)<|vq 11 (rd (x:=U _ _) (kg rfl rfl rfl (N8 rfl) rfl) rfl)<|vq 12 (j8 rfl)<|fD<|gT<|aS<|aS<|aF []<|pq 0 (dJ rfl)<|pq 1 (qc rfl)<|pq 2 (qf 1 aiy rfl)<|sq 3 (aZ ac rfl)<|vq 4 (cG rfl)<|vq 5 (rc rfl)<|fT [0,2,3,28,30] [0] ?_;refine vq 6 (rf 0 ajv Z)<|vq 7 (jj kb Z)<|vq 8 (le kE Z)<|vq 9 (dt Z)<|fD<|gT ?_;refine AW.cond rfl ?_ ?_
 ·intro V;refine aS<|aF []<|pq 0 (gL (U _ _) Z)<|pq 1 (dJ Z)<|pq 2 (qc Z)<|pq 3 (qf 0 ajv Z)<|sq 4 (jj kb Z)<|vq 5 (cG Z)<|vq 6 (rc Z)<|vq 7 (rf 1 aiy Z)<|vq 8 (aZ ac Z) ?_;have hi:i<code.length:=by have h:=V;rw[ap]at h;simp only[decide_eq_true_eq]at h;omega
  refine vq 9 (ri i fh Z (bS hi))<|vq 10 (qU tf Z)<|vq 11 (rd (x:=U _ _) (me Z pK lM Z) Z)<|vq 12 (rd (x:=U _ _) (kg Z Z Z (N7 Z) Z) Z)<|vq 13 (rd (x:=U _ _) (kg Z Z Z (N8 Z) Z) Z)<|vq 14 (j8 Z)<|fD<|gT<|aL<|aM Z<|aM Z<|lc Z<|lf 1 aiy Z<|aj ac Z ?_;refine eo rfl ⟨rfl,ce (by unfold i64;have:=hc.2;omega)⟩<|lc Z<|lf 1 aiy Z<|ab (zB 0 ca cb rfl) Z<|lT [2,3] [0] ?_;refine nA<|ae Z<|ao Z<|Y<|aR ?_;refine fN (int _) [(0,ahm g code (i+1) _)] ?_ rfl ⟨(congrArg (fun z:Int=>AO.box 224 (some g) [.p (.ab 5 1 (ah ahN code)),int z,int _]) (by omega)),trivial⟩;exact⟨i+1,_,⟨hi,hc.2⟩,⟨_,ajD _ 255 (by decide),rfl⟩,rfl⟩
 intro V;refine aK<|gA<|ae Z<|ao Z<|Y<|aR ?_;refine fN (int _) [(0,ahm g code i _)] ?_ rfl ⟨rfl,trivial⟩;exact⟨i,_,hc,⟨_,ajD _ 255 (by decide),rfl⟩,rfl⟩
theorem x_9{p:Prop}(c:p:=by exact ⟨⟨0,rfl,rfl⟩,trivial⟩):p:=c
theorem ahp(g:Value)(code:List Int)(i:Nat)(h m:Int)(hc:ahk code i):GX prog 98 [.ptr 0 0 0,int m] [(0,ahm g code i h)] (DrR g code (DrI fun n=>0<=n/\(n<m\/m<=0/\n=0))):=by
 refine GX.intro (rs:=[.tmp 4]) func98 rfl ntmps98 x_7 ⟨rfl,trivial⟩ ?_;intro L O w0;refine sL<|ao Z<|Y<|aS<|sL<|ae Z<|ak Z<|Y ?_;refine AW.cond rfl ?_ ?_
 ·intro V;refine sL<|ao Z<|Y<|aR<|rT ?_;have Ej:m<=0:=by have h:=V;simpa using h
  refine fN (int 0) [(0,ahm g code i h)] ?_ rfl ⟨rfl,trivial⟩;exact⟨i,h,hc,⟨0,⟨by omega,.inr ⟨Ej,rfl⟩⟩,rfl⟩,rfl⟩
 intro V;refine aK<|gT<|aS<|sL<|ae Z<|ak Z<|Y ?_;refine AW.cond rfl ?_ ?_
 ·intro h2;refine sL<|aM Z ?_;refine alX [(0,0)] [] [0] func184 (aip g code _ _ hc) x_9 (ahn) Z ?_;intro xz1 oz1 fa;obtain⟨i1,q1,qC,⟨n1,⟨na1,nb1⟩,rfl⟩,rfl⟩:=fa;refine ae rfl ?_;refine eo rfl ⟨rfl,by have h:=V;simp only[decide_eq_false_iff_not]at h;omega⟩<|ao Z<|Y<|aR<|rT ?_;have hm1:1<=m:=by have h:=V;simp only[decide_eq_false_iff_not]at h;omega
  obtain⟨z1,z2⟩:=ajE (n:=n1) (m:=m) (by omega) hm1;refine fN (int (n1.tmod m)) [(0,ahm g code i1 q1)] ?_ rfl ⟨rfl,trivial⟩;exact⟨i1,q1,qC,⟨_,⟨z1,.inl z2⟩,rfl⟩,rfl⟩
 intro h2;refine aK<|gA<|aM Z ?_;refine alX [(0,0)] [] [0] func184 (aip g code _ _ hc) x_9 (ahn) Z ?_;intro xz2 oz2 hz2;obtain⟨i2,q2,Cj,⟨n2,⟨na2,nb2⟩,rfl⟩,rfl⟩:=hz2;refine ao Z<|nA<|aM Z ?_;refine alX [(0,0)] [] [0] func184 (aip g code _ _ Cj) x_9 (ahn) Z ?_;intro xz3 oz3 hz3;obtain⟨i3,q3,hc3,⟨ahG,⟨na3,nb3⟩,rfl⟩,rfl⟩:=hz3;refine lT [0,1,4,5,20] [0] ?_;refine ao Z<|nA<|aM Z ?_;refine alX [(0,0)] [] [0] func184 (aip g code _ _ hc3) x_9 (ahn) Z ?_;intro xz4 oz4 hz4;obtain⟨i4,q4,hc4,⟨ahZ,⟨na4,nb4⟩,rfl⟩,rfl⟩:=hz4;refine ao Z<|nA<|aM Z ?_;refine alX [(0,0)] [] [0] func184 (aip g code _ _ hc4) x_9 (ahn) Z ?_;intro xz5 oz5 hz5;obtain⟨i5,q5,hc5,⟨ahU,⟨na5,nb5⟩,rfl⟩,rfl⟩:=hz5;refine ao Z<|nA<|ae Z<|bg Z<|ae Z<|bg Z<|bg Z<|ae Z<|bg Z<|bg Z<|ae Z<|bg Z<|ae Z ?_;refine eo rfl ⟨rfl,by have h:=V;simp only[decide_eq_false_iff_not]at h;omega⟩<|ao Z<|Y<|aR ?_;have hm1:1<=m:=by have h:=V;simp only[decide_eq_false_iff_not]at h;omega
 obtain⟨z1,z2⟩:=ajE (n:=(n2*16777216+ahG*65536+ahZ*256+ahU)) (m:=m) (by omega) hm1;refine fN (int ((n2*16777216+ahG*65536+ahZ*256+ahU).tmod m)) [(0,ahm g code i5 q5)] ?_ rfl ⟨rfl,trivial⟩;exact⟨i5,q5,hc5,⟨_,⟨z1,.inl z2⟩,rfl⟩,rfl⟩
theorem akP{n:Int}(h0:0<=n)(V:n<51):0<1*(2:Int) ^ n.toNat/\1*(2:Int) ^ n.toNat<=1125899906842624:=by
 obtain⟨k,rfl⟩:=Int.eq_ofNat_of_zero_le h0;have hk:k<51:=by omega
 have e:((k:Int)).toNat=k:=Int.toNat_natCast k;rw[e,Int.one_mul];refine⟨Int.pow_pos (by decide),?_⟩;have h2:(2:Nat) ^ k<=2 ^ 50:=Nat.pow_le_pow_right (by decide) (by omega);have h3:((2 ^ k:Nat):Int)<=((2 ^ 50:Nat):Int):=Int.ofNat_le.2 h2;rw[Int.natCast_pow]at h3;have h4:((2 ^ 50:Nat):Int)=1125899906842624:=by decide
 omega
theorem x_87{p:Prop}(c:p:=by exact ⟨_,by unfold i64;omega,rfl⟩):p:=c
theorem ah9(g:Value)(code:List Int)(i:Nat)(h:Int)(hc:ahk code i):GX prog 193 [.ptr 0 0 0] [(0,ahm g code i h)] (DrR g code (DrI i64)):=by
 refine GX.intro (rs:=[.tmp 2]) func193 rfl ntmps193 x_7 ⟨rfl,trivial⟩ ?_;intro L O w0;refine sL<|ao Z<|nA<|aM Z ?_;refine alX [(0,0)] [] [0] func98 (ahp g code _ _ _ hc) x_9 (ahn) Z ?_;intro xz1 oz1 fa;obtain⟨i1,q1,qC,⟨n1,⟨na1,nb1⟩,rfl⟩,rfl⟩:=fa;refine ao Z<|Y<|aS<|sL<|ae Z<|ak Z<|Y ?_;refine AW.cond rfl ?_ ?_
 ·intro V;refine sL<|aM Z ?_;refine alX [(0,0)] [] [0] func98 (ahp g code _ _ _ qC) x_9 (ahn) Z ?_;intro xz2 oz2 hz2;obtain⟨i2,q2,Cj,⟨n2,⟨na2,nb2⟩,rfl⟩,rfl⟩:=hz2;refine bg Z<|ao Z<|Y<|aR<|rT ?_;refine fN (int _) [(0,ahm g code i2 q2)] ?_ rfl ⟨rfl,trivial⟩;exact⟨i2,q2,Cj,x_87,rfl⟩
 intro V;refine aK<|gT<|aS<|sL<|ae Z<|ak Z<|Y ?_;refine AW.cond rfl ?_ ?_
 ·intro h2;refine sL<|aM Z ?_;refine alX [(0,0)] [] [0] func98 (ahp g code _ _ _ qC) x_9 (ahn) Z ?_;intro xz3 oz3 hz3;obtain⟨i3,q3,hc3,⟨ahG,⟨na3,nb3⟩,rfl⟩,rfl⟩:=hz3;refine lT [0,2,3,14] [0] ?_;refine bg Z<|ao Z<|Y<|aR<|rT ?_;refine fN (int _) [(0,ahm g code i3 q3)] ?_ rfl ⟨rfl,trivial⟩;exact⟨i3,q3,hc3,x_87,rfl⟩
 intro h2;refine aK<|gT<|aS<|sL<|ae Z<|ak Z<|Y ?_;refine AW.cond rfl ?_ ?_
 ·intro h3;refine sL<|aM Z ?_;refine alX [(0,0)] [] [0] func98 (ahp g code _ _ _ qC) x_9 (ahn) Z ?_;intro xz4 oz4 hz4;obtain⟨i4,q4,hc4,⟨ahZ,⟨na4,nb4⟩,rfl⟩,rfl⟩:=hz4;refine bg Z<|ao Z<|Y<|aR<|rT ?_;refine fN (int _) [(0,ahm g code i4 q4)] ?_ rfl ⟨rfl,trivial⟩;exact⟨i4,q4,hc4,x_87,rfl⟩
 intro h3;refine aK<|gT<|aS<|sL<|ae Z<|ak Z<|Y ?_;refine AW.cond rfl ?_ ?_
 ·intro h4;refine sL<|aM Z ?_;refine alX [(0,0)] [] [0] func98 (ahp g code _ _ _ qC) x_9 (ahn) Z ?_;intro xz5 oz5 hz5;obtain⟨i5,q5,hc5,⟨ahU,⟨na5,nb5⟩,rfl⟩,rfl⟩:=hz5;refine bg Z<|ao Z<|Y<|aR<|rT ?_;refine fN (int _) [(0,ahm g code i5 q5)] ?_ rfl ⟨rfl,trivial⟩;exact⟨i5,q5,hc5,x_87,rfl⟩
 intro h4;refine aK<|gT<|aS<|sL<|ae Z<|ak Z<|Y ?_;refine AW.cond rfl ?_ ?_
 ·intro h5;refine sL<|aM Z ?_;refine alX [(0,0)] [] [0] func98 (ahp g code _ _ _ qC) x_9 (ahn) Z ?_;intro xz6 oz6 hz6;obtain⟨i6,q6,hc6,⟨ahB,⟨na6,nb6⟩,rfl⟩,rfl⟩:=hz6;refine lT [0,2,3,29] [0] ?_;refine bg Z<|ao Z<|Y<|aR<|rT ?_;refine fN (int _) [(0,ahm g code i6 q6)] ?_ rfl ⟨rfl,trivial⟩;exact⟨i6,q6,hc6,x_87,rfl⟩
 intro h5;refine aK<|gT<|aS<|sL<|ae Z<|ak Z<|Y ?_;refine AW.cond rfl ?_ ?_
 ·intro h6;refine sL<|aM Z ?_;refine alX [(0,0)] [] [0] func98 (ahp g code _ _ _ qC) x_9 (ahn) Z ?_;intro xz7 oz7 hz7;obtain⟨i7,q7,hc7,⟨ah8,⟨na7,nb7⟩,rfl⟩,rfl⟩:=hz7;refine bg Z<|ao Z<|Y<|aR<|rT ?_;refine fN (int _) [(0,ahm g code i7 q7)] ?_ rfl ⟨rfl,trivial⟩;exact⟨i7,q7,hc7,x_87,rfl⟩
 intro h6;refine aK<|gT<|aS<|sL<|ae Z<|ak Z<|Y ?_;refine AW.cond rfl ?_ ?_
 ·intro h7;refine sL<|aM Z ?_;refine alX [(0,0)] [] [0] func98 (ahp g code _ _ _ qC) x_9 (ahn) Z ?_;intro xz8 oz8 hz8;obtain⟨i8,q8,hc8,⟨ahC,⟨na8,nb8⟩,rfl⟩,rfl⟩:=hz8;obtain⟨hs1,hs2⟩:=akP (n:=ahC) na8 (by omega);refine eo rfl ⟨rfl,na8,by omega,by show IntKind.i64.wrap _=_;exact ce (by unfold i64;omega)⟩<|ao Z<|Y<|aR<|rT ?_;refine fN (int _) [(0,ahm g code i8 q8)] ?_ rfl ⟨rfl,trivial⟩;exact⟨i8,q8,hc8,x_87,rfl⟩
 intro h7;refine aK<|gA<|aM Z ?_;refine alX [(0,0)] [] [0] func98 (ahp g code _ _ _ qC) x_9 (ahn) Z ?_;intro xz9 oz9 hz9;obtain⟨i9,q9,hc9,⟨ahT,⟨na9,nb9⟩,rfl⟩,rfl⟩:=hz9;refine lT [0,2,42] [0] ?_;refine aM rfl ?_;refine alX [(0,0)] [] [0] func98 (ahp g code _ _ _ hc9) x_9 (ahn) Z ?_;intro aiW aiX ah0;obtain⟨i10,q10,aik,⟨n10,⟨ail,aiY⟩,rfl⟩,rfl⟩:=ah0;have hm1:0<=ahT*n10:=Int.mul_nonneg na9 ail;have hm2:ahT*n10<=1000000*1000000:=Int.mul_le_mul (by omega) (by omega) ail (by decide);refine bg Z<|ao Z<|Y<|aR ?_;refine fN (int _) [(0,ahm g code i10 q10)] ?_ rfl ⟨rfl,trivial⟩;exact⟨i10,q10,aik,x_87,rfl⟩

def DrE:AV->Prop:=fun x=>∃e,l7 e/\x=ju e
abbrev ahy(T:Option Value)(a b c d e f:Int)(g:Bool):AO:=.box 81 T [int a,int b,int c,int d,int e,int f,aD g]
abbrev Ev7:=Int×Int×Int×Int×Int×Int×Bool
abbrev f5(z:Ev7):aV:=⟨z.1,z.2.1,z.2.2.1,z.2.2.2.1,z.2.2.2.2.1,z.2.2.2.2.2.1,z.2.2.2.2.2.2⟩
theorem akQ(x:Int):-3<=x.tmod 4/\x.tmod 4<=3:=by cases x<;>simp[Int.tmod]<;>omega
theorem aim(g:Value)(code:List Int)(i:Nat)(h:Int)(hc:ahk code i):GX prog 104 [.ptr 0 0 0] [(0,ahm g code i h)] (DrR g code DrE):=by
 refine GX.intro (rs:=[.cell 2 81 (some 7)]) func104 rfl ntmps104 x_7 ⟨rfl,rfl,dD,trivial⟩ ?_;intro L O w0;refine sL<|ab (zA 2002 jl Z) Z<|nA<|aM Z ?_;refine alX [(0,0)] [] [0] func98 (ahp g code _ _ _ hc) x_9 (ahn) Z ?_;intro xz1 oz1 fa;obtain⟨i1,q1,qC,⟨n1,⟨na1,nb1⟩,rfl⟩,rfl⟩:=fa;refine bg Z<|ao Z<|nA<|ae Z<|lq (rd (x:=.agg [U _ _,U _ _,U _ _,U _ _,U _ _,U _ _,vB false]) (cP Z xF Z Z Z) Z)<|ab (zA 2004 jl Z) Z<|ab (zB 2004 mZ m0 Z) Z<|nA<|ae Z<|ab (zC [(60,60)] [60] [] func194 (Z4 _) (trivial) Z Z) Z<|bD Z<|Y ?_;refine aJ [0,2,4,5] [60,2002] (D:=Nat×Int×Ev7) (fun d=>[]) (fun d=>[(0,ahm g code d.1 d.2.1),(2004,ahy none d.2.2.1 d.2.2.2.1 d.2.2.2.2.1 d.2.2.2.2.2.1 d.2.2.2.2.2.2.1 d.2.2.2.2.2.2.2.1 d.2.2.2.2.2.2.2.2)]) (fun d=>ahk code d.1/\l7 (f5 d.2.2)) ?_ ?_
 ·refine sL<|bW Z<|lq (rj 0 n4 rfl (by show 0<6;decide))<|lq (rd (x:=vB _) (dT rfl jN rfl rfl rfl (rfl) rfl) rfl)<|Y ?_;refine AW.cond rfl ?_ ?_
  ·intro V;refine aL<|aM Z ?_;refine alX [(0,0)] [] [0] func98 (ahp g code _ _ _ qC) x_9 (ahn) Z ?_;intro xz2 oz2 hz2;obtain⟨i2,q2,Cj,⟨n2,⟨na2,nb2⟩,rfl⟩,rfl⟩:=hz2;refine lT [0,2,4,5,17] [0,60,2002,2004] ?_;refine bg Z<|lf 1 gE Z<|ab (zB 2004 ca cb Z) Z<|Y ?_;refine⟨(_,_,_,_,_,_,_,_,_),(by refine⟨by assumption,?_⟩;simp only[l7,i64,f5]at *;omega),trivial,⟨rfl,rfl,trivial⟩,rfl,rfl⟩
  intro V;refine aK<|gT ?_;refine⟨(_,_,_,_,_,_,_,_,_),(by refine⟨by assumption,?_⟩;simp only[l7,i64,f5]at *;omega),trivial,⟨rfl,rfl,trivial⟩,rfl,rfl⟩
 intro ⟨iJ6,qJ6,ea6,eb6,ec6,ed6,ee6,ef6,eg6⟩ hJ6;dsimp only;obtain⟨ah5,ain⟩:=hJ6;replace ah5:ahk code iJ6:=ah5;unfold l7 i64 at ain;simp only[f5]at ain;refine aJ [0,2,4,5] [60,2002] (D:=Nat×Int×Ev7) (fun d=>[]) (fun d=>[(0,ahm g code d.1 d.2.1),(2004,ahy none d.2.2.1 d.2.2.2.1 d.2.2.2.2.1 d.2.2.2.2.2.1 d.2.2.2.2.2.2.1 d.2.2.2.2.2.2.2.1 d.2.2.2.2.2.2.2.2)]) (fun d=>ahk code d.1/\l7 (f5 d.2.2)) ?_ ?_
 ·refine sL<|bW Z<|lq (rj 1 n4 rfl (by show 1<6;decide))<|lq (rd (x:=vB _) (dT rfl jN rfl rfl rfl (rfl) rfl) rfl)<|Y ?_;refine AW.cond rfl ?_ ?_
  ·intro h2;refine aL<|aM Z ?_;refine alX [(0,0)] [] [0] func98 (ahp g code _ _ _ ah5) x_9 (ahn) Z ?_;intro xz3 oz3 hz3;obtain⟨i3,q3,hc3,⟨ahG,⟨na3,nb3⟩,rfl⟩,rfl⟩:=hz3;refine bg Z<|lf 2 dn Z<|ab (zB 2004 ca cb Z) Z<|Y ?_;refine⟨(_,_,_,_,_,_,_,_,_),(by refine⟨by assumption,?_⟩;simp only[l7,i64,f5]at *;omega),trivial,⟨rfl,rfl,trivial⟩,rfl,rfl⟩
  intro h2;refine aK<|gT ?_;refine⟨(_,_,_,_,_,_,_,_,_),(by refine⟨by assumption,?_⟩;simp only[l7,i64,f5]at *;omega),trivial,⟨rfl,rfl,trivial⟩,rfl,rfl⟩
 intro ⟨iJ8,qJ8,ea8,eb8,ec8,ed8,ee8,ef8,eg8⟩ hJ8;dsimp only;obtain⟨aid,aio⟩:=hJ8;replace aid:ahk code iJ8:=aid;unfold l7 i64 at aio;simp only[f5]at aio;refine aJ [0,2,4,5] [60,2002] (D:=Nat×Int×Ev7) (fun d=>[]) (fun d=>[(0,ahm g code d.1 d.2.1),(2004,ahy none d.2.2.1 d.2.2.2.1 d.2.2.2.2.1 d.2.2.2.2.2.1 d.2.2.2.2.2.2.1 d.2.2.2.2.2.2.2.1 d.2.2.2.2.2.2.2.2)]) (fun d=>ahk code d.1/\l7 (f5 d.2.2)) ?_ ?_
 ·refine sL<|bW Z<|lq (rj 2 n4 rfl (by show 2<6;decide))<|lq (rd (x:=vB _) (dT rfl jN rfl rfl rfl (rfl) rfl) rfl)<|Y ?_;refine AW.cond rfl ?_ ?_
  ·intro h3;refine aG 8 [0]<|tq 0 (rf 2 dn Z)<|tq 1 (aZ ac Z)<|yq 2 (cG Z) ?_;refine abA (i:=3) rfl x_37 (Un [(0,0)] [] [0] rfl x_66 rfl func98 rfl rfl (ahp g code _ _ _ aid) ⟨rfl,rfl,rfl⟩ x_9 (ahn) rfl) (exK (l:=[0]) rfl rfl) rfl ?_;rintro _ _ ⟨xz5,oz5,hz5,rfl,rfl⟩;obtain⟨i5,q5,hc5,⟨ahU,⟨na5,nb5⟩,rfl⟩,rfl⟩:=hz5;refine yq 4 (rd (x:=U _ _) (kg rfl rfl rfl (N7 rfl) rfl) rfl) ?_;refine yq 5 (iC rfl ⟨rfl,by decide⟩) ?_;have ht4:=akQ (IntKind.i64.wrap (ec8+ahU));refine yq 6 (qV rfl (by unfold i64;omega))<|yq 7 (rf 3 fK rfl)<|yl rfl (zB 2004 ca cb rfl)<|gT ?_;refine⟨(_,_,_,_,_,_,_,_,_),(by refine⟨by assumption,?_⟩;simp only[l7,i64,f5]at *;omega),trivial,⟨rfl,rfl,trivial⟩,rfl,rfl⟩
  intro h3;refine aK<|gT ?_;refine⟨(_,_,_,_,_,_,_,_,_),(by refine⟨by assumption,?_⟩;simp only[l7,i64,f5]at *;omega),trivial,⟨rfl,rfl,trivial⟩,rfl,rfl⟩
 intro ⟨iJ10,qJ10,ea10,eb10,ec10,ed10,ee10,ef10,eg10⟩ hJ10;dsimp only;obtain⟨ai8,ajF⟩:=hJ10;replace ai8:ahk code iJ10:=ai8;unfold l7 i64 at ajF;simp only[f5]at ajF;refine aJ [0,2,4,5] [60,2002] (D:=Nat×Int×Ev7) (fun d=>[]) (fun d=>[(0,ahm g code d.1 d.2.1),(2004,ahy none d.2.2.1 d.2.2.2.1 d.2.2.2.2.1 d.2.2.2.2.2.1 d.2.2.2.2.2.2.1 d.2.2.2.2.2.2.2.1 d.2.2.2.2.2.2.2.2)]) (fun d=>ahk code d.1/\l7 (f5 d.2.2)) ?_ ?_
 ·refine sL<|bW Z<|lq (rj 3 n4 rfl (by show 3<6;decide))<|lq (rd (x:=vB _) (dT rfl jN rfl rfl rfl (rfl) rfl) rfl)<|Y ?_;refine AW.cond rfl ?_ ?_
  ·intro h4;refine aL<|aM Z ?_;refine alX [(0,0)] [] [0] func98 (ahp g code _ _ _ ai8) x_9 (ahn) Z ?_;intro xz6 oz6 hz6;obtain⟨i6,q6,hc6,⟨ahB,⟨na6,nb6⟩,rfl⟩,rfl⟩:=hz6;refine bg Z<|bg Z<|lf 4 bN Z<|ab (zB 2004 ca cb Z) Z<|Y ?_;refine⟨(_,_,_,_,_,_,_,_,_),(by refine⟨by assumption,?_⟩;simp only[l7,i64,f5]at *;omega),trivial,⟨rfl,rfl,trivial⟩,rfl,rfl⟩
  intro h4;refine aK<|gT ?_;refine⟨(_,_,_,_,_,_,_,_,_),(by refine⟨by assumption,?_⟩;simp only[l7,i64,f5]at *;omega),trivial,⟨rfl,rfl,trivial⟩,rfl,rfl⟩
 intro ⟨iJ12,qJ12,ea12,eb12,ec12,ed12,ee12,ef12,eg12⟩ hJ12;dsimp only;obtain⟨ahX,ajG⟩:=hJ12;replace ahX:ahk code iJ12:=ahX;unfold l7 i64 at ajG;simp only[f5]at ajG;refine aJ [0,2,4,5] [60,2002] (D:=Nat×Int×Ev7) (fun d=>[]) (fun d=>[(0,ahm g code d.1 d.2.1),(2004,ahy none d.2.2.1 d.2.2.2.1 d.2.2.2.2.1 d.2.2.2.2.2.1 d.2.2.2.2.2.2.1 d.2.2.2.2.2.2.2.1 d.2.2.2.2.2.2.2.2)]) (fun d=>ahk code d.1/\l7 (f5 d.2.2)) ?_ ?_
 ·refine sL<|bW Z<|lq (rj 4 n4 rfl (by show 4<6;decide))<|lq (rd (x:=vB _) (dT rfl jN rfl rfl rfl (rfl) rfl) rfl)<|Y ?_;refine AW.cond rfl ?_ ?_
  ·intro h5;refine aL<|aM Z ?_;refine alX [(0,0)] [] [0] func98 (ahp g code _ _ _ ahX) x_9 (ahn) Z ?_;intro xz7 oz7 hz7;obtain⟨i7,q7,hc7,⟨ah8,⟨na7,nb7⟩,rfl⟩,rfl⟩:=hz7;refine bg Z<|lf 5 fC Z<|ab (zB 2004 ca cb Z) Z<|Y ?_;refine⟨(_,_,_,_,_,_,_,_,_),(by refine⟨by assumption,?_⟩;simp only[l7,i64,f5]at *;omega),trivial,⟨rfl,rfl,trivial⟩,rfl,rfl⟩
  intro h5;refine aK<|gT ?_;refine⟨(_,_,_,_,_,_,_,_,_),(by refine⟨by assumption,?_⟩;simp only[l7,i64,f5]at *;omega),trivial,⟨rfl,rfl,trivial⟩,rfl,rfl⟩
 intro ⟨iJ14,qJ14,ea14,eb14,ec14,ed14,ee14,ef14,eg14⟩ hJ14;dsimp only;obtain⟨ai9,ajH⟩:=hJ14;replace ai9:ahk code iJ14:=ai9;unfold l7 i64 at ajH;simp only[f5]at ajH;refine aJ [0,2,4,5] [60,2002] (D:=Nat×Int×Ev7) (fun d=>[]) (fun d=>[(0,ahm g code d.1 d.2.1),(2004,ahy none d.2.2.1 d.2.2.2.1 d.2.2.2.2.1 d.2.2.2.2.2.1 d.2.2.2.2.2.2.1 d.2.2.2.2.2.2.2.1 d.2.2.2.2.2.2.2.2)]) (fun d=>ahk code d.1/\l7 (f5 d.2.2)) ?_ ?_
 ·refine aL<|bW Z<|lq (rj 5 n4 rfl (by show 5<6;decide))<|lq (rd (x:=vB _) (dT rfl jN rfl rfl rfl (rfl) rfl) rfl)<|aQ rfl ?_;refine AL.bool (t:=56) rfl ?_ ?_
  ·intro h6;refine aM rfl ?_;refine alX [(0,0)] [] [0] func98 (ahp g code _ _ _ ai9) x_9 (ahn) Z ?_;intro xz8 oz8 hz8;obtain⟨i8,q8,hc8,⟨ahC,⟨na8,nb8⟩,rfl⟩,rfl⟩:=hz8;refine ak Z<|bj Z<|lf 6 pw Z<|ab (zB 2004 ES ET Z) Z<|Y ?_;refine⟨(_,_,_,_,_,_,_,_,_),(by refine⟨by assumption,?_⟩;simp only[l7,i64,f5]at *;omega),trivial,⟨rfl,rfl,trivial⟩,rfl,rfl⟩
  intro h6;refine aa Z<|aa Z<|aa Z<|bL Z<|lf 6 pw Z<|ab (zB 2004 ES ET Z) Z<|Y ?_;refine⟨(_,_,_,_,_,_,_,_,_),(by refine⟨by assumption,?_⟩;simp only[l7,i64,f5]at *;omega),trivial,⟨rfl,rfl,trivial⟩,rfl,rfl⟩
 intro ⟨iJ15,qJ15,ea15,eb15,ec15,ed15,ee15,ef15,eg15⟩ hJ15;dsimp only;obtain⟨ahM,aiq⟩:=hJ15;replace ahM:ahk code iJ15:=ahM;unfold l7 i64 at aiq;simp only[f5]at aiq;refine aJ [2,4] [60,2002] (D:=Nat×Int×Ev7) (fun d=>[]) (fun d=>[(0,ahm g code d.1 d.2.1),(2004,ahy none d.2.2.1 d.2.2.2.1 d.2.2.2.2.1 d.2.2.2.2.2.1 d.2.2.2.2.2.2.1 d.2.2.2.2.2.2.2.1 d.2.2.2.2.2.2.2.2)]) (fun d=>ahk code d.1/\l7 (f5 d.2.2)) ?_ ?_
 ·refine sL<|aM Z ?_;refine alX [(0,0)] [] [0] func98 (ahp g code _ _ _ ahM) x_9 (ahn) Z ?_;intro xz9 oz9 hz9;obtain⟨i9,q9,hc9,⟨ahT,⟨na9,nb9⟩,rfl⟩,rfl⟩:=hz9;refine ak Z<|aQ Z ?_;refine AL.bool (t:=65) rfl ?_ ?_
  ·intro h7;refine bW Z<|lq (rj 3 n4 rfl (by show 3<6;decide))<|lq (rd (x:=vB _) (dT rfl jN rfl rfl rfl (rfl) rfl) rfl)<|bj Z<|Y ?_;refine AW.cond rfl ?_ ?_
   ·intro h8;refine aL<|aM Z ?_;refine alX [(0,0)] [] [0] func98 (ahp g code _ _ _ hc9) x_9 (ahn) Z ?_;intro aiW aiX ah0;obtain⟨i10,q10,aik,⟨n10,⟨ail,aiY⟩,rfl⟩,rfl⟩:=ah0;refine bg Z<|lf 4 bN Z<|ab (zB 2004 ca cb Z) Z<|Y ?_;refine⟨(_,_,_,_,_,_,_,_,_),(by refine⟨by assumption,?_⟩;simp only[l7,i64,f5]at *;omega),trivial,⟨rfl,rfl,trivial⟩,rfl,rfl⟩
   intro h8;refine aK<|gT ?_;refine⟨(_,_,_,_,_,_,_,_,_),(by refine⟨by assumption,?_⟩;simp only[l7,i64,f5]at *;omega),trivial,⟨rfl,rfl,trivial⟩,rfl,rfl⟩
  intro h7;refine aa Z<|aa Z<|aa Z<|bL Z<|Y<|aN Z<|aK<|gT ?_;refine⟨(_,_,_,_,_,_,_,_,_),(by refine⟨by assumption,?_⟩;simp only[l7,i64,f5]at *;omega),trivial,⟨rfl,rfl,trivial⟩,rfl,rfl⟩
 intro ⟨iJ17,qJ17,ea17,eb17,ec17,ed17,ee17,ef17,eg17⟩ hJ17;dsimp only;obtain⟨air,ais⟩:=hJ17;replace air:ahk code iJ17:=air;unfold l7 i64 at ais;simp only[f5]at ais;refine sL<|aP (.agg [U _ _,U _ _,U _ _,U _ _,U _ _,U _ _,vB _]) dD Z<|ab (zB 2002 mZ m0 Z) Z<|Y<|aR ?_;refine fN (ju ⟨_,_,_,_,_,_,_⟩) [(0,ahm g code _ _)] ?_ rfl ⟨rfl,trivial⟩;exact⟨_,_,by assumption,⟨_,by simp only[l7,i64]at *;omega,rfl⟩,rfl⟩
theorem akE(g:Value)(code:List Int)(i:Nat)(h:Int)(hc:ahk code i):GX prog 105 [.ptr 0 0 0] [(0,ahm g code i h)] (DrR g code DrE):=by
 refine GX.intro (rs:=[.cell 2 81 (some 7)]) func105 rfl ntmps105 x_7 ⟨rfl,rfl,dD,trivial⟩ ?_;intro L O w0;refine sL<|ab (zA 2002 jl Z) Z<|nA<|aM Z ?_;refine alX [(0,0)] [] [0] func104 (aim g code _ _ hc) x_9 (ahn) Z ?_;intro xz1 oz1 fa;obtain⟨i1,q1,qC,⟨⟨va1,vb1,vc1,vd1,ve1,vf1,vg1⟩,hw1,rfl⟩,rfl⟩:=fa;refine ab (zA 2003 jl Z) Z<|ab (zB 2003 mZ m0 Z) Z<|nA<|aM Z ?_;refine alX [(0,0)] [] [0] func98 (ahp g code _ _ _ qC) x_9 (ahn) Z ?_;intro xz2 oz2 hz2;obtain⟨i2,q2,Cj,⟨n2,⟨na2,nb2⟩,rfl⟩,rfl⟩:=hz2;refine ao Z<|Y ?_;refine aJ [0,2,3,4] [2002] (D:=Nat×Int×Ev7) (fun d=>[]) (fun d=>[(0,ahm g code d.1 d.2.1),(2003,ahy none d.2.2.1 d.2.2.2.1 d.2.2.2.2.1 d.2.2.2.2.2.1 d.2.2.2.2.2.2.1 d.2.2.2.2.2.2.2.1 d.2.2.2.2.2.2.2.2)]) (fun d=>ahk code d.1/\l7 (f5 d.2.2)) ?_ ?_
 ·refine sL<|ae Z<|ak Z<|Y ?_;refine AW.cond rfl ?_ ?_
  ·intro V;refine aL<|aM Z ?_;refine alX [(0,0)] [] [0] func193 (ah9 g code _ _ Cj) x_9 (ahn) Z ?_;intro xz3 oz3 hz3;obtain⟨i3,q3,hc3,⟨ahG,hn3,rfl⟩,rfl⟩:=hz3;refine lf 0 jz Z<|ab (zB 2003 ca cb Z) Z<|lT [0,2,3,4] [0,2002,2003] ?_;refine Y ?_;refine⟨(_,_,_,_,_,_,_,_,_),(by refine⟨by assumption,?_⟩;simp only[l7,i64,f5]at *;omega),trivial,⟨rfl,rfl,trivial⟩,rfl,rfl⟩
  intro V;refine aK<|gT ?_;refine⟨(_,_,_,_,_,_,_,_,_),(by refine⟨by assumption,?_⟩;simp only[l7,i64,f5]at *;omega),trivial,⟨rfl,rfl,trivial⟩,rfl,rfl⟩
 intro ⟨iJ5,qJ5,ea5,eb5,ec5,ed5,ee5,ef5,eg5⟩ hJ5;dsimp only;obtain⟨ah',ajI⟩:=hJ5;replace ah':ahk code iJ5:=ah';unfold l7 i64 at ajI;simp only[f5]at ajI;refine aJ [0,2,3,4] [2002] (D:=Nat×Int×Ev7) (fun d=>[]) (fun d=>[(0,ahm g code d.1 d.2.1),(2003,ahy none d.2.2.1 d.2.2.2.1 d.2.2.2.2.1 d.2.2.2.2.2.1 d.2.2.2.2.2.2.1 d.2.2.2.2.2.2.2.1 d.2.2.2.2.2.2.2.2)]) (fun d=>ahk code d.1/\l7 (f5 d.2.2)) ?_ ?_
 ·refine sL<|ae Z<|ak Z<|Y ?_;refine AW.cond rfl ?_ ?_
  ·intro h2;refine aL<|aM Z ?_;refine alX [(0,0)] [] [0] func193 (ah9 g code _ _ ah') x_9 (ahn) Z ?_;intro xz4 oz4 hz4;obtain⟨i4,q4,hc4,⟨ahZ,hn4,rfl⟩,rfl⟩:=hz4;refine lf 1 gE Z<|ab (zB 2003 ca cb Z) Z<|Y ?_;refine⟨(_,_,_,_,_,_,_,_,_),(by refine⟨by assumption,?_⟩;simp only[l7,i64,f5]at *;omega),trivial,⟨rfl,rfl,trivial⟩,rfl,rfl⟩
  intro h2;refine aK<|gT ?_;refine⟨(_,_,_,_,_,_,_,_,_),(by refine⟨by assumption,?_⟩;simp only[l7,i64,f5]at *;omega),trivial,⟨rfl,rfl,trivial⟩,rfl,rfl⟩
 intro ⟨iJ7,qJ7,ea7,eb7,ec7,ed7,ee7,ef7,eg7⟩ hJ7;dsimp only;obtain⟨aia,ajJ⟩:=hJ7;replace aia:ahk code iJ7:=aia;unfold l7 i64 at ajJ;simp only[f5]at ajJ;refine aJ [0,2,3,4] [2002] (D:=Nat×Int×Ev7) (fun d=>[]) (fun d=>[(0,ahm g code d.1 d.2.1),(2003,ahy none d.2.2.1 d.2.2.2.1 d.2.2.2.2.1 d.2.2.2.2.2.1 d.2.2.2.2.2.2.1 d.2.2.2.2.2.2.2.1 d.2.2.2.2.2.2.2.2)]) (fun d=>ahk code d.1/\l7 (f5 d.2.2)) ?_ ?_
 ·refine sL<|ae Z<|ak Z<|Y ?_;refine AW.cond rfl ?_ ?_
  ·intro h3;refine aL<|aM Z ?_;refine alX [(0,0)] [] [0] func193 (ah9 g code _ _ aia) x_9 (ahn) Z ?_;intro xz5 oz5 hz5;obtain⟨i5,q5,hc5,⟨ahU,hn5,rfl⟩,rfl⟩:=hz5;refine lf 2 dn Z<|ab (zB 2003 ca cb Z) Z<|Y ?_;refine⟨(_,_,_,_,_,_,_,_,_),(by refine⟨by assumption,?_⟩;simp only[l7,i64,f5]at *;omega),trivial,⟨rfl,rfl,trivial⟩,rfl,rfl⟩
  intro h3;refine aK<|gT ?_;refine⟨(_,_,_,_,_,_,_,_,_),(by refine⟨by assumption,?_⟩;simp only[l7,i64,f5]at *;omega),trivial,⟨rfl,rfl,trivial⟩,rfl,rfl⟩
 intro ⟨iJ9,qJ9,ea9,eb9,ec9,ed9,ee9,ef9,eg9⟩ hJ9;dsimp only;obtain⟨ahI,ajK⟩:=hJ9;replace ahI:ahk code iJ9:=ahI;unfold l7 i64 at ajK;simp only[f5]at ajK;refine aJ [0,2,3,4] [2002] (D:=Nat×Int×Ev7) (fun d=>[]) (fun d=>[(0,ahm g code d.1 d.2.1),(2003,ahy none d.2.2.1 d.2.2.2.1 d.2.2.2.2.1 d.2.2.2.2.2.1 d.2.2.2.2.2.2.1 d.2.2.2.2.2.2.2.1 d.2.2.2.2.2.2.2.2)]) (fun d=>ahk code d.1/\l7 (f5 d.2.2)) ?_ ?_
 ·refine sL<|ae Z<|ak Z<|Y ?_;refine AW.cond rfl ?_ ?_
  ·intro h4;refine aL<|lf 2 dn Z<|aj ac Z<|lf 3 fK Z<|ab (zB 2003 ca cb Z) Z<|Y ?_;refine⟨(_,_,_,_,_,_,_,_,_),(by refine⟨by assumption,?_⟩;simp only[l7,i64,f5]at *;omega),trivial,⟨rfl,rfl,trivial⟩,rfl,rfl⟩
  intro h4;refine aK<|gT ?_;refine⟨(_,_,_,_,_,_,_,_,_),(by refine⟨by assumption,?_⟩;simp only[l7,i64,f5]at *;omega),trivial,⟨rfl,rfl,trivial⟩,rfl,rfl⟩
 intro ⟨iJ11,qJ11,ea11,eb11,ec11,ed11,ee11,ef11,eg11⟩ hJ11;dsimp only;obtain⟨ahR,ait⟩:=hJ11;replace ahR:ahk code iJ11:=ahR;unfold l7 i64 at ait;simp only[f5]at ait;refine aJ [0,2,3,4] [2002] (D:=Nat×Int×Ev7) (fun d=>[]) (fun d=>[(0,ahm g code d.1 d.2.1),(2003,ahy none d.2.2.1 d.2.2.2.1 d.2.2.2.2.1 d.2.2.2.2.2.1 d.2.2.2.2.2.2.1 d.2.2.2.2.2.2.2.1 d.2.2.2.2.2.2.2.2)]) (fun d=>ahk code d.1/\l7 (f5 d.2.2)) ?_ ?_
 ·refine sL<|ae Z<|ak Z<|Y ?_;refine AW.cond rfl ?_ ?_
  ·intro h5;refine aL<|aM Z ?_;refine alX [(0,0)] [] [0] func193 (ah9 g code _ _ ahR) x_9 (ahn) Z ?_;intro xz6 oz6 hz6;obtain⟨i6,q6,hc6,⟨ahB,hn6,rfl⟩,rfl⟩:=hz6;refine lf 4 bN Z<|ab (zB 2003 ca cb Z) Z<|Y ?_;refine⟨(_,_,_,_,_,_,_,_,_),(by refine⟨by assumption,?_⟩;simp only[l7,i64,f5]at *;omega),trivial,⟨rfl,rfl,trivial⟩,rfl,rfl⟩
  intro h5;refine aK<|gT ?_;refine⟨(_,_,_,_,_,_,_,_,_),(by refine⟨by assumption,?_⟩;simp only[l7,i64,f5]at *;omega),trivial,⟨rfl,rfl,trivial⟩,rfl,rfl⟩
 intro ⟨iJ13,qJ13,ea13,eb13,ec13,ed13,ee13,ef13,eg13⟩ hJ13;dsimp only;obtain⟨aic,ajL⟩:=hJ13;replace aic:ahk code iJ13:=aic;unfold l7 i64 at ajL;simp only[f5]at ajL;refine aJ [2,3,4] [2002] (D:=Nat×Int×Ev7) (fun d=>[]) (fun d=>[(0,ahm g code d.1 d.2.1),(2003,ahy none d.2.2.1 d.2.2.2.1 d.2.2.2.2.1 d.2.2.2.2.2.1 d.2.2.2.2.2.2.1 d.2.2.2.2.2.2.2.1 d.2.2.2.2.2.2.2.2)]) (fun d=>ahk code d.1/\l7 (f5 d.2.2)) ?_ ?_
 ·refine sL<|ae Z<|ak Z<|Y ?_;refine AW.cond rfl ?_ ?_
  ·intro h6;refine aL<|aM Z ?_;refine alX [(0,0)] [] [0] func193 (ah9 g code _ _ aic) x_9 (ahn) Z ?_;intro xz7 oz7 hz7;obtain⟨i7,q7,hc7,⟨ah8,hn7,rfl⟩,rfl⟩:=hz7;refine lf 5 fC Z<|ab (zB 2003 ca cb Z) Z<|Y ?_;refine⟨(_,_,_,_,_,_,_,_,_),(by refine⟨by assumption,?_⟩;simp only[l7,i64,f5]at *;omega),trivial,⟨rfl,rfl,trivial⟩,rfl,rfl⟩
  intro h6;refine aK<|gT ?_;refine⟨(_,_,_,_,_,_,_,_,_),(by refine⟨by assumption,?_⟩;simp only[l7,i64,f5]at *;omega),trivial,⟨rfl,rfl,trivial⟩,rfl,rfl⟩
 intro ⟨iJ15,qJ15,ea15,eb15,ec15,ed15,ee15,ef15,eg15⟩ hJ15;dsimp only;obtain⟨ahM,aiq⟩:=hJ15;replace ahM:ahk code iJ15:=ahM;unfold l7 i64 at aiq;simp only[f5]at aiq;refine aJ [2,3] [2002] (D:=Nat×Int×Ev7) (fun d=>[]) (fun d=>[(0,ahm g code d.1 d.2.1),(2003,ahy none d.2.2.1 d.2.2.2.1 d.2.2.2.2.1 d.2.2.2.2.2.1 d.2.2.2.2.2.2.1 d.2.2.2.2.2.2.2.1 d.2.2.2.2.2.2.2.2)]) (fun d=>ahk code d.1/\l7 (f5 d.2.2)) ?_ ?_
 ·refine sL<|ae Z<|ak Z<|Y ?_;refine AW.cond rfl ?_ ?_
  ·intro h7;refine aL<|lf 6 pw Z<|tT jN Z<|bX Z<|lf 6 pw Z<|ab (zB 2003 ES ET Z) Z<|Y ?_;refine⟨(_,_,_,_,_,_,_,_,_),(by refine⟨by assumption,?_⟩;simp only[l7,i64,f5]at *;omega),trivial,⟨rfl,rfl,trivial⟩,rfl,rfl⟩
  intro h7;refine aK<|gT ?_;refine⟨(_,_,_,_,_,_,_,_,_),(by refine⟨by assumption,?_⟩;simp only[l7,i64,f5]at *;omega),trivial,⟨rfl,rfl,trivial⟩,rfl,rfl⟩
 intro ⟨iJ17,qJ17,ea17,eb17,ec17,ed17,ee17,ef17,eg17⟩ hJ17;dsimp only;obtain⟨air,ais⟩:=hJ17;replace air:ahk code iJ17:=air;unfold l7 i64 at ais;simp only[f5]at ais;refine sL<|aP (.agg [U _ _,U _ _,U _ _,U _ _,U _ _,U _ _,vB _]) dD Z<|ab (zB 2002 mZ m0 Z) Z<|Y<|aR ?_;refine fN (ju ⟨_,_,_,_,_,_,_⟩) [(0,ahm g code _ _)] ?_ rfl ⟨rfl,trivial⟩;exact⟨_,_,by assumption,⟨_,by simp only[l7,i64]at *;omega,rfl⟩,rfl⟩

def DrX(g:Value)(code:List Int)(R:AV->List (Nat×AO)->Prop):AV->List (Nat×AO)->Prop:=fun x ob=>∃i h ob2,ahk code i/\R x ob2/\ob=(0,ahm g code i h)::ob2
theorem aiU{g:Value}{code:List Int}{i:Nat}{h:Int}{R:AV->List (Nat×AO)->Prop}:∀x bd,DrX g code R x bd->pins [(0,ahm g code i h)] bd [0]:=fun x bd ⟨_,_,_,_,_,e⟩=>by
 subst e;exact⟨stays.box (Eq.refl 3),trivial⟩
theorem akR(x:Int):-2<=x.tmod 3/\x.tmod 3<=2:=by cases x<;>simp[Int.tmod]<;>omega
def vn(m:Int)(es:List aV):Prop:=(∀e∈es,l7 e)/\(es.length:Int)<=m
theorem vn.take{m:Int}{es:List aV}(h:vn m es)(k:Nat):vn m (es.take k):=⟨fun e he=>h.1 e (List.mem_of_mem_take he),by have:=h.2;grind⟩
theorem vn.add{m:Int}{es:List aV}(h:vn m es){e:aV}(he:l7 e):vn (m+1) (es++[e]):=⟨fun x hx=>by
 rcases List.mem_append.1 hx with q|q
 ·exact h.1 x q
 grind,by have:=h.2;grind⟩
theorem vn.mono{m n:Int}{es:List aV}(h:vn m es)(To:m<=n):vn n es:=⟨h.1,Int.le_trans h.2 To⟩
theorem x_29{p:Prop}(c:p:=by intro r hr;simp[ah]at hr;rcases hr with h|h|h|h|h<;>(subst h;rfl)):p:=c
theorem akl(g:Value)(code:List Int)(i:Nat)(h m:Int)(hc:ahk code i)(hm:0<=m/\m<=100):GX prog 183 [.ptr 0 0 0,int m] [(0,ahm g code i h)] (DrX g code fun x ob2=>∃es,vn (5+m) es/\x=.own 50/\ob2=[(50,.ai 81 7 (ah fR es))]):=by
 refine GX.intro (rs:=[.tmp 4]) func183 rfl ntmps183 x_7 ⟨rfl,trivial⟩ ?_;intro L O w0;refine sL<|e9 Z<|nA<|lq (rd (x:=.agg [U _ _,U _ _,U _ _,U _ _,U _ _,U _ _,vB false]) (cP Z xF Z Z Z) Z)<|lq (rd (x:=.agg [U _ _,U _ _,U _ _,U _ _,U _ _,U _ _,vB false]) (cP Z xF Z Z Z) Z)<|lq (rd (x:=.agg [U _ _,U _ _,U _ _,U _ _,U _ _,U _ _,vB false]) (cP Z xF Z Z Z) Z)<|lq (rd (x:=.agg [U _ _,U _ _,U _ _,U _ _,U _ _,U _ _,vB false]) (cP Z xF Z Z Z) Z)<|aM Z ?_;refine alX [(0,0)] [] [0] func98 (ahp g code _ _ _ hc) x_9 (ahn) Z ?_;intro xz1 oz1 fa;obtain⟨i1,q1,qC,⟨n1,⟨na1,nb1⟩,rfl⟩,rfl⟩:=fa;refine bg Z<|aM Z ?_;refine alX [(0,0)] [] [0] func98 (ahp g code _ _ _ qC) x_9 (ahn) Z ?_;intro xz2 oz2 hz2;obtain⟨i2,q2,Cj,⟨n2,⟨na2,nb2⟩,rfl⟩,rfl⟩:=hz2;refine aM rfl ?_;refine alX [(0,0)] [] [0] func98 (ahp g code _ _ _ Cj) x_9 (ahn) Z ?_;intro xz3 oz3 hz3;obtain⟨i3,q3,hc3,⟨ahG,⟨na3,nb3⟩,rfl⟩,rfl⟩:=hz3;refine lq (rd (x:=.agg [U _ _,U _ _,U _ _,U _ _,U _ _,U _ _,vB false]) (cP rfl xF rfl rfl rfl) rfl) ?_;refine ab (zS 50 (ah fR [⟨1,0,0,0,100000,0,false⟩,⟨2,0,1,0,20000,10000,false⟩,⟨2,0,2,0,10000,20000,false⟩,⟨2,0,3,0,15000,15000,false⟩,⟨4,0,1+n1,0,n2,ahG,false⟩]) jk jl rfl x_29) Z<|lT [0,1,4,20] [0,50] ?_;refine bD Z<|Y ?_;refine aJ [0,1,4] [] (D:=Nat×Int×List aV) (fun d=>[(5,.own 50)]) (fun d=>[(0,ahm g code d.1 d.2.1),(50,.ai 81 7 (ah fR d.2.2))]) (fun d=>ahk code d.1/\vn 5 d.2.2) ?_ ?_
 ·refine sL<|aM Z ?_;refine alX [(0,0)] [] [0] func98 (ahp g code _ _ _ hc3) x_9 (ahn) Z ?_;intro xz4 oz4 hz4;obtain⟨i4,q4,hc4,⟨ahZ,⟨na4,nb4⟩,rfl⟩,rfl⟩:=hz4;refine ak Z<|Y ?_;refine AW.cond rfl ?_ ?_
  ·intro V;refine aL<|bW Z<|aM Z ?_;refine alX [(0,0)] [] [0] func98 (ahp g code _ _ _ hc4) x_9 (ahn) Z ?_;intro xz5 oz5 hz5;obtain⟨i5,q5,hc5,⟨ahU,⟨na5,nb5⟩,rfl⟩,rfl⟩:=hz5;obtain⟨m5,rfl⟩:=Int.eq_ofNat_of_zero_le na5;refine ab (akn 50 rfl rfl (by decide) jk rfl rfl ⟨_,rfl⟩ (by simp[ah];omega)) Z<|bD Z<|Y ?_;refine⟨(_,_,List.take m5 [⟨1,0,0,0,100000,0,false⟩,⟨2,0,1,0,20000,10000,false⟩,⟨2,0,2,0,10000,20000,false⟩,⟨2,0,3,0,15000,15000,false⟩,⟨4,0,1+n1,0,n2,ahG,false⟩]),⟨by assumption,vn.take (m:=5) ⟨by intro e he;simp at he;rcases he with h|h|h|h|h<;>(subst h;unfold l7 i64;dsimp only;omega),by simp⟩ _⟩,⟨rfl,trivial⟩,⟨rfl,(congrArg (AO.ai 81 7) (List.map_take).symm),trivial⟩,rfl,rfl⟩
  intro V;refine aK<|gT ?_;refine⟨(_,_,[⟨1,0,0,0,100000,0,false⟩,⟨2,0,1,0,20000,10000,false⟩,⟨2,0,2,0,10000,20000,false⟩,⟨2,0,3,0,15000,15000,false⟩,⟨4,0,1+n1,0,n2,ahG,false⟩]),⟨by assumption,⟨by intro e he;simp at he;rcases he with h|h|h|h|h<;>(subst h;unfold l7 i64;dsimp only;omega),by simp⟩⟩,⟨rfl,trivial⟩,⟨rfl,rfl,trivial⟩,rfl,rfl⟩
 intro ⟨iJ4,qJ4,esJ⟩ hJ4;dsimp only;obtain⟨ajM,ajN⟩:=hJ4;simp only at ajM ajN;refine aS<|sL<|aM Z<|ae Z<|bg Z ?_;refine alX [(0,0)] [] [0] func98 (ahp g code _ _ _ ajM) x_9 (ahn) Z ?_;intro xz6 oz6 hz6;obtain⟨i6,q6,hc6,⟨ahB,⟨na6,nb6⟩,rfl⟩,rfl⟩:=hz6;refine ao Z<|Y<|aB ?_;obtain⟨kk,uG⟩:=Int.eq_ofNat_of_zero_le na6;refine aW [0,4] [] (D:=Nat×Int×Nat×List aV) (fun d=>[(6,int (d.2.2.1:Int)),(5,.own 50)]) (fun d=>[(0,ahm g code d.1 d.2.1),(50,.ai 81 7 (ah fR d.2.2.2))]) (fun d=>ahk code d.1/\vn (5+m-d.2.2.1) d.2.2.2/\(d.2.2.1:Int)<=m) (fun d=>d.2.2.1) ((_,_,kk,esJ)) (⟨by assumption,ajN.mono (by dsimp only;omega),by dsimp only;omega⟩) ⟨(congrArg int uG),rfl,trivial⟩ ⟨rfl,rfl,trivial⟩ ?_;intro ⟨iL,qL,kL,esL⟩ hI;obtain⟨hcL,hwL,hkL⟩:=hI;simp only at hcL hwL hkL;dsimp only;refine aS<|sL<|ae Z<|ak Z<|Y ?_;refine AW.cond rfl ?_ ?_
 ·intro h2;refine aK<|gT<|aS<|aB<|aS ?_;have hk1:1<=kL:=by have h:=h2;simp only[decide_eq_true_eq]at h;omega
  refine aL<|aM Z ?_;refine alX [(0,0)] [] [0] func104 (aim g code _ _ hcL) x_9 (ahn) Z ?_;intro xz7 oz7 hz7;obtain⟨i7,q7,hc7,⟨⟨va7,vb7,vc7,vd7,ve7,vf7,vg7⟩,hw7,rfl⟩,rfl⟩:=hz7;refine ab (zA 2007 jl Z) Z<|ab (zB 2007 mZ m0 Z) Z<|Y ?_;refine aJ [0,4,5,6,7] [50] (D:=Nat×Int×Ev7) (fun d=>[]) (fun d=>[(0,ahm g code d.1 d.2.1),(2007,ahy none d.2.2.1 d.2.2.2.1 d.2.2.2.2.1 d.2.2.2.2.2.1 d.2.2.2.2.2.2.1 d.2.2.2.2.2.2.2.1 d.2.2.2.2.2.2.2.2)]) (fun d=>ahk code d.1/\l7 (f5 d.2.2)) ?_ ?_
  ·refine sL<|aM Z ?_;refine alX [(0,0)] [] [0] func98 (ahp g code _ _ _ hc7) x_9 (ahn) Z ?_;intro xz8 oz8 hz8;obtain⟨i8,q8,hc8,⟨ahC,⟨na8,nb8⟩,rfl⟩,rfl⟩:=hz8;refine ak Z<|Y ?_;refine AW.cond rfl ?_ ?_
   ·intro h3;refine sL<|aM Z ?_;refine alX [(0,0)] [] [0] func98 (ahp g code _ _ _ hc8) x_9 (ahn) Z ?_;intro xz9 oz9 hz9;obtain⟨i9,q9,hc9,⟨ahT,⟨na9,nb9⟩,rfl⟩,rfl⟩:=hz9;refine lT [0,4,5,6,7,42] [0,50,2007] ?_;refine bg Z<|aM Z ?_;refine alX [(0,0)] [] [0] func98 (ahp g code _ _ _ hc9) x_9 (ahn) Z ?_;intro aiW aiX ah0;obtain⟨i10,q10,aik,⟨n10,⟨ail,aiY⟩,rfl⟩,rfl⟩:=ah0;refine bg Z<|aM Z ?_;refine alX [(0,0)] [] [0] func98 (ahp g code _ _ _ aik) x_9 (ahn) Z ?_;intro akY akZ akS;obtain⟨i11,q11,akT,⟨n11,⟨ak0,ak1⟩,rfl⟩,rfl⟩:=akS;refine bg Z<|aM Z ?_;refine alX [(0,0)] [] [0] func98 (ahp g code _ _ _ akT) x_9 (ahn) Z ?_;intro ak2 ak3 akU;obtain⟨i12,q12,ak4,⟨n12,⟨ak5,ak6⟩,rfl⟩,rfl⟩:=akU;refine ak Z<|lq (rd (x:=.agg [U _ _,U _ _,U _ _,U _ _,U _ _,U _ _,vB _]) (cP Z xF Z Z Z) Z)<|ab (zB 2007 mZ m0 Z) Z<|Y<|aL<|lf 2 dn Z<|aj ac Z ?_;refine eo rfl ⟨rfl,by decide⟩ ?_;have ht3:=akR (1+n10);refine bg Z<|lf 3 fK Z<|ab (zB 2007 ca cb Z) Z<|lT [0,4,5,6,7] [0,50,2007] ?_;refine Y ?_;refine⟨(_,_,_,_,_,_,_,_,_),(by refine⟨by assumption,?_⟩;simp only[l7,i64,f5]at *;omega),trivial,⟨rfl,rfl,trivial⟩,rfl,rfl⟩
   intro h3;refine aK<|gT ?_;refine⟨(_,_,_,_,_,_,_,_,_),(by refine⟨by assumption,?_⟩;simp only[l7,i64,f5]at *;omega),trivial,⟨rfl,rfl,trivial⟩,rfl,rfl⟩
  intro ⟨iJ11,qJ11,ea11,eb11,ec11,ed11,ee11,ef11,eg11⟩ hJ11;dsimp only;obtain⟨ahR,ait⟩:=hJ11;replace ahR:ahk code iJ11:=ahR;unfold l7 i64 at ait;simp only[f5]at ait;refine aL<|bW Z<|aP (.agg [U _ _,U _ _,U _ _,U _ _,U _ _,U _ _,vB _]) dD Z ?_;refine ab (zS 2061 (ah fR [⟨ea11,eb11,ec11,ed11,ee11,ef11,eg11⟩]) jk jl rfl) Z<|ab (zP 50 jk jl sD rfl x_14 (by have:=hwL.2;simp[ah];omega)) Z<|bD Z<|lN<|gB<|gT<|aL<|ae Z<|bg Z<|ao Z<|Y ?_;refine⟨(_,_,kL-1,esL++[⟨ea11,eb11,ec11,ed11,ee11,ef11,eg11⟩]),⟨by assumption,(hwL.add (by unfold l7 i64;dsimp only;omega)).mono (by dsimp only;omega),by dsimp only;omega⟩,by dsimp only;omega,⟨(Eq.trans (b:=int _) rfl (congrArg int (by dsimp only;omega))),rfl,trivial⟩,⟨rfl,(congrArg (AO.ai 81 7) (fx fR _ [_]).symm),trivial⟩,rfl,rfl⟩
 intro h2;refine aE<|eT<|eT<|eB<|gA<|bW Z<|bD Z<|Y<|aR ?_;refine fN (.own 50) [(0,ahm g code _ _),(50,.ai 81 7 (ah fR esL))] ?_ rfl ⟨rfl,rfl,trivial⟩;exact⟨_,_,_,hcL,⟨esL,hwL.mono (by omega),rfl,rfl⟩,rfl⟩

abbrev pm:aw:=⟨0,1,0,[],[],[]⟩
theorem FT:di pm:=⟨by simp,by simp,by simp,by simp⟩
theorem QC{x:aw}{es:List aV}(hw:di x)(we:∀e∈es,l7 e):di (sB x es).now:=by
 unfold sB;split
 ·have:=D9 hw we es.length (Nat.le_refl _);grind
 exact⟨by simp[rg],by simp[rg],by simp[rg],by simp[rg]⟩
section
variable {a b c:Int}{l:List be}{h:List eV}{i:List gz}
theorem mem_set{α:Type}{l:List α}{k:Nat}{x:α}{p:α->Prop}(h:∀y∈l,p y)(hx:p x):∀y∈l.set k x,p y:=fun y hy=>by
 grind
theorem di.D'(w:di ⟨a,b,c,l,h,i⟩){k:Nat}{x:be}(hx:qn x):di ⟨a,b,c,l.set k x,h,i⟩:=⟨mem_set w.ag hx,w.an,w.aq,by show (l.set k x).length<=_;rw[List.length_set];exact w.len⟩
theorem di.Tp(w:di ⟨a,b,c,l,h,i⟩){k:Nat}{x:eV}(hx:ue x):di ⟨a,b,c,l,h.set k x,i⟩:=⟨w.ag,mem_set w.an hx,w.aq,w.len⟩
theorem di.Tq(w:di ⟨a,b,c,l,h,i⟩){k:Nat}{x:gz}(hx:vo x):di ⟨a,b,c,l,h,i.set k x⟩:=⟨w.ag,w.an,mem_set w.aq hx,w.len⟩
theorem di.loc(w:di ⟨a,b,c,l,h,i⟩){k:Nat}(hk:k<l.length){n:Int}(hn:i64 n):di ⟨a,b,c,l.set k { l[k]with loc:=n },h,i⟩:=w.D' (by have:=w.ag _ (List.getElem_mem hk);grind[qn])
theorem di.cM(w:di ⟨a,b,c,l,h,i⟩){k:Nat}(hk:k<l.length){n:Int}(hn:i64 n):di ⟨a,b,c,l.set k { l[k]with cM:=n },h,i⟩:=w.D' (by have:=w.ag _ (List.getElem_mem hk);grind[qn])
theorem di.key(w:di ⟨a,b,c,l,h,i⟩){k:Nat}(hk:k<h.length){n:Int}(hn:i64 n):di ⟨a,b,c,l,h.set k { h[k]with key:=n },i⟩:=w.Tp (by have:=w.an _ (List.getElem_mem hk);grind[ue])
theorem di.to(w:di ⟨a,b,c,l,h,i⟩){k:Nat}(hk:k<i.length):di ⟨a,b,c,l,h,i.set k { i[k]with to:=i[k].fI }⟩:=w.Tq (by have:=w.aq _ (List.getElem_mem hk);grind[vo])
theorem di.swap(w:di ⟨a,b,c,l,h,i⟩)(hk:1<l.length):di ⟨a,b,c,(l.set 0 l[1]).set 1 (l[0]'(by omega)),h,i⟩:=(w.D' (w.ag _ (List.getElem_mem hk))).D' (w.ag _ (List.getElem_mem _))
end
theorem Tr:GC prog 168 [] [] (.agg [int 0,int 1,int 0,.p (.v (.slice none 0 0)),.p (.v (.slice none 0 0)),.p (.v (.slice none 0 0))]) []:=by
 refine GC.intro (rs:=[.cell 0 50 (some 6)]) func168 rfl ntmps168 x_7 ⟨rfl,rfl,cu,trivial⟩ ?_;intro L O w0;refine sL<|ab (zA 2000 mD Z) Z<|nA<|lq (rd (x:=.agg [U _ _,U _ _,U _ _,vV _,vV _,vV _]) (cP Z s6 Z Z Z) Z)<|ab (zB 2000 eu ew Z) Z<|Y<|aR ?_;trivial
theorem QL:GC prog 168 [] [] (cj pm) []:=GX.imp Tr (fun x bd ⟨e1,e2⟩=>by
 subst e1 e2;exact⟨cj pm,fe.agg (ff.cons (fe.refl _) (ff.cons (fe.refl _) (ff.cons (fe.refl _) (ff.cons (fe.nil _ _) (ff.cons (fe.nil _ _) (ff.cons (fe.nil _ _) ff.nil)))))),rfl,rfl⟩)

def kc:List aO->aO->List aO
 |[],x=>[x]
 |y::l,x=>if cg y.acc x.acc then y::kc l x else if y.acc.kind=x.acc.kind/\y.acc.ch=x.acc.ch then (if y.af+x.af=0 then l else ⟨y.acc,y.af+x.af⟩::l)else x::y::l
theorem LD{x:aO}{k c:Int}:∀(l:List aO),bU (kc l x) k c=bU l k c+iS k c x
 |[]=>by grind[kc,fm]
 |y::l=>by
  unfold kc;split
  ·rw[fm,fm,LD l];omega
  split
  ·rename_i q;have e:iS k c y+iS k c x=if y.acc.kind=k/\y.acc.ch=c then y.af+x.af else 0:=by
    unfold iS;rw[<-q.1,<-q.2];split<;>omega
   split
   ·rename_i r;rw[r]at e;rw[fm];split at e<;>omega
   rw[fm,fm];have e2:iS k c ⟨y.acc,y.af+x.af⟩=if y.acc.kind=k/\y.acc.ch=c then y.af+x.af else 0:=rfl
   rw[e2];omega
  grind[fm]
def iM(l:List aO)(p:List aO):List aO:=p.foldl kc l
theorem GY{k c:Int}:∀(p l:List aO),bU (iM l p) k c=bU l k c+bU p k c
 |[],l=>by rw[dU];show bU l k c=_;omega
 |x::p,l=>by
  show bU (iM (kc l x) p) k c=_;rw[GY p,LD,fm];omega
def iR(l:cH)(p:dX):Int:=if (eQ l&&iL p.id p.lines)=true then (if p.id<=l.last then 2 else if eQ ⟨p.id,iM l.lines p.lines⟩=true then 0 else 3)else 1
def qi(l:cH)(p:dX):cH:=if iR l p=0 then ⟨p.id,iM l.lines p.lines⟩else ⟨0,[]⟩
theorem Tf{l:cH}{p:dX}(h:iR l p=0):eQ l=true/\iL p.id p.lines=true/\l.last<p.id/\eQ ⟨p.id,iM l.lines p.lines⟩=true:=by
 unfold iR at h;grind
theorem Wl.mono{K:Int}{x:aw}{l:cH}{n m:Nat}(h:Wl K x l n)(hm:n<=m):Wl K x l m:=by
 have e1:=h.eq;have e2:=h.inc;have e5:=h.next;exact⟨h.oV,by omega,by omega,h.yx,h.wO,h.base,h.vd,by omega,h.keys⟩
theorem Lj{x:aw}{e:aV}(h:dG x e=0):(dl x e).lines=(bz x e).l:=by
 by_cases r:(bz x e).l=[];all_goals simp_all[ub,rU]
def BX(s:cH×Int)(p:dX):cH×Int:=if iR s.1 p=0 then (qi s.1 p,s.2+1)else s
def fP(l:cH)(ps:List dX):cH×Int:=ps.foldl BX (l,0)
structure F3(ch to:Int)(s:fg):Prop where
 wl:Wl 50 s.now (fP ⟨0,[]⟩ s.ps).1 0
 h:s.now.an=[]
 c:s.now.aq=[]
 n:s.now.next=4
 a:fz s.now.ag ch=⟨ch,18000,9000,9000,0,0,0⟩
 b:fz s.now.ag to=⟨to,18000,9000,9000,0,0,0⟩
 ta:ed s.now.ag ch
 tb:ed s.now.ag to

def rh(l:List aO):Prop:=(l.Pairwise fun a b=>cg a.acc b.acc=true)/\∀y∈l,y.af≠0
theorem rh.tail{x:aO}{l:List aO}(h:rh (x::l)):rh l:=⟨(List.pairwise_cons.1 h.1).2,fun y hy=>h.2 y (by simp[hy])⟩
theorem uf{k c:Int}:∀ {l:List aO},(∀y∈l,cg ⟨k,c⟩ y.acc=true)->bU l k c=0
 |[],_=>rfl
 |y::l,h=>by
  rw[fm,uf (fun z hz=>h z (by simp[hz]))];unfold iS;rw[if_neg (fun q=>GZ (h y (by simp)) ⟨q.1.symm,q.2.symm⟩)];rfl
theorem vp{x:aO}{l:List aO}(h:(x::l).Pairwise fun a b=>cg a.acc b.acc=true):bU (x::l) x.acc.kind x.acc.ch=x.af:=by
 simp_all[fm,uf,iS]
theorem B0{x y:aO}{l:List aO}(h:(y::l).Pairwise fun a b=>cg a.acc b.acc=true)(q:cg x.acc y.acc=true):∀z∈y::l,cg x.acc z.acc=true:=fun z hz=>by
 rcases List.mem_cons.1 hz with rfl|hz;all_goals grind[vr,List.pairwise_cons]
theorem LE:∀ {a b:List aO},rh a->rh b->(∀k c,bU a k c=bU b k c)->a=b
 |[],[],_,_,_=>rfl
 |[],y::b,_,hb,h=>by
  have:=h y.acc.kind y.acc.ch;rw[vp hb.1,dU]at this;exact absurd this.symm (hb.2 y (by simp))
 |x::a,[],ha,_,h=>by
  have:=h x.acc.kind x.acc.ch;rw[vp ha.1,dU]at this;exact absurd this (ha.2 x (by simp))
 |x::a,y::b,ha,hb,h=>by
  by_cases q1:cg x.acc y.acc=true
  ·have:=h x.acc.kind x.acc.ch;rw[vp ha.1,uf (B0 hb.1 q1)]at this;exact absurd this (ha.2 x (by simp))
  by_cases q2:cg y.acc x.acc=true
  ·have:=h y.acc.kind y.acc.ch;rw[vp hb.1,uf (B0 ha.1 q2)]at this;exact absurd this.symm (hb.2 y (by simp))
  have e:=Ah (by simpa using q1) (by simpa using q2);have V:=h x.acc.kind x.acc.ch;rw[vp ha.1,e.1,e.2,vp hb.1]at V;have G0:x=y:=by
   obtain⟨xa,xm⟩:=x;obtain⟨ya,ym⟩:=y;have:=Ea e;simp only at this V;rw[this,V]
  subst G0;rw[LE ha.tail hb.tail fun k c=>by have:=h k c;rw[fm,fm]at this;omega]
theorem LF{x:aO}:∀ {l:List aO} {z:aO},z∈kc l x->z.acc=x.acc\/∃y∈l,z.acc=y.acc
 |[],z,h=>by
  simp_all[kc]
 |y::l,z,h=>by
  unfold kc at h;split at h
  ·rcases List.mem_cons.1 h with rfl|h
   ·exact .inr ⟨_,by simp,rfl⟩
   rcases LF h with q|⟨u,hu,q⟩
   ·exact .inl q
   exact .inr ⟨u,by simp[hu],q⟩
  grind
theorem LH{x:aO}(hx:x.af≠0):∀ {l:List aO},rh l->rh (kc l x)
 |[],_=>by
  unfold kc;exact⟨by simp,fun y hy=>by grind⟩
 |y::l,h=>by
  have hp:=List.pairwise_cons.1 h.1;unfold kc;by_cases q1:cg y.acc x.acc=true
  ·rw[if_pos q1];have ih:=LH hx h.tail;refine⟨List.pairwise_cons.2 ⟨fun z hz=>?_,ih.1⟩,fun z hz=>?_⟩
   ·grind[LF]
   rcases List.mem_cons.1 hz with rfl|hz
   ·exact h.2 _ (by simp)
   exact ih.2 z hz
  rw[if_neg q1];by_cases q2:y.acc.kind=x.acc.kind/\y.acc.ch=x.acc.ch
  ·rw[if_pos q2];by_cases q3:y.af+x.af=0
   ·rw[if_pos q3];exact h.tail
   rw[if_neg q3];exact⟨List.pairwise_cons.2 ⟨fun z hz=>hp.1 z hz,hp.2⟩,fun z hz=>by
    rcases List.mem_cons.1 hz with rfl|hz
    ·exact q3
    exact h.2 z (by simp[hz])⟩
  rw[if_neg q2];have q4:cg x.acc y.acc=true:=by
   cases e:cg x.acc y.acc with
   |true=>rfl
   |false=>grind[Ah]
  refine⟨List.pairwise_cons.2 ⟨B0 h.1 q4,h.1⟩,fun z hz=>?_⟩;rcases List.mem_cons.1 hz with rfl|hz
  ·exact hx
  exact h.2 z hz
theorem LI:∀ {p l:List aO},(∀y∈p,y.af≠0)->rh l->rh (iM l p)
 |[],l,_,h=>h
 |x::p,l,hp,h=>LI (p:=p) (l:=kc l x) (fun y hy=>hp y (by simp[hy])) (LH (hp x (by simp)) h)
theorem G1{k c:Int}{x:aO}{s:Int}(h:¬dL s=true)(h0:k=x.acc.kind/\c=x.acc.ch->s=0):¬(x.acc.kind=k/\x.acc.ch=c):=fun q=>h (by rw[h0 ⟨q.1.symm,q.2.symm⟩];rfl)
theorem B1:∀(n:Nat) (a b:List aO),a.length+b.length<=n->rh a->rh b->fM a b=none->∃k c,¬dL (bU a k c+bU b k c)=true
 |n,[],b,_,_,_,h=>by grind[yo]
 |n,x::a,[],_,_,_,h=>by grind[z6]
 |0,x::a,y::b,hn,_,_,_=>by grind
 |n+1,x::a,y::b,hn,ha,hb,h=>by
  simp only[List.length_cons]at hn;have ip:=List.pairwise_cons.1 ha.1;have kA:=List.pairwise_cons.1 hb.1;by_cases q1:cg x.acc y.acc=true
  ·rw[BI q1,Option.map_eq_none_iff]at h;obtain⟨k,c,g⟩:=B1 n a (y::b) x_80 ha.tail hb h;refine⟨k,c,?_⟩;have bO:=G1 (k:=k) (c:=c) (x:=x) g (fun⟨e1,e2⟩=>by rw[e1,e2,uf (fun z hz=>ip.1 z hz),uf (B0 hb.1 q1)];rfl);simp_all[iS,if_neg,fm]
  have q1:cg x.acc y.acc=false:=by simpa using q1
  by_cases q2:cg y.acc x.acc=true
  ·rw[BJ q1 q2,Option.map_eq_none_iff]at h;obtain⟨k,c,g⟩:=B1 n (x::a) b x_80 ha hb.tail h;refine⟨k,c,?_⟩;have bO:=G1 (k:=k) (c:=c) (x:=y) g (fun⟨e1,e2⟩=>by rw[e1,e2,uf (fun z hz=>kA.1 z hz),uf (B0 ha.1 q2)];rfl);simp_all[iS,if_neg,fm]
  have q2:cg y.acc x.acc=false:=by simpa using q2
  have e:=Ah q1 q2;have tail (g:∃k c,¬dL (bU a k c+bU b k c)=true):∃k c,¬dL (bU (x::a) k c+bU (y::b) k c)=true:=by
   obtain⟨k,c,g⟩:=g;refine⟨k,c,?_⟩;have bO:=G1 (k:=k) (c:=c) (x:=x) g (fun⟨e1,e2⟩=>by rw[e1,e2,uf (fun z hz=>ip.1 z hz),e.1,e.2,uf (fun z hz=>kA.1 z hz)];rfl);have e1:iS k c x=0:=if_neg bO;have e2:iS k c y=0:=if_neg (fun q=>bO x_106);rw[fm x,fm y,e1,e2,Int.zero_add,Int.zero_add];exact g
  by_cases q3:dL (x.af+y.af)=true
  ·by_cases q4:x.af+y.af=0
   ·rw[Eb q1 q2 q3 q4]at h;exact tail (B1 n a b (by omega) ha.tail hb.tail h)
   rw[Ec q1 q2 q3 q4,Option.map_eq_none_iff]at h;exact tail (B1 n a b (by omega) ha.tail hb.tail h)
  refine⟨x.acc.kind,x.acc.ch,?_⟩;rw[vp ha.1,e.1,e.2,vp hb.1];exact q3
theorem rk.gS{l:List aO}(h:rk l):rh l:=⟨h.1,fun y hy=>(h.2 y hy).1⟩
theorem LJ{k c:Int}:∀ {l:List aO},rk l->dL (bU l k c)=true
 |[],_=>rfl
 |x::l,h=>by
  by_cases q:x.acc.kind=k/\x.acc.ch=c
  ·obtain⟨rfl,rfl⟩:=q;rw[vp h.1];exact cJ.2 (h.2 x (by simp)).2
  have e:iS k c x=0:=if_neg q;rw[fm,e,Int.zero_add];exact LJ h.tail
theorem LK{l:cH}{p:dX}:iR l p=iv l p/\qi l p=iD l p:=by
 by_cases h0:(eQ l&&iL p.id p.lines)=true
 ·have LL:=h0;rw[Bool.and_eq_true]at LL;obtain⟨hl,hp⟩:=LL;have rl:=hl;unfold eQ at rl;simp only[Bool.and_eq_true]at rl;have la:=wV rl.2;have Ed:=hp;unfold iL at Ed;simp only[Bool.and_eq_true]at Ed;have lp:=wV Ed.2;have hid:=cJ.1 Ed.1.1;have hs:rh (iM l.lines p.lines):=LI (fun y hy=>(lp.af y hy).1) la.lF.gS;by_cases ho:p.id<=l.last
  ·have c1:iR l p=2:=by unfold iR;rw[if_pos h0,if_pos ho]
   have c2:iv l p=2:=Le hl hp ho;exact⟨by rw[c1,c2],by unfold qi iD;rw[c1,c2];rfl⟩
  cases hm:fM l.lines p.lines with
  |none=>
   have c2:iv l p=3:=Lf hl hp ho hm;obtain⟨k,c,g⟩:=B1 _ _ _ (Nat.le_refl _) la.lF.gS lp.lF.gS hm;have Ts:eQ ⟨p.id,iM l.lines p.lines⟩=false:=Bool.eq_false_iff.2 fun q=>by
    unfold eQ at q;simp only[Bool.and_eq_true]at q;have:=LJ (k:=k) (c:=c) (wV q.2).lF;rw[GY]at this;exact g this
   have c1:iR l p=3:=by unfold iR;rw[if_pos h0,if_neg ho,if_neg (by simp[Ts])]
   exact⟨by rw[c1,c2],by unfold qi iD;rw[c1,c2];rfl⟩
  |some m=>
   obtain⟨lm,mq⟩:=Ee la lp hm;have em:iM l.lines p.lines=m:=LE hs lm.lF.gS fun k c=>by rw[GY,mq]
   have g9:rW m=true:=iG.ok (m:=m.length) lm;by_cases hlen:320<m.length
   ·have c2:iv l p=3:=Lg hl hp ho hm hlen;have c1:iR l p=3:=by
     unfold iR;rw[if_pos h0,if_neg ho,em,if_neg];unfold eQ;rw[show decide ((⟨p.id,m⟩:cH).lines.length<=320)=false by simp;omega];simp
    exact⟨by rw[c1,c2],by unfold qi iD;rw[c1,c2];rfl⟩
   have c2:iv l p=0:=Gr hl hp ho hm (by omega);have c1:iR l p=0:=by
    unfold iR;rw[if_pos h0,if_neg ho,em,if_pos];unfold eQ;rw[g9,cJ.2 (show 0<=p.id/\p.id<=1125899906842624 by omega),decide_eq_true (show (⟨p.id,m⟩:cH).lines.length<=320 by show m.length<=320;omega)];rfl
   refine⟨by rw[c1,c2],?_⟩;rw[G2 c2 hm];unfold qi;rw[if_pos c1,em]
 simp_all[iR,if_neg,Gp,qi,iD]
theorem QE{l:cH}{ps:List dX}:fP l ps=jJ l ps:=by
 unfold fP jJ;have:BX=B2:=by
  funext s p;unfold BX B2;rw[LK.1,LK.2]
 rw[this]

def lZ{α:Type}(enc:α->List Value):List α->List α->Bool
 |[],[]=>true
 |x::a,y::b=>dA (enc x) (enc y)&&lZ enc a b
 |_,_=>false
theorem tD{α:Type}{enc:α->List Value}:∀ {a b:List α},a.length≠b.length->lZ enc a b=false
 |[],[],h=>absurd rfl h
 |[],_::_,_=>rfl
 |_::_,[],_=>rfl
 |x::a,y::b,h=>by unfold lZ;rw[tD (a:=a) (b:=b) (by simpa using h),Bool.and_false]
theorem qF{α:Type}{enc:α->List Value}:∀ {a b:List α} {k:Nat} (V:k<a.length) (h2:k<b.length),dA (enc a[k]) (enc b[k])=false->lZ enc a b=false
 |x::a,y::b,0,_,_,h=>by grind[lZ]
 |x::a,y::b,k+1,V,h2,h=>by unfold lZ;rw[qF (a:=a) (b:=b) (k:=k) (by grind) (by grind) (by grind),Bool.and_false]
theorem JR{α:Type}{enc:α->List Value}:∀ {a b:List α},a.length=b.length->(∀(k:Nat) (V:k<a.length) (h2:k<b.length),dA (enc a[k]) (enc b[k])=true)->lZ enc a b=true
 |[],[],_,_=>rfl
 |[],_::_,h,_=>by cases h
 |_::_,[],h,_=>by cases h
 |x::a,y::b,h,hk=>by
  unfold lZ;rw[show dA (enc x) (enc y)=true from hk 0 (by simp) (by simp),JR (a:=a) (b:=b) (by simpa using h) (fun k V h2=>by have:=hk (k+1) x_19 x_24;simpa using this)];rfl
def kY(a b:aw):Bool:=decide (a.tick=b.tick)&&decide (a.next=b.next)&&decide (a.aA=b.aA)&&lZ aX a.ag b.ag&&lZ go a.an b.an&&lZ iX a.aq b.aq
def mC(a b:aw):Bool:=eG a&&eG b&&kY a b
def qE(a b:cH):Bool:=decide (a.last=b.last)&&lZ ct a.lines b.lines
abbrev de(es:List aV):fg:=sB pm es
abbrev d5(es:List aV):cH×Int:=jJ ⟨0,[]⟩ (de es).ps
def eK(l:List Int):Bool:=l.all fun c=>decide (c=0)
def eL(es:List aV):Bool:=eK (de es).jD&&decide ((d5 es).2=((de es).ps.length:Int))
def pZ(es m:List aV):Bool:=decide (m.length<=es.length)&&lZ fR (es.drop (es.length-m.length)) m
def zV(h:mm):Bool:=ik h.log.bT&&aI h.log.next 0 h.log.bT.cells.length&&aI h.log.dP 1 16000000&&decide (((dH h.log.bT).length:Int)=h.log.next)&&eL (f8 h.log.bT)&&mC (de (f8 h.log.bT)).now h.book&&qE (d5 (f8 h.log.bT)).1 h.ia&&pZ (f8 h.log.bT) (h.f9++h.wait)
abbrev Bu(h:mm):AV:=.agg [.p (.ab 195 1 (oS h.log.bT.cells)),.p (.ab 192 2 (oT h.log.bT.bu)),int h.log.next,int h.log.dP,int h.book.tick,int h.book.next,int h.book.aA,.p (.ab 159 7 (ah aX h.book.ag)),.p (.ab 218 7 (ah go h.book.an)),.p (.ab 220 5 (ah iX h.book.aq)),int h.ia.last,.p (.ab 167 3 (ah ct h.ia.lines)),.p (.ab 81 7 (ah fR h.wait)),.p (.ab 81 7 (ah fR h.f9))]
end Go.Proofs.YtflhgkmhmcfimaaGreat

