/- Texts of the proof of FnFnTaken, joined: BkOk, BkStep, BkStep2, BkStep3, BkStep4, PoOk, SzOk, ED6, BalW, LedS. -/
import Derived.Test.YtflhgkmhmcfimaaGreatJTaken15
namespace Go.Proofs.YtflhgkmhmcfimaaGreat
set_option maxRecDepth 100000
open Tryz
open Go.RowKit
set_option linter.unusedSimpArgs false
set_option linter.unusedVariables false
def eY(n:Int):Prop:=0<=n/\n<=1125899906842624
def ed(l:List be)(ch:Int):Prop:=∃c∈l,c.id=ch
structure IX(c:be):Prop where
 id:1<=c.id/\c.id<=99
 loc:eY c.loc
 aC:eY c.aC
 base:eY c.base
 br:0<=c.br/\c.br<=1000000
 cM:-100<=c.cM/\c.cM<=100
 size:eY c.size
structure xu(l:List be)(h:eV):Prop where
 gh:eY h.cW
 out:1<=h.c9/\h.c9<=h.cW
 jP:eY h.jP
 ne:h.gh≠h.out
 ti:ed l h.gh
 to:ed l h.out
structure xw(l:List be)(h:gz):Prop where
 af:1<=h.af/\h.af<=1125899906842624
 ay:eY h.ay
 ne:h.fI≠h.to
 ti:ed l h.fI
 to:ed l h.to
structure hD(x:aw):Prop where
 tick:eY x.tick
 aA:eY x.aA
 next:1<=x.next/\x.next<=1125899906842624
 lc:x.ag.length<=20
 lh:x.an.length<=60
 li:x.aq.length<=20
 hs:∀h∈x.an,xu x.ag h
 cs:∀h∈x.aq,xw x.ag h
 kr:∀k∈dN x,1<=k/\k<=1000000
 kn:(dN x).Pairwise (·≠·)
 gS:x.ag.Pairwise fun a b=>a.id<b.id
 ch:∀c∈x.ag,IX c
 sum:∀c∈x.ag,c.size=c.loc+c.aC+fB x c.id+jh x c.id
theorem MV{l:List be}{ch:Int}:0<=eS l ch↔ed l ch:=by
 constructor
 ·intro h;obtain⟨i,c,_,q,_,r⟩:=p9 h;exact⟨c,dB q,r⟩
 rintro⟨c,hc,rfl⟩;rcases jt l c.id with⟨q,_⟩|⟨i,d,q,_⟩
 ·exact absurd rfl (zY q c hc)
 omega
theorem A9{l:List be}{a b:Int}:two l a b=true↔a≠b/\ed l a/\ed l b:=by
 unfold two;simp only[Bool.and_eq_true,Bool.not_eq_true',beq_eq_false_iff_ne,decide_eq_true_eq,MV];grind
theorem OS{ks:List Int}:wj ks=true↔(∀k∈ks,1<=k/\k<=1000000)/\ks.Pairwise (·≠·):=by
 constructor
 ·intro h;refine⟨fun k hk=>?_,OT h⟩;obtain⟨j,hj,rfl⟩:=List.getElem_of_mem hk;have:=List.all_eq_true.1 h j (by grind);unfold kV at this;rw[Bool.and_eq_true]at this;have V:=this.1;rw[List.getD_eq_getElem?_getD,List.getElem?_eq_getElem hj]at V;exact cJ.1 V
 rintro⟨V,h2⟩;refine IY fun j hj=>?_;unfold kV;rw[Bool.and_eq_true,List.getD_eq_getElem?_getD,List.getElem?_eq_getElem hj];refine⟨cJ.2 (V _ (List.getElem_mem hj)),?_⟩;unfold wm;simp only[Option.getD_some,Bool.not_eq_true',List.any_eq_false,beq_iff_eq];intro y hy e;obtain⟨i,hi,rfl⟩:=List.getElem_of_mem hy;grind[List.pairwise_iff_getElem]
theorem OU{c:be}:pS c=true↔IX c:=by
 constructor
 ·intro h;obtain⟨V,h2,h3,h4,h5,h6,h7⟩:=IZ h;exact⟨V,h2,h3,h4,h5,h6,h7⟩
 rintro⟨V,h2,h3,h4,h5,h6,h7⟩;unfold pS gf xQ;simp only[Bool.and_eq_true,cY,cJ];trivial
theorem mX{x:aw}(h:eG x=true):hD x:=by
 obtain⟨V,h2,h3,h4,h5,h6⟩:=xO h;obtain⟨p1,p2,p3,p4,p5⟩:=CV h5;obtain⟨k1,k2⟩:=OS.1 p5;refine⟨cY.1 V,cY.1 h2,cJ.1 h3,h4,p1,p2,fun y hy=>?_,fun y hy=>?_,k1,k2,?_,fun c hc=>OU.1 (Fq h6 hc).1,fun c hc=>?_⟩
 ·obtain⟨q1,q2,q3,q4,q5⟩:=xR.1 (p3 y hy);obtain⟨r1,r2,r3⟩:=A9.1 q5;exact⟨cY.1 q1,⟨q2,q3⟩,cY.1 q4,r1,r2,r3⟩
 ·obtain⟨q1,q2,q3,q5⟩:=wn.1 (p4 y hy);obtain⟨r1,r2,r3⟩:=A9.1 q5;exact⟨⟨q2,(cY.1 q1).2⟩,cY.1 q3,r1,r2,r3⟩
 ·rw[List.pairwise_iff_getElem];intro i j hi hj gF;simp_all[I0,I1]
 have:=(Fq h6 hc).2;simp_all[ss]
theorem MG{x:aw}(b:hD x):eG x=true:=by
 unfold eG kW;simp only[Bool.and_eq_true,cY,cJ,decide_eq_true_eq,List.all_eq_true];refine⟨⟨⟨⟨⟨b.tick,b.aA⟩,b.next⟩,b.lc⟩,⟨⟨⟨b.lh,b.li⟩,fun y hy=>?_⟩,fun y hy=>?_⟩,OS.2 ⟨b.kr,b.kn⟩⟩,I2 fun j hj=>?_⟩
 ·have q:=b.hs y hy;exact xR.2 ⟨cY.2 q.gh,q.out.1,q.out.2,cY.2 q.jP,A9.2 ⟨q.ne,q.ti,q.to⟩⟩
 ·have q:=b.cs y hy;have:=q.af;exact wn.2 ⟨cY.2 ⟨by omega,q.af.2⟩,q.af.1,cY.2 q.ay,A9.2 ⟨q.ne,q.ti,q.to⟩⟩
 unfold n5;rw[List.getElem?_eq_getElem hj];dsimp only;have hm:=List.getElem_mem hj;rw[Bool.and_eq_true,Bool.and_eq_true];refine⟨⟨OU.2 (b.ch _ hm),?_⟩,?_⟩
 ·unfold su;cases j with
  |zero=>rfl
  |succ j=>
   dsimp only;rw[List.getElem?_eq_getElem (by omega:j<x.ag.length),List.getElem?_eq_getElem hj];simpa using List.pairwise_iff_getElem.1 b.gS j (j+1) (by omega) hj (by omega)
 unfold ss;exact beq_iff_eq.2 (b.sum _ hm)

theorem jT{α:Type}(f:α->Int)(x:α)(l:List α):bG f (x::l)=f x+bG f l:=by rfl
theorem zc{α:Type}(f:α->Int)(l:List α)(x:α):bG f (l++[x])=bG f l+f x:=by grind[bG]
theorem HS{α β:Type}{f:α->Int}{g:β->Int}{m:α->β}{l:List α}(h:∀x∈l,g (m x)=f x):bG g (l.map m)=bG f l:=by
 grind[bG,List.map_congr_left]
theorem vM{α:Type}{f:α->Int}{l:List α}(h:∀x∈l,f x=0):bG f l=0:=by
 induction l with
 |nil=>rfl
 |cons a l ih=>grind[jT]
theorem AH{α:Type}{g:α->Int}{f:α->Int}{l:List α}(jU:l.Pairwise fun a b=>g a≠g b){h:α}(hm:h∈l):bG f (l.filter fun d=>!(g d==g h))+f h=bG f l:=by
 induction l with
 |nil=>cases hm
 |cons a l ih=>
  rw[List.pairwise_cons]at jU;rcases List.mem_cons.1 hm with rfl|Ex;all_goals grind[List.filter_eq_self,jT]
theorem tn{l:List be}{a ch:Int}{f:be->be}(hf:∀c,(f c).id=c.id)(h:ed l ch):ed (cC l a f) ch:=by
 obtain⟨c,hc,rfl⟩:=h;refine⟨_,List.mem_map_of_mem hc,?_⟩;grind
theorem vJ{l:List be}{a:Int}{f:be->be}(hf:∀c,(f c).id=c.id)(h:l.Pairwise fun a b=>a.id<b.id):(cC l a f).Pairwise fun a b=>a.id<b.id:=by
 grind[cC]
theorem Cs{l:List be}{a:Int}{f:be->be}{c:be}(h:c∈cC l a f):∃d∈l,c=if d.id=a then f d else d:=by
 unfold cC at h;grind
theorem hD.UB{x:aw}(b:hD x){n:Int}(hn:1<=n/\n<=1125899906842624):hD { x with next:=n }:=⟨b.tick,b.aA,hn,b.lc,b.lh,b.li,b.hs,b.cs,b.kr,b.kn,b.gS,b.ch,b.sum⟩
theorem hD.Yl{x:aw}(b:hD x){n:Int}(hn:eY n):hD { x with aA:=n }:=⟨b.tick,hn,b.next,b.lc,b.lh,b.li,b.hs,b.cs,b.kr,b.kn,b.gS,b.ch,b.sum⟩
theorem hD.parts{x y:aw}(b:hD x)(ht:eY y.tick)(hw:eY y.aA)(hn:y.next=x.next)(lc:y.ag.length<=20)(lh:y.an.length<=60)(li:y.aq.length<=20)(hs:∀h∈y.an,xu y.ag h)(cs:∀h∈y.aq,xw y.ag h)(kr:∀k∈dN y,1<=k/\k<=1000000)(kn:(dN y).Pairwise (·≠·))
 (gS:y.ag.Pairwise fun a b=>a.id<b.id) (ch:∀c∈y.ag,IX c) (sum:∀c∈y.ag,c.size=c.loc+c.aC+fB y c.id+jh y c.id):hD y:=⟨ht,hw,hn▸b.next,lc,lh,li,hs,cs,kr,kn,gS,ch,sum⟩
theorem xu.ag{l l':List be}{h:eV}(q:xu l h)(k:∀ch,ed l ch->ed l' ch):xu l' h:=⟨q.gh,q.out,q.jP,q.ne,k _ q.ti,k _ q.to⟩
theorem xw.ag{l l':List be}{h:gz}(q:xw l h)(k:∀ch,ed l ch->ed l' ch):xw l' h:=⟨q.af,q.ay,q.ne,k _ q.ti,k _ q.to⟩
theorem Uv{x:aw}{e:aV}(b:hD x)(ho:d8 x e=false)(hk:e.kind=1)(ha:0<=e.af):hD (zb x e).b:=by
 refine b.Yl ?_;have hw:=b.aA;unfold d8 at ho;by_cases hn:x.next=1125899906842624
 ·grind
 rw[if_neg hn,if_pos hk]at ho;grind[eY]
theorem Cp(t:Int)(c:be):(l8 t c).id=c.id:=by grind[l8]
theorem Uz{x:aw}(b:hD x)(ho:x.tick≠1125899906842624):hD (p' x).b:=by
 have ht:=b.tick;have key:∀ch,ed x.ag ch->ed (x.ag.map (l8 x.tick)) ch:=fun ch ⟨c,hc,q⟩=>⟨_,List.mem_map_of_mem hc,by rw[Cp,q]⟩;have o1:∀ch,bG (dK ch) (x.an.map kx)=bG (dK ch) x.an:=fun ch=>HS fun h _=>rfl;have o2:∀ch,bG (gx ch) (x.an.map kx)=bG (gx ch) x.an:=fun ch=>HS fun h _=>rfl;have jF:dN (p' x).b=dN x:=by
  unfold dN p';dsimp only;rw[List.map_map];rfl
 refine b.parts ?_ b.aA rfl ?_ ?_ b.li ?_ (fun h hh=>(b.cs h hh).ag key) ?_ ?_ ?_ ?_ ?_
 ·show eY (x.tick+1);grind[eY]
 ·show (x.ag.map _).length<=_;rw[List.length_map];exact b.lc
 ·show (x.an.map _).length<=_;rw[List.length_map];exact b.lh
 ·intro h hh;obtain⟨d,hd,rfl⟩:=List.mem_map.1 hh;have q:=(b.hs d hd).ag key;refine⟨q.gh,q.out,?_,q.ne,q.ti,q.to⟩;have:=q.jP;grind[kx,eY]
 ·rw[jF];exact b.kr
 ·rw[jF];exact b.kn
 ·show (x.ag.map _).Pairwise _;rw[List.pairwise_map];exact b.gS.imp fun{c d} q=>by grind[Cp]
 ·intro c hc;obtain⟨d,hd,rfl⟩:=List.mem_map.1 hc;have q:=b.ch d hd;unfold l8;split
  ·exact⟨q.id,q.loc,q.aC,q.base,q.br,OV _,q.size⟩
  omega
 intro c hc;obtain⟨d,hd,rfl⟩:=List.mem_map.1 hc;have q:=b.sum d hd;grind[fB,p',jh,l8]
theorem Ux{x:aw}{e:aV}(b:hD x)(ha:eY e.af)(hf:0<=e.ay/\e.ay<=1000000):hD (ou x e).b:=by
 unfold ou;split
 ·exact b
 have I3:∀c:be,({ c with base:=e.af,br:=e.ay }:be).id=c.id:=fun _=>rfl;refine b.parts b.tick b.aA rfl (by show (cC _ _ _).length<=_;rw[sh];exact b.lc) b.lh b.li (fun h hh=>(b.hs h hh).ag fun ch q=>tn I3 q) (fun h hh=>(b.cs h hh).ag fun ch q=>tn I3 q) b.kr b.kn (vJ I3 b.gS) (fun c hc=>?_) (fun c hc=>?_)
 ·obtain⟨d,hd,rfl⟩:=Cs hc;have q:=b.ch d hd;split
  ·exact⟨q.id,q.loc,q.aC,ha,hf,q.cM,q.size⟩
  omega
 obtain⟨d,hd,rfl⟩:=Cs hc;have q:=b.sum d hd;split<;>exact q
theorem Ym{l:List be}{c d:be}(h:d∈l\/d=c):d∈ly l c:=by
 grind[ly,List.take_append_drop]
theorem Yn{l:List be}{c:be}(h:l.Pairwise fun a b=>a.id<b.id)(hn:∀d∈l,d.id≠c.id):(ly l c).Pairwise fun a b=>a.id<b.id:=by
 have hp:lV l c.id<=l.length:=List.findIdx_le_length;have V:∀d∈l.take (lV l c.id),d.id<c.id:=fun d hd=>by
  obtain⟨i,hi,rfl⟩:=List.getElem_of_mem hd;rw[List.length_take]at hi;rw[List.getElem_take];have:=List.not_of_lt_findIdx (p:=fun d:be=>!decide (d.id<c.id)) (xs:=l) (i:=i) (by unfold lV at hi;omega);simpa using this
 have h2:∀d∈l.drop (lV l c.id),c.id<d.id:=fun d hd=>by
  obtain⟨i,hi,rfl⟩:=List.getElem_of_mem hd;rw[List.length_drop]at hi;rw[List.getElem_drop];have eI:lV l c.id<l.length:=by omega
  have q0:¬l[lV l c.id].id<c.id:=by
   have:=List.findIdx_getElem (xs:=l) (p:=fun d:be=>!decide (d.id<c.id)) (w:=eI);intro r;rw[show (l[List.findIdx (fun d:be=>!decide (d.id<c.id)) l]'eI)=l[lV l c.id]from rfl]at this;simp[r]at this
  have q1:=hn _ (List.getElem_mem eI);rcases Nat.eq_zero_or_pos i with r|r
  ·subst r;simp only[Nat.add_zero];omega
  have:=List.pairwise_iff_getElem.1 h (lV l c.id) (lV l c.id+i) eI (by omega) (by omega);omega
 unfold ly;grind
theorem hD.none{x:aw}(b:hD x){ch:Int}(h:¬ed x.ag ch):fB x ch=0/\jh x ch=0:=by
 unfold fB jh;rw[vM fun y hy=>?_,vM fun y hy=>?_,vM fun y hy=>?_,vM fun y hy=>?_]
 ·simp
 ·unfold ix;split
  ·rename_i q;exact absurd (q▸(b.cs y hy).to) h
  rfl
 ·unfold gx;split
  ·rename_i q;exact absurd (q▸(b.hs y hy).ti) h
  rfl
 ·unfold eR;split
  ·rename_i q;exact absurd (q▸(b.cs y hy).ti) h
  rfl
 unfold dK;split
 ·rename_i q;exact absurd (q▸(b.hs y hy).to) h
 rfl
theorem Uw{x:aw}{e:aV}(b:hD x)(mq:e.af+e.ay<=1125899906842624)(ha:0<=e.af)(hf:0<=e.ay)(hid:1<=e.ch/\e.ch<=99)(hc:gO x e=0):hD (sJ x e).b:=by
 rw[tK hc];have iY:=zY (DB hc);have EK:¬ed x.ag e.ch:=fun⟨c,q1,q2⟩=>iY c q1 q2;have oF:¬(20:Int)<=(x.ag.length:Int):=fun q=>by
  simp_all[gO,dI,mp]
 have vX:¬x.aA<e.af:=fun q=>by
  grind[gO,mp]
 have hw:=b.aA;have key:∀ch,ed x.ag ch->ed (ly x.ag (jc e)) ch:=fun ch ⟨c,q1,q2⟩=>⟨c,Ym (.inl q1),q2⟩;refine b.parts b.tick ?_ rfl ?_ b.lh b.li (fun h hh=>(b.hs h hh).ag key) (fun h hh=>(b.cs h hh).ag key) b.kr b.kn (Yn b.gS iY) (fun c hc=>?_) (fun c hc=>?_)
 ·grind[eY]
 ·grind[OW]
 ·rcases EP hc with q|rfl
  ·exact b.ch c q
  exact⟨hid,⟨ha,by grind⟩,⟨hf,by grind⟩,⟨Int.le_refl _,by simp⟩,⟨Int.le_refl _,by simp⟩,⟨by simp,by simp⟩,⟨by grind,mq⟩⟩
 rcases EP hc with q|rfl
 ·exact b.sum c q
 obtain⟨q1,q2⟩:=b.none EK;grind[fB,jh]

theorem ky{b:Bool}{c k:Int}(hk:k≠0)(h:bE b c k=0):c=0/\b=false:=by
 unfold bE at h;grind
theorem Fr{l:List be}(ha:l.Pairwise fun a b=>a.id<b.id){d:be}(hd:d∈l):fz l d.id=d:=by
 rcases jt l d.id with⟨q,_⟩|⟨i,c,q1,q2,q3,q4⟩
 ·exact absurd rfl (zY q d hd)
 rw[q3];have hp:l.Pairwise fun a b=>a.id≠b.id:=ha.imp fun h=>by omega
 obtain⟨j,hj,e⟩:=List.getElem_of_mem hd;have:i=j:=OX (g:=fun c=>c.id) hp q2 (by rw[List.getElem?_eq_getElem hj,e]) q4;grind
theorem OY{x:aw}{k:Int}(h:nD x k=false):∀y∈dN x,k≠y:=fun y hy e=>by
 have:=any_keys x k;grind[wH,dN]
theorem xx{l:List be}{a b:Int}{f g:be->be}(hf:∀c,(f c).id=c.id)(kN:a≠b){c:be}(h:c∈cC (cC l a f) b g):∃d∈l,(d.id=a/\c=f d)\/(d.id=b/\c=g d)\/(d.id≠a/\d.id≠b/\c=d):=by
 obtain⟨d',I4,rfl⟩:=Cs h;obtain⟨d,hd,rfl⟩:=Cs I4;grind
theorem Uy{x:aw}{e:aV}(b:hD x)(bO:e.ch≠e.to)(AP:1<=e.key/\e.key<=1000000)(ha:1<=e.af)(hc:gg x e=0):hD (sP x e).b:=by
 rw[sR hc];have V:dz x e=0:=by
  by_cases q:dz x e=0
  ·exact q
  grind[jx]
 unfold dz at V;obtain⟨h2,g1⟩:=ky (by decide) V;obtain⟨h3,g2⟩:=ky (by decide) h2;obtain⟨h4,g3⟩:=ky (by decide) h3;unfold im at h4;rw[p8 bO]at h4;obtain⟨h5,g4⟩:=ky (by decide) h4;obtain⟨h6,g5⟩:=ky (by decide) h5;obtain⟨_,g6⟩:=ky (by decide) h6;have I5:two x.ag e.ch e.to=true:=by simpa using g5
 obtain⟨_,t1,t2⟩:=A9.1 I5;simp only[decide_eq_false_iff_not]at g1 g2 g4;unfold gZ at g3;rw[Bool.or_eq_false_iff,Bool.not_eq_false',Bool.not_eq_false']at g3;have hs:cn x e=e.af+kG (fz x.ag e.to).base (fz x.ag e.to).br e.af:=ye g3.2;have g9:=g3.2;unfold gI at g9;simp only[Bool.and_eq_true,cY]at g9;have mq:eY (cn x e)/\e.af<=cn x e:=by rw[hs];unfold eY;omega
 have f1:∀c:be,({ c with aC:=c.aC-cn x e }:be).id=c.id:=fun _=>rfl;have f2:∀c:be,({ c with loc:=c.loc-e.af }:be).id=c.id:=fun _=>rfl;have key:∀ch,ed x.ag ch->ed (mI x e).b.ag ch:=fun ch q=>tn f2 (tn f1 q);have ho:∀ch,fB (mI x e).b ch=fB x ch+(if e.to=ch then e.af else 0):=fun ch=>by
  grind[fB,mI,zc,dK]
 have hi:∀ch,jh (mI x e).b ch=jh x ch+(if e.ch=ch then cn x e else 0):=fun ch=>by
  grind[jh,mI,zc,gx]
 have yF:=OY g6;have jF:(dN (mI x e).b).Perm (e.key::dN x):=by
  unfold dN mI;dsimp only;rw[List.map_append,List.append_assoc];exact List.perm_middle
 refine b.parts b.tick b.aA rfl ?_ ?_ b.li (fun h hh=>?_) (fun h hh=>(b.cs h hh).ag key) (fun k hk=>?_) ?_ (vJ f2 (vJ f1 b.gS)) (fun c hc=>?_) (fun c hc=>?_)
 ·show (cC (cC _ _ _) _ _).length<=_;rw[sh,sh];exact b.lc
 ·show (x.an++[_]).length<=_;grind
 ·rcases List.mem_append.1 hh with hh|hh
  ·exact(b.hs h hh).ag key
  rw[List.mem_singleton]at hh;subst hh;exact⟨mq.1,⟨ha,mq.2⟩,⟨Int.le_refl _,by simp⟩,bO,key _ t1,key _ t2⟩
 ·rcases List.mem_cons.1 (jF.mem_iff.1 hk)with rfl|hk
  ·exact AP
  exact b.kr k hk
 ·exact(List.Perm.pairwise_iff (fun h=>Ne.symm h) jF).2 (List.pairwise_cons.2 ⟨yF,b.kn⟩)
 ·obtain⟨d,hd,q|q|q⟩:=xx f1 bO hc
  ·have k:=b.ch d hd;have e1:=Fr b.gS hd;rw[q.1]at e1;rw[e1]at g2;have:=k.aC;rw[q.2];refine⟨k.id,k.loc,?_,k.base,k.br,k.cM,k.size⟩;grind[eY]
  ·have k:=b.ch d hd;have e1:=Fr b.gS hd;rw[q.1]at e1;rw[e1]at g1;have:=k.loc;rw[q.2];refine⟨k.id,?_,k.aC,k.base,k.br,k.cM,k.size⟩;grind[eY]
  rw[q.2.2];exact b.ch d hd
 obtain⟨d,hd,q|q|q⟩:=xx f1 bO hc
 ·have k:=b.sum d hd;grind
 ·have k:=b.sum d hd;grind
 have k:=b.sum d hd;grind
theorem UA{x:aw}{e:aV}(b:hD x)(bO:e.ch≠e.to)(AP:1<=e.key/\e.key<=1000000)(ha:1<=e.af)(hc:fL x e=0):hD (sS x e).b:=by
 rw[uZ hc];unfold fL at hc;obtain⟨h2,g1⟩:=ky (by decide) hc;obtain⟨h3,g2⟩:=ky (by decide) h2;obtain⟨h4,g3⟩:=ky (by decide) h3;unfold kv at h4;rw[p8 bO]at h4;obtain⟨h5,g4⟩:=ky (by decide) h4;obtain⟨h6,g5⟩:=ky (by decide) h5;obtain⟨_,g6⟩:=ky (by decide) h6;have I5:two x.ag e.ch e.to=true:=by simpa using g5
 obtain⟨_,t1,t2⟩:=A9.1 I5;simp only[decide_eq_false_iff_not]at g1 g2 g4;have CW:gI e.af e.ay=true:=by simpa using g3
 have hs:=ye CW;unfold gI at CW;simp only[Bool.and_eq_true,cY]at CW;rw[hs]at g2;have f1:∀c:be,({ c with loc:=c.loc-eM e.af e.ay }:be).id=c.id:=fun _=>rfl;have f2:∀c:be,({ c with aC:=c.aC-e.af }:be).id=c.id:=fun _=>rfl;have key:∀ch,ed x.ag ch->ed (oH x e).b.ag ch:=fun ch q=>tn f2 (tn f1 q);have ho:∀ch,fB (oH x e).b ch=fB x ch+(if e.ch=ch then e.af+e.ay else 0):=fun ch=>by
  grind[fB,oH,zc,eR]
 have hi:∀ch,jh (oH x e).b ch=jh x ch+(if e.to=ch then e.af else 0):=fun ch=>by
  grind[jh,oH,zc,ix]
 have yF:=OY g6;have jF:(dN (oH x e).b).Perm (e.key::dN x):=by
  unfold dN oH;dsimp only;rw[List.map_append,<-List.append_assoc];exact List.perm_append_singleton _ _
 refine b.parts b.tick b.aA rfl ?_ b.lh ?_ (fun h hh=>(b.hs h hh).ag key) (fun h hh=>?_) (fun k hk=>?_) ?_ (vJ f2 (vJ f1 b.gS)) (fun c hc=>?_) (fun c hc=>?_)
 ·show (cC (cC _ _ _) _ _).length<=_;rw[sh,sh];exact b.lc
 ·show (x.aq++[_]).length<=_;grind
 ·rcases List.mem_append.1 hh with hh|hh
  ·exact(b.cs h hh).ag key
  rw[List.mem_singleton]at hh;subst hh;exact⟨⟨ha,by grind⟩,⟨CW.1.2.1,CW.1.2.2⟩,bO,key _ t1,key _ t2⟩
 ·rcases List.mem_cons.1 (jF.mem_iff.1 hk)with rfl|hk
  ·exact AP
  exact b.kr k hk
 ·exact(List.Perm.pairwise_iff (fun h=>Ne.symm h) jF).2 (List.pairwise_cons.2 ⟨yF,b.kn⟩)
 ·obtain⟨d,hd,q|q|q⟩:=xx f1 bO hc
  ·have k:=b.ch d hd;have e1:=Fr b.gS hd;rw[q.1]at e1;rw[e1]at g2;have:=k.loc;rw[q.2];refine⟨k.id,?_,k.aC,k.base,k.br,k.cM,k.size⟩;grind[eY]
  ·have k:=b.ch d hd;have e1:=Fr b.gS hd;rw[q.1]at e1;rw[e1]at g1;have:=k.aC;rw[q.2];refine⟨k.id,k.loc,?_,k.base,k.br,k.cM,k.size⟩;grind[eY]
  rw[q.2.2];exact b.ch d hd
 obtain⟨d,hd,q|q|q⟩:=xx f1 bO hc
 ·have k:=b.sum d hd;grind
 ·have k:=b.sum d hd;grind
 have k:=b.sum d hd;grind

theorem ut{L:List be}{l:List eV}{m:List gz}(hs:∀h∈l,xu L h)(cs:∀h∈m,xw L h)(ch:Int):0<=bG (dK ch) l/\0<=bG (gx ch) l/\0<=bG (eR ch) m/\0<=bG (ix ch) m:=by
 refine⟨?_,?_,?_,?_⟩
 ·refine(sd (dK ch) 1125899906842624 (by decide) l fun y hy=>?_).1;have:=(hs y hy).out;have:=(hs y hy).gh;grind[eY,dK]
 ·refine(sd (gx ch) 1125899906842624 (by decide) l fun y hy=>?_).1;have:=(hs y hy).gh;grind[eY,gx]
 ·refine(sd (eR ch) 2251799813685248 (by decide) m fun y hy=>?_).1;have:=(cs y hy).af;have:=(cs y hy).ay;grind[eY,eR]
 refine(sd (ix ch) 1125899906842624 (by decide) m fun y hy=>?_).1;have:=(cs y hy).af;grind[ix]
theorem AE{x:aw}(b:hD x):(x.an.Pairwise fun a b=>a.key≠b.key)/\x.aq.Pairwise fun a b=>a.key≠b.key:=by
 have h:=b.kn;grind[dN]
theorem x_108{p:Prop}(c:p:=by exact ⟨w1▸k.id,by grind[eY],by grind[eY],w3▸k.base,w4▸k.br,w8▸k.cM,w2▸k.size⟩):p:=c
theorem MC{x y:aw}(b:hD x){h:eV}(hm:h∈x.an){f g:be->be}(tj:y.an=jS x.an h.key)(se:y.aq=x.aq)(sg:y.ag=cC (cC x.ag h.gh f) h.out g)(HG:y.tick=x.tick)(HH:y.aA=x.aA)(HI:y.next=x.next)
 (f1:∀c,(f c).id=c.id/\(f c).size=c.size/\(f c).base=c.base/\(f c).br=c.br/\(f c).loc+(f c).aC=c.loc+c.aC+h.cW/\c.loc<=(f c).loc/\c.aC<=(f c).aC/\(-100<=(f c).cM/\(f c).cM<=100))
 (g1:∀c,(g c).id=c.id/\(g c).size=c.size/\(g c).base=c.base/\(g c).br=c.br/\(g c).loc+(g c).aC=c.loc+c.aC+h.c9/\c.loc<=(g c).loc/\c.aC<=(g c).aC/\(g c).cM=c.cM):hD y:=by
 have q:=b.hs h hm
 have bO:=q.ne
 have fi:∀c,(f c).id=c.id:=fun c=>(f1 c).1
 have gi:∀c,(g c).id=c.id:=fun c=>(g1 c).1
 have key:∀ch,ed x.ag ch->ed y.ag ch:=fun ch r=>by grind[tn]
 have my:∀z∈y.an,z∈x.an:=fun z hz=>by rw[tj]at hz;exact(List.mem_filter.1 hz).1
 have ot:∀z∈y.an,xu x.ag z:=fun z hz=>b.hs z (my z hz)
 have ig:∀z∈y.aq,xw x.ag z:=fun z hz=>b.cs z (se▸hz)
 have ho:∀ch,fB y ch+dK ch h=fB x ch:=fun ch=>by
  unfold fB;have:=AH (g:=fun z:eV=>z.key) (f:=dK ch) (AE b).1 hm;grind[jS]
 have hi:∀ch,jh y ch+gx ch h=jh x ch:=fun ch=>by
  unfold jh;have:=AH (g:=fun z:eV=>z.key) (f:=gx ch) (AE b).1 hm;grind[jS]
 have ml:(dN y).Sublist (dN x):=by
  unfold dN;rw[tj,se];exact(List.filter_sublist.map _).append (List.Sublist.refl _)
 have hlen:y.an.length<=60:=by
  rw[tj];have V:(jS x.an h.key).length<=x.an.length:=List.length_filter_le _ _;have:=b.lh;omega
 refine b.parts (HG▸b.tick) (HH▸b.aA) HI (by rw[sg,sh,sh];exact b.lc) hlen (se▸b.li) (fun z hz=>(ot z hz).ag key) (fun z hz=>(ig z hz).ag key) (fun k hk=>b.kr k (ml.subset hk)) (b.kn.sublist ml) (by rw[sg];exact vJ gi (vJ fi b.gS)) (fun c hc=>?_) (fun c hc=>?_)
 ·rw[sg]at hc
  obtain⟨d,hd,r|r|r⟩:=xx fi bO hc
  ·have k:=b.ch d hd
   have s:=b.sum d hd
   have o:=ut ot ig d.id
   have e1:=ho d.id
   have e2:=hi d.id
   unfold dK at e1
   unfold gx at e2
   rw[if_neg (by omega)]at e1
   rw[if_pos r.1.symm]at e2
   unfold fB at e1 s
   unfold jh at e2 s
   obtain⟨w1,w2,w3,w4,w5,w6,w7,w8⟩:=f1 d
   have k2:=k.loc
   have k3:=k.aC
   have k4:=k.size
   have k5:=ut b.hs b.cs d.id
   rw[r.2]
   unfold eY at *
   exact⟨w1▸k.id,by grind[eY],by grind[eY],w3▸k.base,w4▸k.br,w8,w2▸k.size⟩
  ·have k:=b.ch d hd
   have s:=b.sum d hd
   have o:=ut ot ig d.id
   have e1:=ho d.id
   have e2:=hi d.id
   unfold dK at e1
   unfold gx at e2
   rw[if_pos r.1.symm]at e1
   rw[if_neg (by omega)]at e2
   unfold fB at e1 s
   unfold jh at e2 s
   obtain⟨w1,w2,w3,w4,w5,w6,w7,w8⟩:=g1 d
   have k2:=k.loc
   have k3:=k.aC
   have k4:=k.size
   have k5:=ut b.hs b.cs d.id
   rw[r.2]
   unfold eY at *
   exact x_108
  rw[r.2.2];exact b.ch d hd
 rw[sg]at hc
 obtain⟨d,hd,r|r|r⟩:=xx fi bO hc
 ·have s:=b.sum d hd
  have e1:=ho d.id
  have e2:=hi d.id
  unfold dK at e1
  unfold gx at e2
  grind
 ·have s:=b.sum d hd
  have e1:=ho d.id
  have e2:=hi d.id
  unfold dK at e1
  unfold gx at e2
  grind
 have s:=b.sum d hd
 have e1:=ho d.id
 have e2:=hi d.id
 unfold dK at e1
 unfold gx at e2
 grind
theorem x_113{p:Prop}(c:p:=by exact ⟨rfl,rfl,rfl,rfl,by dsimp only;omega,by dsimp only;omega,Int.le_refl _,rfl⟩):p:=c
theorem x_114{p:Prop}(c:p:=by exact ⟨rfl,rfl,rfl,rfl,by dsimp only;omega,Int.le_refl _,by dsimp only;omega,rfl⟩):p:=c
theorem Ur{x:aw}{e:aV}(b:hD x):hD (mR x e).b:=by
 unfold mR;split
 ·rename_i h hf;have hm:=List.mem_of_find?_eq_some hf;have q:=b.hs h hm;have q1:=q.gh;have q2:=q.out;unfold eY at q1;unfold pN;split
  ·exact MC b hm rfl rfl rfl rfl rfl rfl (fun c=>⟨rfl,rfl,rfl,rfl,by dsimp only;omega,by dsimp only;omega,Int.le_refl _,MD _⟩) (fun c=>x_114)
  exact MC b hm rfl rfl rfl rfl rfl rfl (fun c=>⟨rfl,rfl,rfl,rfl,by dsimp only;omega,Int.le_refl _,by dsimp only;omega,ME _⟩) (fun c=>x_113)
 omega

theorem MF{x y:aw}(b:hD x){h:gz}(hm:h∈x.aq){f g:be->be}(tj:y.aq=jA x.aq h.key)(se:y.an=x.an)(sg:y.ag=cC (cC x.ag h.fI f) h.to g)(HG:y.tick=x.tick)(HH:y.aA=x.aA)(HI:y.next=x.next)
 (f1:∀c,(f c).id=c.id/\(f c).size=c.size/\(f c).base=c.base/\(f c).br=c.br/\(f c).loc+(f c).aC=c.loc+c.aC+(h.af+h.ay)/\c.loc<=(f c).loc/\c.aC<=(f c).aC/\(f c).cM=c.cM)
 (g1:∀c,(g c).id=c.id/\(g c).size=c.size/\(g c).base=c.base/\(g c).br=c.br/\(g c).loc+(g c).aC=c.loc+c.aC+h.af/\c.loc<=(g c).loc/\c.aC<=(g c).aC/\(g c).cM=c.cM):hD y:=by
 have q:=b.cs h hm
 have bO:=q.ne
 have fi:∀c,(f c).id=c.id:=fun c=>(f1 c).1
 have gi:∀c,(g c).id=c.id:=fun c=>(g1 c).1
 have key:∀ch,ed x.ag ch->ed y.ag ch:=fun ch r=>by grind[tn]
 have my:∀z∈y.aq,z∈x.aq:=fun z hz=>by rw[tj]at hz;exact(List.mem_filter.1 hz).1
 have ot:∀z∈y.an,xu x.ag z:=fun z hz=>b.hs z (se▸hz)
 have ig:∀z∈y.aq,xw x.ag z:=fun z hz=>b.cs z (my z hz)
 have ho:∀ch,fB y ch+eR ch h=fB x ch:=fun ch=>by
  unfold fB;have:=AH (g:=fun z:gz=>z.key) (f:=eR ch) (AE b).2 hm;grind[jA]
 have hi:∀ch,jh y ch+ix ch h=jh x ch:=fun ch=>by
  unfold jh;have:=AH (g:=fun z:gz=>z.key) (f:=ix ch) (AE b).2 hm;grind[jA]
 have ml:(dN y).Sublist (dN x):=by
  unfold dN;rw[tj,se];exact(List.Sublist.refl _).append (List.filter_sublist.map _)
 have hlen:y.aq.length<=20:=by
  rw[tj];have V:(jA x.aq h.key).length<=x.aq.length:=List.length_filter_le _ _;have:=b.li;omega
 refine b.parts (HG▸b.tick) (HH▸b.aA) HI (by rw[sg,sh,sh];exact b.lc) (se▸b.lh) hlen (fun z hz=>(ot z hz).ag key) (fun z hz=>(ig z hz).ag key) (fun k hk=>b.kr k (ml.subset hk)) (b.kn.sublist ml) (by rw[sg];exact vJ gi (vJ fi b.gS)) (fun c hc=>?_) (fun c hc=>?_)
 ·rw[sg]at hc
  obtain⟨d,hd,r|r|r⟩:=xx fi bO hc
  ·have k:=b.ch d hd
   have s:=b.sum d hd
   have o:=ut ot ig d.id
   have e1:=ho d.id
   have e2:=hi d.id
   unfold eR at e1
   unfold ix at e2
   rw[if_pos r.1.symm]at e1
   rw[if_neg (by omega)]at e2
   unfold fB at e1 s
   unfold jh at e2 s
   obtain⟨w1,w2,w3,w4,w5,w6,w7,w8⟩:=f1 d
   have k2:=k.loc
   have k3:=k.aC
   have k4:=k.size
   have k5:=ut b.hs b.cs d.id
   rw[r.2]
   unfold eY at *
   exact x_108
  ·have k:=b.ch d hd
   have s:=b.sum d hd
   have o:=ut ot ig d.id
   have e1:=ho d.id
   have e2:=hi d.id
   unfold eR at e1
   unfold ix at e2
   rw[if_neg (by omega)]at e1
   rw[if_pos r.1.symm]at e2
   unfold fB at e1 s
   unfold jh at e2 s
   obtain⟨w1,w2,w3,w4,w5,w6,w7,w8⟩:=g1 d
   have k2:=k.loc
   have k3:=k.aC
   have k4:=k.size
   have k5:=ut b.hs b.cs d.id
   rw[r.2]
   unfold eY at *
   exact x_108
  rw[r.2.2];exact b.ch d hd
 rw[sg]at hc
 obtain⟨d,hd,r|r|r⟩:=xx fi bO hc
 ·have s:=b.sum d hd
  have e1:=ho d.id
  have e2:=hi d.id
  unfold eR at e1
  unfold ix at e2
  grind
 ·have s:=b.sum d hd
  have e1:=ho d.id
  have e2:=hi d.id
  unfold eR at e1
  unfold ix at e2
  grind
 have s:=b.sum d hd
 have e1:=ho d.id
 have e2:=hi d.id
 unfold eR at e1
 unfold ix at e2
 grind
theorem Us{x:aw}{e:aV}(b:hD x):hD (nm x e).b:=by
 unfold nm;split
 ·rename_i h hf;have hm:=List.mem_of_find?_eq_some hf;have q:=b.cs h hm;have q1:=q.af;have q2:=q.ay;unfold eY at q2;unfold mN;split
  ·exact MF b hm rfl rfl rfl rfl rfl rfl (fun c=>x_114) (fun c=>x_113)
  exact MF b hm rfl rfl rfl rfl rfl rfl (fun c=>x_113) (fun c=>x_114)
 omega
theorem Ut{x:aw}{e:aV}(b:hD x)(hf:0<=e.ay)(hk:e.kind=3)(ho:d8 x e=false)(hc:ir x e=0):hD (rH x e).b:=by
 rw[yf hc];unfold ir at hc;obtain⟨h2,g1⟩:=ky (by decide) hc;obtain⟨h3,g2⟩:=ky (by decide) h2;simp only[decide_eq_false_iff_not]at g1;rcases jt x.ag e.ch with⟨q,_⟩|⟨i,c,q,q2,q3,q4⟩
 ·grind[j9,mp]
 have bC:=dB q2;have HJ:=b.ch c bC;have hl:=HJ.loc;rw[q3]at g1;have gy:¬1125899906842624<x.aA+c.loc-e.ay:=by
  unfold d8 at ho;by_cases hn:x.next=1125899906842624
  ·grind
  grind
 have hw:=b.aA;unfold oG at g2;rw[Bool.or_eq_false_iff]at g2;have u1:∀h∈x.an,h.gh≠e.ch/\h.out≠e.ch:=fun h hh=>by
  simp_all[nH]
 have u2:∀h∈x.aq,h.fI≠e.ch/\h.to≠e.ch:=fun h hh=>by
  simp_all[nI]
 have key:∀ch,ch≠e.ch->ed x.ag ch->ed (ny x.ag e.ch) ch:=fun ch bO ⟨d,hd,r⟩=>⟨d,List.mem_filter.2 ⟨hd,by grind⟩,r⟩;have my:∀d∈ny x.ag e.ch,d∈x.ag:=fun d hd=>(List.mem_filter.1 hd).1;refine b.parts b.tick ?_ rfl ?_ b.lh b.li (fun h hh=>?_) (fun h hh=>?_) b.kr b.kn (b.gS.sublist List.filter_sublist) (fun d hd=>b.ch d (my d hd)) (fun d hd=>b.sum d (my d hd))
 ·show eY (x.aA+((fz x.ag e.ch).loc-e.ay));grind[eY]
 ·have V:(ny x.ag e.ch).length<=x.ag.length:=List.length_filter_le _ _;have:=b.lc;show (ny x.ag e.ch).length<=_;omega
 ·have q:=b.hs h hh;have u:=u1 h hh;exact⟨q.gh,q.out,q.jP,q.ne,key _ u.1 q.ti,key _ u.2 q.to⟩
 have q:=b.cs h hh;have u:=u2 h hh;exact⟨q.af,q.ay,q.ne,key _ u.1 q.ti,key _ u.2 q.to⟩
theorem HK{e:aV}(h:co e=true):(hK e.kind=true->1<=e.key/\e.key<=1000000)/\(hC e.kind=true->1<=e.ch/\e.ch<=99)/\(hA e.kind=true->e.kind≠4->1<=e.af)/\(e.kind=4->e.ay<=1000000):=by
 unfold co at h;simp only[Bool.and_eq_true]at h;obtain⟨⟨⟨⟨⟨⟨⟨V,h2⟩,h3⟩,h4⟩,h5⟩,h6⟩,h7⟩,h8⟩:=h;unfold gj at h2 h3 h6 h7;refine⟨fun q=>?_,fun q=>?_,fun q r=>?_,fun q=>?_⟩
 ·simp_all[cJ]
 ·simp_all[cJ]
 ·simp_all[cJ]
 rw[if_pos (by rw[q];rfl),if_pos q]at h7;grind[cJ]
theorem Uu{x:aw}{e:aV}(h:dG x e=0):hD (bz x e).b:=by
 obtain⟨V,h2,h3⟩:=rS h;have b:=mX V;have mS:(eG x&&co e)=true:=by rw[V,h2];rfl
 have hw:(bz x e).c=0:=by rw[<-yA mS h3];exact h
 obtain⟨_,a0,f0⟩:=ED h2;have am:=uu h2;rw[cY,cY]at am;obtain⟨p1,p2,p3,p4⟩:=HK h2;have hn:=EE h3;by_cases k1:e.kind=1
 ·rw[<-yY k1];grind[Uv]
 by_cases k2:e.kind=2
 ·rw[<-xy k2]at hw ⊢;have hs:=HL hn k2;rw[h3]at hs;by_cases q:gO x e=0
  ·exact Uw b (by simpa using hs.symm) a0 f0 (p2 (by rw[k2];rfl)) q
  grind[sK]
 by_cases k3:e.kind=3
 ·rw[<-yZ k3]at hw ⊢;grind[Ut,tM]
 by_cases k4:e.kind=4
 ·rw[<-vK k4];exact Ux b am.1 ⟨f0,p4 k4⟩
 by_cases k5:e.kind=5
 ·rw[<-xz k5]at hw ⊢;by_cases q:gg x e=0
  ·exact Uy b (AI h2 (.inl k5)) (p1 (by rw[k5];rfl)) (p3 (by rw[k5];rfl) (by omega)) q
  grind[jm]
 by_cases k6:e.kind=6\/e.kind=7
 ·rw[<-uv k6];exact Ur b
 by_cases k8:e.kind=8
 ·rw[<-y7 k8];grind[HM,Uz]
 by_cases k9:e.kind=9
 ·rw[<-t8 k9]at hw ⊢;by_cases q:fL x e=0
  ·exact UA b (AI h2 (.inr k9)) (p1 (by rw[k9];rfl)) (p3 (by rw[k9];rfl) (by omega)) q
  grind[od]
 have:=y8 h2;rw[<-ua (by omega)];exact Us b
theorem Gy{x:aw}{e:aV}(h:dG x e=0):eG (dp x e)=true:=by
 have b:=Uu h;by_cases r:(bz x e).l=[]
 ·grind[ub,MG]
 rw[(rU h r).1];have hn:=EE (rS h).2.2;have h2:=b.next;rw[xA]at h2 ⊢;exact MG (b.UB x_106)

theorem vr{a b c:Acc}(h:cg a b=true)(h2:cg b c=true):cg a c=true:=by
 unfold cg at *;grind
def o6(x:aO):Int:=x.af
theorem MH{x:aO}:∀ {l:List aO},(l.Pairwise fun a b=>cg a.acc b.acc=true)->cL l x.acc.kind x.acc.ch->(fV l x).Pairwise fun a b=>cg a.acc b.acc=true
 |[],_,_=>by grind[fV]
 |y::l,h,hf=>by
  rw[List.pairwise_cons]at h;unfold fV;by_cases q:cg y.acc x.acc=true
  ·rw[if_pos q,List.pairwise_cons];refine⟨fun z hz=>?_,MH h.2 fun z hz=>hf z (by simp[hz])⟩;rcases BG hz with r|rfl;all_goals grind
  rw[if_neg q];have q':=KS (hf y (by simp)) (by simpa using q);rw[List.pairwise_cons];refine⟨fun z hz=>?_,List.pairwise_cons.2 h⟩;rcases List.mem_cons.1 hz with rfl|r;all_goals grind[vr]
theorem MI{x:aO}:∀(l:List aO),bG o6 (fV l x)=bG o6 l+x.af
 |[]=>by grind[fV,jT,o6]
 |y::l=>by
  unfold fV;split
  ·rw[jT,jT,MI l];omega
  rw[jT];unfold o6;omega
def om(a:Acc):Prop:=(1<=a.kind/\a.kind<=5/\a.ch=0)\/(6<=a.kind/\a.kind<=8/\1<=a.ch/\a.ch<=99)
structure iG(l:List aO)(s:Int)(m:Nat):Prop where
 gS:l.Pairwise fun a b=>cg a.acc b.acc=true
 acc:∀y∈l,om y.acc
 af:∀y∈l,y.af≠0/\-1125899906842624<=y.af/\y.af<=1125899906842624
 sum:bG o6 l=s
 len:l.length<=m
theorem iG.nil:iG [] 0 0:=⟨List.Pairwise.nil,by simp,by simp,rfl,Nat.le_refl _⟩
theorem iG.add{l:List aO}{s n k c:Int}{m:Nat}(h:iG l s m)(hv:om ⟨k,c⟩)(hf:cL l k c)(hn:-1125899906842624<=n/\n<=1125899906842624):iG (bR l k c n) (s+n) (m+1):=by
 by_cases q:n=0
 ·rw[BK q,q,Int.add_zero];exact⟨h.gS,h.acc,h.af,h.sum,Nat.le_succ_of_le h.len⟩
 rw[BL q];refine⟨MH h.gS hf,fun y hy=>?_,fun y hy=>?_,?_,?_⟩
 ·rcases BG hy with r|rfl
  ·exact h.acc y r
  omega
 ·rcases BG hy with r|rfl
  ·exact h.af y r
  grind
 ·rw[MI,h.sum]
 rw[BH];have:=h.len;omega
theorem iG.eq{l:List aO}{s t:Int}{m:Nat}(h:iG l s m)(e:s=t):iG l t m:=e▸h
theorem iG.two{l:List aO}{m:Nat}(h:iG l 0 m)(hl:l≠[]):2<=l.length:=by
 match l,hl with
 |[y],_=>
  have V:=h.sum;rw[jT,EF]at V;have h2:=(h.af y (by simp)).1;grind[o6]
 |_::_::_,_=>simp
theorem ed.ok{x:aw}(b:hD x){ch:Int}(h:ed x.ag ch):1<=ch/\ch<=99:=by
 obtain⟨c,hc,rfl⟩:=h;exact(b.ch c hc).id
theorem y9{k:Int}(h:1<=k/\k<=5):om ⟨k,0⟩:=.inl ⟨h.1,h.2,rfl⟩
theorem qq{k ch:Int}(h:6<=k/\k<=8)(hc:1<=ch/\ch<=99):om ⟨k,ch⟩:=.inr ⟨h.1,h.2,hc.1,hc.2⟩
theorem nl{l:List aO}{a b c k ch:Int}(h:cL l k ch)(hd:a≠k\/b≠ch):cL (bR l a b c) k ch:=h.add hd
theorem Ab{x:aw}{e:aV}(h:dG x e=0):iG (bz x e).l 0 3:=by
 obtain⟨V,h2,h3⟩:=rS h;have b:=mX V;have mS:(eG x&&co e)=true:=by rw[V,h2];rfl
 have hw:(bz x e).c=0:=by rw[<-yA mS h3];exact h
 have am:=uu h2;rw[cY,cY]at am;obtain⟨a0,f0⟩:=am;obtain⟨p1,p2,p3,p4⟩:=HK h2;have hn:=EE h3;have EG:iG [] 0 3:=⟨List.Pairwise.nil,by simp,by simp,rfl,by simp⟩;have up:∀ {l:List aO} {s:Int},iG l s 2->s=0->iG l 0 3:=fun q r=>by subst r;exact⟨q.gS,q.acc,q.af,q.sum,Nat.le_succ_of_le q.len⟩
 by_cases k1:e.kind=1
 ·rw[<-yY k1];exact up ((iG.nil.add (y9 (by omega)) (cL.nil _ _) (by omega)).add (y9 (by omega)) (nl (cL.nil _ _) (.inl (by decide))) (by omega)) (by omega)
 by_cases k2:e.kind=2
 ·rw[<-xy k2]at hw ⊢;by_cases q:gO x e=0
  ·rw[tK q];exact up ((iG.nil.add (qq (by omega) (p2 (by rw[k2];rfl))) (cL.nil _ _) (by omega)).add (y9 (by omega)) (nl (cL.nil _ _) (.inl (by decide))) (by omega)) (by omega)
  grind[sK]
 by_cases k3:e.kind=3
 ·rw[<-yZ k3]at hw ⊢;by_cases q:ir x e=0
  ·rw[yf q];unfold ir at q;obtain⟨_,g1⟩:=ky (by decide) q;simp only[decide_eq_false_iff_not]at g1;have hl:eY (fz x.ag e.ch).loc:=by
    rcases jt x.ag e.ch with⟨_,r⟩|⟨i,c,_,r2,r3,_⟩
    ·rw[r];exact⟨Int.le_refl _,by decide⟩
    rw[r3];exact(b.ch c (dB r2)).loc
   unfold eY at hl;exact(((iG.nil.add (y9 (by omega)) (cL.nil _ _) (by omega)).add (y9 (by omega)) (nl (cL.nil _ _) (.inl (by decide))) (by omega)).add (qq (by omega) (p2 (by rw[k3];rfl))) (nl (nl (cL.nil _ _) (.inl (by decide))) (.inl (by decide))) (by omega)).eq (by omega)
  grind[tM]
 by_cases k4:e.kind=4
 ·rw[<-vK k4];grind[ou]
 by_cases k5:e.kind=5
 ·rw[<-xz k5]at hw ⊢;by_cases q:gg x e=0
  ·rw[sR q];have MJ:1<=e.to/\e.to<=99:=by
    have h5:=h2;unfold co at h5;simp only[Bool.and_eq_true]at h5;have:=h5.1.1.1.1.2;unfold gj at this;rw[if_pos (by rw[k5];rfl)]at this;exact cJ.1 this
   exact up ((iG.nil.add (qq (by omega) MJ) (cL.nil _ _) (by omega)).add (qq (by omega) MJ) (nl (cL.nil _ _) (.inl (by decide))) (by omega)) (by omega)
  grind[jm]
 by_cases k6:e.kind=6\/e.kind=7
 ·rw[<-uv k6];unfold mR;split
  ·rename_i y hy;have q:=b.hs y (List.mem_of_find?_eq_some hy);have q1:=q.gh;have q2:=q.out;unfold eY at q1;have ti:=ed.ok b q.ti;have to:=ed.ok b q.to;unfold pN;split
   ·exact(((iG.nil.add (y9 (by omega)) (cL.nil _ _) (by omega)).add (qq (by omega) ti) (nl (cL.nil _ _) (.inl (by decide))) (by omega)).add (qq (by omega) to) (nl (nl (cL.nil _ _) (.inl (by decide))) (.inl (by decide))) (by omega)).eq (by omega)
   exact up ((iG.nil.add (qq (by omega) to) (cL.nil _ _) (by omega)).add (qq (by omega) to) (nl (cL.nil _ _) (.inl (by decide))) (by omega)) (by omega)
  omega
 by_cases k8:e.kind=8
 ·rw[<-y7 k8];exact EG
 by_cases k9:e.kind=9
 ·rw[<-t8 k9]at hw ⊢;by_cases q:fL x e=0
  ·rw[uZ q];have hs:bk (eM e.af e.ay):=lQ _ _;unfold bk at hs;have y':=p2 (by rw[k9];rfl);exact up ((iG.nil.add (qq (by omega) y') (cL.nil _ _) (by omega)).add (qq (by omega) y') (nl (cL.nil _ _) (.inl (by decide))) (by omega)) (by omega)
  grind[od]
 have:=y8 h2;rw[<-ua (by omega)];unfold nm;split
 ·rename_i y hy;have hm:=List.mem_of_find?_eq_some hy;have q:=b.cs y hm;have q1:=EH V y hm;have ti:=ed.ok b q.ti;have to:=ed.ok b q.to;unfold mN;split
  ·exact(((iG.nil.add (y9 (by omega)) (cL.nil _ _) (by omega)).add (qq (by omega) to) (nl (cL.nil _ _) (.inl (by decide))) (by omega)).add (qq (by omega) ti) (nl (nl (cL.nil _ _) (.inl (by decide))) (.inl (by decide))) (by omega)).eq (by omega)
  exact up ((iG.nil.add (qq (by omega) ti) (cL.nil _ _) (by omega)).add (qq (by omega) ti) (nl (cL.nil _ _) (.inl (by decide))) (by omega)) (by omega)
 omega

def uw(l l':List be):Prop:=∀c∈l,∃d∈l',d.id=c.id/\d.size=c.size
theorem uw.refl(l:List be):uw l l:=fun c hc=>⟨c,hc,rfl,rfl⟩
theorem uw.trans{a b c:List be}(h:uw a b)(h2:uw b c):uw a c:=fun x hx=>by
 obtain⟨y,hy,q1,q2⟩:=h x hx;obtain⟨z,hz,r1,r2⟩:=h2 y hy;grind
theorem uw.aH{l:List be}{a:Int}{f:be->be}(hf:∀c,(f c).id=c.id/\(f c).size=c.size):uw l (cC l a f):=fun c hc=>by
 refine⟨_,List.mem_map_of_mem hc,?_⟩;grind
theorem uw.map{l:List be}{f:be->be}(hf:∀c,(f c).id=c.id/\(f c).size=c.size):uw l (l.map f):=fun c hc=>⟨_,List.mem_map_of_mem hc,hf c⟩
theorem UC{x:aw}{e:aV}(h:dG x e=0)(hp:(dl x e).id≠0):(dl x e).id=x.next/\(dp x e).next=x.next+1/\iG (dl x e).lines 0 3/\2<=(dl x e).lines.length:=by
 by_cases r:(bz x e).l=[]
 ·simp_all[ub]
 rw[(rU h r).1,(rU h r).2];exact⟨rfl,by grind[xA],Ab h,(Ab h).two r⟩

set_option maxHeartbeats 16000000
set_option maxRecDepth 100000
def nd(a:Acc):Bool:=if aI a.kind 6 8=true then aI a.ch 1 99 else aI a.kind 1 5&&(a.ch==0)
def vh(l:List aO)(i:Nat)(x:aO):Bool:=match i with|0=>true|j+1=>match l[j]? with|some y=>cg y.acc x.acc|none=>true
def oX(l:List aO)(i:Nat):Bool:=match l[i]? with|some x=>nd x.acc&&!(x.af==0)&&dL x.af&&vh l i x|none=>true
def qh(x:aO):Int:=x.af
def rW(l:List aO):Bool:=(List.range l.length).all (oX l)&&(bG qh l==0)
theorem ve{a:Acc}:nd a=true↔(1<=a.kind/\a.kind<=5/\a.ch=0)\/(6<=a.kind/\a.kind<=8/\1<=a.ch/\a.ch<=99):=by
 unfold nd;by_cases h:aI a.kind 6 8=true
 ·rw[if_pos h];grind[cJ]
 rw[if_neg h,Bool.and_eq_true,cJ,beq_iff_eq];grind[Kv]
theorem lX{l:List aO}{k:Nat}(h:k<l.length):oX l k=(nd l[k].acc&&!(l[k].af==0)&&dL l[k].af&&vh l k l[k]):=by
 grind[oX]
theorem rX{l:List aO}{k:Nat}(h:k<l.length)(h2:oX l k=false):rW l=false:=by
 grind[rW]
theorem D2{l:List aO}(h:∀j,j<l.length->oX l j=true):rW l=(bG qh l==0):=by
 grind[rW]
theorem nV{l:List aO}{k:Nat}{x:aO}(h0:0<k)(h:k<l.length):vh l k x=cg (l[k-1]'(by omega)).acc x.acc:=by
 obtain⟨j,rfl⟩:∃j,k=j+1:=⟨k-1,by omega⟩;show (match l[j]? with|some y=>cg y.acc x.acc|none=>true)=_;grind
theorem MK{l:List aO}:∀(k:Nat),k<=l.length->(∀j,j<k->oX l j=true)->-((k:Int)*1125899906842624)<=bG qh (l.take k)/\bG qh (l.take k)<=(k:Int)*1125899906842624
 |0,_,_=>by simp[bG]
 |k+1,hk,h=>by
  have ih:=MK k (by omega) (fun j hj=>h j (by omega));have hl:=h k (by omega);rw[lX (by omega:k<l.length)]at hl;simp only[Bool.and_eq_true]at hl;have hr:=cJ.1 hl.1.2;grind[oJ,qh]
theorem D1{l:List aO}{k:Nat}(hn:l.length<=1000)(hk:k<l.length)(h:∀j,j<k->oX l j=true)(hr:dL l[k].af=true):Fits .i64 (bG qh (l.take k)+l[k].af):=by
 have:=MK k (by omega) h;have:=cJ.1 hr;grind[ce,i64]
def iL(n:Int)(l:List aO):Bool:=aI n 1 1125899906842624&&aI (l.length:Int) 2 8&&rW l
theorem UD(a:Acc):GC prog 224 [.agg [int a.kind,int a.ch]] [] (aD (nd a)) []:=by
 refine gi 2 func224 rfl ntmps224 rfl ?_;intro L O w0;refine sL<|ab (zX 2001 Z) Z<|ar Z<|Y<|aS<|sL<|lf 0 oW Z<|aj ac Z<|ab (zC [] [] [] func92 (pp _ _ _) (trivial) Z Z) Z<|Y ?_;refine AW.cond rfl ?_ ?_
 ·intro V;refine sL<|lf 1 rV Z<|aj ac Z<|ab (zC [] [] [] func92 (pp _ _ _) (trivial) Z Z) Z<|bv Z<|Y<|aR<|rT ?_;refine az trivial ?_;simp_all[nd]
 intro V;refine aK<|gA<|lf 0 oW Z<|aj ac Z<|ab (zC [] [] [] func92 (pp _ _ _) (trivial) Z Z) Z<|aQ Z ?_;refine AL.bool (t:=12) rfl ?_ ?_
 ·intro h2;refine lf 1 rV Z<|aj ac Z<|ak Z<|bj Z<|bv Z<|Y<|aR ?_;refine az trivial ?_;first|rfl|simp_all[nd,vi]|(simp_all[nd,aI];omega)
 intro h2;refine aa Z<|aa Z<|aa Z<|bL Z<|ar Z<|Y<|aR ?_;refine az trivial ?_;first|rfl|simp_all[nd]|(simp_all[nd,aI];omega)
theorem x_86{p:Prop}(c:p:=by exact ⟨hk,fun j hj=>(Nat.lt_or_ge j k).elim (bB j) (fun q=>by grind)⟩):p:=c
theorem x_109{p:Prop}(c:p:=by exact Eq.trans (b:=int _) rfl (congrArg int (oJ qh l hk).symm)):p:=c
theorem x_121{p:Prop}(c:p:=by exact ⟨k+1,x_86,by omega,⟨x_109,(iq rfl),trivial⟩,trivial,rfl,rfl⟩):p:=c
theorem Ld(l:List aO)(hn:l.length<=1000):GC prog 222 [.p (.ab 167 3 (ah ct l))] [] (aD (rW l)) []:=by
 refine gi 2 func222 rfl ntmps222 rfl ?_;intro L O w0;refine sL<|ar Z<|nA<|ao Z<|Y<|aS<|sL<|bm Z<|ba hZ Z<|ae Z<|Y<|aB ?_;refine aW [0,2,6,7] [] (D:=Nat) (fun k=>[(3,int (bG qh (l.take k))),(8,int (k:Int))]) (fun k=>[]) (fun k=>k<=l.length/\∀j,j<k->oX l j=true) (fun k=>l.length-k) (0) x_57 ⟨rfl,rfl,trivial⟩ trivial ?_;intro k hI;obtain⟨eN,bB⟩:=hI;refine sL<|ak Z<|Y<|aS ?_;refine AW.cond rfl ?_ ?_
 ·intro V;refine aK<|gT<|aS<|aB<|sL<|ae Z ?_;have hk:k<l.length:=by simpa[ap]using V
  refine li k cV Z (bS hk)<|d6 (.agg [U _ _,U _ _,U _ _]) iV Z<|ab (zA 2005 eP Z) Z<|ao Z<|ab (zB 2005 vf vg Z) Z<|Y<|aS<|aS<|aF []<|vq 0 (rf 0 jf Z)<|vq 1 (dw (.agg [U _ _,U _ _]) i0 Z)<|bn 2 Z (zC [] [] [] func224 (UD l[k].acc) (trivial) Z Z) (.inr Z)<|fT [0,2,3,4,5,6,7,8,15] [2005] ?_;refine vq 3 (gQ Z)<|vq 4 (dx Z) ?_;refine AF.bool (t:=17) rfl ?_ ?_
  ·intro h2;refine al 5 Z<|al 6 Z<|al 7 Z<|vq 8 (bA Z)<|vq 9 (cF Z)<|al 10 Z<|al 11 Z<|al 12 Z<|al 13 Z<|vq 14 (bA Z)<|vq 15 (cF Z)<|al 16 Z<|al 17 Z<|al 18 Z<|bi 19 Z<|bi 20 Z<|bi 21 Z<|bi 22 Z<|bi 23 Z<|bi 24 Z<|al 25 Z<|al 26 Z<|al 27 Z<|al 28 Z<|al 29 Z<|vq 30 (bA Z)<|fD<|gT<|aY Z<|aS ?_;refine aL<|ar Z<|Y<|aR<|rT<|rB<|rT<|rT<|rB<|rT ?_;refine az trivial ?_;first|(exfalso;simp only[decide_eq_true_eq]at *;omega)|grind[rX,lX]
  intro h2;refine vq 5 (rf 2 ni Z)<|vq 6 (aZ ac Z)<|vq 7 (dt Z)<|vq 8 (cv Z)<|vq 9 (dx Z) ?_;refine AF.bool (t:=22) rfl ?_ ?_
  ·intro h3;refine al 10 Z<|al 11 Z<|al 12 Z<|al 13 Z<|vq 14 (bA Z)<|vq 15 (cF Z)<|al 16 Z<|al 17 Z<|al 18 Z<|bi 19 Z<|bi 20 Z<|bi 21 Z<|bi 22 Z<|bi 23 Z<|bi 24 Z<|al 25 Z<|al 26 Z<|al 27 Z<|al 28 Z<|al 29 Z<|vq 30 (bA Z)<|fD<|gT<|aY Z<|sL<|ar Z<|Y<|aR ?_;refine rT<|rB<|rT<|rT<|rB<|rT ?_;refine az trivial ?_;first|(exfalso;simp only[decide_eq_true_eq]at *;omega)|grind[rX,lX]
  intro h3;refine vq 10 (rf 2 ni Z)<|vq 11 (aZ ac Z)<|bn 12 Z (zC [] [] [] func92 (pp _ _ _) (trivial) Z Z) (.inr Z)<|fT [0,2,3,4,5,6,7,8,22,25] [2005] ?_;refine vq 13 (gQ Z)<|vq 14 (cv Z)<|vq 15 (dx Z) ?_;refine AF.bool (t:=28) rfl ?_ ?_
  ·intro h4;refine al 16 Z<|al 17 Z<|al 18 Z<|bi 19 Z<|bi 20 Z<|bi 21 Z<|bi 22 Z<|bi 23 Z<|bi 24 Z<|al 25 Z<|al 26 Z<|al 27 Z<|al 28 Z<|al 29 Z<|vq 30 (bA Z)<|fD<|gT<|aY Z<|sL<|ar Z<|Y<|aR<|rT<|rB<|rT<|rT<|rB<|rT ?_;refine az trivial ?_;first|(exfalso;simp only[decide_eq_true_eq]at *;omega)|grind[rX,lX,dL]
  intro h4;refine vq 16 (dW Z)<|vq 17 (dt Z)<|vq 18 (dx Z) ?_;refine AF.bool (t:=31) rfl ?_ ?_
  ·intro h5;refine pq 19 (iz Z)<|pq 20 (gL (U _ _) Z) ?_;have hp:0<k:=by simpa using h5
   refine sq 21 (qV rfl x_82)<|sq 22 (rd (x:=.rp _) (yt (i:=k-1) rfl cV rfl rfl ?hn1 (bS (by omega:k-1<l.length))) rfl) ?_;case hn1=>omega
   refine pq 23 (qd (x:=.rp _) (EI jf rfl) rfl)<|sq 24 (gm (.agg [U _ _,U _ _]) i0 rfl)<|vq 25 (rf 0 jf rfl)<|vq 26 (dw (.agg [U _ _,U _ _]) i0 rfl)<|bn 27 rfl (zC [] [] [] func223 (HN (l[k-1]'(by omega)).acc l[k].acc) (trivial) rfl rfl) (.inr rfl)<|fT [0,2,3,5,6,7,8,28,31,40] [2005] ?_;refine vq 28 (gQ Z)<|vq 29 (cv Z)<|vq 30 (cv Z)<|fD<|gT ?_;refine AW.cond rfl ?_ ?_
   ·intro h6;refine sL<|ar Z<|Y<|aR<|rT<|rB<|rT<|rT<|rB<|rT ?_;refine az trivial ?_;first|(exfalso;simp only[decide_eq_true_eq]at *;omega)|grind[rX,lX,nV]
   intro h6;refine aK<|gT<|aL<|ae Z<|lf 2 ni Z<|aj ac Z ?_;have yD:vh l k l[k]=true:=by
    rcases Nat.eq_zero_or_pos k with q|q
    ·omega
    grind[nV]
   have kd:oX l k=true:=by rw[lX hk,yD];simp_all[dL]
   have yE:dL l[k].af=true:=by rw[lX hk]at kd;simp only[Bool.and_eq_true]at kd;exact kd.1.2
   refine eo rfl ⟨rfl,D1 (by omega) hk bB yE⟩<|ao Z<|lN<|gB<|gT<|aL<|bg Z<|ae Z<|Y ?_;refine x_121
  intro h5;refine bi 19 Z<|bi 20 Z<|bi 21 Z<|bi 22 Z<|bi 23 Z<|bi 24 Z<|al 25 Z<|al 26 Z<|al 27 Z<|al 28 Z<|vq 29 (kK Z)<|vq 30 (kK Z)<|fD<|gT<|aN Z<|aK<|gT<|aL<|ae Z<|lf 2 ni Z<|aj ac Z ?_;have yD:vh l k l[k]=true:=by
   rcases Nat.eq_zero_or_pos k with q|q
   ·subst q;rfl
   grind
  have kd:oX l k=true:=by rw[lX hk,yD];simp_all[dL]
  have yE:dL l[k].af=true:=by rw[lX hk]at kd;simp only[Bool.and_eq_true]at kd;exact kd.1.2
  refine eo rfl ⟨rfl,D1 (by omega) hk bB yE⟩<|ao Z<|lN<|gB<|gT<|aL<|bg Z<|ae Z<|Y ?_;refine x_121
 intro V;refine aE<|eT<|eT<|eB<|gA<|ae Z<|ak Z<|bv Z<|Y<|aR ?_;refine az trivial ?_;have yF:¬k<l.length:=by simpa[ap]using V
 obtain rfl:k=l.length:=by omega
 simp_all[D2,vi]
theorem SM(n:Int)(l:List aO)(hn:l.length<=1000):GC prog 122 [.agg [int n,.p (.ab 167 3 (ah ct l))]] [] (aD (iL n l)) []:=by
 refine gi 2 func122 rfl ntmps122 rfl ?_;intro L O w0;refine sL<|ab (zX 2001 Z) Z<|ar Z<|nA<|lf 0 wN Z<|aj ac Z<|ab (zC [] [] [] func92 (pp _ _ _) (trivial) Z Z) Z<|aQ Z ?_;refine AL.bool (t:=6) rfl ?_ ?_
 ·intro V;refine lf 1 t7 Z<|bo gY Z<|ba hZ Z<|ab (zC [] [] [] func92 (pp _ _ _) (trivial) Z Z) Z<|bj Z<|aQ Z ?_;refine AL.bool (t:=12) rfl ?_ ?_
  ·intro h2;refine lf 1 t7 Z<|bo gY Z<|ab (zC [] [] [] func222 (Ld l hn) (trivial) Z Z) Z<|lT [2,12,15] [2001] ?_;refine bj Z<|bv Z<|Y<|aR ?_;refine az trivial ?_;simp_all[iL,ap]
  intro h2;refine aa Z<|aa Z<|aa Z<|bL Z<|ar Z<|Y<|aR ?_;refine az trivial ?_;simp_all[iL,ap]
 intro V;refine aa Z<|aa Z<|aa Z<|aa Z<|bL Z<|dm Z<|aa Z<|aa Z<|aa Z<|bL Z<|ar Z<|Y<|aR ?_;refine az trivial ?_;grind[iL]

instance {l:List be} {ch:Int}:Decidable (ed l ch):=inferInstanceAs (Decidable (∃c,c∈l/\c.id=ch))
def iS(k c:Int)(x:aO):Int:=if x.acc.kind=k/\x.acc.ch=c then x.af else 0
def bU(l:List aO)(k c:Int):Int:=bG (iS k c) l
theorem dU(k c:Int):bU [] k c=0:=rfl
theorem fm(x:aO)(l:List aO)(k c:Int):bU (x::l) k c=iS k c x+bU l k c:=jT _ _ _
theorem ML{x:aO}{k c:Int}:∀(l:List aO),bU (fV l x) k c=bU l k c+iS k c x
 |[]=>by grind[fV,fm]
 |y::l=>by
  unfold fV;split
  ·rw[fm,fm,ML l];omega
  rw[fm];omega
theorem fO(l:List aO)(k c n k' c':Int):bU (bR l k c n) k' c'=bU l k' c'+(if k=k'/\c=c' then n else 0):=by
 by_cases q:n=0
 ·grind[BK]
 rw[BL q,ML];rfl
theorem qr(c:be)(l:List be)(ch:Int):fz (c::l) ch=if c.id=ch then c else fz l ch:=by
 unfold fz;grind
theorem EJ(l m:List be)(ch:Int):fz (l++m) ch=if ed l ch then fz l ch else fz m ch:=by
 induction l with
 |nil=>rfl
 |cons c l ih=>
  rw[List.cons_append,qr,qr,ih];by_cases q:c.id=ch
  ·rw[if_pos q,if_pos q,if_pos ⟨c,by simp,q⟩]
  rw[if_neg q,if_neg q];have e:ed (c::l) ch↔ed l ch:=⟨fun⟨d,hd,r⟩=>by
   rcases List.mem_cons.1 hd with rfl|hd
   ·exact absurd r q
   exact⟨d,hd,r⟩,fun⟨d,hd,r⟩=>⟨d,by simp[hd],r⟩⟩
  grind
theorem UE{l:List be}{ch:Int}(h:¬ed l ch):fz l ch=BM:=by
 rcases jt l ch with⟨_,r⟩|⟨i,c,_,q,_,r⟩
 ·exact r
 exact absurd ⟨c,dB q,r⟩ h
theorem HO{f:be->be}(hf:∀c,(f c).id=c.id)(a ch:Int):∀(l:List be),fz (cC l a f) ch=if ch=a/\ed l a then f (fz l a)else fz l ch
 |[]=>by rw[if_neg (fun⟨_,c,hc,_⟩=>by grind)];rfl
 |c::l=>by
  have ih:=HO hf a ch l;have e0:cC (c::l) a f=(if c.id=a then f c else c)::cC l a f:=rfl;have hid:(if c.id=a then f c else c).id=c.id:=by split<;>simp[hf]
  rw[e0,qr,hid];by_cases q:c.id=ch
  ·rw[if_pos q];by_cases r:ch=a;all_goals simp_all[ed,qr]
  rw[if_neg q,ih];by_cases r:ch=a;all_goals simp_all[ed,qr]
def hP(l:List be)(ch:Int):Int:=(fz l ch).loc
theorem MM{f:be->be}(hf:∀c,(f c).id=c.id){n:Int}(hn:∀c,(f c).loc=c.loc+n){l:List be}{a:Int}(ht:ed l a)(ch:Int):hP (cC l a f) ch=hP l ch+(if a=ch then n else 0):=by
 unfold hP;rw[HO hf];grind
theorem HP{f:be->be}(hf:∀c,(f c).id=c.id)(hn:∀c,(f c).loc=c.loc)(l:List be)(a ch:Int):hP (cC l a f) ch=hP l ch:=by
 grind[hP,HO]
theorem AJ{l:List be}{a b:Int}{f g:be->be}(hf:∀c,(f c).id=c.id)(hg:∀c,(g c).id=c.id){n m:Int}(hn:∀c,(f c).loc=c.loc+n)(hm:∀c,(g c).loc=c.loc+m)(ta:ed l a\/n=0)(tb:ed l b\/m=0)(ch:Int):hP (cC (cC l a f) b g) ch=hP l ch+(if a=ch then n else 0)+(if b=ch then m else 0):=by
 have V:hP (cC l a f) ch=hP l ch+(if a=ch then n else 0):=by
  rcases ta with t|t
  ·simp_all[MM]
  simp_all[HP]
 have h2:hP (cC (cC l a f) b g) ch=hP (cC l a f) ch+(if b=ch then m else 0):=by
  rcases tb with t|t
  ·simp_all[MM,tn]
  simp_all[HP]
 rw[h2,V]
theorem MN{f:be->be}(hf:∀c,(f c).id=c.id)(hn:∀c,(f c).loc=c.loc)(ch:Int):∀(l:List be),hP (l.map f) ch=hP l ch
 |[]=>rfl
 |c::l=>by
  have ih:=MN hf hn ch l;unfold hP at *;rw[List.map_cons,qr,qr,hf];split
  ·exact hn c
  exact ih
theorem MO(ch a:Int):∀(l:List be),hP (ny l a) ch=if a=ch then 0 else hP l ch
 |[]=>by show (0:Int)=_;split<;>rfl
 |c::l=>by
  have ih:=MO ch a l;unfold hP ny at *;rw[List.filter_cons];by_cases q:c.id=a
  ·simp_all[qr]
  rw[show (!(c.id==a))=true from by simp[q],if_pos rfl,qr,qr];grind
theorem UF{l:List be}{c:be}(hn:¬ed l c.id)(ch:Int):hP (ly l c) ch=if c.id=ch then c.loc else hP l ch:=by
 unfold hP ly;have my:∀k,∀m:List be,(∀d∈m,d∈l)->ed m k->ed l k:=fun k m h ⟨d,hd,r⟩=>⟨d,h d hd,r⟩;rw[EJ];have e:fz l ch=if ed (l.take (lV l c.id)) ch then fz (l.take (lV l c.id)) ch else fz (l.drop (lV l c.id)) ch:=by
  rw[<-EJ,List.take_append_drop]
 by_cases q:c.id=ch
 ·subst q;rw[if_pos ⟨c,by simp,rfl⟩,if_pos rfl,EJ,if_neg (fun z=>hn (my _ _ (fun d hd=>List.mem_of_mem_take hd) z)),qr,if_pos rfl]
 rw[if_neg q,e];have e2:ed (l.take (lV l c.id)++[c]) ch↔ed (l.take (lV l c.id)) ch:=⟨fun⟨d,hd,r⟩=>by
  rcases List.mem_append.1 hd with hd|hd
  ·exact⟨d,hd,r⟩
  rw[List.mem_singleton]at hd;subst hd;exact absurd r q,fun⟨d,hd,r⟩=>⟨d,by simp[hd],r⟩⟩
 by_cases t:ed (l.take (lV l c.id)) ch;all_goals simp_all[EJ]
structure AK(x y:aw)(l:List aO):Prop where
 za:y.aA=x.aA+bU l 1 0
 loc:∀ch,hP y.ag ch=hP x.ag ch+bU l 6 ch
 out:∀ch,fB y ch=fB x ch+bU l 8 ch
 gh:∀ch,bU l 7 ch=0
theorem AK.refl(x:aw):AK x x []:=⟨by simp[dU],fun ch=>by simp[dU],fun ch=>by simp[dU],fun ch=>rfl⟩
theorem x_34{p:Prop}(c:p:=by intro c;first|rfl|(dsimp only;omega)):p:=c
theorem x_134{p:Prop}(c:p:=by intro c;rfl):p:=c
theorem MP{x:aw}{e:aV}(h:dG x e=0):AK x (bz x e).b (bz x e).l:=by
 obtain⟨V,h2,h3⟩:=rS h;have b:=mX V;have mS:(eG x&&co e)=true:=by rw[V,h2];rfl
 have hw:(bz x e).c=0:=by rw[<-yA mS h3];exact h
 have bO:=HK h2;by_cases k1:e.kind=1
 ·rw[<-yY k1];unfold zb;refine⟨?_,fun ch=>?_,fun ch=>?_,fun ch=>?_⟩<;>simp only[fO,dU]<;>simp;rfl
 by_cases k2:e.kind=2
 ·rw[<-xy k2]at hw ⊢;by_cases q:gO x e=0
  ·rw[tK q];have iY:=zY (DB q);have EK:¬ed x.ag e.ch:=fun⟨c,q1,q2⟩=>iY c q1 q2;refine⟨?_,fun ch=>?_,fun ch=>?_,fun ch=>?_⟩
   ·simp only[fO,dU];simp;omega
   ·show hP (ly x.ag _) ch=_;rw[UF EK];simp only[fO,dU];by_cases r:e.ch=ch
    ·subst r;have:hP x.ag e.ch=0:=by unfold hP;rw[UE EK];rfl
     simp[this]
    simp[r]
   ·simp only[fO,dU];simp;rfl
   simp only[fO,dU];simp
  grind[sK]
 by_cases k3:e.kind=3
 ·rw[<-yZ k3]at hw ⊢;by_cases q:ir x e=0
  ·rw[yf q];unfold zZ;refine⟨?_,fun ch=>?_,fun ch=>?_,fun ch=>?_⟩
   ·simp only[fO,dU];simp
   ·show hP (ny x.ag _) ch=_;rw[MO];simp only[fO,dU];by_cases r:e.ch=ch
    ·subst r;simp;unfold hP;omega
    simp[r]
   ·simp only[fO,dU];simp;rfl
   simp only[fO,dU];simp
  grind[tM]
 by_cases k4:e.kind=4
 ·rw[<-vK k4];unfold ou;split
  ·exact AK.refl x
  refine⟨by simp[dU],fun ch=>?_,fun ch=>?_,fun ch=>rfl⟩
  ·rw[dU,Int.add_zero];show hP (cC x.ag e.ch _) ch=_;simp[HP]
  rw[dU,Int.add_zero];rfl
 by_cases k5:e.kind=5
 ·rw[<-xz k5]at hw ⊢;by_cases q:gg x e=0
  ·rw[sR q];have t2:ed x.ag e.to:=by
    have V:dz x e=0:=by
     by_cases q':dz x e=0
     ·exact q'
     rw[jx q']at q;exact q
    unfold dz at V;obtain⟨h2,_⟩:=ky (by decide) V;obtain⟨h3,_⟩:=ky (by decide) h2;obtain⟨h4,_⟩:=ky (by decide) h3;unfold im at h4;obtain⟨h5,_⟩:=ky (by decide) h4;refine Classical.byContradiction fun hn=>?_;have Cc:eS x.ag e.to=-1:=by
     rcases jt x.ag e.to with⟨r,_⟩|⟨i,c,r,s,_,t⟩
     ·exact r
     exact absurd ⟨c,dB s,t⟩ hn
    rw[j9 Cc]at h5;exact mp (by decide) h5
   refine⟨?_,fun ch=>?_,fun ch=>?_,fun ch=>?_⟩
   ·unfold mI;simp only[fO,dU];simp
   ·unfold mI;dsimp only;refine Eq.trans (AJ (n:=0) (m:=-e.af) x_134 x_134 x_34 x_34 (.inr rfl) (.inl t2) ch) ?_;simp only[fO,dU];simp
   ·unfold fB mI;dsimp only;rw[zc];unfold dK;simp only[fO,dU];simp;omega
   unfold mI;simp only[fO,dU];simp
  grind[jm]
 by_cases k6:e.kind=6\/e.kind=7
 ·rw[<-uv k6];unfold mR;split
  ·rename_i y hy;have hm:=List.mem_of_find?_eq_some hy;have q:=b.hs y hm;have ho:∀ch,bG (dK ch) (jS x.an y.key)+dK ch y=bG (dK ch) x.an:=fun ch=>by
    have:=AH (g:=fun z:eV=>z.key) (f:=dK ch) (AE b).1 hm;unfold jS;omega
   unfold pN;split
   ·refine⟨?_,fun ch=>?_,fun ch=>?_,fun ch=>?_⟩
    ·simp only[fO,dU];simp
    ·dsimp only;refine Eq.trans (AJ (n:=y.cW) (m:=0) x_134 x_134 x_34 x_34 (.inl q.ti) (.inr rfl) ch) ?_;simp only[fO,dU];simp
    ·have:=ho ch;unfold fB;dsimp only;unfold dK at this ⊢;simp only[fO,dU];simp;by_cases r:y.out=ch
     ·rw[if_pos r]at this ⊢;omega
     rw[if_neg r]at this ⊢;omega
    simp only[fO,dU];simp
   refine⟨?_,fun ch=>?_,fun ch=>?_,fun ch=>?_⟩
   ·simp only[fO,dU];simp
   ·dsimp only;refine Eq.trans (AJ (n:=0) (m:=y.c9) x_134 x_134 x_34 x_34 (.inr rfl) (.inl q.to) ch) ?_;simp only[fO,dU];simp
   ·have:=ho ch;unfold fB;dsimp only;unfold dK at this ⊢;simp only[fO,dU];simp;by_cases r:y.out=ch
    ·rw[if_pos r]at this ⊢;omega
    rw[if_neg r]at this ⊢;omega
   simp only[fO,dU];simp
  simp[AK.refl]
 by_cases k8:e.kind=8
 ·rw[<-y7 k8];refine⟨?_,fun ch=>?_,fun ch=>?_,fun ch=>rfl⟩
  ·show x.aA=x.aA+0;omega
  ·show hP (x.ag.map (l8 x.tick)) ch=hP x.ag ch+0;rw[Int.add_zero];grind[MN,l8]
  show bG (dK ch) (x.an.map kx)+bG (eR ch) x.aq=fB x ch+0;rw[Int.add_zero];unfold fB;congr 1;exact HS fun h _=>rfl
 by_cases k9:e.kind=9
 ·rw[<-t8 k9]at hw ⊢;by_cases q:fL x e=0
  ·rw[uZ q];have g9:gI e.af e.ay=true/\ed x.ag e.ch:=by
    unfold fL at q;obtain⟨h2,_⟩:=ky (by decide) q;obtain⟨h3,_⟩:=ky (by decide) h2;obtain⟨h4,g⟩:=ky (by decide) h3;refine⟨by simpa using g,?_⟩;unfold kv at h4;obtain⟨h5,_⟩:=ky (by decide) h4;refine Classical.byContradiction fun hn=>?_;have Cc:eS x.ag e.ch=-1:=by
     rcases jt x.ag e.ch with⟨r,_⟩|⟨i,c,r,s,_,t⟩
     ·exact r
     exact absurd ⟨c,dB s,t⟩ hn
    rcases jt x.ag e.to with⟨r,_⟩|⟨i,c,r,s,_,t⟩
    ·rw[j9 r]at h5;exact mp (by decide) h5
    rw[ka r,j9 Cc]at h5;exact mp (by decide) h5
   have hs:eM e.af e.ay=e.af+e.ay:=ye g9.1;unfold oH;refine⟨?_,fun ch=>?_,fun ch=>?_,fun ch=>?_⟩
   ·simp only[fO,dU];simp
   ·dsimp only;refine Eq.trans (AJ (n:=-eM e.af e.ay) (m:=0) x_134 x_134 x_34 x_34 (.inl g9.2) (.inr rfl) ch) ?_;simp only[fO,dU];simp
   ·unfold fB;dsimp only;rw[zc];unfold eR;simp only[fO,dU];simp;rw[hs];omega
   simp only[fO,dU];simp
  grind[od]
 have:=y8 h2;rw[<-ua (by omega)];unfold nm;split
 ·rename_i y hy;have hm:=List.mem_of_find?_eq_some hy;have q:=b.cs y hm;have ho:∀ch,bG (eR ch) (jA x.aq y.key)+eR ch y=bG (eR ch) x.aq:=fun ch=>by
   have:=AH (g:=fun z:gz=>z.key) (f:=eR ch) (AE b).2 hm;unfold jA;omega
  unfold mN;split
  ·refine⟨?_,fun ch=>?_,fun ch=>?_,fun ch=>?_⟩
   ·simp only[fO,dU];simp
   ·dsimp only;refine Eq.trans (AJ (n:=0) (m:=y.af) x_134 x_134 x_34 x_34 (.inr rfl) (.inl q.to) ch) ?_;simp only[fO,dU];simp
   ·have:=ho ch;unfold fB;dsimp only;unfold eR at this ⊢;simp only[fO,dU];simp;by_cases r:y.fI=ch
    ·rw[if_pos r]at this ⊢;omega
    rw[if_neg r]at this ⊢;omega
   simp only[fO,dU];simp
  refine⟨?_,fun ch=>?_,fun ch=>?_,fun ch=>?_⟩
  ·simp only[fO,dU];simp
  ·dsimp only;refine Eq.trans (AJ (n:=y.af+y.ay) (m:=0) x_134 x_134 x_34 x_34 (.inl q.ti) (.inr rfl) ch) ?_;simp only[fO,dU];simp
  ·have:=ho ch;unfold fB;dsimp only;unfold eR at this ⊢;simp only[fO,dU];simp;by_cases r:y.fI=ch
   ·rw[if_pos r]at this ⊢;omega
   rw[if_neg r]at this ⊢;omega
  simp only[fO,dU];simp
 simp[AK.refl]

def eQ(x:cH):Bool:=aI x.last 0 1125899906842624&&decide (x.lines.length<=320)&&rW x.lines
def EL(l:List aO)(a:Acc):Int:=match l with|[]=>0|x::r=>if x.acc.kind=a.kind/\x.acc.ch=a.ch then x.af else EL r a
def balance(x:cH)(a:Acc):Int:=if eQ x&&nd a then EL x.lines a else 0
def HT(x:aw)(ch:Int):Int:=if 0<=eS x.ag ch then (match x.ag[(eS x.ag ch).toNat]? with|some c=>c.loc|none=>0)else 0
def HU(x:aw)(ch:Int):Int:=if 0<=eS x.ag ch then fB x ch else 0
def EM(x:aw)(l:cH)(ch:Int):Bool:=(balance l ⟨6,ch⟩==HT x ch)&&(balance l ⟨8,ch⟩==HU x ch)&&(balance l ⟨7,ch⟩==0)
def EN(x:aw)(l:cH):Bool:=eG x&&eQ l&&(l.last==x.next-1)&&(balance l ⟨1,0⟩==x.aA)&&(List.range 99).all fun j=>EM x l ((j:Int)+1)
theorem iG.ok{l:List aO}{m:Nat}(h:iG l 0 m):rW l=true:=by
 rw[D2 fun j hj=>?_]
 ·have:bG qh l=0:=h.sum;grind
 rw[lX hj];have hm:=List.getElem_mem hj;obtain⟨a1,a2,a3⟩:=h.af _ hm;have hp:vh l j l[j]=true:=by
  rcases Nat.eq_zero_or_pos j with q|q
  ·subst q;rfl
  rw[nV q hj];exact List.pairwise_iff_getElem.1 h.gS _ _ _ _ (by omega)
 have V:nd l[j].acc=true:=ve.2 (h.acc _ hm);grind[dL,cJ]
theorem wV{l:List aO}(h:rW l=true):iG l 0 l.length:=by
 have bB:∀j,j<l.length->oX l j=true:=fun j hj=>by
  simp_all[rW]
 have mq:bG o6 l=0:=by
  rw[D2 bB,beq_iff_eq]at h;exact h
 have MQ:∀j (hj:j<l.length),nd l[j].acc=true/\l[j].af≠0/\dL l[j].af=true/\vh l j l[j]=true:=fun j hj=>by
  simp_all[lX]
 have Ck:∀y∈l,nd y.acc=true/\y.af≠0/\dL y.af=true:=fun y hy=>by
  obtain⟨j,hj,rfl⟩:=List.getElem_of_mem hy;grind
 refine⟨?_,fun y hy=>ve.1 (Ck y hy).1,fun y hy=>⟨(Ck y hy).2.1,cJ.1 (Ck y hy).2.2⟩,mq,Nat.le_refl _⟩;rw[List.pairwise_iff_getElem];intro i j hi hj gF;induction j with
 |zero=>omega
 |succ j ih=>
  grind[nV,vr]
theorem GZ{a b:Acc}(h:cg a b=true):¬(a.kind=b.kind/\a.ch=b.ch):=fun⟨V,h2⟩=>by
 grind[cg]
theorem Ah{a b:Acc}(h:cg a b=false)(h2:cg b a=false):a.kind=b.kind/\a.ch=b.ch:=by
 grind[cg]
theorem Ea{a b:Acc}(h:a.kind=b.kind/\a.ch=b.ch):a=b:=by
 cases a;simp_all
structure UG(a b r:List aO):Prop where
 gS:r.Pairwise fun a b=>cg a.acc b.acc=true
 acc:∀y∈r,∃z,(z∈a\/z∈b)/\y.acc=z.acc
 af:∀y∈r,y.af≠0/\-1125899906842624<=y.af/\y.af<=1125899906842624
 sum:bG o6 r=bG o6 a+bG o6 b
 zd:∀k c,bU r k c=bU a k c+bU b k c
def rk(l:List aO):Prop:=(l.Pairwise fun a b=>cg a.acc b.acc=true)/\∀y∈l,y.af≠0/\-1125899906842624<=y.af/\y.af<=1125899906842624
theorem rk.tail{x:aO}{l:List aO}(h:rk (x::l)):rk l:=⟨(List.pairwise_cons.1 h.1).2,fun y hy=>h.2 y (by simp[hy])⟩
theorem Cq:∀(n:Nat) (a b r:List aO),a.length+b.length<=n->rk a->rk b->fM a b=some r->UG a b r
 |n,[],b,r,_,_,hb,h=>by
  rw[yo]at h;injection h with h;subst h;exact⟨hb.1,fun y hy=>⟨y,.inr hy,rfl⟩,hb.2,by simp[EF],fun k c=>by simp[dU]⟩
 |n,x::a,[],r,_,ha,_,h=>by
  rw[z6]at h;injection h with h;subst h;exact⟨ha.1,fun y hy=>⟨y,.inl hy,rfl⟩,ha.2,by simp[EF],fun k c=>by simp[dU]⟩
 |0,x::a,y::b,r,hn,_,_,_=>by grind
 |n+1,x::a,y::b,r,hn,ha,hb,h=>by
  simp only[List.length_cons]at hn;have ip:=List.pairwise_cons.1 ha.1;have kA:=List.pairwise_cons.1 hb.1;by_cases q1:cg x.acc y.acc=true
  ·rw[BI q1]at h;obtain⟨s,hs,rfl⟩:=Option.map_eq_some_iff.1 h;have g:=Cq n a (y::b) s (by grind) ha.tail hb hs;refine⟨List.pairwise_cons.2 ⟨fun z hz=>?_,g.gS⟩,fun z hz=>?_,fun z hz=>?_,?_,fun k c=>?_⟩
   ·obtain⟨u,hu,e⟩:=g.acc z hz;rw[e];rcases hu with hu|hu
    ·grind
    rcases List.mem_cons.1 hu with rfl|hu;all_goals grind[vr]
   ·rcases List.mem_cons.1 hz with rfl|hz
    ·grind
    obtain⟨u,hu,e⟩:=g.acc z hz;grind
   ·rcases List.mem_cons.1 hz with rfl|hz
    ·exact ha.2 _ (by simp)
    exact g.af z hz
   ·rw[jT,jT,g.sum];omega
   rw[fm,fm,g.zd];omega
  have q1:cg x.acc y.acc=false:=by simpa using q1
  by_cases q2:cg y.acc x.acc=true
  ·rw[BJ q1 q2]at h;obtain⟨s,hs,rfl⟩:=Option.map_eq_some_iff.1 h;have g:=Cq n (x::a) b s (by grind) ha hb.tail hs;refine⟨List.pairwise_cons.2 ⟨fun z hz=>?_,g.gS⟩,fun z hz=>?_,fun z hz=>?_,?_,fun k c=>?_⟩
   ·obtain⟨u,hu,e⟩:=g.acc z hz;rw[e];rcases hu with hu|hu
    ·rcases List.mem_cons.1 hu with rfl|hu
     ·exact q2
     exact vr q2 (ip.1 u hu)
    grind
   ·rcases List.mem_cons.1 hz with rfl|hz
    ·grind
    obtain⟨u,hu,e⟩:=g.acc z hz;grind
   ·rcases List.mem_cons.1 hz with rfl|hz
    ·exact hb.2 _ (by simp)
    exact g.af z hz
   ·rw[jT,g.sum,jT,jT];omega
   rw[fm,g.zd,fm,fm];omega
  have q2:cg y.acc x.acc=false:=by simpa using q2
  have e:=Ah q1 q2;have ee:x.acc=y.acc:=Ea e;have hk:∀k c,iS k c x+iS k c y=if x.acc.kind=k/\x.acc.ch=c then x.af+y.af else 0:=fun k c=>by
   unfold iS;rw[e.1,e.2];split<;>omega
  by_cases q3:dL (x.af+y.af)=true
  ·by_cases q4:x.af+y.af=0
   ·rw[Eb q1 q2 q3 q4]at h;have g:=Cq n a b r (by omega) ha.tail hb.tail h;refine⟨g.gS,fun z hz=>?_,g.af,?_,fun k c=>?_⟩
    ·obtain⟨u,hu,e⟩:=g.acc z hz;exact⟨u,hu.imp (by intro q;simp[q]) (by intro q;simp[q]),e⟩
    ·rw[g.sum,jT,jT];unfold o6;omega
    rw[g.zd,fm,fm];have:=hk k c;rw[q4]at this;split at this<;>omega
   rw[Ec q1 q2 q3 q4]at h;obtain⟨s,hs,rfl⟩:=Option.map_eq_some_iff.1 h;have g:=Cq n a b s (by omega) ha.tail hb.tail hs;refine⟨List.pairwise_cons.2 ⟨fun z hz=>?_,g.gS⟩,fun z hz=>?_,fun z hz=>?_,?_,fun k c=>?_⟩
   ·obtain⟨u,hu,e⟩:=g.acc z hz;rw[e];rcases hu with hu|hu
    ·exact ip.1 u hu
    show cg x.acc u.acc=true;rw[ee];exact kA.1 u hu
   ·rcases List.mem_cons.1 hz with rfl|hz
    ·exact⟨x,.inl (by simp),rfl⟩
    obtain⟨u,hu,e⟩:=g.acc z hz;exact⟨u,hu.imp (by intro q;simp[q]) (by intro q;simp[q]),e⟩
   ·rcases List.mem_cons.1 hz with rfl|hz
    ·exact⟨q4,cJ.1 q3⟩
    exact g.af z hz
   ·rw[jT,g.sum,jT,jT];unfold o6;dsimp only;omega
   rw[fm,g.zd,fm,fm];have:=hk k c;show (if x.acc.kind=k/\x.acc.ch=c then x.af+y.af else 0)+_=_;omega
  grind[MR]
theorem iG.lF{l:List aO}{s:Int}{m:Nat}(h:iG l s m):rk l:=⟨h.gS,h.af⟩
theorem Ee{a b r:List aO}{s t:Int}{m k:Nat}(ha:iG a s m)(hb:iG b t k)(h:fM a b=some r):iG r (s+t) r.length/\∀k c,bU r k c=bU a k c+bU b k c:=by
 have g:=Cq _ a b r (Nat.le_refl _) ha.lF hb.lF h;exact⟨⟨g.gS,fun y hy=>by
  obtain⟨z,hz,e⟩:=g.acc y hy;rw[e];rcases hz with hz|hz
  ·exact ha.acc z hz
  exact hb.acc z hz,g.af,by rw[g.sum,ha.sum,hb.sum],Nat.le_refl _⟩,g.zd⟩
theorem MS{a:Acc}:∀ {l:List aO},(l.Pairwise fun a b=>cg a.acc b.acc=true)->EL l a=bU l a.kind a.ch
 |[],_=>rfl
 |x::l,h=>by
  rw[List.pairwise_cons]at h;have ih:=MS (a:=a) h.2;rw[fm];unfold EL iS;split
  ·rename_i q;have:bU l a.kind a.ch=0:=by
    unfold bU;refine vM fun y hy=>?_;unfold iS;rw[if_neg];rintro⟨r1,r2⟩;exact GZ (h.1 y hy) x_106
   omega
  omega
structure ra(x:aw)(l:cH):Prop where
 book:eG x=true
 lF:iG l.lines 0 320
 last:l.last=x.next-1
 za:bU l.lines 1 0=x.aA
 loc:∀ch,1<=ch/\ch<=99->bU l.lines 6 ch=hP x.ag ch
 out:∀ch,1<=ch/\ch<=99->bU l.lines 8 ch=fB x ch
 gh:∀ch,1<=ch/\ch<=99->bU l.lines 7 ch=0
theorem MT(x:aw)(ch:Int):HT x ch=hP x.ag ch:=by
 unfold HT hP;rcases jt x.ag ch with⟨q,r⟩|⟨i,c,q,r,s,_⟩
 ·rw[if_neg (by omega),r];rfl
 grind
theorem MU{x:aw}{ch:Int}(b:hD x):HU x ch=fB x ch:=by
 unfold HU;split
 ·rfl
 rename_i q;exact(b.none fun t=>q (MV.2 t)).1.symm
theorem ra.ia{x:aw}{l:cH}(h:ra x l):eQ l=true:=by
 have hn:=(mX h.book).next;have:=h.last;unfold eQ;rw[h.lF.ok,cJ.2 (by omega),decide_eq_true h.lF.len];rfl
theorem xB{l:cH}{k c:Int}(h:eQ l=true)(hl:l.lines.Pairwise fun a b=>cg a.acc b.acc=true)(ha:nd ⟨k,c⟩=true):balance l ⟨k,c⟩=bU l.lines k c:=by
 grind[balance,MS]
theorem AM{k c:Int}(hk:6<=k/\k<=8)(hc:1<=c/\c<=99):nd ⟨k,c⟩=true:=ve.2 (.inr ⟨hk.1,hk.2,hc.1,hc.2⟩)
theorem MW:nd ⟨1,0⟩=true:=ve.2 (.inl ⟨by decide,by decide,rfl⟩)
theorem ra.yes{x:aw}{l:cH}(h:ra x l):EN x l=true:=by
 have b:=mX h.book;have hl:=h.ia;have hp:=h.lF.gS;unfold EN;rw[h.book,hl,xB hl hp MW,h.za,h.last];simp only[beq_self_eq_true,Bool.true_and,List.all_eq_true,List.mem_range];intro j hj;have hc:1<=(j:Int)+1/\(j:Int)+1<=99:=by omega
 unfold EM;rw[xB hl hp (AM (by decide) hc),xB hl hp (AM (by decide) hc),xB hl hp (AM (by decide) hc),MT,MU b,h.loc _ hc,h.out _ hc,h.gh _ hc];simp
theorem abr{x:aw}{l:cH}(h:EN x l=true):ra x l:=by
 unfold EN at h;simp only[Bool.and_eq_true,List.all_eq_true,List.mem_range,beq_iff_eq]at h;obtain⟨⟨⟨⟨V,h2⟩,h3⟩,h4⟩,h5⟩:=h;have b:=mX V;have Cr:=h2;unfold eQ at Cr;simp only[Bool.and_eq_true,decide_eq_true_eq]at Cr;have ln:=wV Cr.2;have hp:=ln.gS;have zd:∀ch,1<=ch/\ch<=99->EM x l ch=true:=fun ch hc=>by
  have:=h5 (ch-1).toNat (by omega);grind
 have ge:∀ch,1<=ch/\ch<=99->bU l.lines 6 ch=hP x.ag ch/\bU l.lines 8 ch=fB x ch/\bU l.lines 7 ch=0:=fun ch hc=>by
  simp_all[EM,xB,AM,MT,MU]
 rw[xB h2 hp MW]at h4;exact⟨V,⟨ln.gS,ln.acc,ln.af,ln.sum,Cr.1.2⟩,h3,h4,fun ch hc=>(ge ch hc).1,fun ch hc=>(ge ch hc).2.1,fun ch hc=>(ge ch hc).2.2⟩
theorem akN{x:aw}{e:aV}{l:cH}(h:ra x l)(hc:dG x e=0)(hp:(bz x e).l=[]):ra (dp x e) l:=by
 have g:=MP hc;rw[hp]at g;have e1:=(ub hc hp).1;refine⟨Gy hc,h.lF,?_,?_,fun ch hh=>?_,fun ch hh=>?_,h.gh⟩
 ·rw[e1,xA];exact h.last
 ·rw[e1,h.za];have:=g.za;rw[dU]at this;omega
 ·rw[e1,h.loc ch hh];have:=g.loc ch;rw[dU]at this;omega
 rw[e1,h.out ch hh];have:=g.out ch;rw[dU]at this;omega
theorem UH{x:aw}{e:aV}{l:cH}(h:ra x l)(hc:dG x e=0)(hp:(bz x e).l≠[]){m:List aO}(hm:fM l.lines (dl x e).lines=some m)(hl:m.length<=320):ra (dp x e) ⟨(dl x e).id,m⟩:=by
 have g:=MP hc;obtain⟨e1,e2⟩:=rU hc hp;rw[e2]at hm;obtain⟨k1,k2⟩:=Ee h.lF (Ab hc) hm;refine⟨Gy hc,⟨k1.gS,k1.acc,k1.af,k1.sum,hl⟩,?_,?_,fun ch hh=>?_,fun ch hh=>?_,fun ch hh=>?_⟩
 ·grind[xA]
 ·rw[e1];show bU m 1 0=(bz x e).b.aA;rw[k2,h.za,g.za]
 ·rw[e1];show bU m 6 ch=hP (bz x e).b.ag ch;rw[k2,h.loc ch hh,g.loc ch]
 ·rw[e1];show bU m 8 ch=fB (bz x e).b ch;rw[k2,h.out ch hh,g.out ch]
 show bU m 7 ch=0;rw[k2,h.gh ch hh,g.gh ch];rfl
def iv(l:cH)(p:dX):Int:=if (eQ l&&iL p.id p.lines)=true then (if p.id<=l.last then 2 else match fM l.lines p.lines with|none=>3|some m=>if 320<m.length then 3 else 0)else 1
def iD(l:cH)(p:dX):cH:=if iv l p=0 then ⟨p.id,(fM l.lines p.lines).getD []⟩else ⟨0,[]⟩
theorem HV{l:cH}{p:dX}(h:iv l p=0):eQ l=true/\iL p.id p.lines=true/\l.last<p.id/\∃m,fM l.lines p.lines=some m/\m.length<=320:=by
 unfold iv at h;grind
theorem G2{l:cH}{p:dX}(h:iv l p=0){m:List aO}(hm:fM l.lines p.lines=some m):iD l p=⟨p.id,m⟩:=by simp_all[iD]
theorem SP{l:cH}{p:dX}(h:iv l p≠0):iD l p=⟨0,[]⟩:=if_neg h
theorem S0{x:aw}{e:aV}{l:cH}(h:ra x l)(hc:dG x e=0)(hp:(dl x e).lines≠[])(hq:iv l (dl x e)=0):ra (dp x e) (iD l (dl x e)):=by
 obtain⟨_,_,_,m,hm,hl⟩:=HV hq;rw[G2 hq hm];grind[UH,ub]
theorem ajc{x:aw}{e:aV}{l:cH}(h:ra x l)(hc:dG x e=0)(hp:(dl x e).lines=[]):ra (dp x e) l:=by
 refine akN h hc ?_;refine Classical.byContradiction fun r=>?_;rw[(rU hc r).2]at hp;exact r hp
theorem va{l:cH}(h:eQ l=true):l.lines.length<=320/\(∀z∈l.lines,dL z.af=true)/\0<=l.last/\l.last<=1125899906842624:=by
 unfold eQ at h;simp only[Bool.and_eq_true,decide_eq_true_eq]at h;have:=cJ.1 h.1.1;exact⟨h.1.2,fun z hz=>cJ.2 ((wV h.2).af z hz).2,this.1,this.2⟩
theorem DU{n:Int}{l:List aO}(h:iL n l=true):l.length<=8/\(∀z∈l,dL z.af=true)/\1<=n/\n<=1125899906842624:=by
 unfold iL at h;simp only[Bool.and_eq_true]at h;have V:=cJ.1 h.1.1;have h2:=cJ.1 h.1.2;exact⟨by omega,fun z hz=>cJ.2 ((wV h.2).af z hz).2,V.1,V.2⟩
theorem Gp{l:cH}{p:dX}(h:(eQ l&&iL p.id p.lines)=false):iv l p=1:=by simp_all[iv]
theorem Le{l:cH}{p:dX}(h:eQ l=true)(h2:iL p.id p.lines=true)(h3:p.id<=l.last):iv l p=2:=by simp_all[iv]
theorem Lf{l:cH}{p:dX}(h:eQ l=true)(h2:iL p.id p.lines=true)(h3:¬p.id<=l.last)(h4:fM l.lines p.lines=none):iv l p=3:=by simp_all[iv]
theorem Lg{l:cH}{p:dX}(h:eQ l=true)(h2:iL p.id p.lines=true)(h3:¬p.id<=l.last){m:List aO}(h4:fM l.lines p.lines=some m)(h5:320<m.length):iv l p=3:=by simp_all[iv]
theorem Gr{l:cH}{p:dX}(h:eQ l=true)(h2:iL p.id p.lines=true)(h3:¬p.id<=l.last){m:List aO}(h4:fM l.lines p.lines=some m)(h5:m.length<=320):iv l p=0:=by simp_all[iv,if_neg]
def B2(s:cH×Int)(p:dX):cH×Int:=if iv s.1 p=0 then (iD s.1 p,s.2+1)else s
def jJ(l:cH)(ps:List dX):cH×Int:=ps.foldl B2 (l,0)
theorem Gs{l:cH}{ps:List dX}{k:Nat}(h:k<ps.length):jJ l (ps.take (k+1))=B2 (jJ l (ps.take k)) ps[k]:=by
 grind[jJ,List.take_succ_eq_append_getElem]
theorem UI(l:cH)(p:dX):(iD l p).lines.length<=320:=by
 unfold iD;split
 ·rename_i h;obtain⟨_,_,_,m,hm,hl⟩:=HV h;grind
 simp
theorem FS{l:cH}{ps:List dX}(hl:l.lines.length<=320):∀k,k<=ps.length->(jJ l (ps.take k)).1.lines.length<=320/\0<=(jJ l (ps.take k)).2/\(jJ l (ps.take k)).2<=k
 |0,_=>by rw[List.take_zero];exact⟨hl,Int.le_refl _,Int.le_refl _⟩
 |k+1,h=>by
  rw[Gs (by omega)];obtain⟨V,h2,h3⟩:=FS (ps:=ps) hl k (by omega);unfold B2;split
  ·exact⟨UI _ _,by dsimp only;omega,by dsimp only;omega⟩
  exact⟨V,h2,by omega⟩
theorem ajb{x:aw}{l:cH}(h:ra x l){es:List aV}:∀k,k<=es.length->(jJ l (bK x (es.take k)).ps).2<=(bK x (es.take k)).ps.length/\((jJ l (bK x (es.take k)).ps).2=(bK x (es.take k)).ps.length->ra (bK x (es.take k)).now (jJ l (bK x (es.take k)).ps).1)
 |0,_=>by rw[List.take_zero];exact⟨Int.le_refl _,fun _=>h⟩
 |k+1,hk=>by
  rw[fl (by omega)];obtain⟨V,h2⟩:=ajb h (es:=es) k (by omega);generalize bK x (es.take k)=s at *;generalize es[k]=e at *;by_cases c:dG s.now e=0
  ·by_cases q:(dl s.now e).lines=[]
   ·rw[Oo q,Fk c];exact⟨V,fun r=>ajc (h2 r) c q⟩
   rw[Om c q,Fk c];have e1:jJ l (s.ps++[dl s.now e])=B2 (jJ l s.ps) (dl s.now e):=by unfold jJ;rw[List.foldl_append];rfl
   rw[e1,List.length_append,List.length_singleton];unfold B2;split
   ·rename_i r;refine⟨by dsimp only;omega,fun z=>?_⟩;dsimp only at z;exact S0 (h2 (by omega)) c q r
   exact⟨by omega,fun z=>by omega⟩
  rw[On c,Ol c];exact⟨V,h2⟩
end Go.Proofs.YtflhgkmhmcfimaaGreat

