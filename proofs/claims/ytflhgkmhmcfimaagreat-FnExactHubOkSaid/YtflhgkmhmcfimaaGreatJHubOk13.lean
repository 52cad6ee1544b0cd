/- Texts of the proof of FnFnExactHubOk, joined: BkStep3, BkStep4, PoOk, SzOk, ED6, BalW, LedS, FwdS, FwdT. -/
import Derived.Test.YtflhgkmhmcfimaaGreatJHubOk12
namespace Go.Proofs.YtflhgkmhmcfimaaGreat
open Tryz
open Go.RowKit
set_option linter.unusedSimpArgs false
set_option linter.unusedVariables false
theorem ut{L:List be}{l:List eV}{m:List gz}(hs:∀h∈l,xu L h)(cs:∀h∈m,xw L h)(ch:Int):0<=bG (dK ch) l/\0<=bG (gx ch) l/\0<=bG (eR ch) m/\0<=bG (ix ch) m:=by
 refine⟨?_,?_,?_,?_⟩
 ·refine(sd (dK ch) 1125899906842624 (by decide) l fun y hy=>?_).1;have:=(hs y hy).out;have:=(hs y hy).gh;unfold eY at this;unfold dK;split<;>omega
 ·refine(sd (gx ch) 1125899906842624 (by decide) l fun y hy=>?_).1;have:=(hs y hy).gh;unfold eY at this;unfold gx;split<;>omega
 ·refine(sd (eR ch) 2251799813685248 (by decide) m fun y hy=>?_).1;have:=(cs y hy).af;have:=(cs y hy).ay;unfold eY at this;unfold eR;split<;>omega
 refine(sd (ix ch) 1125899906842624 (by decide) m fun y hy=>?_).1;have:=(cs y hy).af;unfold ix;split<;>omega
theorem AE{x:aw}(b:hD x):(x.an.Pairwise fun a b=>a.key≠b.key)/\x.aq.Pairwise fun a b=>a.key≠b.key:=by
 have h:=b.kn;unfold dN at h;rw[List.pairwise_append]at h;exact⟨List.pairwise_map.1 h.1,List.pairwise_map.1 h.2.1⟩
theorem MC{x y:aw}(b:hD x){h:eV}(hm:h∈x.an){f g:be->be}(tj:y.an=jS x.an h.key)(se:y.aq=x.aq)(sg:y.ag=cC (cC x.ag h.gh f) h.out g)(HG:y.tick=x.tick)(HH:y.aA=x.aA)(HI:y.next=x.next)
 (f1:∀c,(f c).id=c.id/\(f c).size=c.size/\(f c).base=c.base/\(f c).br=c.br/\(f c).loc+(f c).aC=c.loc+c.aC+h.cW/\c.loc<=(f c).loc/\c.aC<=(f c).aC/\(-100<=(f c).cM/\(f c).cM<=100))
 (g1:∀c,(g c).id=c.id/\(g c).size=c.size/\(g c).base=c.base/\(g c).br=c.br/\(g c).loc+(g c).aC=c.loc+c.aC+h.c9/\c.loc<=(g c).loc/\c.aC<=(g c).aC/\(g c).cM=c.cM):hD y:=by
 have q:=b.hs h hm
 have bO:=q.ne
 have fi:∀c,(f c).id=c.id:=fun c=>(f1 c).1
 have gi:∀c,(g c).id=c.id:=fun c=>(g1 c).1
 have key:∀ch,ed x.ag ch->ed y.ag ch:=fun ch r=>by rw[sg];exact tn gi (tn fi r)
 have my:∀z∈y.an,z∈x.an:=fun z hz=>by rw[tj]at hz;exact(List.mem_filter.1 hz).1
 have ot:∀z∈y.an,xu x.ag z:=fun z hz=>b.hs z (my z hz)
 have ig:∀z∈y.aq,xw x.ag z:=fun z hz=>b.cs z (se▸hz)
 have ho:∀ch,fB y ch+dK ch h=fB x ch:=fun ch=>by
  unfold fB;have:=AH (g:=fun z:eV=>z.key) (f:=dK ch) (AE b).1 hm;rw[tj,se];unfold jS;omega
 have hi:∀ch,jh y ch+gx ch h=jh x ch:=fun ch=>by
  unfold jh;have:=AH (g:=fun z:eV=>z.key) (f:=gx ch) (AE b).1 hm;rw[tj,se];unfold jS;omega
 have ml:(dN y).Sublist (dN x):=by
  unfold dN;rw[tj,se];exact(List.filter_sublist.map _).append (List.Sublist.refl _)
 have hlen:y.an.length<=60:=by
  rw[tj];have V:(jS x.an h.key).length<=x.an.length:=List.length_filter_le _ _;have:=b.lh;omega
 refine b.parts (HG▸b.tick) (HH▸b.aA) HI (by rw[sg,sh,sh];exact b.lc) hlen (se▸b.li) (fun z hz=>(ot z hz).ag key) (fun z hz=>(ig z hz).ag key) (fun k hk=>b.kr k (ml.subset hk)) (b.kn.sublist ml) (by rw[sg];exact vJ gi (vJ fi b.gS)) (fun c hc=>?_) (fun c hc=>?_)
 ·rw[sg]at hc
  obtain⟨d,hd,r|r|r⟩:=xx fi bO hc
  ·have k:=b.ch d hd
   have s:=b.sum d hd
   have o:=ut ot ig d.id
   have e1:=ho d.id
   have e2:=hi d.id
   unfold dK at e1
   unfold gx at e2
   rw[if_neg (by omega)]at e1
   rw[if_pos r.1.symm]at e2
   unfold fB at e1 s
   unfold jh at e2 s
   obtain⟨w1,w2,w3,w4,w5,w6,w7,w8⟩:=f1 d
   have k2:=k.loc
   have k3:=k.aC
   have k4:=k.size
   have k5:=ut b.hs b.cs d.id
   rw[r.2]
   unfold eY at *
   exact⟨w1▸k.id,by unfold eY;omega,by unfold eY;omega,w3▸k.base,w4▸k.br,w8,w2▸k.size⟩
  ·have k:=b.ch d hd
   have s:=b.sum d hd
   have o:=ut ot ig d.id
   have e1:=ho d.id
   have e2:=hi d.id
   unfold dK at e1
   unfold gx at e2
   rw[if_pos r.1.symm]at e1
   rw[if_neg (by omega)]at e2
   unfold fB at e1 s
   unfold jh at e2 s
   obtain⟨w1,w2,w3,w4,w5,w6,w7,w8⟩:=g1 d
   have k2:=k.loc
   have k3:=k.aC
   have k4:=k.size
   have k5:=ut b.hs b.cs d.id
   rw[r.2]
   unfold eY at *
   exact⟨w1▸k.id,by unfold eY;omega,by unfold eY;omega,w3▸k.base,w4▸k.br,w8▸k.cM,w2▸k.size⟩
  rw[r.2.2];exact b.ch d hd
 rw[sg]at hc
 obtain⟨d,hd,r|r|r⟩:=xx fi bO hc
 ·have s:=b.sum d hd
  have e1:=ho d.id
  have e2:=hi d.id
  unfold dK at e1
  unfold gx at e2
  rw[if_neg (by omega)]at e1
  rw[if_pos r.1.symm]at e2
  obtain⟨w1,w2,w3,w4,w5,_⟩:=f1 d
  rw[r.2,w1,w2]
  omega
 ·have s:=b.sum d hd
  have e1:=ho d.id
  have e2:=hi d.id
  unfold dK at e1
  unfold gx at e2
  rw[if_pos r.1.symm]at e1
  rw[if_neg (by omega)]at e2
  obtain⟨w1,w2,w3,w4,w5,_⟩:=g1 d
  rw[r.2,w1,w2]
  omega
 have s:=b.sum d hd
 have e1:=ho d.id
 have e2:=hi d.id
 unfold dK at e1
 unfold gx at e2
 rw[if_neg (fun z=>r.2.1 z.symm)]at e1
 rw[if_neg (fun z=>r.1 z.symm)]at e2
 rw[r.2.2]
 omega
theorem Ur{x:aw}{e:aV}(b:hD x):hD (mR x e).b:=by
 unfold mR;split
 ·rename_i h hf;have hm:=List.mem_of_find?_eq_some hf;have q:=b.hs h hm;have q1:=q.gh;have q2:=q.out;unfold eY at q1;unfold pN;split
  ·exact MC b hm rfl rfl rfl rfl rfl rfl (fun c=>⟨rfl,rfl,rfl,rfl,by dsimp only;omega,by dsimp only;omega,Int.le_refl _,MD _⟩) (fun c=>⟨rfl,rfl,rfl,rfl,by dsimp only;omega,Int.le_refl _,by dsimp only;omega,rfl⟩)
  exact MC b hm rfl rfl rfl rfl rfl rfl (fun c=>⟨rfl,rfl,rfl,rfl,by dsimp only;omega,Int.le_refl _,by dsimp only;omega,ME _⟩) (fun c=>⟨rfl,rfl,rfl,rfl,by dsimp only;omega,by dsimp only;omega,Int.le_refl _,rfl⟩)
 exact b

theorem MF{x y:aw}(b:hD x){h:gz}(hm:h∈x.aq){f g:be->be}(tj:y.aq=jA x.aq h.key)(se:y.an=x.an)(sg:y.ag=cC (cC x.ag h.fI f) h.to g)(HG:y.tick=x.tick)(HH:y.aA=x.aA)(HI:y.next=x.next)
 (f1:∀c,(f c).id=c.id/\(f c).size=c.size/\(f c).base=c.base/\(f c).br=c.br/\(f c).loc+(f c).aC=c.loc+c.aC+(h.af+h.ay)/\c.loc<=(f c).loc/\c.aC<=(f c).aC/\(f c).cM=c.cM)
 (g1:∀c,(g c).id=c.id/\(g c).size=c.size/\(g c).base=c.base/\(g c).br=c.br/\(g c).loc+(g c).aC=c.loc+c.aC+h.af/\c.loc<=(g c).loc/\c.aC<=(g c).aC/\(g c).cM=c.cM):hD y:=by
 have q:=b.cs h hm
 have bO:=q.ne
 have fi:∀c,(f c).id=c.id:=fun c=>(f1 c).1
 have gi:∀c,(g c).id=c.id:=fun c=>(g1 c).1
 have key:∀ch,ed x.ag ch->ed y.ag ch:=fun ch r=>by rw[sg];exact tn gi (tn fi r)
 have my:∀z∈y.aq,z∈x.aq:=fun z hz=>by rw[tj]at hz;exact(List.mem_filter.1 hz).1
 have ot:∀z∈y.an,xu x.ag z:=fun z hz=>b.hs z (se▸hz)
 have ig:∀z∈y.aq,xw x.ag z:=fun z hz=>b.cs z (my z hz)
 have ho:∀ch,fB y ch+eR ch h=fB x ch:=fun ch=>by
  unfold fB;have:=AH (g:=fun z:gz=>z.key) (f:=eR ch) (AE b).2 hm;rw[tj,se];unfold jA;omega
 have hi:∀ch,jh y ch+ix ch h=jh x ch:=fun ch=>by
  unfold jh;have:=AH (g:=fun z:gz=>z.key) (f:=ix ch) (AE b).2 hm;rw[tj,se];unfold jA;omega
 have ml:(dN y).Sublist (dN x):=by
  unfold dN;rw[tj,se];exact(List.Sublist.refl _).append (List.filter_sublist.map _)
 have hlen:y.aq.length<=20:=by
  rw[tj];have V:(jA x.aq h.key).length<=x.aq.length:=List.length_filter_le _ _;have:=b.li;omega
 refine b.parts (HG▸b.tick) (HH▸b.aA) HI (by rw[sg,sh,sh];exact b.lc) (se▸b.lh) hlen (fun z hz=>(ot z hz).ag key) (fun z hz=>(ig z hz).ag key) (fun k hk=>b.kr k (ml.subset hk)) (b.kn.sublist ml) (by rw[sg];exact vJ gi (vJ fi b.gS)) (fun c hc=>?_) (fun c hc=>?_)
 ·rw[sg]at hc
  obtain⟨d,hd,r|r|r⟩:=xx fi bO hc
  ·have k:=b.ch d hd
   have s:=b.sum d hd
   have o:=ut ot ig d.id
   have e1:=ho d.id
   have e2:=hi d.id
   unfold eR at e1
   unfold ix at e2
   rw[if_pos r.1.symm]at e1
   rw[if_neg (by omega)]at e2
   unfold fB at e1 s
   unfold jh at e2 s
   obtain⟨w1,w2,w3,w4,w5,w6,w7,w8⟩:=f1 d
   have k2:=k.loc
   have k3:=k.aC
   have k4:=k.size
   have k5:=ut b.hs b.cs d.id
   rw[r.2]
   unfold eY at *
   exact⟨w1▸k.id,by unfold eY;omega,by unfold eY;omega,w3▸k.base,w4▸k.br,w8▸k.cM,w2▸k.size⟩
  ·have k:=b.ch d hd
   have s:=b.sum d hd
   have o:=ut ot ig d.id
   have e1:=ho d.id
   have e2:=hi d.id
   unfold eR at e1
   unfold ix at e2
   rw[if_neg (by omega)]at e1
   rw[if_pos r.1.symm]at e2
   unfold fB at e1 s
   unfold jh at e2 s
   obtain⟨w1,w2,w3,w4,w5,w6,w7,w8⟩:=g1 d
   have k2:=k.loc
   have k3:=k.aC
   have k4:=k.size
   have k5:=ut b.hs b.cs d.id
   rw[r.2]
   unfold eY at *
   exact⟨w1▸k.id,by unfold eY;omega,by unfold eY;omega,w3▸k.base,w4▸k.br,w8▸k.cM,w2▸k.size⟩
  rw[r.2.2];exact b.ch d hd
 rw[sg]at hc
 obtain⟨d,hd,r|r|r⟩:=xx fi bO hc
 ·have s:=b.sum d hd
  have e1:=ho d.id
  have e2:=hi d.id
  unfold eR at e1
  unfold ix at e2
  rw[if_pos r.1.symm]at e1
  rw[if_neg (by omega)]at e2
  obtain⟨w1,w2,w3,w4,w5,_⟩:=f1 d
  rw[r.2,w1,w2]
  omega
 ·have s:=b.sum d hd
  have e1:=ho d.id
  have e2:=hi d.id
  unfold eR at e1
  unfold ix at e2
  rw[if_neg (by omega)]at e1
  rw[if_pos r.1.symm]at e2
  obtain⟨w1,w2,w3,w4,w5,_⟩:=g1 d
  rw[r.2,w1,w2]
  omega
 have s:=b.sum d hd
 have e1:=ho d.id
 have e2:=hi d.id
 unfold eR at e1
 unfold ix at e2
 rw[if_neg (fun z=>r.1 z.symm)]at e1
 rw[if_neg (fun z=>r.2.1 z.symm)]at e2
 rw[r.2.2]
 omega
theorem Us{x:aw}{e:aV}(b:hD x):hD (nm x e).b:=by
 unfold nm;split
 ·rename_i h hf;have hm:=List.mem_of_find?_eq_some hf;have q:=b.cs h hm;have q1:=q.af;have q2:=q.ay;unfold eY at q2;unfold mN;split
  ·exact MF b hm rfl rfl rfl rfl rfl rfl (fun c=>⟨rfl,rfl,rfl,rfl,by dsimp only;omega,Int.le_refl _,by dsimp only;omega,rfl⟩) (fun c=>⟨rfl,rfl,rfl,rfl,by dsimp only;omega,by dsimp only;omega,Int.le_refl _,rfl⟩)
  exact MF b hm rfl rfl rfl rfl rfl rfl (fun c=>⟨rfl,rfl,rfl,rfl,by dsimp only;omega,by dsimp only;omega,Int.le_refl _,rfl⟩) (fun c=>⟨rfl,rfl,rfl,rfl,by dsimp only;omega,Int.le_refl _,by dsimp only;omega,rfl⟩)
 exact b
theorem Ut{x:aw}{e:aV}(b:hD x)(hf:0<=e.ay)(hk:e.kind=3)(ho:d8 x e=false)(hc:ir x e=0):hD (rH x e).b:=by
 rw[yf hc];unfold ir at hc;obtain⟨h2,g1⟩:=ky (by decide) hc;obtain⟨h3,g2⟩:=ky (by decide) h2;simp only[decide_eq_false_iff_not]at g1;rcases jt x.ag e.ch with⟨q,_⟩|⟨i,c,q,q2,q3,q4⟩
 ·rw[j9 q]at h3;exact absurd h3 (mp (by decide))
 have bC:=dB q2;have HJ:=b.ch c bC;have hl:=HJ.loc;rw[q3]at g1;have gy:¬1125899906842624<x.aA+c.loc-e.ay:=by
  unfold d8 at ho;by_cases hn:x.next=1125899906842624
  ·rw[if_pos hn]at ho;cases ho
  rw[if_neg hn,if_neg (by omega),if_neg (by omega),if_pos ⟨hk,by omega⟩,q3]at ho;simpa using ho
 have hw:=b.aA;unfold oG at g2;rw[Bool.or_eq_false_iff]at g2;have u1:∀h∈x.an,h.gh≠e.ch/\h.out≠e.ch:=fun h hh=>by
  have:=List.any_eq_false.1 g2.1 h hh;unfold nH at this;simpa[not_or]using this
 have u2:∀h∈x.aq,h.fI≠e.ch/\h.to≠e.ch:=fun h hh=>by
  have:=List.any_eq_false.1 g2.2 h hh;unfold nI at this;simpa[not_or]using this
 have key:∀ch,ch≠e.ch->ed x.ag ch->ed (ny x.ag e.ch) ch:=fun ch bO ⟨d,hd,r⟩=>⟨d,List.mem_filter.2 ⟨hd,by simpa[r]using bO⟩,r⟩;have my:∀d∈ny x.ag e.ch,d∈x.ag:=fun d hd=>(List.mem_filter.1 hd).1;refine b.parts b.tick ?_ rfl ?_ b.lh b.li (fun h hh=>?_) (fun h hh=>?_) b.kr b.kn (b.gS.sublist List.filter_sublist) (fun d hd=>b.ch d (my d hd)) (fun d hd=>b.sum d (my d hd))
 ·show eY (x.aA+((fz x.ag e.ch).loc-e.ay));rw[q3];unfold eY at *;omega
 ·have V:(ny x.ag e.ch).length<=x.ag.length:=List.length_filter_le _ _;have:=b.lc;show (ny x.ag e.ch).length<=_;omega
 ·have q:=b.hs h hh;have u:=u1 h hh;exact⟨q.gh,q.out,q.jP,q.ne,key _ u.1 q.ti,key _ u.2 q.to⟩
 have q:=b.cs h hh;have u:=u2 h hh;exact⟨q.af,q.ay,q.ne,key _ u.1 q.ti,key _ u.2 q.to⟩
theorem HK{e:aV}(h:co e=true):(hK e.kind=true->1<=e.key/\e.key<=1000000)/\(hC e.kind=true->1<=e.ch/\e.ch<=99)/\(hA e.kind=true->e.kind≠4->1<=e.af)/\(e.kind=4->e.ay<=1000000):=by
 unfold co at h;simp only[Bool.and_eq_true]at h;obtain⟨⟨⟨⟨⟨⟨⟨V,h2⟩,h3⟩,h4⟩,h5⟩,h6⟩,h7⟩,h8⟩:=h;unfold gj at h2 h3 h6 h7;refine⟨fun q=>?_,fun q=>?_,fun q r=>?_,fun q=>?_⟩
 ·rw[if_pos q]at h2;exact cJ.1 h2
 ·rw[if_pos q]at h3;exact cJ.1 h3
 ·rw[if_pos q,if_neg r]at h6;exact(cJ.1 h6).1
 rw[if_pos (by rw[q];rfl),if_pos q]at h7;exact(cJ.1 h7).2
theorem Uu{x:aw}{e:aV}(h:dG x e=0):hD (bz x e).b:=by
 obtain⟨V,h2,h3⟩:=rS h;have b:=mX V;have mS:(eG x&&co e)=true:=by rw[V,h2];rfl
 have hw:(bz x e).c=0:=by rw[<-yA mS h3];exact h
 obtain⟨_,a0,f0⟩:=ED h2;have am:=uu h2;rw[cY,cY]at am;obtain⟨p1,p2,p3,p4⟩:=HK h2;have hn:=EE h3;by_cases k1:e.kind=1
 ·rw[<-yY k1];exact Uv b h3 k1 a0
 by_cases k2:e.kind=2
 ·rw[<-xy k2]at hw ⊢;have hs:=HL hn k2;rw[h3]at hs;by_cases q:gO x e=0
  ·exact Uw b (by simpa using hs.symm) a0 f0 (p2 (by rw[k2];rfl)) q
  rw[sK q]at hw;exact absurd hw q
 by_cases k3:e.kind=3
 ·rw[<-yZ k3]at hw ⊢;by_cases q:ir x e=0
  ·exact Ut b f0 k3 h3 q
  rw[tM q]at hw;exact absurd hw q
 by_cases k4:e.kind=4
 ·rw[<-vK k4];exact Ux b am.1 ⟨f0,p4 k4⟩
 by_cases k5:e.kind=5
 ·rw[<-xz k5]at hw ⊢;by_cases q:gg x e=0
  ·exact Uy b (AI h2 (.inl k5)) (p1 (by rw[k5];rfl)) (p3 (by rw[k5];rfl) (by omega)) q
  rw[jm q]at hw;exact absurd hw q
 by_cases k6:e.kind=6\/e.kind=7
 ·rw[<-uv k6];exact Ur b
 by_cases k8:e.kind=8
 ·rw[<-y7 k8];have hs:=HM hn k8;rw[h3]at hs;exact Uz b (by simpa using hs.symm)
 by_cases k9:e.kind=9
 ·rw[<-t8 k9]at hw ⊢;by_cases q:fL x e=0
  ·exact UA b (AI h2 (.inr k9)) (p1 (by rw[k9];rfl)) (p3 (by rw[k9];rfl) (by omega)) q
  rw[od q]at hw;exact absurd hw q
 have:=y8 h2;rw[<-ua (by omega)];exact Us b
theorem Gy{x:aw}{e:aV}(h:dG x e=0):eG (dp x e)=true:=by
 have b:=Uu h;by_cases r:(bz x e).l=[]
 ·rw[(ub h r).1];exact MG b
 rw[(rU h r).1];have hn:=EE (rS h).2.2;have h2:=b.next;rw[xA]at h2 ⊢;exact MG (b.UB ⟨by omega,by omega⟩)

theorem vr{a b c:Acc}(h:cg a b=true)(h2:cg b c=true):cg a c=true:=by
 unfold cg at *;simp only[Bool.or_eq_true,Bool.and_eq_true,decide_eq_true_eq,beq_iff_eq]at *;omega
def o6(x:aO):Int:=x.af
theorem MH{x:aO}:∀ {l:List aO},(l.Pairwise fun a b=>cg a.acc b.acc=true)->cL l x.acc.kind x.acc.ch->(fV l x).Pairwise fun a b=>cg a.acc b.acc=true
 |[],_,_=>by unfold fV;exact List.pairwise_singleton _ _
 |y::l,h,hf=>by
  rw[List.pairwise_cons]at h;unfold fV;by_cases q:cg y.acc x.acc=true
  ·rw[if_pos q,List.pairwise_cons];refine⟨fun z hz=>?_,MH h.2 fun z hz=>hf z (by simp[hz])⟩;rcases BG hz with r|rfl
   ·exact h.1 z r
   exact q
  rw[if_neg q];have q':=KS (hf y (by simp)) (by simpa using q);rw[List.pairwise_cons];refine⟨fun z hz=>?_,List.pairwise_cons.2 h⟩;rcases List.mem_cons.1 hz with rfl|r
  ·exact q'
  exact vr q' (h.1 z r)
theorem MI{x:aO}:∀(l:List aO),bG o6 (fV l x)=bG o6 l+x.af
 |[]=>by unfold fV;rw[jT,EF];unfold o6;omega
 |y::l=>by
  unfold fV;split
  ·rw[jT,jT,MI l];omega
  rw[jT];unfold o6;omega
def om(a:Acc):Prop:=(1<=a.kind/\a.kind<=5/\a.ch=0)\/(6<=a.kind/\a.kind<=8/\1<=a.ch/\a.ch<=99)
structure iG(l:List aO)(s:Int)(m:Nat):Prop where
 gS:l.Pairwise fun a b=>cg a.acc b.acc=true
 acc:∀y∈l,om y.acc
 af:∀y∈l,y.af≠0/\-1125899906842624<=y.af/\y.af<=1125899906842624
 sum:bG o6 l=s
 len:l.length<=m
theorem iG.nil:iG [] 0 0:=⟨List.Pairwise.nil,by simp,by simp,rfl,Nat.le_refl _⟩
theorem iG.add{l:List aO}{s n k c:Int}{m:Nat}(h:iG l s m)(hv:om ⟨k,c⟩)(hf:cL l k c)(hn:-1125899906842624<=n/\n<=1125899906842624):iG (bR l k c n) (s+n) (m+1):=by
 by_cases q:n=0
 ·rw[BK q,q,Int.add_zero];exact⟨h.gS,h.acc,h.af,h.sum,Nat.le_succ_of_le h.len⟩
 rw[BL q];refine⟨MH h.gS hf,fun y hy=>?_,fun y hy=>?_,?_,?_⟩
 ·rcases BG hy with r|rfl
  ·exact h.acc y r
  exact hv
 ·rcases BG hy with r|rfl
  ·exact h.af y r
  exact⟨q,hn⟩
 ·rw[MI,h.sum]
 rw[BH];have:=h.len;omega
theorem iG.eq{l:List aO}{s t:Int}{m:Nat}(h:iG l s m)(e:s=t):iG l t m:=e▸h
theorem iG.two{l:List aO}{m:Nat}(h:iG l 0 m)(hl:l≠[]):2<=l.length:=by
 match l,hl with
 |[y],_=>
  have V:=h.sum;rw[jT,EF]at V;have h2:=(h.af y (by simp)).1;unfold o6 at V;omega
 |_::_::_,_=>simp
theorem ed.ok{x:aw}(b:hD x){ch:Int}(h:ed x.ag ch):1<=ch/\ch<=99:=by
 obtain⟨c,hc,rfl⟩:=h;exact(b.ch c hc).id
theorem y9{k:Int}(h:1<=k/\k<=5):om ⟨k,0⟩:=.inl ⟨h.1,h.2,rfl⟩
theorem qq{k ch:Int}(h:6<=k/\k<=8)(hc:1<=ch/\ch<=99):om ⟨k,ch⟩:=.inr ⟨h.1,h.2,hc.1,hc.2⟩
theorem nl{l:List aO}{a b c k ch:Int}(h:cL l k ch)(hd:a≠k\/b≠ch):cL (bR l a b c) k ch:=h.add hd
theorem Ab{x:aw}{e:aV}(h:dG x e=0):iG (bz x e).l 0 3:=by
 obtain⟨V,h2,h3⟩:=rS h;have b:=mX V;have mS:(eG x&&co e)=true:=by rw[V,h2];rfl
 have hw:(bz x e).c=0:=by rw[<-yA mS h3];exact h
 have am:=uu h2;rw[cY,cY]at am;obtain⟨a0,f0⟩:=am;obtain⟨p1,p2,p3,p4⟩:=HK h2;have hn:=EE h3;have EG:iG [] 0 3:=⟨List.Pairwise.nil,by simp,by simp,rfl,by simp⟩;have up:∀ {l:List aO} {s:Int},iG l s 2->s=0->iG l 0 3:=fun q r=>by subst r;exact⟨q.gS,q.acc,q.af,q.sum,Nat.le_succ_of_le q.len⟩
 by_cases k1:e.kind=1
 ·rw[<-yY k1];exact up ((iG.nil.add (y9 (by omega)) (cL.nil _ _) (by omega)).add (y9 (by omega)) (nl (cL.nil _ _) (.inl (by decide))) (by omega)) (by omega)
 by_cases k2:e.kind=2
 ·rw[<-xy k2]at hw ⊢;by_cases q:gO x e=0
  ·rw[tK q];exact up ((iG.nil.add (qq (by omega) (p2 (by rw[k2];rfl))) (cL.nil _ _) (by omega)).add (y9 (by omega)) (nl (cL.nil _ _) (.inl (by decide))) (by omega)) (by omega)
  rw[sK q]at hw;exact absurd hw q
 by_cases k3:e.kind=3
 ·rw[<-yZ k3]at hw ⊢;by_cases q:ir x e=0
  ·rw[yf q];unfold ir at q;obtain⟨_,g1⟩:=ky (by decide) q;simp only[decide_eq_false_iff_not]at g1;have hl:eY (fz x.ag e.ch).loc:=by
    rcases jt x.ag e.ch with⟨_,r⟩|⟨i,c,_,r2,r3,_⟩
    ·rw[r];exact⟨Int.le_refl _,by decide⟩
    rw[r3];exact(b.ch c (dB r2)).loc
   unfold eY at hl;exact(((iG.nil.add (y9 (by omega)) (cL.nil _ _) (by omega)).add (y9 (by omega)) (nl (cL.nil _ _) (.inl (by decide))) (by omega)).add (qq (by omega) (p2 (by rw[k3];rfl))) (nl (nl (cL.nil _ _) (.inl (by decide))) (.inl (by decide))) (by omega)).eq (by omega)
  rw[tM q]at hw;exact absurd hw q
 by_cases k4:e.kind=4
 ·rw[<-vK k4];unfold ou;split<;>exact EG
 by_cases k5:e.kind=5
 ·rw[<-xz k5]at hw ⊢;by_cases q:gg x e=0
  ·rw[sR q];have MJ:1<=e.to/\e.to<=99:=by
    have h5:=h2;unfold co at h5;simp only[Bool.and_eq_true]at h5;have:=h5.1.1.1.1.2;unfold gj at this;rw[if_pos (by rw[k5];rfl)]at this;exact cJ.1 this
   exact up ((iG.nil.add (qq (by omega) MJ) (cL.nil _ _) (by omega)).add (qq (by omega) MJ) (nl (cL.nil _ _) (.inl (by decide))) (by omega)) (by omega)
  rw[jm q]at hw;exact absurd hw q
 by_cases k6:e.kind=6\/e.kind=7
 ·rw[<-uv k6];unfold mR;split
  ·rename_i y hy;have q:=b.hs y (List.mem_of_find?_eq_some hy);have q1:=q.gh;have q2:=q.out;unfold eY at q1;have ti:=ed.ok b q.ti;have to:=ed.ok b q.to;unfold pN;split
   ·exact(((iG.nil.add (y9 (by omega)) (cL.nil _ _) (by omega)).add (qq (by omega) ti) (nl (cL.nil _ _) (.inl (by decide))) (by omega)).add (qq (by omega) to) (nl (nl (cL.nil _ _) (.inl (by decide))) (.inl (by decide))) (by omega)).eq (by omega)
   exact up ((iG.nil.add (qq (by omega) to) (cL.nil _ _) (by omega)).add (qq (by omega) to) (nl (cL.nil _ _) (.inl (by decide))) (by omega)) (by omega)
  exact EG
 by_cases k8:e.kind=8
 ·rw[<-y7 k8];exact EG
 by_cases k9:e.kind=9
 ·rw[<-t8 k9]at hw ⊢;by_cases q:fL x e=0
  ·rw[uZ q];have hs:bk (eM e.af e.ay):=lQ _ _;unfold bk at hs;have y':=p2 (by rw[k9];rfl);exact up ((iG.nil.add (qq (by omega) y') (cL.nil _ _) (by omega)).add (qq (by omega) y') (nl (cL.nil _ _) (.inl (by decide))) (by omega)) (by omega)
  rw[od q]at hw;exact absurd hw q
 have:=y8 h2;rw[<-ua (by omega)];unfold nm;split
 ·rename_i y hy;have hm:=List.mem_of_find?_eq_some hy;have q:=b.cs y hm;have q1:=EH V y hm;have ti:=ed.ok b q.ti;have to:=ed.ok b q.to;unfold mN;split
  ·exact(((iG.nil.add (y9 (by omega)) (cL.nil _ _) (by omega)).add (qq (by omega) to) (nl (cL.nil _ _) (.inl (by decide))) (by omega)).add (qq (by omega) ti) (nl (nl (cL.nil _ _) (.inl (by decide))) (.inl (by decide))) (by omega)).eq (by omega)
  exact up ((iG.nil.add (qq (by omega) ti) (cL.nil _ _) (by omega)).add (qq (by omega) ti) (nl (cL.nil _ _) (.inl (by decide))) (by omega)) (by omega)
 exact EG

def uw(l l':List be):Prop:=∀c∈l,∃d∈l',d.id=c.id/\d.size=c.size
theorem uw.refl(l:List be):uw l l:=fun c hc=>⟨c,hc,rfl,rfl⟩
theorem uw.trans{a b c:List be}(h:uw a b)(h2:uw b c):uw a c:=fun x hx=>by
 obtain⟨y,hy,q1,q2⟩:=h x hx;obtain⟨z,hz,r1,r2⟩:=h2 y hy;exact⟨z,hz,r1.trans q1,r2.trans q2⟩
theorem uw.aH{l:List be}{a:Int}{f:be->be}(hf:∀c,(f c).id=c.id/\(f c).size=c.size):uw l (cC l a f):=fun c hc=>by
 refine⟨_,List.mem_map_of_mem hc,?_⟩;split
 ·exact hf c
 exact⟨rfl,rfl⟩
theorem uw.map{l:List be}{f:be->be}(hf:∀c,(f c).id=c.id/\(f c).size=c.size):uw l (l.map f):=fun c hc=>⟨_,List.mem_map_of_mem hc,hf c⟩
theorem UC{x:aw}{e:aV}(h:dG x e=0)(hp:(dl x e).id≠0):(dl x e).id=x.next/\(dp x e).next=x.next+1/\iG (dl x e).lines 0 3/\2<=(dl x e).lines.length:=by
 by_cases r:(bz x e).l=[]
 ·rw[(ub h r).2]at hp;exact absurd rfl hp
 rw[(rU h r).1,(rU h r).2];exact⟨rfl,by show (bz x e).b.next+1=_;rw[xA],Ab h,(Ab h).two r⟩

set_option maxHeartbeats 16000000
set_option maxRecDepth 100000
def nd(a:Acc):Bool:=if aI a.kind 6 8=true then aI a.ch 1 99 else aI a.kind 1 5&&(a.ch==0)
def vh(l:List aO)(i:Nat)(x:aO):Bool:=match i with|0=>true|j+1=>match l[j]? with|some y=>cg y.acc x.acc|none=>true
def oX(l:List aO)(i:Nat):Bool:=match l[i]? with|some x=>nd x.acc&&!(x.af==0)&&dL x.af&&vh l i x|none=>true
def qh(x:aO):Int:=x.af
def rW(l:List aO):Bool:=(List.range l.length).all (oX l)&&(bG qh l==0)
theorem ve{a:Acc}:nd a=true↔(1<=a.kind/\a.kind<=5/\a.ch=0)\/(6<=a.kind/\a.kind<=8/\1<=a.ch/\a.ch<=99):=by
 unfold nd;by_cases h:aI a.kind 6 8=true
 ·rw[if_pos h];have:=cJ.1 h;rw[cJ];omega
 rw[if_neg h,Bool.and_eq_true,cJ,beq_iff_eq];have h':=Kv.1 (by simpa using h);omega
theorem lX{l:List aO}{k:Nat}(h:k<l.length):oX l k=(nd l[k].acc&&!(l[k].af==0)&&dL l[k].af&&vh l k l[k]):=by
 unfold oX;rw[List.getElem?_eq_getElem h]
theorem rX{l:List aO}{k:Nat}(h:k<l.length)(h2:oX l k=false):rW l=false:=by
 unfold rW;rw[show (List.range l.length).all (oX l)=false from List.all_eq_false.2 ⟨k,by simpa using h,by simp[h2]⟩];rfl
theorem D2{l:List aO}(h:∀j,j<l.length->oX l j=true):rW l=(bG qh l==0):=by
 unfold rW;rw[show (List.range l.length).all (oX l)=true from List.all_eq_true.2 fun j hj=>h j (by simpa using hj)];rfl
theorem nV{l:List aO}{k:Nat}{x:aO}(h0:0<k)(h:k<l.length):vh l k x=cg (l[k-1]'(by omega)).acc x.acc:=by
 obtain⟨j,rfl⟩:∃j,k=j+1:=⟨k-1,by omega⟩;show (match l[j]? with|some y=>cg y.acc x.acc|none=>true)=_;rw[List.getElem?_eq_getElem (by omega:j<l.length)];rfl
theorem MK{l:List aO}:∀(k:Nat),k<=l.length->(∀j,j<k->oX l j=true)->-((k:Int)*1125899906842624)<=bG qh (l.take k)/\bG qh (l.take k)<=(k:Int)*1125899906842624
 |0,_,_=>by simp[bG]
 |k+1,hk,h=>by
  have ih:=MK k (by omega) (fun j hj=>h j (by omega));have hl:=h k (by omega);rw[lX (by omega:k<l.length)]at hl;simp only[Bool.and_eq_true]at hl;have hr:=cJ.1 hl.1.2;rw[oJ qh l (by omega:k<l.length)];unfold qh at *;push_cast;omega
theorem D1{l:List aO}{k:Nat}(hn:l.length<=1000)(hk:k<l.length)(h:∀j,j<k->oX l j=true)(hr:dL l[k].af=true):Fits .i64 (bG qh (l.take k)+l[k].af):=by
 have:=MK k (by omega) h;have:=cJ.1 hr;refine ce ?_;unfold i64;omega
def iL(n:Int)(l:List aO):Bool:=aI n 1 1125899906842624&&aI (l.length:Int) 2 8&&rW l
theorem UD(a:Acc):GC prog 224 [.agg [int a.kind,int a.ch]] [] (aD (nd a)) []:=by
 refine gi 2 func224 rfl ntmps224 rfl ?_;intro L O w0;refine sL<|ab (zX 2001 Z) Z<|ar Z<|Y<|aS<|sL<|lf 0 oW Z<|aj ac Z<|ab (zC [] [] [] func92 (pp _ _ _) (trivial) Z Z) Z<|Y ?_;refine AW.cond rfl ?_ ?_
 ·intro V;refine sL<|lf 1 rV Z<|aj ac Z<|ab (zC [] [] [] func92 (pp _ _ _) (trivial) Z Z) Z<|bv Z<|Y<|aR<|rT ?_;refine az trivial ?_;first|rfl|(simp_all[nd,vi];done)|(simp_all[nd,aI];omega)
 intro V;refine aK<|gA<|lf 0 oW Z<|aj ac Z<|ab (zC [] [] [] func92 (pp _ _ _) (trivial) Z Z) Z<|aQ Z ?_;refine AL.bool (t:=12) rfl ?_ ?_
 ·intro h2;refine lf 1 rV Z<|aj ac Z<|ak Z<|bj Z<|bv Z<|Y<|aR ?_;refine az trivial ?_;first|rfl|(simp_all[nd,vi];done)|(simp_all[nd,aI];omega)
 intro h2;refine aa Z<|aa Z<|aa Z<|bL Z<|ar Z<|Y<|aR ?_;refine az trivial ?_;first|rfl|(simp_all[nd,vi];done)|(simp_all[nd,aI];omega)
theorem Ld(l:List aO)(hn:l.length<=1000):GC prog 222 [.p (.ab 167 3 (ah ct l))] [] (aD (rW l)) []:=by
 refine gi 2 func222 rfl ntmps222 rfl ?_;intro L O w0;refine sL<|ar Z<|nA<|ao Z<|Y<|aS<|sL<|bm Z<|ba hZ Z<|ae Z<|Y<|aB ?_;refine aW [0,2,6,7] [] (D:=Nat) (fun k=>[(3,int (bG qh (l.take k))),(8,int (k:Int))]) (fun k=>[]) (fun k=>k<=l.length/\∀j,j<k->oX l j=true) (fun k=>l.length-k) (0) (⟨Nat.zero_le _,fun j h=>absurd h (by omega)⟩) ⟨rfl,rfl,trivial⟩ trivial ?_;intro k hI;obtain⟨eN,bB⟩:=hI;refine sL<|ak Z<|Y<|aS ?_;refine AW.cond rfl ?_ ?_
 ·intro V;refine aK<|gT<|aS<|aB<|sL<|ae Z ?_;have hk:k<l.length:=by simpa[ap]using V
  refine li k cV Z (bS hk)<|d6 (.agg [U _ _,U _ _,U _ _]) iV Z<|ab (zA 2005 eP Z) Z<|ao Z<|ab (zB 2005 vf vg Z) Z<|Y<|aS<|aS<|aF []<|vq 0 (rf 0 jf Z)<|vq 1 (dw (.agg [U _ _,U _ _]) i0 Z)<|bn 2 Z (zC [] [] [] func224 (UD l[k].acc) (trivial) Z Z) (.inr Z)<|fT [0,2,3,4,5,6,7,8,15] [2005] ?_;refine vq 3 (gQ Z)<|vq 4 (dx Z) ?_;refine AF.bool (t:=17) rfl ?_ ?_
  ·intro h2;refine al 5 Z<|al 6 Z<|al 7 Z<|vq 8 (bA Z)<|vq 9 (cF Z)<|al 10 Z<|al 11 Z<|al 12 Z<|al 13 Z<|vq 14 (bA Z)<|vq 15 (cF Z)<|al 16 Z<|al 17 Z<|al 18 Z<|bi 19 Z<|bi 20 Z<|bi 21 Z<|bi 22 Z<|bi 23 Z<|bi 24 Z<|al 25 Z<|al 26 Z<|al 27 Z<|al 28 Z<|al 29 Z<|vq 30 (bA Z)<|fD<|gT<|aY Z<|aS ?_;refine aL<|ar Z<|Y<|aR<|rT<|rB<|rT<|rT<|rB<|rT ?_;refine az trivial ?_;first|(exfalso;simp only[decide_eq_true_eq]at *;omega)|exact(rX hk (by rw[lX hk];simp_all[dL,nV])).symm
  intro h2;refine vq 5 (rf 2 ni Z)<|vq 6 (aZ ac Z)<|vq 7 (dt Z)<|vq 8 (cv Z)<|vq 9 (dx Z) ?_;refine AF.bool (t:=22) rfl ?_ ?_
  ·intro h3;refine al 10 Z<|al 11 Z<|al 12 Z<|al 13 Z<|vq 14 (bA Z)<|vq 15 (cF Z)<|al 16 Z<|al 17 Z<|al 18 Z<|bi 19 Z<|bi 20 Z<|bi 21 Z<|bi 22 Z<|bi 23 Z<|bi 24 Z<|al 25 Z<|al 26 Z<|al 27 Z<|al 28 Z<|al 29 Z<|vq 30 (bA Z)<|fD<|gT<|aY Z<|sL<|ar Z<|Y<|aR ?_;refine rT<|rB<|rT<|rT<|rB<|rT ?_;refine az trivial ?_;first|(exfalso;simp only[decide_eq_true_eq]at *;omega)|exact(rX hk (by rw[lX hk];simp_all[dL,nV])).symm
  intro h3;refine vq 10 (rf 2 ni Z)<|vq 11 (aZ ac Z)<|bn 12 Z (zC [] [] [] func92 (pp _ _ _) (trivial) Z Z) (.inr Z)<|fT [0,2,3,4,5,6,7,8,22,25] [2005] ?_;refine vq 13 (gQ Z)<|vq 14 (cv Z)<|vq 15 (dx Z) ?_;refine AF.bool (t:=28) rfl ?_ ?_
  ·intro h4;refine al 16 Z<|al 17 Z<|al 18 Z<|bi 19 Z<|bi 20 Z<|bi 21 Z<|bi 22 Z<|bi 23 Z<|bi 24 Z<|al 25 Z<|al 26 Z<|al 27 Z<|al 28 Z<|al 29 Z<|vq 30 (bA Z)<|fD<|gT<|aY Z<|sL<|ar Z<|Y<|aR<|rT<|rB<|rT<|rT<|rB<|rT ?_;refine az trivial ?_;first|(exfalso;simp only[decide_eq_true_eq]at *;omega)|exact(rX hk (by rw[lX hk];simp_all[dL,nV])).symm
  intro h4;refine vq 16 (dW Z)<|vq 17 (dt Z)<|vq 18 (dx Z) ?_;refine AF.bool (t:=31) rfl ?_ ?_
  ·intro h5;refine pq 19 (iz Z)<|pq 20 (gL (U _ _) Z) ?_;have hp:0<k:=by simpa using h5
   refine sq 21 (qV rfl (by unfold i64;omega))<|sq 22 (rd (x:=.rp _) (yt (i:=k-1) rfl cV rfl rfl ?hn1 (bS (by omega:k-1<l.length))) rfl) ?_;case hn1=>omega
   refine pq 23 (qd (x:=.rp _) (EI jf rfl) rfl)<|sq 24 (gm (.agg [U _ _,U _ _]) i0 rfl)<|vq 25 (rf 0 jf rfl)<|vq 26 (dw (.agg [U _ _,U _ _]) i0 rfl)<|bn 27 rfl (zC [] [] [] func223 (HN (l[k-1]'(by omega)).acc l[k].acc) (trivial) rfl rfl) (.inr rfl)<|fT [0,2,3,5,6,7,8,28,31,40] [2005] ?_;refine vq 28 (gQ Z)<|vq 29 (cv Z)<|vq 30 (cv Z)<|fD<|gT ?_;refine AW.cond rfl ?_ ?_
   ·intro h6;refine sL<|ar Z<|Y<|aR<|rT<|rB<|rT<|rT<|rB<|rT ?_;refine az trivial ?_;first|(exfalso;simp only[decide_eq_true_eq]at *;omega)|exact(rX hk (by rw[lX hk];simp_all[dL,nV])).symm
   intro h6;refine aK<|gT<|aL<|ae Z<|lf 2 ni Z<|aj ac Z ?_;have yD:vh l k l[k]=true:=by
    rcases Nat.eq_zero_or_pos k with q|q
    ·subst q;rfl
    rw[nV q hk];simp_all
   have kd:oX l k=true:=by rw[lX hk,yD];simp_all[dL]
   have yE:dL l[k].af=true:=by rw[lX hk]at kd;simp only[Bool.and_eq_true]at kd;exact kd.1.2
   refine eo rfl ⟨rfl,D1 (by omega) hk bB yE⟩<|ao Z<|lN<|gB<|gT<|aL<|bg Z<|ae Z<|Y ?_;refine⟨k+1,⟨hk,fun j hj=>(Nat.lt_or_ge j k).elim (bB j) (fun q=>by rw[show j=k by omega];exact kd)⟩,by omega,⟨(Eq.trans (b:=int _) rfl (congrArg int (oJ qh l hk).symm)),(iq rfl),trivial⟩,trivial,rfl,rfl⟩
  intro h5;refine bi 19 Z<|bi 20 Z<|bi 21 Z<|bi 22 Z<|bi 23 Z<|bi 24 Z<|al 25 Z<|al 26 Z<|al 27 Z<|al 28 Z<|vq 29 (kK Z)<|vq 30 (kK Z)<|fD<|gT<|aN Z<|aK<|gT<|aL<|ae Z<|lf 2 ni Z<|aj ac Z ?_;have yD:vh l k l[k]=true:=by
   rcases Nat.eq_zero_or_pos k with q|q
   ·subst q;rfl
   rw[nV q hk];simp_all
  have kd:oX l k=true:=by rw[lX hk,yD];simp_all[dL]
  have yE:dL l[k].af=true:=by rw[lX hk]at kd;simp only[Bool.and_eq_true]at kd;exact kd.1.2
  refine eo rfl ⟨rfl,D1 (by omega) hk bB yE⟩<|ao Z<|lN<|gB<|gT<|aL<|bg Z<|ae Z<|Y ?_;refine⟨k+1,⟨hk,fun j hj=>(Nat.lt_or_ge j k).elim (bB j) (fun q=>by rw[show j=k by omega];exact kd)⟩,by omega,⟨(Eq.trans (b:=int _) rfl (congrArg int (oJ qh l hk).symm)),(iq rfl),trivial⟩,trivial,rfl,rfl⟩
 intro V;refine aE<|eT<|eT<|eB<|gA<|ae Z<|ak Z<|bv Z<|Y<|aR ?_;refine az trivial ?_;have yF:¬k<l.length:=by simpa[ap]using V
 obtain rfl:k=l.length:=by omega
 rw[D2 bB,List.take_length,vi]
theorem SM(n:Int)(l:List aO)(hn:l.length<=1000):GC prog 122 [.agg [int n,.p (.ab 167 3 (ah ct l))]] [] (aD (iL n l)) []:=by
 refine gi 2 func122 rfl ntmps122 rfl ?_;intro L O w0;refine sL<|ab (zX 2001 Z) Z<|ar Z<|nA<|lf 0 wN Z<|aj ac Z<|ab (zC [] [] [] func92 (pp _ _ _) (trivial) Z Z) Z<|aQ Z ?_;refine AL.bool (t:=6) rfl ?_ ?_
 ·intro V;refine lf 1 t7 Z<|bo gY Z<|ba hZ Z<|ab (zC [] [] [] func92 (pp _ _ _) (trivial) Z Z) Z<|bj Z<|aQ Z ?_;refine AL.bool (t:=12) rfl ?_ ?_
  ·intro h2;refine lf 1 t7 Z<|bo gY Z<|ab (zC [] [] [] func222 (Ld l hn) (trivial) Z Z) Z<|lT [2,12,15] [2001] ?_;refine bj Z<|bv Z<|Y<|aR ?_;refine az trivial ?_;simp_all[iL,ap]
  intro h2;refine aa Z<|aa Z<|aa Z<|bL Z<|ar Z<|Y<|aR ?_;refine az trivial ?_;simp_all[iL,ap]
 intro V;refine aa Z<|aa Z<|aa Z<|aa Z<|bL Z<|dm Z<|aa Z<|aa Z<|aa Z<|bL Z<|ar Z<|Y<|aR ?_;refine az trivial ?_;simp_all[iL,ap]

instance {l:List be} {ch:Int}:Decidable (ed l ch):=inferInstanceAs (Decidable (∃c,c∈l/\c.id=ch))
def iS(k c:Int)(x:aO):Int:=if x.acc.kind=k/\x.acc.ch=c then x.af else 0
def bU(l:List aO)(k c:Int):Int:=bG (iS k c) l
theorem dU(k c:Int):bU [] k c=0:=rfl
theorem fm(x:aO)(l:List aO)(k c:Int):bU (x::l) k c=iS k c x+bU l k c:=jT _ _ _
theorem ML{x:aO}{k c:Int}:∀(l:List aO),bU (fV l x) k c=bU l k c+iS k c x
 |[]=>by unfold fV;rw[fm,dU];omega
 |y::l=>by
  unfold fV;split
  ·rw[fm,fm,ML l];omega
  rw[fm];omega
theorem fO(l:List aO)(k c n k' c':Int):bU (bR l k c n) k' c'=bU l k' c'+(if k=k'/\c=c' then n else 0):=by
 by_cases q:n=0
 ·rw[BK q,q];split<;>omega
 rw[BL q,ML];rfl
theorem qr(c:be)(l:List be)(ch:Int):fz (c::l) ch=if c.id=ch then c else fz l ch:=by
 unfold fz;rw[List.find?_cons];by_cases q:c.id=ch
 ·rw[if_pos q,show (c.id==ch)=true from by simpa using q];rfl
 rw[if_neg q,show (c.id==ch)=false from by simpa using q]
theorem EJ(l m:List be)(ch:Int):fz (l++m) ch=if ed l ch then fz l ch else fz m ch:=by
 induction l with
 |nil=>rw[List.nil_append,if_neg (fun⟨c,hc,_⟩=>by simp at hc)]
 |cons c l ih=>
  rw[List.cons_append,qr,qr,ih];by_cases q:c.id=ch
  ·rw[if_pos q,if_pos q,if_pos ⟨c,by simp,q⟩]
  rw[if_neg q,if_neg q];have e:ed (c::l) ch↔ed l ch:=⟨fun⟨d,hd,r⟩=>by
   rcases List.mem_cons.1 hd with rfl|hd
   ·exact absurd r q
   exact⟨d,hd,r⟩,fun⟨d,hd,r⟩=>⟨d,by simp[hd],r⟩⟩
  by_cases t:ed l ch
  ·rw[if_pos t,if_pos (e.2 t)]
  rw[if_neg t,if_neg (fun z=>t (e.1 z))]
theorem UE{l:List be}{ch:Int}(h:¬ed l ch):fz l ch=BM:=by
 rcases jt l ch with⟨_,r⟩|⟨i,c,_,q,_,r⟩
 ·exact r
 exact absurd ⟨c,dB q,r⟩ h
theorem HO{f:be->be}(hf:∀c,(f c).id=c.id)(a ch:Int):∀(l:List be),fz (cC l a f) ch=if ch=a/\ed l a then f (fz l a)else fz l ch
 |[]=>by rw[if_neg (fun⟨_,c,hc,_⟩=>by simp at hc)];rfl
 |c::l=>by
  have ih:=HO hf a ch l;have e0:cC (c::l) a f=(if c.id=a then f c else c)::cC l a f:=rfl;have hid:(if c.id=a then f c else c).id=c.id:=by split<;>simp[hf]
  rw[e0,qr,hid];by_cases q:c.id=ch
  ·rw[if_pos q];by_cases r:ch=a
   ·have ht:ed (c::l) a:=⟨c,by simp,by omega⟩;rw[if_pos (by omega),if_pos ⟨r,ht⟩,qr,if_pos (by omega)]
   rw[if_neg (by omega),if_neg (fun z=>r z.1),qr,if_pos q]
  rw[if_neg q,ih];by_cases r:ch=a
  ·subst r;have e:ed (c::l) ch↔ed l ch:=⟨fun⟨d,hd,r⟩=>by
    rcases List.mem_cons.1 hd with rfl|hd
    ·exact absurd r q
    exact⟨d,hd,r⟩,fun⟨d,hd,r⟩=>⟨d,by simp[hd],r⟩⟩
   by_cases t:ed l ch
   ·rw[if_pos ⟨rfl,t⟩,if_pos ⟨rfl,e.2 t⟩,qr,if_neg q]
   rw[if_neg (fun z=>t z.2),if_neg (fun z=>t (e.1 z.2)),qr,if_neg q]
  rw[if_neg (fun z=>r z.1),if_neg (fun z=>r z.1),qr,if_neg q]
def hP(l:List be)(ch:Int):Int:=(fz l ch).loc
theorem MM{f:be->be}(hf:∀c,(f c).id=c.id){n:Int}(hn:∀c,(f c).loc=c.loc+n){l:List be}{a:Int}(ht:ed l a)(ch:Int):hP (cC l a f) ch=hP l ch+(if a=ch then n else 0):=by
 unfold hP;rw[HO hf];by_cases q:ch=a
 ·rw[if_pos ⟨q,ht⟩,hn,if_pos q.symm,q]
 rw[if_neg (fun z=>q z.1),if_neg (fun z=>q z.symm),Int.add_zero]
theorem HP{f:be->be}(hf:∀c,(f c).id=c.id)(hn:∀c,(f c).loc=c.loc)(l:List be)(a ch:Int):hP (cC l a f) ch=hP l ch:=by
 unfold hP;rw[HO hf];split
 ·rename_i q;rw[hn,q.1]
 rfl
theorem AJ{l:List be}{a b:Int}{f g:be->be}(hf:∀c,(f c).id=c.id)(hg:∀c,(g c).id=c.id){n m:Int}(hn:∀c,(f c).loc=c.loc+n)(hm:∀c,(g c).loc=c.loc+m)(ta:ed l a\/n=0)(tb:ed l b\/m=0)(ch:Int):hP (cC (cC l a f) b g) ch=hP l ch+(if a=ch then n else 0)+(if b=ch then m else 0):=by
 have V:hP (cC l a f) ch=hP l ch+(if a=ch then n else 0):=by
  rcases ta with t|t
  ·exact MM hf hn t ch
  rw[HP hf (fun c=>by rw[hn,t,Int.add_zero]),t];split<;>omega
 have h2:hP (cC (cC l a f) b g) ch=hP (cC l a f) ch+(if b=ch then m else 0):=by
  rcases tb with t|t
  ·exact MM hg hm (tn hf t) ch
  rw[HP hg (fun c=>by rw[hm,t,Int.add_zero]),t];split<;>omega
 rw[h2,V]
theorem MN{f:be->be}(hf:∀c,(f c).id=c.id)(hn:∀c,(f c).loc=c.loc)(ch:Int):∀(l:List be),hP (l.map f) ch=hP l ch
 |[]=>rfl
 |c::l=>by
  have ih:=MN hf hn ch l;unfold hP at *;rw[List.map_cons,qr,qr,hf];split
  ·exact hn c
  exact ih
theorem MO(ch a:Int):∀(l:List be),hP (ny l a) ch=if a=ch then 0 else hP l ch
 |[]=>by show (0:Int)=_;split<;>rfl
 |c::l=>by
  have ih:=MO ch a l;unfold hP ny at *;rw[List.filter_cons];by_cases q:c.id=a
  ·rw[show (!(c.id==a))=false from by simp[q],if_neg (by simp),ih];split
   ·rfl
   rw[qr,if_neg (by omega)]
  rw[show (!(c.id==a))=true from by simp[q],if_pos rfl,qr,qr];by_cases r:c.id=ch
  ·rw[if_pos r,if_pos r,if_neg (by omega)]
  rw[if_neg r,if_neg r,ih]
theorem UF{l:List be}{c:be}(hn:¬ed l c.id)(ch:Int):hP (ly l c) ch=if c.id=ch then c.loc else hP l ch:=by
 unfold hP ly;have my:∀k,∀m:List be,(∀d∈m,d∈l)->ed m k->ed l k:=fun k m h ⟨d,hd,r⟩=>⟨d,h d hd,r⟩;rw[EJ];have e:fz l ch=if ed (l.take (lV l c.id)) ch then fz (l.take (lV l c.id)) ch else fz (l.drop (lV l c.id)) ch:=by
  rw[<-EJ,List.take_append_drop]
 by_cases q:c.id=ch
 ·subst q;rw[if_pos ⟨c,by simp,rfl⟩,if_pos rfl,EJ,if_neg (fun z=>hn (my _ _ (fun d hd=>List.mem_of_mem_take hd) z)),qr,if_pos rfl]
 rw[if_neg q,e];have e2:ed (l.take (lV l c.id)++[c]) ch↔ed (l.take (lV l c.id)) ch:=⟨fun⟨d,hd,r⟩=>by
  rcases List.mem_append.1 hd with hd|hd
  ·exact⟨d,hd,r⟩
  rw[List.mem_singleton]at hd;subst hd;exact absurd r q,fun⟨d,hd,r⟩=>⟨d,by simp[hd],r⟩⟩
 by_cases t:ed (l.take (lV l c.id)) ch
 ·rw[if_pos t,if_pos (e2.2 t),EJ,if_pos t]
 rw[if_neg t,if_neg (fun z=>t (e2.1 z))]
structure AK(x y:aw)(l:List aO):Prop where
 za:y.aA=x.aA+bU l 1 0
 loc:∀ch,hP y.ag ch=hP x.ag ch+bU l 6 ch
 out:∀ch,fB y ch=fB x ch+bU l 8 ch
 gh:∀ch,bU l 7 ch=0
theorem AK.refl(x:aw):AK x x []:=⟨by rw[dU];omega,fun ch=>by rw[dU];omega,fun ch=>by rw[dU];omega,fun ch=>rfl⟩
theorem MP{x:aw}{e:aV}(h:dG x e=0):AK x (bz x e).b (bz x e).l:=by
 obtain⟨V,h2,h3⟩:=rS h;have b:=mX V;have mS:(eG x&&co e)=true:=by rw[V,h2];rfl
 have hw:(bz x e).c=0:=by rw[<-yA mS h3];exact h
 have bO:=HK h2;by_cases k1:e.kind=1
 ·rw[<-yY k1];unfold zb;refine⟨?_,fun ch=>?_,fun ch=>?_,fun ch=>?_⟩<;>simp only[fO,dU]<;>simp;rfl
 by_cases k2:e.kind=2
 ·rw[<-xy k2]at hw ⊢;by_cases q:gO x e=0
  ·rw[tK q];have iY:=zY (DB q);have EK:¬ed x.ag e.ch:=fun⟨c,q1,q2⟩=>iY c q1 q2;refine⟨?_,fun ch=>?_,fun ch=>?_,fun ch=>?_⟩
   ·simp only[fO,dU];simp;omega
   ·show hP (ly x.ag _) ch=_;rw[UF EK];simp only[fO,dU];by_cases r:e.ch=ch
    ·subst r;have:hP x.ag e.ch=0:=by unfold hP;rw[UE EK];rfl
     simp[this]
    simp[r]
   ·simp only[fO,dU];simp;rfl
   simp only[fO,dU];simp
  rw[sK q]at hw;exact absurd hw q
 by_cases k3:e.kind=3
 ·rw[<-yZ k3]at hw ⊢;by_cases q:ir x e=0
  ·rw[yf q];unfold zZ;refine⟨?_,fun ch=>?_,fun ch=>?_,fun ch=>?_⟩
   ·simp only[fO,dU];simp
   ·show hP (ny x.ag _) ch=_;rw[MO];simp only[fO,dU];by_cases r:e.ch=ch
    ·subst r;simp;unfold hP;omega
    simp[r]
   ·simp only[fO,dU];simp;rfl
   simp only[fO,dU];simp
  rw[tM q]at hw;exact absurd hw q
 by_cases k4:e.kind=4
 ·rw[<-vK k4];unfold ou;split
  ·exact AK.refl x
  refine⟨by rw[dU];exact(Int.add_zero _).symm,fun ch=>?_,fun ch=>?_,fun ch=>rfl⟩
  ·rw[dU,Int.add_zero];show hP (cC x.ag e.ch _) ch=_;exact HP (f:=fun c=>{ c with base:=e.af,br:=e.ay }) (fun _=>rfl) (fun _=>rfl) _ _ _
  rw[dU,Int.add_zero];rfl
 by_cases k5:e.kind=5
 ·rw[<-xz k5]at hw ⊢;by_cases q:gg x e=0
  ·rw[sR q];have t2:ed x.ag e.to:=by
    have V:dz x e=0:=by
     by_cases q':dz x e=0
     ·exact q'
     rw[jx q']at q;exact q
    unfold dz at V;obtain⟨h2,_⟩:=ky (by decide) V;obtain⟨h3,_⟩:=ky (by decide) h2;obtain⟨h4,_⟩:=ky (by decide) h3;unfold im at h4;obtain⟨h5,_⟩:=ky (by decide) h4;refine Classical.byContradiction fun hn=>?_;have Cc:eS x.ag e.to=-1:=by
     rcases jt x.ag e.to with⟨r,_⟩|⟨i,c,r,s,_,t⟩
     ·exact r
     exact absurd ⟨c,dB s,t⟩ hn
    rw[j9 Cc]at h5;exact mp (by decide) h5
   refine⟨?_,fun ch=>?_,fun ch=>?_,fun ch=>?_⟩
   ·unfold mI;simp only[fO,dU];simp
   ·unfold mI;dsimp only;refine Eq.trans (AJ (n:=0) (m:=-e.af) (by intro c;rfl) (by intro c;rfl) (by intro c;first|rfl|(dsimp only;omega)) (by intro c;first|rfl|(dsimp only;omega)) (.inr rfl) (.inl t2) ch) ?_;simp only[fO,dU];simp
   ·unfold fB mI;dsimp only;rw[zc];unfold dK;simp only[fO,dU];simp;omega
   unfold mI;simp only[fO,dU];simp
  rw[jm q]at hw;exact absurd hw q
 by_cases k6:e.kind=6\/e.kind=7
 ·rw[<-uv k6];unfold mR;split
  ·rename_i y hy;have hm:=List.mem_of_find?_eq_some hy;have q:=b.hs y hm;have ho:∀ch,bG (dK ch) (jS x.an y.key)+dK ch y=bG (dK ch) x.an:=fun ch=>by
    have:=AH (g:=fun z:eV=>z.key) (f:=dK ch) (AE b).1 hm;unfold jS;omega
   unfold pN;split
   ·refine⟨?_,fun ch=>?_,fun ch=>?_,fun ch=>?_⟩
    ·simp only[fO,dU];simp
    ·dsimp only;refine Eq.trans (AJ (n:=y.cW) (m:=0) (by intro c;rfl) (by intro c;rfl) (by intro c;first|rfl|(dsimp only;omega)) (by intro c;first|rfl|(dsimp only;omega)) (.inl q.ti) (.inr rfl) ch) ?_;simp only[fO,dU];simp
    ·have:=ho ch;unfold fB;dsimp only;unfold dK at this ⊢;simp only[fO,dU];simp;by_cases r:y.out=ch
     ·rw[if_pos r]at this ⊢;omega
     rw[if_neg r]at this ⊢;omega
    simp only[fO,dU];simp
   refine⟨?_,fun ch=>?_,fun ch=>?_,fun ch=>?_⟩
   ·simp only[fO,dU];simp
   ·dsimp only;refine Eq.trans (AJ (n:=0) (m:=y.c9) (by intro c;rfl) (by intro c;rfl) (by intro c;first|rfl|(dsimp only;omega)) (by intro c;first|rfl|(dsimp only;omega)) (.inr rfl) (.inl q.to) ch) ?_;simp only[fO,dU];simp
   ·have:=ho ch;unfold fB;dsimp only;unfold dK at this ⊢;simp only[fO,dU];simp;by_cases r:y.out=ch
    ·rw[if_pos r]at this ⊢;omega
    rw[if_neg r]at this ⊢;omega
   simp only[fO,dU];simp
  exact AK.refl x
 by_cases k8:e.kind=8
 ·rw[<-y7 k8];refine⟨?_,fun ch=>?_,fun ch=>?_,fun ch=>rfl⟩
  ·show x.aA=x.aA+0;omega
  ·show hP (x.ag.map (l8 x.tick)) ch=hP x.ag ch+0;rw[Int.add_zero];exact MN (fun c=>Cp _ c) (fun c=>by unfold l8;split<;>rfl) ch _
  show bG (dK ch) (x.an.map kx)+bG (eR ch) x.aq=fB x ch+0;rw[Int.add_zero];unfold fB;congr 1;exact HS fun h _=>rfl
 by_cases k9:e.kind=9
 ·rw[<-t8 k9]at hw ⊢;by_cases q:fL x e=0
  ·rw[uZ q];have g9:gI e.af e.ay=true/\ed x.ag e.ch:=by
    unfold fL at q;obtain⟨h2,_⟩:=ky (by decide) q;obtain⟨h3,_⟩:=ky (by decide) h2;obtain⟨h4,g⟩:=ky (by decide) h3;refine⟨by simpa using g,?_⟩;unfold kv at h4;obtain⟨h5,_⟩:=ky (by decide) h4;refine Classical.byContradiction fun hn=>?_;have Cc:eS x.ag e.ch=-1:=by
     rcases jt x.ag e.ch with⟨r,_⟩|⟨i,c,r,s,_,t⟩
     ·exact r
     exact absurd ⟨c,dB s,t⟩ hn
    rcases jt x.ag e.to with⟨r,_⟩|⟨i,c,r,s,_,t⟩
    ·rw[j9 r]at h5;exact mp (by decide) h5
    rw[ka r,j9 Cc]at h5;exact mp (by decide) h5
   have hs:eM e.af e.ay=e.af+e.ay:=ye g9.1;unfold oH;refine⟨?_,fun ch=>?_,fun ch=>?_,fun ch=>?_⟩
   ·simp only[fO,dU];simp
   ·dsimp only;refine Eq.trans (AJ (n:=-eM e.af e.ay) (m:=0) (by intro c;rfl) (by intro c;rfl) (by intro c;first|rfl|(dsimp only;omega)) (by intro c;first|rfl|(dsimp only;omega)) (.inl g9.2) (.inr rfl) ch) ?_;simp only[fO,dU];simp
   ·unfold fB;dsimp only;rw[zc];unfold eR;simp only[fO,dU];simp;rw[hs];omega
   simp only[fO,dU];simp
  rw[od q]at hw;exact absurd hw q
 have:=y8 h2;rw[<-ua (by omega)];unfold nm;split
 ·rename_i y hy;have hm:=List.mem_of_find?_eq_some hy;have q:=b.cs y hm;have ho:∀ch,bG (eR ch) (jA x.aq y.key)+eR ch y=bG (eR ch) x.aq:=fun ch=>by
   have:=AH (g:=fun z:gz=>z.key) (f:=eR ch) (AE b).2 hm;unfold jA;omega
  unfold mN;split
  ·refine⟨?_,fun ch=>?_,fun ch=>?_,fun ch=>?_⟩
   ·simp only[fO,dU];simp
   ·dsimp only;refine Eq.trans (AJ (n:=0) (m:=y.af) (by intro c;rfl) (by intro c;rfl) (by intro c;first|rfl|(dsimp only;omega)) (by intro c;first|rfl|(dsimp only;omega)) (.inr rfl) (.inl q.to) ch) ?_;simp only[fO,dU];simp
   ·have:=ho ch;unfold fB;dsimp only;unfold eR at this ⊢;simp only[fO,dU];simp;by_cases r:y.fI=ch
    ·rw[if_pos r]at this ⊢;omega
    rw[if_neg r]at this ⊢;omega
   simp only[fO,dU];simp
  refine⟨?_,fun ch=>?_,fun ch=>?_,fun ch=>?_⟩
  ·simp only[fO,dU];simp
  ·dsimp only;refine Eq.trans (AJ (n:=y.af+y.ay) (m:=0) (by intro c;rfl) (by intro c;rfl) (by intro c;first|rfl|(dsimp only;omega)) (by intro c;first|rfl|(dsimp only;omega)) (.inl q.ti) (.inr rfl) ch) ?_;simp only[fO,dU];simp
  ·have:=ho ch;unfold fB;dsimp only;unfold eR at this ⊢;simp only[fO,dU];simp;by_cases r:y.fI=ch
   ·rw[if_pos r]at this ⊢;omega
   rw[if_neg r]at this ⊢;omega
  simp only[fO,dU];simp
 exact AK.refl x

def eQ(x:cH):Bool:=aI x.last 0 1125899906842624&&decide (x.lines.length<=320)&&rW x.lines
def EL(l:List aO)(a:Acc):Int:=match l with|[]=>0|x::r=>if x.acc.kind=a.kind/\x.acc.ch=a.ch then x.af else EL r a
def balance(x:cH)(a:Acc):Int:=if eQ x&&nd a then EL x.lines a else 0
def HT(x:aw)(ch:Int):Int:=if 0<=eS x.ag ch then (match x.ag[(eS x.ag ch).toNat]? with|some c=>c.loc|none=>0)else 0
def HU(x:aw)(ch:Int):Int:=if 0<=eS x.ag ch then fB x ch else 0
def EM(x:aw)(l:cH)(ch:Int):Bool:=(balance l ⟨6,ch⟩==HT x ch)&&(balance l ⟨8,ch⟩==HU x ch)&&(balance l ⟨7,ch⟩==0)
def EN(x:aw)(l:cH):Bool:=eG x&&eQ l&&(l.last==x.next-1)&&(balance l ⟨1,0⟩==x.aA)&&(List.range 99).all fun j=>EM x l ((j:Int)+1)
theorem iG.ok{l:List aO}{m:Nat}(h:iG l 0 m):rW l=true:=by
 rw[D2 fun j hj=>?_]
 ·have:bG qh l=0:=h.sum;rw[this];rfl
 rw[lX hj];have hm:=List.getElem_mem hj;obtain⟨a1,a2,a3⟩:=h.af _ hm;have hp:vh l j l[j]=true:=by
  rcases Nat.eq_zero_or_pos j with q|q
  ·subst q;rfl
  rw[nV q hj];exact List.pairwise_iff_getElem.1 h.gS _ _ _ _ (by omega)
 have V:nd l[j].acc=true:=ve.2 (h.acc _ hm);have h2:dL l[j].af=true:=cJ.2 ⟨a2,a3⟩;rw[V,h2,hp];simpa using a1
theorem wV{l:List aO}(h:rW l=true):iG l 0 l.length:=by
 have bB:∀j,j<l.length->oX l j=true:=fun j hj=>by
  unfold rW at h;rw[Bool.and_eq_true,List.all_eq_true]at h;exact h.1 j (by simpa using hj)
 have mq:bG o6 l=0:=by
  rw[D2 bB,beq_iff_eq]at h;exact h
 have MQ:∀j (hj:j<l.length),nd l[j].acc=true/\l[j].af≠0/\dL l[j].af=true/\vh l j l[j]=true:=fun j hj=>by
  have:=bB j hj;rw[lX hj]at this;simp only[Bool.and_eq_true]at this;exact⟨this.1.1.1,by simpa using this.1.1.2,this.1.2,this.2⟩
 have Ck:∀y∈l,nd y.acc=true/\y.af≠0/\dL y.af=true:=fun y hy=>by
  obtain⟨j,hj,rfl⟩:=List.getElem_of_mem hy;have:=MQ j hj;exact⟨this.1,this.2.1,this.2.2.1⟩
 refine⟨?_,fun y hy=>ve.1 (Ck y hy).1,fun y hy=>⟨(Ck y hy).2.1,cJ.1 (Ck y hy).2.2⟩,mq,Nat.le_refl _⟩;rw[List.pairwise_iff_getElem];intro i j hi hj gF;induction j with
 |zero=>omega
 |succ j ih=>
  have V:=(MQ (j+1) hj).2.2.2;rw[nV (by omega) hj]at V;have V:cg l[j].acc l[j+1].acc=true:=V;by_cases q:i=j
  ·subst q;exact V
  exact vr (ih (by omega) (by omega)) V
theorem GZ{a b:Acc}(h:cg a b=true):¬(a.kind=b.kind/\a.ch=b.ch):=fun⟨V,h2⟩=>by
 unfold cg at h;simp[V,h2]at h
theorem Ah{a b:Acc}(h:cg a b=false)(h2:cg b a=false):a.kind=b.kind/\a.ch=b.ch:=by
 unfold cg at h h2;simp only[Bool.or_eq_false_iff,decide_eq_false_iff_not,Bool.and_eq_false_iff,beq_eq_false_iff_ne]at h h2;omega
theorem Ea{a b:Acc}(h:a.kind=b.kind/\a.ch=b.ch):a=b:=by
 cases a;cases b;simp at h;simp[h]
structure UG(a b r:List aO):Prop where
 gS:r.Pairwise fun a b=>cg a.acc b.acc=true
 acc:∀y∈r,∃z,(z∈a\/z∈b)/\y.acc=z.acc
 af:∀y∈r,y.af≠0/\-1125899906842624<=y.af/\y.af<=1125899906842624
 sum:bG o6 r=bG o6 a+bG o6 b
 zd:∀k c,bU r k c=bU a k c+bU b k c
def rk(l:List aO):Prop:=(l.Pairwise fun a b=>cg a.acc b.acc=true)/\∀y∈l,y.af≠0/\-1125899906842624<=y.af/\y.af<=1125899906842624
theorem rk.tail{x:aO}{l:List aO}(h:rk (x::l)):rk l:=⟨(List.pairwise_cons.1 h.1).2,fun y hy=>h.2 y (by simp[hy])⟩
theorem Cq:∀(n:Nat) (a b r:List aO),a.length+b.length<=n->rk a->rk b->fM a b=some r->UG a b r
 |n,[],b,r,_,_,hb,h=>by
  rw[yo]at h;injection h with h;subst h;exact⟨hb.1,fun y hy=>⟨y,.inr hy,rfl⟩,hb.2,by rw[EF];omega,fun k c=>by rw[dU];omega⟩
 |n,x::a,[],r,_,ha,_,h=>by
  rw[z6]at h;injection h with h;subst h;exact⟨ha.1,fun y hy=>⟨y,.inl hy,rfl⟩,ha.2,by rw[EF];omega,fun k c=>by rw[dU];omega⟩
 |0,x::a,y::b,r,hn,_,_,_=>by simp at hn
 |n+1,x::a,y::b,r,hn,ha,hb,h=>by
  simp only[List.length_cons]at hn;have ip:=List.pairwise_cons.1 ha.1;have kA:=List.pairwise_cons.1 hb.1;by_cases q1:cg x.acc y.acc=true
  ·rw[BI q1]at h;obtain⟨s,hs,rfl⟩:=Option.map_eq_some_iff.1 h;have g:=Cq n a (y::b) s (by simp;omega) ha.tail hb hs;refine⟨List.pairwise_cons.2 ⟨fun z hz=>?_,g.gS⟩,fun z hz=>?_,fun z hz=>?_,?_,fun k c=>?_⟩
   ·obtain⟨u,hu,e⟩:=g.acc z hz;rw[e];rcases hu with hu|hu
    ·exact ip.1 u hu
    rcases List.mem_cons.1 hu with rfl|hu
    ·exact q1
    exact vr q1 (kA.1 u hu)
   ·rcases List.mem_cons.1 hz with rfl|hz
    ·exact⟨_,.inl (by simp),rfl⟩
    obtain⟨u,hu,e⟩:=g.acc z hz;exact⟨u,hu.imp (by intro q;simp[q]) id,e⟩
   ·rcases List.mem_cons.1 hz with rfl|hz
    ·exact ha.2 _ (by simp)
    exact g.af z hz
   ·rw[jT,jT,g.sum];omega
   rw[fm,fm,g.zd];omega
  have q1:cg x.acc y.acc=false:=by simpa using q1
  by_cases q2:cg y.acc x.acc=true
  ·rw[BJ q1 q2]at h;obtain⟨s,hs,rfl⟩:=Option.map_eq_some_iff.1 h;have g:=Cq n (x::a) b s (by simp;omega) ha hb.tail hs;refine⟨List.pairwise_cons.2 ⟨fun z hz=>?_,g.gS⟩,fun z hz=>?_,fun z hz=>?_,?_,fun k c=>?_⟩
   ·obtain⟨u,hu,e⟩:=g.acc z hz;rw[e];rcases hu with hu|hu
    ·rcases List.mem_cons.1 hu with rfl|hu
     ·exact q2
     exact vr q2 (ip.1 u hu)
    exact kA.1 u hu
   ·rcases List.mem_cons.1 hz with rfl|hz
    ·exact⟨_,.inr (by simp),rfl⟩
    obtain⟨u,hu,e⟩:=g.acc z hz;exact⟨u,hu.imp id (by intro q;simp[q]),e⟩
   ·rcases List.mem_cons.1 hz with rfl|hz
    ·exact hb.2 _ (by simp)
    exact g.af z hz
   ·rw[jT,g.sum,jT,jT];omega
   rw[fm,g.zd,fm,fm];omega
  have q2:cg y.acc x.acc=false:=by simpa using q2
  have e:=Ah q1 q2;have ee:x.acc=y.acc:=Ea e;have hk:∀k c,iS k c x+iS k c y=if x.acc.kind=k/\x.acc.ch=c then x.af+y.af else 0:=fun k c=>by
   unfold iS;rw[e.1,e.2];split<;>omega
  by_cases q3:dL (x.af+y.af)=true
  ·by_cases q4:x.af+y.af=0
   ·rw[Eb q1 q2 q3 q4]at h;have g:=Cq n a b r (by omega) ha.tail hb.tail h;refine⟨g.gS,fun z hz=>?_,g.af,?_,fun k c=>?_⟩
    ·obtain⟨u,hu,e⟩:=g.acc z hz;exact⟨u,hu.imp (by intro q;simp[q]) (by intro q;simp[q]),e⟩
    ·rw[g.sum,jT,jT];unfold o6;omega
    rw[g.zd,fm,fm];have:=hk k c;rw[q4]at this;split at this<;>omega
   rw[Ec q1 q2 q3 q4]at h;obtain⟨s,hs,rfl⟩:=Option.map_eq_some_iff.1 h;have g:=Cq n a b s (by omega) ha.tail hb.tail hs;refine⟨List.pairwise_cons.2 ⟨fun z hz=>?_,g.gS⟩,fun z hz=>?_,fun z hz=>?_,?_,fun k c=>?_⟩
   ·obtain⟨u,hu,e⟩:=g.acc z hz;rw[e];rcases hu with hu|hu
    ·exact ip.1 u hu
    show cg x.acc u.acc=true;rw[ee];exact kA.1 u hu
   ·rcases List.mem_cons.1 hz with rfl|hz
    ·exact⟨x,.inl (by simp),rfl⟩
    obtain⟨u,hu,e⟩:=g.acc z hz;exact⟨u,hu.imp (by intro q;simp[q]) (by intro q;simp[q]),e⟩
   ·rcases List.mem_cons.1 hz with rfl|hz
    ·exact⟨q4,cJ.1 q3⟩
    exact g.af z hz
   ·rw[jT,g.sum,jT,jT];unfold o6;dsimp only;omega
   rw[fm,g.zd,fm,fm];have:=hk k c;show (if x.acc.kind=k/\x.acc.ch=c then x.af+y.af else 0)+_=_;omega
  rw[MR q1 q2 (by simpa using q3)]at h;cases h
theorem iG.lF{l:List aO}{s:Int}{m:Nat}(h:iG l s m):rk l:=⟨h.gS,h.af⟩
theorem Ee{a b r:List aO}{s t:Int}{m k:Nat}(ha:iG a s m)(hb:iG b t k)(h:fM a b=some r):iG r (s+t) r.length/\∀k c,bU r k c=bU a k c+bU b k c:=by
 have g:=Cq _ a b r (Nat.le_refl _) ha.lF hb.lF h;exact⟨⟨g.gS,fun y hy=>by
  obtain⟨z,hz,e⟩:=g.acc y hy;rw[e];rcases hz with hz|hz
  ·exact ha.acc z hz
  exact hb.acc z hz,g.af,by rw[g.sum,ha.sum,hb.sum],Nat.le_refl _⟩,g.zd⟩
theorem MS{a:Acc}:∀ {l:List aO},(l.Pairwise fun a b=>cg a.acc b.acc=true)->EL l a=bU l a.kind a.ch
 |[],_=>rfl
 |x::l,h=>by
  rw[List.pairwise_cons]at h;have ih:=MS (a:=a) h.2;rw[fm];unfold EL iS;split
  ·rename_i q;have:bU l a.kind a.ch=0:=by
    unfold bU;refine vM fun y hy=>?_;unfold iS;rw[if_neg];rintro⟨r1,r2⟩;exact GZ (h.1 y hy) ⟨by omega,by omega⟩
   omega
  rw[ih];omega
structure ra(x:aw)(l:cH):Prop where
 book:eG x=true
 lF:iG l.lines 0 320
 last:l.last=x.next-1
 za:bU l.lines 1 0=x.aA
 loc:∀ch,1<=ch/\ch<=99->bU l.lines 6 ch=hP x.ag ch
 out:∀ch,1<=ch/\ch<=99->bU l.lines 8 ch=fB x ch
 gh:∀ch,1<=ch/\ch<=99->bU l.lines 7 ch=0
theorem MT(x:aw)(ch:Int):HT x ch=hP x.ag ch:=by
 unfold HT hP;rcases jt x.ag ch with⟨q,r⟩|⟨i,c,q,r,s,_⟩
 ·rw[if_neg (by omega),r];rfl
 rw[if_pos (by omega),q,Int.toNat_natCast,r,s]
theorem MU{x:aw}{ch:Int}(b:hD x):HU x ch=fB x ch:=by
 unfold HU;split
 ·rfl
 rename_i q;exact(b.none fun t=>q (MV.2 t)).1.symm
theorem ra.ia{x:aw}{l:cH}(h:ra x l):eQ l=true:=by
 have hn:=(mX h.book).next;have:=h.last;unfold eQ;rw[h.lF.ok,cJ.2 (by omega),decide_eq_true h.lF.len];rfl
theorem xB{l:cH}{k c:Int}(h:eQ l=true)(hl:l.lines.Pairwise fun a b=>cg a.acc b.acc=true)(ha:nd ⟨k,c⟩=true):balance l ⟨k,c⟩=bU l.lines k c:=by
 unfold balance;rw[h,ha];exact MS hl
theorem AM{k c:Int}(hk:6<=k/\k<=8)(hc:1<=c/\c<=99):nd ⟨k,c⟩=true:=ve.2 (.inr ⟨hk.1,hk.2,hc.1,hc.2⟩)
theorem MW:nd ⟨1,0⟩=true:=ve.2 (.inl ⟨by decide,by decide,rfl⟩)
theorem ra.yes{x:aw}{l:cH}(h:ra x l):EN x l=true:=by
 have b:=mX h.book;have hl:=h.ia;have hp:=h.lF.gS;unfold EN;rw[h.book,hl,xB hl hp MW,h.za,h.last];simp only[beq_self_eq_true,Bool.true_and,List.all_eq_true,List.mem_range];intro j hj;have hc:1<=(j:Int)+1/\(j:Int)+1<=99:=by omega
 unfold EM;rw[xB hl hp (AM (by decide) hc),xB hl hp (AM (by decide) hc),xB hl hp (AM (by decide) hc),MT,MU b,h.loc _ hc,h.out _ hc,h.gh _ hc];simp
theorem abr{x:aw}{l:cH}(h:EN x l=true):ra x l:=by
 unfold EN at h;simp only[Bool.and_eq_true,List.all_eq_true,List.mem_range,beq_iff_eq]at h;obtain⟨⟨⟨⟨V,h2⟩,h3⟩,h4⟩,h5⟩:=h;have b:=mX V;have Cr:=h2;unfold eQ at Cr;simp only[Bool.and_eq_true,decide_eq_true_eq]at Cr;have ln:=wV Cr.2;have hp:=ln.gS;have zd:∀ch,1<=ch/\ch<=99->EM x l ch=true:=fun ch hc=>by
  have:=h5 (ch-1).toNat (by omega);rwa [show (((ch-1).toNat:Nat):Int)+1=ch by omega]at this
 have ge:∀ch,1<=ch/\ch<=99->bU l.lines 6 ch=hP x.ag ch/\bU l.lines 8 ch=fB x ch/\bU l.lines 7 ch=0:=fun ch hc=>by
  have:=zd ch hc;unfold EM at this;rw[xB h2 hp (AM (by decide) hc),xB h2 hp (AM (by decide) hc),xB h2 hp (AM (by decide) hc),MT,MU b]at this;simp only[Bool.and_eq_true,beq_iff_eq]at this;exact⟨this.1.1,this.1.2,this.2⟩
 rw[xB h2 hp MW]at h4;exact⟨V,⟨ln.gS,ln.acc,ln.af,ln.sum,Cr.1.2⟩,h3,h4,fun ch hc=>(ge ch hc).1,fun ch hc=>(ge ch hc).2.1,fun ch hc=>(ge ch hc).2.2⟩
theorem UH{x:aw}{e:aV}{l:cH}(h:ra x l)(hc:dG x e=0)(hp:(bz x e).l≠[]){m:List aO}(hm:fM l.lines (dl x e).lines=some m)(hl:m.length<=320):ra (dp x e) ⟨(dl x e).id,m⟩:=by
 have g:=MP hc;obtain⟨e1,e2⟩:=rU hc hp;rw[e2]at hm;obtain⟨k1,k2⟩:=Ee h.lF (Ab hc) hm;refine⟨Gy hc,⟨k1.gS,k1.acc,k1.af,k1.sum,hl⟩,?_,?_,fun ch hh=>?_,fun ch hh=>?_,fun ch hh=>?_⟩
 ·rw[e1,e2];show x.next=(bz x e).b.next+1-1;rw[xA];omega
 ·rw[e1];show bU m 1 0=(bz x e).b.aA;rw[k2,h.za,g.za]
 ·rw[e1];show bU m 6 ch=hP (bz x e).b.ag ch;rw[k2,h.loc ch hh,g.loc ch]
 ·rw[e1];show bU m 8 ch=fB (bz x e).b ch;rw[k2,h.out ch hh,g.out ch]
 show bU m 7 ch=0;rw[k2,h.gh ch hh,g.gh ch];rfl
def iv(l:cH)(p:dX):Int:=if (eQ l&&iL p.id p.lines)=true then (if p.id<=l.last then 2 else match fM l.lines p.lines with|none=>3|some m=>if 320<m.length then 3 else 0)else 1
def iD(l:cH)(p:dX):cH:=if iv l p=0 then ⟨p.id,(fM l.lines p.lines).getD []⟩else ⟨0,[]⟩
theorem HV{l:cH}{p:dX}(h:iv l p=0):eQ l=true/\iL p.id p.lines=true/\l.last<p.id/\∃m,fM l.lines p.lines=some m/\m.length<=320:=by
 unfold iv at h;split at h
 ·rename_i q;rw[Bool.and_eq_true]at q;split at h
  ·cases h
  rename_i r;split at h
  ·cases h
  rename_i m hm;split at h
  ·cases h
  exact⟨q.1,q.2,by omega,m,hm,by omega⟩
 cases h
theorem G2{l:cH}{p:dX}(h:iv l p=0){m:List aO}(hm:fM l.lines p.lines=some m):iD l p=⟨p.id,m⟩:=by unfold iD;rw[if_pos h,hm];rfl
theorem SP{l:cH}{p:dX}(h:iv l p≠0):iD l p=⟨0,[]⟩:=if_neg h
theorem S0{x:aw}{e:aV}{l:cH}(h:ra x l)(hc:dG x e=0)(hp:(dl x e).lines≠[])(hq:iv l (dl x e)=0):ra (dp x e) (iD l (dl x e)):=by
 obtain⟨_,_,_,m,hm,hl⟩:=HV hq;rw[G2 hq hm];refine UH h hc (fun r=>hp ?_) hm hl;rw[(ub hc r).2]
theorem va{l:cH}(h:eQ l=true):l.lines.length<=320/\(∀z∈l.lines,dL z.af=true)/\0<=l.last/\l.last<=1125899906842624:=by
 unfold eQ at h;simp only[Bool.and_eq_true,decide_eq_true_eq]at h;have:=cJ.1 h.1.1;exact⟨h.1.2,fun z hz=>cJ.2 ((wV h.2).af z hz).2,this.1,this.2⟩
theorem DU{n:Int}{l:List aO}(h:iL n l=true):l.length<=8/\(∀z∈l,dL z.af=true)/\1<=n/\n<=1125899906842624:=by
 unfold iL at h;simp only[Bool.and_eq_true]at h;have V:=cJ.1 h.1.1;have h2:=cJ.1 h.1.2;exact⟨by omega,fun z hz=>cJ.2 ((wV h.2).af z hz).2,V.1,V.2⟩
theorem Gp{l:cH}{p:dX}(h:(eQ l&&iL p.id p.lines)=false):iv l p=1:=by unfold iv;rw[if_neg (by simp[h])]
theorem Le{l:cH}{p:dX}(h:eQ l=true)(h2:iL p.id p.lines=true)(h3:p.id<=l.last):iv l p=2:=by unfold iv;rw[h,h2,if_pos (by rfl),if_pos h3]
theorem Lf{l:cH}{p:dX}(h:eQ l=true)(h2:iL p.id p.lines=true)(h3:¬p.id<=l.last)(h4:fM l.lines p.lines=none):iv l p=3:=by unfold iv;rw[h,h2,if_pos (by rfl),if_neg h3,h4]
theorem Lg{l:cH}{p:dX}(h:eQ l=true)(h2:iL p.id p.lines=true)(h3:¬p.id<=l.last){m:List aO}(h4:fM l.lines p.lines=some m)(h5:320<m.length):iv l p=3:=by unfold iv;rw[h,h2,if_pos (by rfl),if_neg h3,h4];exact if_pos h5
theorem Gr{l:cH}{p:dX}(h:eQ l=true)(h2:iL p.id p.lines=true)(h3:¬p.id<=l.last){m:List aO}(h4:fM l.lines p.lines=some m)(h5:m.length<=320):iv l p=0:=by unfold iv;rw[h,h2,if_pos (by rfl),if_neg h3,h4];exact if_neg (by omega)
def B2(s:cH×Int)(p:dX):cH×Int:=if iv s.1 p=0 then (iD s.1 p,s.2+1)else s
def jJ(l:cH)(ps:List dX):cH×Int:=ps.foldl B2 (l,0)
theorem Gs{l:cH}{ps:List dX}{k:Nat}(h:k<ps.length):jJ l (ps.take (k+1))=B2 (jJ l (ps.take k)) ps[k]:=by
 unfold jJ;rw[List.take_succ_eq_append_getElem h,List.foldl_append];rfl
theorem UI(l:cH)(p:dX):(iD l p).lines.length<=320:=by
 unfold iD;split
 ·rename_i h;obtain⟨_,_,_,m,hm,hl⟩:=HV h;rw[hm];exact hl
 simp
theorem FS{l:cH}{ps:List dX}(hl:l.lines.length<=320):∀k,k<=ps.length->(jJ l (ps.take k)).1.lines.length<=320/\0<=(jJ l (ps.take k)).2/\(jJ l (ps.take k)).2<=k
 |0,_=>by rw[List.take_zero];exact⟨hl,Int.le_refl _,Int.le_refl _⟩
 |k+1,h=>by
  rw[Gs (by omega)];obtain⟨V,h2,h3⟩:=FS (ps:=ps) hl k (by omega);unfold B2;split
  ·exact⟨UI _ _,by dsimp only;omega,by dsimp only;omega⟩
  exact⟨V,h2,by omega⟩

theorem ov{k c:Int}{a:Acc}:∀ {l:List aO},(∀y∈l,cg a y.acc=true)->a.kind=k->a.ch=c->bU l k c=0
 |[],_,_,_=>rfl
 |x::l,h,V,h2=>by
  rw[fm,ov (fun y hy=>h y (by simp[hy])) V h2];have:=GZ (h x (by simp));unfold iS;rw[if_neg (fun z=>this ⟨by omega,by omega⟩)];rfl
theorem Lo:∀ {a b:List aO},rk a->rk b->(∀k c,bU a k c=bU b k c)->a=b
 |[],[],_,_,_=>rfl
 |x::a,[],ha,_,h=>by
  have V:=h x.acc.kind x.acc.ch;rw[fm,ov (List.pairwise_cons.1 ha.1).1 rfl rfl,dU]at V;unfold iS at V;rw[if_pos ⟨rfl,rfl⟩]at V;exact absurd (by omega) (ha.2 x (by simp)).1
 |[],y::b,_,hb,h=>by
  have V:=h y.acc.kind y.acc.ch;rw[fm,ov (List.pairwise_cons.1 hb.1).1 rfl rfl,dU]at V;unfold iS at V;rw[if_pos ⟨rfl,rfl⟩]at V;exact absurd (by omega) (hb.2 y (by simp)).1
 |x::a,y::b,ha,hb,h=>by
  have pa:=List.pairwise_cons.1 ha.1;have pb:=List.pairwise_cons.1 hb.1;by_cases q1:cg x.acc y.acc=true
  ·have V:=h x.acc.kind x.acc.ch;rw[fm,ov pa.1 rfl rfl,ov (a:=x.acc) (l:=y::b) (fun z hz=>by
    rcases List.mem_cons.1 hz with rfl|hz
    ·exact q1
    exact vr q1 (pb.1 z hz)) rfl rfl]at V
   unfold iS at V;rw[if_pos ⟨rfl,rfl⟩]at V;exact absurd (by omega) (ha.2 x (by simp)).1
  by_cases q2:cg y.acc x.acc=true
  ·have V:=h y.acc.kind y.acc.ch;rw[fm (x:=y),ov pb.1 rfl rfl,ov (a:=y.acc) (l:=x::a) (fun z hz=>by
    rcases List.mem_cons.1 hz with rfl|hz
    ·exact q2
    exact vr q2 (pa.1 z hz)) rfl rfl]at V
   unfold iS at V;rw[if_pos ⟨rfl,rfl⟩]at V;exact absurd (by omega) (hb.2 y (by simp)).1
  have e:=Ea (Ah (by simpa using q1) (by simpa using q2));have V:=h x.acc.kind x.acc.ch;rw[fm,ov pa.1 rfl rfl,fm,ov pb.1 (by rw[e]) (by rw[e])]at V;unfold iS at V;rw[if_pos ⟨rfl,rfl⟩,if_pos ⟨by rw[e],by rw[e]⟩]at V;have G0:x=y:=by
   cases x;cases y;simp at e V;simp[e,V]
  subst G0;rw[Lo ha.tail hb.tail fun k c=>by
   have:=h k c;rw[fm,fm]at this;omega]
theorem SZ{l:cH}{p:dX}(h:iv l p=0):iG (iD l p).lines 0 320/\(∀k c,bU (iD l p).lines k c=bU l.lines k c+bU p.lines k c)/\(iD l p).last=p.id:=by
 obtain⟨V,h2,_,m,hm,hl⟩:=HV h;rw[G2 h hm];unfold eQ at V;unfold iL at h2;simp only[Bool.and_eq_true]at V h2;obtain⟨k1,k2⟩:=Ee (wV V.2) (wV h2.2) hm;exact⟨⟨k1.gS,k1.acc,k1.af,k1.sum,hl⟩,k2,rfl⟩
def qZ(l:List aO):Int:=bG (fun j:Nat=>bU l 6 (j+1)+bU l 7 (j+1)+bU l 8 (j+1)) (List.range 99)
theorem Gt{α:Type}{f g:α->Int}:∀(l:List α),bG (fun x=>f x+g x) l=bG f l+bG g l
 |[]=>rfl
 |x::l=>by rw[jT,jT,jT,Gt l];omega
theorem DW{α:Type}{f g:α->Int}:∀ {l:List α},(∀x∈l,f x=g x)->bG f l=bG g l
 |[],_=>rfl
 |x::l,h=>by rw[jT,jT,h x (by simp),DW fun y hy=>h y (by simp[hy])]
theorem MX(n:Int)(c:Int):∀(m:Nat),1<=c->c<=m->bG (fun j:Nat=>if c=(j:Int)+1 then n else 0) (List.range m)=n
 |0,V,h2=>by omega
 |m+1,V,h2=>by
  rw[List.range_succ];have e:bG (fun j:Nat=>if c=(j:Int)+1 then n else 0) (List.range m++[m])=bG (fun j:Nat=>if c=(j:Int)+1 then n else 0) (List.range m)+(if c=(m:Int)+1 then n else 0):=zc _ _ _;rw[e];by_cases q:c=(m:Int)+1
  ·rw[if_pos q,vM fun j hj=>?_,Int.zero_add];have:=List.mem_range.1 hj;rw[if_neg (by omega)]
  rw[if_neg q,MX n c m V (by omega),Int.add_zero]
def wT(x:aO):Int:=if x.acc.kind=1\/6<=x.acc.kind then x.af else 0
def kQ(l:List aO):Int:=bG wT l
theorem UJ:qZ []=0:=vM fun j _=>rfl
theorem UK(x:aO)(l:List aO)(hv:om x.acc):qZ (x::l)=qZ l+(if 6<=x.acc.kind then x.af else 0):=by
 have e:qZ (x::l)=bG (fun j:Nat=>(bU l 6 (j+1)+bU l 7 (j+1)+bU l 8 (j+1))+(if 6<=x.acc.kind/\x.acc.ch=(j:Int)+1 then x.af else 0)) (List.range 99):=DW fun j hj=>by
  rw[fm,fm,fm];unfold iS;rcases hv with⟨v1,v2,v3⟩|⟨v1,v2,v3,v4⟩
  ·rw[if_neg (by omega),if_neg (by omega),if_neg (by omega),if_neg (by omega)];omega
  by_cases r:x.acc.ch=(j:Int)+1
  ·rcases(by omega:x.acc.kind=6\/x.acc.kind=7\/x.acc.kind=8)with q|q|q
   ·rw[if_pos ⟨q,r⟩,if_neg (by omega),if_neg (by omega),if_pos ⟨by omega,r⟩];omega
   ·rw[if_neg (by omega),if_pos ⟨q,r⟩,if_neg (by omega),if_pos ⟨by omega,r⟩];omega
   rw[if_neg (by omega),if_neg (by omega),if_pos ⟨q,r⟩,if_pos ⟨by omega,r⟩];omega
  rw[if_neg (fun z=>r z.2),if_neg (fun z=>r z.2),if_neg (fun z=>r z.2),if_neg (fun z=>r z.2)];omega
 rw[e,Gt];show qZ l+_=_;by_cases q:6<=x.acc.kind
 ·rw[if_pos q];rcases hv with⟨v1,v2,v3⟩|⟨v1,v2,v3,v4⟩
  ·omega
  rw[DW (g:=fun j:Nat=>if x.acc.ch=(j:Int)+1 then x.af else 0) fun j _=>by simp[q],MX x.af x.acc.ch 99 v3 (by omega)]
 rw[if_neg q,vM fun j _=>if_neg fun z=>q z.1]
theorem DX{l:List aO}(hv:∀y∈l,om y.acc):bG o6 l=bU l 1 0+bU l 2 0+bU l 3 0+bU l 4 0+bU l 5 0+qZ l/\kQ l=bU l 1 0+qZ l:=by
 induction l with
 |nil=>rw[UJ];exact⟨rfl,rfl⟩
 |cons x l ih=>
  obtain⟨i1,i2⟩:=ih (fun y hy=>hv y (by simp[hy]));have v:=hv x (by simp);have e1:bG o6 (x::l)=x.af+bG o6 l:=jT _ _ _;have e2:kQ (x::l)=wT x+kQ l:=jT _ _ _;rw[e1,e2,i1,i2,UK x l v];simp only[fm];unfold iS wT;rcases v with⟨v1,v2,v3⟩|⟨v1,v2,v3,v4⟩
  ·rw[v3,if_neg (by omega:¬6<=x.acc.kind)];rcases(by omega:x.acc.kind=1\/x.acc.kind=2\/x.acc.kind=3\/x.acc.kind=4\/x.acc.kind=5)with q|q|q|q|q<;>rw[q]<;>simp<;>omega
  have q0:x.acc.ch≠0:=by omega
  rw[if_pos v1];simp[q0,v1];omega
theorem UL{l:List aO}(h:l.Pairwise fun a b=>cg a.acc b.acc=true)(hv:∀y∈l,om y.acc):l.length<=302:=by
 have key:∀(l:List aO) (b:Int),(l.Pairwise fun a b=>cg a.acc b.acc=true)->(∀y∈l,om y.acc)->(∀y∈l,b<=(if y.acc.kind<=5 then y.acc.kind-1 else 5+(y.acc.kind-6)*99+(y.acc.ch-1)))->b<=302->(l.length:Int)<=302-b:=by
  intro l;induction l with
  |nil=>intro b _ _ _ hb;simp;omega
  |cons x l ih=>
   intro b hp hv hb _;rw[List.pairwise_cons]at hp;have hx:=hb x (by simp);have vx:=hv x (by simp);have:=ih (b+1) hp.2 (fun y hy=>hv y (by simp[hy])) (fun y hy=>by
    have vy:=hv y (by simp[hy]);have hl:=hp.1 y hy;unfold cg at hl;simp only[Bool.or_eq_true,Bool.and_eq_true,decide_eq_true_eq,beq_iff_eq]at hl;unfold om at vx vy;split at hx<;>split<;>omega) (by unfold om at vx;split at hx<;>omega)
   simp;omega
 have:=key l 0 h hv (fun y hy=>by
  have vy:=hv y hy;unfold om at vy;split<;>omega) (by omega)
 omega
theorem EO:∀(n:Nat) (a b:List aO),a.length+b.length<=n->rk a->rk b->(∀k c,dL (bU a k c+bU b k c)=true)->∃m,fM a b=some m
 |n,[],b,_,_,_,_=>⟨b,yo b⟩
 |n,x::a,[],_,_,_,_=>⟨_,z6 _⟩
 |0,x::a,y::b,hn,_,_,_=>by simp at hn
 |n+1,x::a,y::b,hn,ha,hb,h=>by
  simp only[List.length_cons]at hn;have pa:=List.pairwise_cons.1 ha.1;have pb:=List.pairwise_cons.1 hb.1;have r0:dL 0=true:=cJ.2 (by omega);have cut:∀ {z:aO} {a' b':List aO},(∀k c,z.acc.kind=k->z.acc.ch=c->bU a' k c=0/\bU b' k c=0)->(∀k c,¬(z.acc.kind=k/\z.acc.ch=c)->bU a' k c+bU b' k c=bU (x::a) k c+bU (y::b) k c)->∀k c,dL (bU a' k c+bU b' k c)=true:=fun V h2 k c=>by
   rename_i z a' b';by_cases q:z.acc.kind=k/\z.acc.ch=c
   ·obtain⟨e1,e2⟩:=V k c q.1 q.2;rw[e1,e2];exact r0
   rw[h2 k c q];exact h k c
  by_cases q1:cg x.acc y.acc=true
  ·obtain⟨m,hm⟩:=EO n a (y::b) (by simp;omega) ha.tail hb (cut (z:=x) (fun k c e1 e2=>⟨ov pa.1 e1 e2,ov (a:=x.acc) (fun w hw=>by
    rcases List.mem_cons.1 hw with rfl|hw
    ·exact q1
    exact vr q1 (pb.1 w hw)) e1 e2⟩) (fun k c q=>by rw[fm x];unfold iS;rw[if_neg q];omega))
   exact⟨_,by rw[BI q1,hm];rfl⟩
  have q1:cg x.acc y.acc=false:=by simpa using q1
  by_cases q2:cg y.acc x.acc=true
  ·obtain⟨m,hm⟩:=EO n (x::a) b (by simp;omega) ha hb.tail (cut (z:=y) (fun k c e1 e2=>⟨ov (a:=y.acc) (fun w hw=>by
    rcases List.mem_cons.1 hw with rfl|hw
    ·exact q2
    exact vr q2 (pa.1 w hw)) e1 e2,ov pb.1 e1 e2⟩) (fun k c q=>by rw[fm y];unfold iS;rw[if_neg q];omega))
   exact⟨_,by rw[BJ q1 q2,hm];rfl⟩
  have q2:cg y.acc x.acc=false:=by simpa using q2
  have e:=Ea (Ah q1 q2);have hr:dL (x.af+y.af)=true:=by
   have:=h x.acc.kind x.acc.ch;rw[fm,ov pa.1 rfl rfl,fm,ov pb.1 (by rw[e]) (by rw[e])]at this;unfold iS at this;rw[if_pos ⟨rfl,rfl⟩,if_pos ⟨by rw[e],by rw[e]⟩,Int.add_zero,Int.add_zero]at this;exact this
  obtain⟨m,hm⟩:=EO n a b (by omega) ha.tail hb.tail (cut (z:=x) (fun k c e1 e2=>⟨ov pa.1 e1 e2,ov pb.1 (by rw[<-e];exact e1) (by rw[<-e];exact e2)⟩) (fun k c q=>by
   rw[fm x,fm y];unfold iS;rw[if_neg q,if_neg (fun z=>q ⟨by rw[e];exact z.1,by rw[e];exact z.2⟩)];omega))
  by_cases q4:x.af+y.af=0
  ·exact⟨m,by rw[Eb q1 q2 hr q4,hm]⟩
  exact⟨_,by rw[Ec q1 q2 hr q4,hm];rfl⟩
theorem MY{l:List aO}(hv:∀y∈l,om y.acc){k c:Int}(h:¬om ⟨k,c⟩):bU l k c=0:=vM fun y hy=>by
 unfold iS;rw[if_neg];rintro⟨e1,e2⟩;apply h;rw[<-e1,<-e2];exact hv y hy
theorem UM{x:aw}{e:aV}(h:dG x e=0)(hp:(dl x e).id≠0):iL (dl x e).id (dl x e).lines=true:=by
 obtain⟨q1,q2,q3,q4⟩:=UC h hp;have hn:=(mX (rS h).1).next;unfold iL;rw[q3.ok,q1,cJ.2 hn,cJ.2 ⟨by omega,by have:=q3.len;omega⟩];rfl
theorem UN{x:aw}{e:aV}{l:cH}(h:ra x l)(hc:dG x e=0)(hp:(dl x e).lines≠[])(hq:∀k,2<=k->k<=5->dL (bU l.lines k 0+bU (bz x e).l k 0)=true):iv l (dl x e)=0:=by
 have HD:(bz x e).l≠[]:=fun r=>hp (by rw[(ub hc r).2]);obtain⟨e1,e2⟩:=rU hc HD;have g:=MP hc;have ln:=Ab hc;have ze:=mX (Gy hc);have hid:(dl x e).id≠0:=by
  rw[e2];have:=(mX h.book).next;show x.next≠0;omega
 have hl:(dl x e).lines=(bz x e).l:=by rw[e2]
 have hw:(dp x e).aA=(bz x e).b.aA:=by rw[e1]
 have y':(dp x e).ag=(bz x e).b.ag:=by rw[e1]
 have ho:∀ch,fB (dp x e) ch=fB (bz x e).b ch:=fun ch=>by rw[e1];rfl
 obtain⟨m,hm⟩:=EO _ l.lines (bz x e).l (Nat.le_refl _) h.lF.lF ln.lF (fun k c=>by
  by_cases v:om ⟨k,c⟩
  ·rcases v with⟨v1,v2,v3⟩|⟨v1,v2,v3,v4⟩
   ·have v3:c=0:=v3;subst v3;by_cases k1:k=1
    ·subst k1;have:=ze.aA;rw[hw,g.za]at this;rw[h.za];unfold eY at this;exact cJ.2 (by omega)
    exact hq k (by simp at v1;omega) v2
   have v3:1<=c:=v3;have v4:c<=99:=v4;rcases(by simp at v1 v2;omega:k=6\/k=7\/k=8)with q|q|q
   ·subst q;rw[h.loc c ⟨v3,v4⟩,<-g.loc c,<-y'];unfold hP;rcases jt (dp x e).ag c with⟨_,r⟩|⟨i,d,_,r2,r3,_⟩
    ·rw[r];exact cJ.2 (by show -1125899906842624<=(0:Int)/\(0:Int)<=_;omega)
    rw[r3];have:=(ze.ch d (dB r2)).loc;unfold eY at this;exact cJ.2 (by omega)
   ·subst q;rw[h.gh c ⟨v3,v4⟩,g.gh c];exact cJ.2 (by omega)
   subst q;rw[h.out c ⟨v3,v4⟩,<-g.out c,<-ho];by_cases t:ed (dp x e).ag c
   ·obtain⟨d,hd,rfl⟩:=t;have k1:=ze.sum d hd;have k2:=ze.ch d hd;have k3:=ut ze.hs ze.cs d.id;have k4:=k2.loc;have k5:=k2.aC;have k6:=k2.size;unfold fB jh at *;unfold eY at *;exact cJ.2 (by omega)
   rw[(ze.none t).1];exact cJ.2 (by omega)
  rw[MY h.lF.acc v,MY ln.acc v];exact cJ.2 (by omega))
 obtain⟨k1,_⟩:=Ee h.lF ln hm;rw[<-hl]at hm;refine Gr h.ia (UM hc hid) ?_ hm (by have:=UL k1.gS k1.acc;omega);rw[e2,h.last];show ¬x.next<=x.next-1;omega

structure MZ(x:aw)(e:aV):Prop where
 eq:bU (bz x e).l 2 0=if e.kind=1 then -e.af else 0
 inc:-2000001<=bU (bz x e).l 3 0/\bU (bz x e).l 3 0<=0
 yx:0<=bU (bz x e).l 4 0
 wO:bU (bz x e).l 5 0=0
structure Wl(K:Int)(x:aw)(l:cH)(n:Nat):Prop where
 oV:ra x l
 eq:-(200000+n*1000000)<=bU l.lines 2 0/\bU l.lines 2 0<=0
 inc:-(n*2000001)<=bU l.lines 3 0/\bU l.lines 3 0<=0
 yx:0<=bU l.lines 4 0
 wO:bU l.lines 5 0=0
 base:∀c∈x.ag,c.base<=1000000
 vd:∀h∈x.an,h.cW<=h.c9+2000001
 next:x.next<=10+n
 keys:∀k∈dN x,k<=K
theorem UO{b p a:Int}(hb:0<=b/\b<=1000000)(hp:0<=p/\p<=1000000)(ha:0<=a/\a<=1000000):0<=kG b p a/\kG b p a<=2000001:=by
 unfold kG;split
 ·unfold eM;split
  ·unfold zf;have V:0<=a*p:=Int.mul_nonneg ha.1 hp.1;have h2:a*p<=1000000*1000000:=Int.mul_le_mul ha.2 hp.2 hp.1 (by omega);split<;>omega
  omega
 omega
theorem outer{x:aw}{e:aV}(h:dG x e=0)(hk:e.kind≠3)(hh:∀h∈x.an,h.cW<=h.c9+2000001):MZ x e:=by
 obtain⟨V,h2,h3⟩:=rS h;have b:=mX V;have zero:∀ {l:List aO},l=[]->e.kind≠1->(bz x e).l=l->MZ x e:=fun e1 e2 e3=>by
  subst e1;exact⟨by rw[e3,if_neg e2];rfl,by rw[e3,dU];omega,by rw[e3,dU];omega,by rw[e3];rfl⟩
 by_cases k1:e.kind=1
 ·have hw:(bz x e).l=bR (bR [] 1 0 e.af) 2 0 (-e.af):=by rw[<-yY k1];rfl
  refine⟨?_,?_,?_,?_⟩<;>rw[hw]<;>simp only[fO,dU]<;>simp[k1]
 by_cases k2:e.kind=2
 ·by_cases q:gO x e=0
  ·have hw:(bz x e).l=bR (bR [] 6 e.ch e.af) 1 0 (-e.af):=by rw[<-xy k2,tK q]
   refine⟨?_,?_,?_,?_⟩<;>rw[hw]<;>simp only[fO,dU]<;>simp[k1]
  exact zero rfl k1 (by rw[<-xy k2,sK q])
 by_cases k4:e.kind=4
 ·exact zero rfl k1 (by rw[<-vK k4];unfold ou;split<;>rfl)
 by_cases k5:e.kind=5
 ·by_cases q:gg x e=0
  ·have hw:(bz x e).l=bR (bR [] 6 e.to (-e.af)) 8 e.to e.af:=by rw[<-xz k5,sR q];rfl
   refine⟨?_,?_,?_,?_⟩<;>rw[hw]<;>simp only[fO,dU]<;>simp[k1]
  exact zero rfl k1 (by rw[<-xz k5,jm q])
 by_cases k6:e.kind=6\/e.kind=7
 ·cases hy:x.an.find? (fun c=>c.key==e.key)with
  |none=>exact zero rfl k1 (by rw[<-uv k6,M0 hy])
  |some y=>
   have hm:=List.mem_of_find?_eq_some hy;have q:=b.hs y hm;have q2:=q.out;have q3:=hh y hm;have hw:bz x e=pN x (decide (e.kind=6)) y:=by rw[<-uv k6,HW hy]
   by_cases g:e.kind=6
   ·have zg:(bz x e).l=bR (bR (bR [] 3 0 (y.c9-y.cW)) 6 y.gh y.cW) 8 y.out (-y.c9):=by rw[hw,decide_eq_true g];rfl
    refine⟨?_,?_,?_,?_⟩<;>rw[zg]<;>simp only[fO,dU]<;>simp[k1]<;>omega
   have zg:(bz x e).l=bR (bR [] 6 y.out y.c9) 8 y.out (-y.c9):=by rw[hw,decide_eq_false g];rfl
   refine⟨?_,?_,?_,?_⟩<;>rw[zg]<;>simp only[fO,dU]<;>simp[k1]
 by_cases k8:e.kind=8
 ·exact zero rfl k1 (by rw[<-y7 k8];rfl)
 by_cases k9:e.kind=9
 ·by_cases q:fL x e=0
  ·have hw:(bz x e).l=bR (bR [] 6 e.ch (-eM e.af e.ay)) 8 e.ch (eM e.af e.ay):=by rw[<-t8 k9,uZ q];rfl
   refine⟨?_,?_,?_,?_⟩<;>rw[hw]<;>simp only[fO,dU]<;>simp[k1]
  exact zero rfl k1 (by rw[<-t8 k9,od q])
 have:=y8 h2;cases hy:x.aq.find? (fun c=>c.key==e.key)with
 |none=>exact zero rfl k1 (by rw[<-ua (by omega),M1 hy])
 |some y=>
  have hm:=List.mem_of_find?_eq_some hy;have q:=(b.cs y hm).ay;unfold eY at q;have hw:bz x e=mN x (decide (e.kind=10)) y:=by rw[<-ua (by omega),DZ hy]
  by_cases g:e.kind=10
  ·have zg:(bz x e).l=bR (bR (bR [] 4 0 y.ay) 6 y.to y.af) 8 y.fI (-y.af-y.ay):=by rw[hw,decide_eq_true g];rfl
   refine⟨?_,?_,?_,?_⟩<;>rw[zg]<;>simp only[fO,dU]<;>simp[k1];omega
  have zg:(bz x e).l=bR (bR [] 6 y.fI (y.af+y.ay)) 8 y.fI (-y.af-y.ay):=by rw[hw,decide_eq_false g];rfl
  refine⟨?_,?_,?_,?_⟩<;>rw[zg]<;>simp only[fO,dU]<;>simp[k1]
theorem HX{l:List be}{a:Int}{f:be->be}(hf:∀c,c.base<=1000000->(f c).base<=1000000)(h:∀c∈l,c.base<=1000000):∀c∈cC l a f,c.base<=1000000:=fun c hc=>by
 obtain⟨d,hd,rfl⟩:=Cs hc;split
 ·exact hf d (h d hd)
 exact h d hd
theorem AN{l:List be}{a b:Int}{f g:be->be}(hf:∀c,(f c).base=c.base)(hg:∀c,(g c).base=c.base)(h:∀c∈l,c.base<=1000000):∀c∈cC (cC l a f) b g,c.base<=1000000:=HX (fun c q=>by rw[hg];exact q) (HX (fun c q=>by rw[hf];exact q) h)
theorem UP{K:Int}{x:aw}{e:aV}(h:dG x e=0)(ha:e.af<=1000000)(AP:e.key<=K)(hb:∀c∈x.ag,c.base<=1000000)(hh:∀h∈x.an,h.cW<=h.c9+2000001)(jF:∀k∈dN x,k<=K) :
 (∀c∈(bz x e).b.ag,c.base<=1000000)/\(∀h∈(bz x e).b.an,h.cW<=h.c9+2000001)/\∀k∈dN (bz x e).b,k<=K:=by
 obtain⟨V,h2,h3⟩:=rS h
 have b:=mX V
 have mS:(eG x&&co e)=true:=by rw[V,h2];rfl
 have hw:(bz x e).c=0:=by rw[<-yA mS h3];exact h
 have am:=uu h2
 rw[cY,cY]at am
 by_cases k1:e.kind=1
 ·rw[<-yY k1];exact⟨hb,hh,jF⟩
 by_cases k2:e.kind=2
 ·rw[<-xy k2]at hw ⊢
  by_cases q:gO x e=0
  ·rw[tK q]
   refine⟨fun c hc=>?_,hh,jF⟩
   rcases EP hc with r|rfl
   ·exact hb c r
   show (0:Int)<=1000000;omega
  rw[sK q]at hw;exact absurd hw q
 by_cases k3:e.kind=3
 ·rw[<-yZ k3]at hw ⊢
  by_cases q:ir x e=0
  ·rw[yf q]
   exact⟨fun c hc=>hb c (List.mem_filter.1 hc).1,hh,jF⟩
  rw[tM q]at hw;exact absurd hw q
 by_cases k4:e.kind=4
 ·rw[<-vK k4]
  unfold ou
  split
  ·exact⟨hb,hh,jF⟩
  exact⟨HX (fun c _=>ha) hb,hh,jF⟩
 by_cases k5:e.kind=5
 ·rw[<-xz k5]at hw ⊢
  by_cases q:gg x e=0
  ·rw[sR q]
   have UQ:cn x e<=e.af+2000001:=by
    have hc:(fz x.ag e.to).base<=1000000/\0<=(fz x.ag e.to).base/\0<=(fz x.ag e.to).br/\(fz x.ag e.to).br<=1000000:=by
     rcases jt x.ag e.to with⟨_,r⟩|⟨i,c,_,r2,r3,_⟩
     ·rw[r];exact⟨by decide,by decide,by decide,by decide⟩
     rw[r3];have k:=b.ch c (dB r2);have k2:=k.base;unfold eY at k2;exact⟨hb c (dB r2),k2.1,k.br.1,k.br.2⟩
    have hf:=UO (b:=(fz x.ag e.to).base) (p:=(fz x.ag e.to).br) (a:=e.af) ⟨hc.2.1,hc.1⟩ hc.2.2 ⟨am.1.1,ha⟩;unfold cn eM;split<;>omega
   refine⟨AN (fun _=>rfl) (fun _=>rfl) hb,fun y hy=>?_,fun k hk=>?_⟩
   ·rcases List.mem_append.1 hy with r|r
    ·exact hh y r
    rw[List.mem_singleton.1 r];exact UQ
   unfold dN mI at hk
   dsimp only at hk
   rw[List.map_append,List.append_assoc]at hk
   rcases List.mem_append.1 hk with r|r
   ·exact jF k (List.mem_append_left _ r)
   rcases List.mem_append.1 r with r|r
   ·simp at r;omega
   exact jF k (List.mem_append_right _ r)
  rw[jm q]at hw;exact absurd hw q
 by_cases k6:e.kind=6\/e.kind=7
 ·rw[<-uv k6]
  unfold mR
  split
  ·rename_i y hy
   have my:∀z∈jS x.an y.key,z∈x.an:=fun z hz=>(List.mem_filter.1 hz).1
   have xk:∀k∈(jS x.an y.key).map (fun h=>h.key)++x.aq.map (fun h=>h.key),k<=K:=fun k hk=>by
    rcases List.mem_append.1 hk with r|r
    ·obtain⟨z,hz,rfl⟩:=List.mem_map.1 r;exact jF _ (List.mem_append_left _ (List.mem_map_of_mem (my z hz)))
    exact jF k (List.mem_append_right _ r)
   unfold pN
   split
   ·exact⟨AN (fun _=>rfl) (fun _=>rfl) hb,fun z hz=>hh z (my z hz),xk⟩
   exact⟨AN (fun _=>rfl) (fun _=>rfl) hb,fun z hz=>hh z (my z hz),xk⟩
  exact⟨hb,hh,jF⟩
 by_cases k8:e.kind=8
 ·rw[<-y7 k8]
  refine⟨fun c hc=>?_,fun z hz=>?_,fun k hk=>?_⟩
  ·obtain⟨d,hd,rfl⟩:=List.mem_map.1 hc
   have:=hb d hd
   unfold l8
   split<;>exact this
  ·obtain⟨d,hd,rfl⟩:=List.mem_map.1 hz
   exact hh d hd
  refine jF k ?_
  unfold dN p' at hk
  dsimp only at hk
  rw[List.map_map]at hk
  exact hk
 by_cases k9:e.kind=9
 ·rw[<-t8 k9]at hw ⊢
  by_cases q:fL x e=0
  ·rw[uZ q]
   refine⟨AN (fun _=>rfl) (fun _=>rfl) hb,hh,fun k hk=>?_⟩
   unfold dN oH at hk
   dsimp only at hk
   rw[List.map_append]at hk
   rcases List.mem_append.1 hk with r|r
   ·exact jF k (List.mem_append_left _ r)
   rcases List.mem_append.1 r with r|r
   ·exact jF k (List.mem_append_right _ r)
   simp at r;omega
  rw[od q]at hw;exact absurd hw q
 have:=y8 h2
 rw[<-ua (by omega)]
 unfold nm
 split
 ·rename_i y hy
  have xk:∀k∈x.an.map (fun h=>h.key)++(jA x.aq y.key).map (fun h=>h.key),k<=K:=fun k hk=>by
   rcases List.mem_append.1 hk with r|r
   ·exact jF k (List.mem_append_left _ r)
   obtain⟨z,hz,rfl⟩:=List.mem_map.1 r;exact jF _ (List.mem_append_right _ (List.mem_map_of_mem (List.mem_filter.1 hz).1))
  unfold mN
  split
  ·exact⟨AN (fun _=>rfl) (fun _=>rfl) hb,hh,xk⟩
  exact⟨AN (fun _=>rfl) (fun _=>rfl) hb,hh,xk⟩
 exact⟨hb,hh,jF⟩
theorem Gx{x:aw}{e:aV}(h:dG x e=0):(dp x e).ag=(bz x e).b.ag/\(dp x e).an=(bz x e).b.an/\(dp x e).aq=(bz x e).b.aq/\(dp x e).next<=x.next+1:=by
 by_cases r:(bz x e).l=[]
 ·rw[(ub h r).1];exact⟨rfl,rfl,rfl,by rw[xA];omega⟩
 rw[(rU h r).1];exact⟨rfl,rfl,rfl,by show (bz x e).b.next+1<=_;rw[xA];omega⟩
theorem Wl.step{K:Int}{x:aw}{l l':cH}{n:Nat}{e:aV}(h:Wl K x l n)(hc:dG x e=0)(hk:e.kind≠3)(ha:e.af<=1000000)(AP:e.key<=K)(hl:ra (dp x e) l')(hs:∀k c,bU l'.lines k c=bU l.lines k c+bU (bz x e).l k c):Wl K (dp x e) l' (n+1):=by
 have o:=outer hc hk h.vd;obtain⟨s1,s2,s3⟩:=UP hc ha AP h.base h.vd h.keys;obtain⟨p1,p2,p3,p4⟩:=Gx hc;have am:=uu (rS hc).2.1;rw[cY,cY]at am;have e1:=h.eq;have e2:=h.inc;have e3:=h.yx;have e4:=h.wO;have e5:=h.next;have o1:=o.eq;have o2:=o.inc;have o3:=o.yx;have o4:=o.wO;refine⟨hl,?_,?_,?_,?_,by rw[p1];exact s1,by rw[p2];exact s2,by omega,fun k hk=>s3 k ?_⟩
 ·rw[hs,o1];push_cast;split<;>omega
 ·rw[hs];push_cast;omega
 ·rw[hs];omega
 ·rw[hs];omega
 unfold dN at hk ⊢;rw[p2,p3]at hk;exact hk
theorem Wl.UR{K:Int}{x:aw}{l:cH}{n:Nat}(h:Wl K x l n):bU l.lines 4 0<=200000+n*3000001:=by
 have t:=(DX h.oV.lF.acc).1;have t0:bG o6 l.lines=0:=h.oV.lF.sum;have b:=mX h.oV.book;have hw:=b.aA;rw[<-h.oV.za]at hw;unfold eY at hw;have hS:0<=qZ l.lines:=by
  unfold qZ;have key:∀(m:List Nat),(∀j∈m,j<99)->0<=bG (fun j:Nat=>bU l.lines 6 (j+1)+bU l.lines 7 (j+1)+bU l.lines 8 (j+1)) m:=by
   intro m;induction m with
   |nil=>intro _;exact Int.le_refl _
   |cons j m ih=>
    intro hm;rw[jT];have hj:=hm j (by simp);have i1:=ih (fun z hz=>hm z (by simp[hz]));have hc:1<=(j:Int)+1/\(j:Int)+1<=99:=by omega
    rw[h.oV.loc _ hc,h.oV.gh _ hc,h.oV.out _ hc];have l1:0<=hP x.ag ((j:Int)+1):=by
     unfold hP;rcases jt x.ag ((j:Int)+1)with⟨_,r⟩|⟨i,d,_,r2,r3,_⟩
     ·rw[r];exact Int.le_refl _
     rw[r3];have:=(b.ch d (dB r2)).loc;unfold eY at this;exact this.1
    have l2:0<=fB x ((j:Int)+1):=by
     have:=ut b.hs b.cs ((j:Int)+1);unfold fB;omega
    omega
  exact key _ (fun j hj=>List.mem_range.1 hj)
 have e1:=h.eq;have e2:=h.inc;have e3:=h.wO;omega
theorem Wl.SY{K:Int}{x:aw}{l:cH}{n:Nat}{e:aV}(h:Wl K x l n)(hn:n<=100)(hc:dG x e=0)(hk:e.kind≠3)(hp:(dl x e).lines≠[])(ha:e.af<=1000000)(hr:bU (bz x e).l 4 0<=1000000000):iv l (dl x e)=0:=by
 have o:=outer hc hk h.vd;have am:=uu (rS hc).2.1;rw[cY,cY]at am;have e1:=h.eq;have e2:=h.inc;have e3:=h.yx;have e4:=h.wO;have e5:=h.UR;have o1:=o.eq;have o2:=o.inc;have o3:=o.yx;have o4:=o.wO;refine UN h.oV hc hp fun k k2 k5=>cJ.2 ?_;rcases(by omega:k=2\/k=3\/k=4\/k=5)with q|q|q|q<;>subst q
 ·rw[o1];split<;>omega
 ·omega
 ·omega
 omega
end Go.Proofs.YtflhgkmhmcfimaaGreat

