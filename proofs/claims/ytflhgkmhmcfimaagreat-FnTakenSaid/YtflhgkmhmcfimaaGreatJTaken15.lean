/- Texts of the proof of FnFnTaken, joined: ES5, Appl, Wr, App2, All, AllN, EN1. -/
import Derived.Test.YtflhgkmhmcfimaaGreatJTaken14
import Derived.Test.YtflhgkmhmcfimaaGreatJTaken4
import Derived.Test.YtflhgkmhmcfimaaGreatJTaken5
namespace Go.Proofs.YtflhgkmhmcfimaaGreat
open Tryz
open Go.RowKit
set_option maxHeartbeats 16000000
set_option maxRecDepth 100000
set_option linter.unusedSimpArgs false
set_option linter.unusedVariables false
theorem Bq{a b:Int}(ha:0<=a/\a<=1125899906842624)(hb:0<=b/\b<=1125899906842624):gI a b=!decide (1125899906842624<a+b):=by
 unfold gI;rw[cY.2 ha,cY.2 hb,Bool.true_and,Bool.true_and];refine Bool.eq_iff_iff.2 ?_;grind[cY]
theorem FJ{x:aw}(h:eG x=true):(∀h∈x.an,h.key≠0)/\∀h∈x.aq,h.key≠0:=by
 obtain⟨_,_,_,_,h5,_⟩:=xO h;have hk:=(CV h5).2.2.2.2;have key:∀n∈dN x,n≠0:=fun n hn=>by
  obtain⟨j,hj,rfl⟩:=List.getElem_of_mem hn;have:=List.all_eq_true.1 hk j (by simpa using hj);unfold kV at this;simp only[Bool.and_eq_true]at this;intro q;have V:=this.1;simp[hj,q,fE,aI]at V
 grind[dN]
theorem FK{x:aw}{e:aV}(hn:x.next≠1125899906842624)(hk:e.kind=1):d8 x e=decide (1125899906842624<x.aA+e.af):=by simp_all[d8]
theorem HL{x:aw}{e:aV}(hn:x.next≠1125899906842624)(hk:e.kind=2):d8 x e=decide (1125899906842624<e.af+e.ay):=by grind[d8]
theorem aaN{x:aw}{e:aV}(hn:x.next≠1125899906842624)(hk:e.kind=3)(hc:eS x.ag e.ch=-1):d8 x e=false:=by grind[d8]
theorem JN{x:aw}{e:aV}{i:Nat}{c:be}(hn:x.next≠1125899906842624)(hk:e.kind=3)(hc:eS x.ag e.ch=(i:Int))(ho:fz x.ag e.ch=c):d8 x e=decide (1125899906842624<x.aA+c.loc-e.ay):=by grind[d8]
theorem HM{x:aw}{e:aV}(hn:x.next≠1125899906842624)(hk:e.kind=8):d8 x e=decide (x.tick=1125899906842624):=by grind[d8]
theorem xZ{x:aw}{e:aV}(hn:x.next≠1125899906842624)(V:¬e.kind=1)(h2:¬e.kind=2)(h3:¬e.kind=3)(h8:¬e.kind=8):d8 x e=false:=by grind[d8]
def fu(x:aw)(e:aV):WR:=if d8 x e=true then ⟨x,[],2⟩else bz x e
theorem Di{x:aw}{e:aV}(h:d8 x e=true):(⟨x,[],2⟩:WR)=fu x e:=by simp_all[fu]
theorem rE{x:aw}{e:aV}(h:d8 x e=false):bz x e=fu x e:=by simp_all[fu]
theorem aaO(x:aw)(e:aV):(fu x e).b.next=x.next:=by grind[fu,xA]
theorem aaP{x:aw}{e:aV}(h:(eG x&&co e)=true):dG x e=(fu x e).c:=by
 unfold dG fu;grind
theorem Qr{x:aw}{e:aV}(h:(fu x e).c=0):d8 x e=false/\fu x e=bz x e:=by
 unfold fu at *;grind
theorem aaQ{x:aw}{e:aV}(h:x.next=1125899906842624):d8 x e=true:=by simp_all[d8]
theorem aaR(g:Value)(x:aw)(e:aV)(mq:gI e.af e.ay=false):GC prog 199 [.ptr 0 0 0,ju e] (p7 g x [] 0) (.au []) (p7 g x [] 2):=by
 refine GC.intro (rs:=[]) func199 rfl ntmps199 x_7 trivial ?_;intro L O w0;refine sL<|ab (zX 2003 Z) Z<|nA<|lf 4 bN Z<|aj ac Z<|lf 5 fC Z<|aj ac Z<|ab (zL func197 (tI _ _) Z) Z<|cT (.au [U _ _,vB _]) Z<|dE Z<|eU Z<|bJ 18 false Z mq<|ao Z<|ar Z<|Y<|aS<|aS<|aF [3,23,35]<|pq 0 (dJ Z)<|vq 1 (rG Z)<|vq 2 (M6 Z) ?_;refine bn 3 rfl (bF func196 (gt _ _ _ _ _ _ _ _ _ _ _ _ _ _ _ _ _ _ _ ) x_3 rfl rfl) (.inl rfl)<|nw 22 true rfl (by simp[bE])<|fT [0,3,4,22] [0,1,2,3,4,2003] ?_;refine vq 4 (cF Z)<|bi 5 Z<|bi 6 Z<|bi 7 Z<|bi 8 Z<|bi 9 Z<|al 10 Z<|al 11 Z<|al 12 Z<|al 13 Z<|al 14 Z<|al 15 Z<|al 16 Z<|al 17 Z<|al 18 Z<|al 19 Z<|al 20 Z<|al 21 Z<|al 22 Z<|al 23 Z<|vq 24 (bA Z)<|vq 25 (cF Z)<|bi 26 Z<|bi 27 Z<|bi 28 Z<|bi 29 Z<|bi 30 Z<|bi 31 Z<|al 32 Z<|al 33 Z ?_;refine al 34 Z<|al 35 Z<|vq 36 (bA Z)<|fD<|gT<|aY Z<|aR<|rT ?_;trivial
theorem aaS(g:Value)(x:aw)(ht:x.tick=1125899906842624):GC prog 204 [.ptr 0 0 0] (p7 g x [] 0) (.au []) (p7 g x [] 2):=by
 refine GC.intro (rs:=[]) func204 rfl ntmps204 x_7 trivial ?_;intro L O w0;refine aS<|sL<|aM Z<|aM Z<|lc Z<|lf 0 c8 Z<|lf 0 mB Z<|aj ac Z<|ak Z<|bJ 10 true rfl (by simpa using ht) ?_;refine ab (bF func196 (gt _ _ _ _ _ _ _ _ _ _ _ _ _ _ _ _ _ _ _ ) x_3 rfl rfl) Z<|bJ 11 true rfl (by rfl)<|Y<|aY Z<|aR<|rT ?_;trivial
theorem x_2{p:Prop}(c:p:=by exact ⟨(),trivial,trivial,⟨(congrArg (fun r:WR=>cD gw r.b.tick r.b.next r.b.aA r.c) hw),(congrArg (fun r:WR=>AO.ai 159 7 (ah aX r.b.ag)) hw),(congrArg (fun r:WR=>df r.b.an) hw),(congrArg (fun r:WR=>d7 r.b.aq) hw),(congrArg (fun r:WR=>dc r.l) hw),trivial⟩,rfl,rfl⟩):p:=c
theorem x_48{p:Prop}(c:p:=by exact congrArg (fun r:WR=>cD gw r.b.tick r.b.next r.b.aA r.c) hw):p:=c
theorem aaT(x:aw)(e:aV)(hw:di x):GX prog 107 [cj x,ju e] [] (FG x e):=by
 refine GX.intro (rs:=[.cell 4 50 (some 6),.cell 5 92 (some 2),.tmp 6]) func107 rfl ntmps107 x_7 ⟨rfl,rfl,cu,rfl,rfl,ol,rfl,trivial⟩ ?_;intro L O w0;refine sL<|ab (zX 2002 Z) Z<|ab (zX 2003 Z) Z<|ab (zA 2004 mD Z) Z<|ab (zA 2005 pC Z) Z<|ao Z<|Y<|aS<|sL<|aP (.agg [U _ _,U _ _,U _ _,vL _ _ _,vL _ _ _,vL _ _ _]) cu Z<|ab (zL func179 (Dn x hw) Z) Z<|bX Z<|aQ Z ?_;refine AL.bool (t:=16) rfl ?_ ?_
 ·intro V;refine aa Z<|aa Z<|aa Z<|aU Z<|Y<|aY Z<|sL<|lq (rd (x:=.agg [U _ _,U _ _,U _ _,vV _,vV _,vV _]) (cP Z s6 Z Z Z) Z)<|lq (rd (x:=.agg [U _ _,vV _]) (cP Z uA Z Z Z) Z)<|ab (zB 2004 eu ew Z) Z<|ab (zB 2005 na nb Z) Z<|lT [2,3,4,5,6] [2002,2003,2004,2005] ?_;refine ao Z<|Y<|aR<|rT ?_;have mS:(eG x&&co e)=false:=by simp_all
  have qC:=FF mS;refine fN (.au [xX,tC,int 1]) [] ?_ rfl trivial;exact .inl ⟨by omega,by rw[qC],rfl⟩
 intro V;refine aP (.agg [U _ _,U _ _,U _ _,U _ _,U _ _,U _ _,vB _]) dD Z<|ab (zL func195 (Px e) Z) Z<|bX Z<|bj Z<|Y ?_;refine AW.cond rfl ?_ ?_
 ·intro h2;refine sL<|lq (rd (x:=.agg [U _ _,U _ _,U _ _,vV _,vV _,vV _]) (cP Z s6 Z Z Z) Z)<|lq (rd (x:=.agg [U _ _,vV _]) (cP Z uA Z Z Z) Z)<|ab (zB 2004 eu ew Z) Z<|ab (zB 2005 na nb Z) Z<|ao Z<|Y<|aR<|rT ?_;have mS:(eG x&&co e)=false:=by simp_all
  have qC:=FF mS;refine fN (.au [xX,tC,int 1]) [] ?_ rfl trivial;exact .inl ⟨by omega,by rw[qC],rfl⟩
 intro h2;refine aK<|gA ?_;have mS:(eG x&&co e)=true:=by simp_all
 have jr:eG x=true:=by simp_all
 have uQ:co e=true:=by simp_all
 have fi:=CT jr;have sm:=fi.sm;obtain⟨es,zH,tL⟩:=ED uQ;have hm:x.ag.length<=1000000000:=by have:=sm.lc;omega
 obtain⟨Z',P6,JB,aaa,aab,aac⟩:=xO jr;have Gz:=cJ.1 JB;have vX:=cY.1 P6;have pI:=aaP mS;have uG:=y8 uQ;have x3:=uu uQ;refine aP (.agg [U _ _,U _ _,U _ _,vL _ _ _,vL _ _ _,vL _ _ _]) cu Z<|ab (zC [(2003,1),(2008,2),(2013,3)] [1,2,3] [] func132 (OR x x_133) (trivial) rfl rfl) Z<|lq (rd (x:=.agg [U _ _,U _ _,U _ _,.own _,.own _,.own _,vV _,U _ _]) (cP rfl VV rfl rfl rfl) rfl)<|ab (zX 0 rfl) Z<|lT [2,3,4,5,6,26] [0,1,2,3,2002,2003,2004,2005] ?_;refine lC Z<|Y ?_;refine AW.pi 4 0 6 167 3 rfl (by decide) rfl ?_;refine AW.tZ 0 rfl ?_;intro gw;refine AW.obj 4 (dc []) rfl ?_;refine sL<|aM Z<|lf 1 mW Z<|aj ac Z<|ak Z ?_;refine ab (bF func196 (gt _ _ _ _ _ _ _ _ _ _ _ _ _ _ _ _ _ _ _ ) x_3 rfl rfl) Z<|Y ?_;refine aJ [4,5,6,7] [2002,2003,2004,2005] (D:=Unit) (fun jd=>[]) (fun jd=>[(0,cD gw (fu x e).b.tick (fu x e).b.next (fu x e).b.aA (fu x e).c),(1,.ai 159 7 (ah aX (fu x e).b.ag)),(2,df (fu x e).b.an),(3,d7 (fu x e).b.aq),(4,dc (fu x e).l)]) (fun jd=>True) ?_ ?_
 ·refine sL<|aM Z<|lc Z<|lf 7 uC Z<|aj ac Z<|ak Z<|Y ?_;refine AW.cond rfl ?_ ?_
  ·intro h3;refine aS ?_;have mj:x.next≠1125899906842624:=fun q=>by
    grind[bE]
   refine AW.obj 0 (cD gw x.tick x.next x.aA 0) (Eq.trans (b:=cD gw x.tick x.next x.aA _) rfl (congrArg (cD gw x.tick x.next x.aA) (by grind))) ?_;refine aL<|lf 0 jz Z<|aj ac Z<|Y<|aB<|sL<|ak Z<|bv Z<|Y ?_;refine AW.cond rfl ?_ ?_
   ·intro h4;refine sL<|lf 2 iW Z<|aj ac Z<|lf 4 bN Z<|aj ac Z<|ab (zL func197 (tI _ _) Z) Z<|lT [3,4,5,6,7,46] [0,1,2,3,4,2002,2003,2004,2005] ?_;refine cT (.au [U _ _,vB _]) Z<|dE Z<|eU Z<|ao Z<|bv Z<|nA<|aM Z<|aQ Z<|bX Z ?_;refine ab (bF func196 (gt _ _ _ _ _ _ _ _ _ _ _ _ _ _ _ _ _ _ _ ) x_3 rfl rfl) Z<|bX Z<|Y ?_;refine AW.cond rfl ?_ ?_
    ·intro h5;refine aS ?_;have haO:gI x.aA e.af=true:=by
      have h:=h5;rcases q:gI x.aA e.af with _|_
      ·grind[bE]
      rfl
     refine aL<|aM Z<|ae Z<|jK 55 (x.aA+e.af) Z (ye haO)<|lc Z<|lf 0 c8 Z<|lf 2 iW Z<|ab (zB 0 ca cb Z) Z<|lT [3,4,5,6,7] [0,1,2,3,4,2002,2003,2004,2005] ?_;refine nA<|aM Z<|lf 4 bN Z<|aj ac Z ?_;refine ab (bF func198 (jv _ _ _ _ _ _ _ _ _ _ _ _ _ _ ([]) 0 (LG.nil) (by decide) _ _ _ (cL.nil _ _) (gP es.af)) x_3 rfl rfl) Z<|Y<|aL<|aM Z<|lf 4 bN Z<|aj ac Z<|lq (rd (x:=U _ _) (il rfl rfl (ce x_130)) rfl) ?_;refine ab (bF func198 (jv _ _ _ _ _ _ _ _ _ _ _ _ _ _ (bR [] 1 0 e.af) 1 (LG.nil.add (gP es.af)) (by decide) _ _ _ x_15 (jM es.af)) x_3 rfl rfl) Z<|lN<|gB<|gT ?_;have bZ:e.kind=1:=by simpa using h4
     have gy:d8 x e=false:=by
      have h:=h5;rw[FK mj bZ];rw[Bq vX ⟨zH,(cY.1 x3.1).2⟩]at h;rcases q:decide (1125899906842624<x.aA+e.af)with _|_
      ·rfl
      grind[bE]
     have hw:zb x e=fu x e:=(yY bZ).trans (rE gy);refine⟨(),trivial,trivial,⟨(Eq.trans (b:=cD gw x.tick x.next (x.aA+e.af) 0) (Eq.trans (b:=cD gw x.tick x.next (x.aA+e.af) _) rfl (congrArg (cD gw x.tick x.next (x.aA+e.af)) (by grind))) (congrArg (fun r:WR=>cD gw r.b.tick r.b.next r.b.aA r.c) hw)),x_49,x_72,x_73,x_85,trivial⟩,rfl,rfl⟩
    intro h5;refine aK<|gB<|gT ?_;have bZ:e.kind=1:=by simpa using h4
    have gy:d8 x e=true:=by
     have h:=h5;rw[FK mj bZ];rw[Bq vX ⟨zH,(cY.1 x3.1).2⟩]at h;rcases q:decide (1125899906842624<x.aA+e.af)with _|_
     ·grind
     rfl
    have hw:(⟨x,[],2⟩:WR)=fu x e:=Di gy;refine⟨(),trivial,trivial,⟨(Eq.trans (b:=cD gw x.tick x.next x.aA 2) (Eq.trans (b:=cD gw x.tick x.next x.aA _) rfl (congrArg (cD gw x.tick x.next x.aA) (by first|rfl|(rw[show gI x.aA e.af=false by grind];rfl)))) (congrArg (fun r:WR=>cD gw r.b.tick r.b.next r.b.aA r.c) hw)),x_49,x_72,x_73,x_85,trivial⟩,rfl,rfl⟩
   intro h4;refine sL<|ak Z<|bv Z<|Y ?_;refine AW.cond rfl ?_ ?_
   ·intro h6;refine aL<|aM Z ?_;rcases mq:gI e.af e.ay with _|_
    ·skip;refine aP (.agg [U _ _,U _ _,U _ _,U _ _,U _ _,U _ _,vB _]) dD rfl ?_;refine ab (bF func199 (aaR _ x e mq) x_3 rfl rfl) Z<|lT [4,5,6,7] [0,1,2,3,4,2002,2003,2004,2005] ?_;refine lN<|gB<|gT ?_;have bZ:e.kind=2:=by simpa using h6
     have gy:d8 x e=true:=by
      rw[HL mj bZ];rw[Bq ⟨zH,(cY.1 x3.1).2⟩ ⟨tL,(cY.1 x3.2).2⟩]at mq;simpa using mq
     have hw:(⟨x,[],2⟩:WR)=fu x e:=Di gy;refine⟨(),trivial,trivial,⟨(Eq.trans (b:=cD gw x.tick x.next x.aA 2) rfl (congrArg (fun r:WR=>cD gw r.b.tick r.b.next r.b.aA r.c) hw)),x_49,x_72,x_73,x_85,trivial⟩,rfl,rfl⟩
    skip;refine aP (.agg [U _ _,U _ _,U _ _,U _ _,U _ _,U _ _,vB _]) dD rfl ?_;refine ab (bF func199 (RM _ x e sm es mq) x_3 rfl rfl) Z<|lN<|gB<|gT ?_;have bZ:e.kind=2:=by simpa using h6
    have gy:d8 x e=false:=by
     rw[HL mj bZ];rw[Bq ⟨zH,(cY.1 x3.1).2⟩ ⟨tL,(cY.1 x3.2).2⟩]at mq;simpa using mq
    have hw:sJ x e=fu x e:=(xy bZ).trans (rE gy);refine x_2
   intro h6;refine sL<|ak Z<|bv Z<|Y ?_;refine AW.cond rfl ?_ ?_
   ·intro h7;refine sL<|aP (.agg [U _ _,U _ _,U _ _,vL _ _ _,vL _ _ _,vL _ _ _]) cu Z<|lf 2 dn Z<|aj ac Z ?_;rcases jt x.ag e.ch with⟨hi,ho⟩|⟨i,c,hi,hc,ho,hid⟩
    ·skip;refine ab (zL func200 (m9 x _ hm) rfl) Z<|ao Z<|Y<|aS<|sL<|ae Z<|ak Z<|bJ 80 false rfl x_143<|Y<|aN Z<|aK<|gA<|aM Z<|lc Z<|lf 7 uC Z<|aj ac Z<|ak Z<|bJ 100 true rfl (by rfl)<|Y<|aY Z<|aL<|aM Z<|aP (.agg [U _ _,U _ _,U _ _,U _ _,U _ _,U _ _,vB _]) dD rfl ?_;refine ab (bF func201 (KF _ x e fi es tL) x_3 rfl rfl) Z<|lT [4,5,6,7] [0,1,2,3,4,2002,2003,2004,2005] ?_;refine lN<|gB<|gT ?_;have bZ:e.kind=3:=by simpa using h7
     have gy:d8 x e=false:=aaN mj bZ hi;have hw:rH x e=fu x e:=(yZ bZ).trans (rE gy);refine x_2
    have bC:=sm.ag c (dB hc);refine ab (zL func200 (m9 x _ hm) rfl) Z<|ao Z<|Y<|aS<|sL<|ae Z<|ak Z<|bJ 80 true rfl (by grind[jw])<|Y<|aY Z<|aF [14]<|pq 0 (dJ rfl)<|pq 1 (qf 2 iW rfl)<|sq 2 (aZ ac rfl)<|pq 3 (qf 3 dr rfl)<|sq 4 (jj eg rfl)<|pq 5 (gL (U _ _) rfl)<|sq 6 (rd (x:=.rp _) (yt (i:=i) rfl cz rfl rfl ?hn1 (dk hc)) rfl) ?_;case hn1=>trivial
    refine pq 7 (qd (x:=.rp _) (EI fH Z) Z)<|sq 8 (qU ac Z) ?_;refine sq 9 (iC rfl ⟨rfl,ce (by grind[bk,i64])⟩)<|vq 10 (rf 5 fC rfl)<|vq 11 (aZ ac rfl) ?_;refine vq 12 (iC rfl ⟨rfl,ce x_119⟩)<|vq 13 (dt rfl) ?_;refine bn 14 rfl (bF func196 (gt _ _ _ _ _ _ _ _ _ _ _ _ _ _ _ _ _ _ _ ) x_3 rfl rfl) (.inl rfl)<|fT [3,4,5,6,7] [0,1,2,3,4,2002,2003,2004,2005] ?_;refine fD<|gA<|aM Z<|lc Z<|lf 7 uC Z<|aj ac Z<|ak Z<|Y ?_;refine AW.cond rfl ?_ ?_
    ·intro h8;refine AW.obj 0 (cD gw x.tick x.next x.aA 0) (Eq.trans (b:=cD gw x.tick x.next x.aA _) rfl (congrArg (cD gw x.tick x.next x.aA) (by grind))) ?_;refine aL<|aM Z<|aP (.agg [U _ _,U _ _,U _ _,U _ _,U _ _,U _ _,vB _]) dD Z ?_;refine ab (bF func201 (KF _ x e fi es tL) x_3 rfl rfl) Z<|lN<|gB<|gT ?_;have bZ:e.kind=3:=by simpa using h7
     have gy:d8 x e=false:=by
      have h:=h8;rw[JN mj bZ hi ho];rcases q:decide (1125899906842624<x.aA+c.loc-e.ay)with _|_
      ·rfl
      grind[bE]
     have hw:rH x e=fu x e:=(yZ bZ).trans (rE gy);refine x_2
    intro h8;refine aK<|gB<|gT ?_;have bZ:e.kind=3:=by simpa using h7
    have gy:d8 x e=true:=by
     have h:=h8;rw[JN mj bZ hi ho];rcases q:decide (1125899906842624<x.aA+c.loc-e.ay)with _|_
     ·grind
     rfl
    have hw:(⟨x,[],2⟩:WR)=fu x e:=Di gy;refine⟨(),trivial,trivial,⟨(Eq.trans (b:=cD gw x.tick x.next x.aA 2) (Eq.trans (b:=cD gw x.tick x.next x.aA _) rfl (congrArg (cD gw x.tick x.next x.aA) (by rw[<-JN mj bZ hi ho,gy];rfl))) (congrArg (fun r:WR=>cD gw r.b.tick r.b.next r.b.aA r.c) hw)),x_49,x_72,x_73,x_85,trivial⟩,rfl,rfl⟩
   intro h7;refine sL<|ak Z<|bv Z<|Y ?_;refine AW.cond rfl ?_ ?_
   ·intro h9;refine sL<|aP (.agg [U _ _,U _ _,U _ _,vL _ _ _,vL _ _ _,vL _ _ _]) cu Z<|lf 2 dn Z<|aj ac Z ?_;rcases jt x.ag e.ch with⟨hi,ho⟩|⟨i,c,hi,hc,ho,hid⟩
    ·skip;refine ab (zL func200 (m9 x _ hm) Z) Z<|lT [3,4,5,6,7,109] [0,1,2,3,4,2002,2003,2004,2005] ?_;refine ao Z<|nA<|aM Z<|ae Z<|ak Z<|bJ 112 true rfl x_143 ?_;refine ab (bF func196 (gt _ _ _ _ _ _ _ _ _ _ _ _ _ _ _ _ _ _ _ ) x_3 rfl rfl) Z<|bJ 113 true rfl (by rfl)<|ma Z<|Y<|aN Z<|aK<|gB<|gT ?_;have bZ:e.kind=4:=by simpa using h9
     have gy:d8 x e=false:=xZ mj (by omega) (by omega) (by omega) (by omega);have hw:ou x e=fu x e:=(vK bZ).trans (rE gy);rw[P4 hi]at hw;refine x_2
    have bC:=sm.ag c (dB hc);refine ab (zL func200 (m9 x _ hm) rfl) Z<|ao Z<|nA<|aM Z<|ae Z<|ak Z<|bJ 112 false rfl (by grind[jw]) ?_;refine ab (bF func196 (gt _ _ _ _ _ _ _ _ _ _ _ _ _ _ _ _ _ _ _ ) x_3 rfl rfl) Z<|bJ 113 false rfl (by rfl)<|Gq Z<|Y<|aY Z<|aS<|aF [10]<|pq 0 (dJ rfl)<|pq 1 (qc rfl)<|pq 2 (qf 0 c8 rfl)<|pq 3 (qf 3 dr rfl)<|sq 4 (gC eg rfl)<|pq 5 (gL (U _ _) rfl)<|vq 6 (rf 4 bN rfl)<|vq 7 (aZ ac rfl)<|vq 8 (rd (x:=.ptr 1 _ 0) (pu (i:=i) rfl cz rfl rfl rfl ?hn2 x_31) rfl) ?_;case hn2=>trivial
    refine vq 9 (rf 4 nE Z)<|bn 10 Z (zQ 1 [.v (.int .i64 e.af)] ca cb Z (dk hc)) (.inl Z)<|fT [3,4,5,6,7,11] [0,1,2,3,4,2002,2003,2004,2005] ?_;refine fD<|gT ?_;refine AW.obj 1 (AO.ai 159 7 (ah aX (x.ag.set i { c with base:=e.af }))) (Eq.trans (b:=AO.ai 159 7 ((ah aX (x.ag)).set i ((aX { c with base:=e.af }).map PV.v))) rfl (congrArg (AO.ai 159 7) (lB))) ?_;refine aF [10]<|pq 0 (dJ rfl)<|pq 1 (qc rfl)<|pq 2 (qf 0 c8 rfl)<|pq 3 (qf 3 dr rfl)<|sq 4 (gC eg rfl)<|pq 5 (gL (U _ _) rfl)<|vq 6 (rf 5 fC rfl)<|vq 7 (aZ ac rfl)<|vq 8 (rd (x:=.ptr 1 _ 0) (pu (i:=i) rfl cz rfl rfl rfl ?hn3 x_31) rfl) ?_;case hn3=>trivial
    refine vq 9 (rf 5 mH Z)<|bn 10 Z (zQ 1 [.v (.int .i64 e.ay)] ca cb Z (dk (ww hc { c with base:=e.af }))) (.inl Z)<|fD<|gB<|gT ?_;have bZ:e.kind=4:=by simpa using h9
    have gy:d8 x e=false:=xZ mj (by omega) (by omega) (by omega) (by omega);have hw:ou x e=fu x e:=(vK bZ).trans (rE gy);rw[P5 hi]at hw;refine⟨(),trivial,trivial,⟨x_48,(Eq.trans (Eq.trans (b:=AO.ai 159 7 ((ah aX (x.ag.set i { c with base:=e.af })).set i ((aX { c with base:=e.af,br:=e.ay }).map PV.v))) rfl (congrArg (AO.ai 159 7) (lB.trans (congrArg (ah aX) (by rw[List.set_set,FD fi.ids hc (fun c=>{ c with base:=e.af,br:=e.ay }),hid]))))) (congrArg (fun r:WR=>AO.ai 159 7 (ah aX r.b.ag)) hw)),x_72,x_73,x_85,trivial⟩,rfl,rfl⟩
   intro h9;refine sL<|ak Z<|bv Z<|Y ?_;refine AW.cond rfl ?_ ?_
   ·intro dh;refine aL<|aM Z<|aP (.agg [U _ _,U _ _,U _ _,U _ _,U _ _,U _ _,vB _]) dD Z ?_;refine ab (bF func202 (RS _ x e fi es (AI uQ (.inl (by grind)))) x_3 rfl rfl) Z<|lT [4,5,6,7] [0,1,2,3,4,2002,2003,2004,2005] ?_;refine lN<|gB<|gT ?_;have bZ:e.kind=5:=by simpa using dh
    have gy:d8 x e=false:=xZ mj (by omega) (by omega) (by omega) (by omega);have hw:sP x e=fu x e:=(xz bZ).trans (rE gy);refine x_2
   intro dh;refine aS<|sL<|ak Z<|bv Z<|Y ?_;refine AW.cond rfl ?_ ?_
   ·intro gp;refine qt 140 true Z gp<|aK<|gT<|aY Z<|aL<|aM Z<|lf 1 gE Z<|aj ac Z<|lf 0 jz Z<|aj ac Z<|ak Z ?_;refine ab (bF func203 (Qp _ x _ _ fi (FJ jr).1 (De jr).1) x_3 rfl rfl) Z<|lN<|gB<|gT ?_;have bZ:e.kind=6:=by simpa using gp
    have gy:d8 x e=false:=xZ mj (by omega) (by omega) (by omega) (by omega);have hw:mR x e=fu x e:=(uv (.inl bZ)).trans (rE gy);rw[<-Ql]at hw;refine x_2
   intro gp;refine qt 140 false Z gp<|aL<|ak Z<|bv Z<|Y ?_;refine AW.cond rfl ?_ ?_
   ·intro gM;refine aL<|aM Z<|lf 1 gE Z<|aj ac Z<|lf 0 jz Z<|aj ac Z<|ak Z ?_;refine ab (bF func203 (Qp _ x _ _ fi (FJ jr).1 (De jr).1) x_3 rfl rfl) Z<|lT [4,5,6,7] [0,1,2,3,4,2002,2003,2004,2005] ?_;refine lN<|gB<|gT ?_;have bZ:e.kind=7:=by simpa using gM
    have gy:d8 x e=false:=xZ mj (by omega) (by omega) (by omega) (by omega);have hw:mR x e=fu x e:=(uv (.inr bZ)).trans (rE gy);rw[<-Ql]at hw;refine x_2
   intro gM;refine sL<|ak Z<|bv Z<|Y ?_;refine AW.cond rfl ?_ ?_
   ·intro dO;refine aL<|aM Z ?_;rcases Classical.em (x.tick=1125899906842624)with qO|qO
    ·skip;refine ab (bF func204 (aaS _ x qO) x_3 rfl rfl) Z<|lN<|gB<|gT ?_;have bZ:e.kind=8:=by simpa using dO
     have gy:d8 x e=true:=by rw[HM mj bZ];simpa using qO
     have hw:(⟨x,[],2⟩:WR)=fu x e:=Di gy;refine⟨(),trivial,trivial,⟨(Eq.trans (b:=cD gw x.tick x.next x.aA 2) rfl (congrArg (fun r:WR=>cD gw r.b.tick r.b.next r.b.aA r.c) hw)),x_49,x_72,x_73,x_85,trivial⟩,rfl,rfl⟩
    skip;refine ab (bF func204 (aaM _ x sm qO) x_3 rfl rfl) Z<|lN<|gB<|gT ?_;have bZ:e.kind=8:=by simpa using dO
    have gy:d8 x e=false:=by rw[HM mj bZ];simpa using qO
    have hw:p' x=fu x e:=(y7 bZ).trans (rE gy);refine x_2
   intro dO;refine sL<|ak Z<|bv Z<|Y ?_;refine AW.cond rfl ?_ ?_
   ·intro ij;refine aL<|aM Z<|aP (.agg [U _ _,U _ _,U _ _,U _ _,U _ _,U _ _,vB _]) dD Z ?_;refine ab (bF func205 (RU _ x e fi es (AI uQ (.inr (by grind)))) x_3 rfl rfl) Z<|lN<|gB<|gT ?_;have bZ:e.kind=9:=by simpa using ij
    have gy:d8 x e=false:=xZ mj (by omega) (by omega) (by omega) (by omega);have hw:sS x e=fu x e:=(t8 bZ).trans (rE gy);refine x_2
   intro ij;refine aS<|sL<|ak Z<|bv Z<|Y ?_;refine AW.cond rfl ?_ ?_
   ·intro lg;refine qt 159 true Z lg<|aK<|gT<|aY Z<|aL<|aM Z<|lf 1 gE Z<|aj ac Z<|lf 0 jz Z<|aj ac Z<|ak Z ?_;refine ab (bF func206 (Qq _ x _ _ fi (FJ jr).2 (EH jr)) x_3 rfl rfl) Z<|lT [4,5,6,7] [0,1,2,3,4,2002,2003,2004,2005] ?_;refine lN<|gB<|gT ?_;have bZ:e.kind=10:=by simpa using lg
    have gy:d8 x e=false:=xZ mj (by omega) (by omega) (by omega) (by omega);have hw:nm x e=fu x e:=(ua (by omega)).trans (rE gy);rw[<-Qm]at hw;refine x_2
   intro lg;refine qt 159 false Z lg<|aL<|ak Z<|bv Z<|Y ?_;refine AW.cond rfl ?_ ?_
   ·intro mn;refine aL<|aM Z<|lf 1 gE Z<|aj ac Z<|lf 0 jz Z<|aj ac Z<|ak Z ?_;refine ab (bF func206 (Qq _ x _ _ fi (FJ jr).2 (EH jr)) x_3 rfl rfl) Z<|lN<|gB<|gT ?_;have bZ:e.kind=11:=by simpa using mn
    have gy:d8 x e=false:=xZ mj (by omega) (by omega) (by omega) (by omega);have hw:nm x e=fu x e:=(ua (by omega)).trans (rE gy);rw[<-Qm]at hw;refine x_2
   intro mn;refine aK<|gB<|gT ?_;grind
  intro h3;refine aK<|gT ?_;have gy:d8 x e=true:=aaQ (by
   simp_all[bE])
  have hw:(⟨x,[],2⟩:WR)=fu x e:=Di gy;refine⟨(),trivial,trivial,⟨(Eq.trans (b:=cD gw x.tick x.next x.aA _) rfl ((congrArg (cD gw x.tick x.next x.aA) (show _=(2:Int) by grind[bE])).trans (congrArg (fun r:WR=>cD gw r.b.tick r.b.next r.b.aA r.c) hw))),x_49,x_72,x_73,x_85,trivial⟩,rfl,rfl⟩
 intro jd hJ;refine aS<|sL<|aM Z<|lc Z<|lf 7 uC Z<|aj ac Z<|ak Z<|Y ?_;refine AW.cond rfl ?_ ?_
 ·intro m7;refine aS<|aG 8 [2004,2005]<|tq 0 (rd (x:=.agg [U _ _,U _ _,U _ _,vV _,vV _,vV _]) (cP Z s6 Z Z Z) Z)<|tq 1 (rd (x:=.agg [U _ _,vV _]) (cP Z uA Z Z Z) Z)<|tq 2 (cG Z)<|tq 3 (rc Z)<|tq 4 (rf 7 uC Z)<|tq 5 (aZ ac Z)<|cm 6 Z (zB 2004 eu ew Z)<|cm 7 Z (zB 2005 na nb Z)<|yq 8 (j8 Z)<|gD<|gT<|aR<|rT ?_;refine fN (.au [xX,tC,int (fu x e).c]) [] ?_ rfl trivial;exact .inl ⟨by grind,by rw[pI],rfl⟩
 intro m7;refine aK<|gT<|aS<|sL<|aM Z<|lc Z<|lf 6 E4 Z<|iO gY Z<|ba hZ Z<|ak Z<|Y ?_;refine AW.cond rfl ?_ ?_
 ·intro mF;refine sL<|aM Z<|lc Z<|lf 0 c8 Z<|aP (.agg [U _ _,U _ _,U _ _,.own _,.own _,.own _]) cu Z<|lq (rd (x:=.agg [U _ _,vV _]) (cP Z uA Z Z Z) Z)<|ab (zB 2004 eu ew Z) Z<|lT [4,5,6,7,190] [0,1,2,3,4,2002,2003,2004,2005] ?_;refine ab (zB 2005 na nb Z) Z<|ao Z<|Y<|aR<|rT ?_;have cQ:(fu x e).c=0:=by simpa using m7
  obtain⟨gy,zJ⟩:=Qr cQ;have dY:(fu x e).l=[]:=List.length_eq_zero_iff.1 (by simp_all[ap]);refine fN (.au [Bh (fu x e).b.tick (fu x e).b.next (fu x e).b.aA,tC,int 0]) (Jz (fu x e).b) ?_ rfl ⟨rfl,rfl,rfl,trivial⟩;rw[zJ]at dY ⊢;exact .inr (.inl ⟨by omega,dY,rfl,rfl⟩)
 intro mF;refine aK<|gT<|aS<|aF [11]<|pq 0 (dJ Z)<|pq 1 (qc Z)<|pq 2 (qf 0 c8 Z)<|pq 3 (qf 1 mW Z)<|sq 4 (aZ ac Z)<|pq 5 (dJ Z)<|pq 6 (qc Z)<|pq 7 (qf 6 E4 Z)<|sq 8 (gC gY Z)<|sq 9 (rd (x:=.agg [U _ _,.own _]) (cP Z uA Z Z Z) Z)<|bn 10 Z (zA 2012 pC Z) (.inr Z)<|bn 11 Z (zB 2012 na nb Z) (.inl Z)<|fT [4,5,6,7,12] [0,1,2,3,4,2002,2003,2004,2005,2012] ?_;refine fD<|gA<|aM Z<|lc Z<|lf 0 c8 Z<|lf 1 mW Z<|aj ac Z ?_;refine eo rfl ⟨rfl,ce (by grind[aaO,i64])⟩<|lc Z<|lf 0 c8 Z<|lf 1 mW Z<|ab (zB 0 ca cb rfl) Z<|Y<|aS<|aG 7 [2004,2005]<|tq 0 (cG rfl)<|tq 1 (rc rfl)<|tq 2 (rf 0 c8 rfl)<|tq 3 (dw (.agg [U _ _,U _ _,U _ _,.own _,.own _,.own _]) cu rfl)<|tq 4 (dw (.agg [U _ _,.own _]) ol rfl)<|cm 5 rfl (zB 2004 eu ew rfl)<|gX [4,5,6,214] [0,1,2,3,4,2002,2003,2004,2005,2012] ?_;refine cm 6 Z (zB 2005 na nb Z)<|yq 7 (j8 Z)<|gD<|gT<|aR ?_;have cQ:(fu x e).c=0:=by simpa using m7
 obtain⟨gy,zJ⟩:=Qr cQ;have dY:(fu x e).l≠[]:=fun q=>by
  grind[ah]
 refine fN (.au [Bh (fu x e).b.tick ((fu x e).b.next+1) (fu x e).b.aA,.agg [int (fu x e).b.next,.own 4],int 0]) (JA (fu x e).b (fu x e).l) ?_ rfl ⟨rfl,rfl,rfl,rfl,trivial⟩;rw[zJ]at dY ⊢;exact .inr (.inr ⟨by omega,dY,by rw[xA],rfl⟩)

theorem dd.each{α:Type}{sz:Nat}{dg:World->Nat->Nat->List Value->α->Prop}{w:World}{lo hi:Nat}{v:Value}{xs:List α}{p:α->Prop}(h:dd sz dg w lo hi v xs)(hp:∀lo hi cs x,dg w lo hi cs x->p x):∀x∈xs,p x:=by
 obtain⟨a,cap,rfl,c1,c2,ml⟩:=h;intro x hx;rcases ml with hz|⟨b,off,rfl,b1,b2,hel⟩
 ·grind
 obtain⟨i,hi,rfl⟩:=List.getElem_of_mem hx;obtain⟨cs,V,_⟩:=hel i hi;grind
theorem abC{x:aw}{w:World}{v0 v1 v2:Value}(h0:dd 7 wE w 0 w.heap.size v0 x.ag)(V:dd 7 wF w 0 w.heap.size v1 x.an)(h2:dd 5 wG w 0 w.heap.size v2 x.aq)(hn:x.ag.length<=1048576):di x:=
 ⟨h0.each fun _ _ _ _ h=>h.2,V.each fun _ _ _ _ h=>h.2,h2.each fun _ _ _ _ h=>h.2,hn⟩
def Dj(S E lo hi:Nat)(f:List Nat):Prop:=S<=lo/\lo<=hi/\hi<=E/\((lo=E/\hi=E)\/(hi=lo+1/\lo∈f))
theorem Dj.none(S E:Nat)(h:S<=E):Dj S E E E []:=⟨h,Nat.le_refl _,Nat.le_refl _,.inl ⟨rfl,rfl⟩⟩
theorem Dj.apart{S E lo hi kq hU:Nat}{f f':List Nat}(h:Dj S E lo hi f)(h':Dj S E kq hU f')(hd:∀b∈f,b ∉ f'):hi<=kq\/hU<=lo:=by
 obtain⟨V,h2,h3,h4⟩:=h;obtain⟨k1,k2,k3,k4⟩:=h';grind
def rg:aw:=⟨0,0,0,[],[],[]⟩
def dp(x:aw)(e:aV):aw:=if dG x e=0 then (if (bz x e).l=[]then (bz x e).b else { (bz x e).b with next:=(bz x e).b.next+1 })else rg
def dl(x:aw)(e:aV):dX:=if dG x e=0 then (if (bz x e).l=[]then ⟨0,[]⟩else ⟨x.next,(bz x e).l⟩)else ⟨0,[]⟩
theorem Oj{x:aw}{e:aV}(h:dG x e≠0):dp x e=rg/\dl x e=⟨0,[]⟩:=by simp_all[dp,dl]
theorem ub{x:aw}{e:aV}(h:dG x e=0)(h2:(bz x e).l=[]):dp x e=(bz x e).b/\dl x e=⟨0,[]⟩:=by simp_all[dp,dl]
theorem rU{x:aw}{e:aV}(h:dG x e=0)(h2:(bz x e).l≠[]):dp x e={ (bz x e).b with next:=(bz x e).b.next+1 }/\dl x e=⟨x.next,(bz x e).l⟩:=by simp_all[dp,dl]
structure jI(r:WR):Prop where
 ag:∀c∈r.b.ag,qn c
 an:∀c∈r.b.an,ue c
 aq:∀c∈r.b.aq,vo c
 lines:∀l∈r.l,Bl l
 lc:r.b.ag.length<=100000
 lh:r.b.an.length<=100000
 li:r.b.aq.length<=100000
 ll:r.l.length<=100000
theorem Br{L:Nat->Prop}{ρ:Nat->Value}{H:Nat->AO}{w:World}{l:List AV}{c:Value}(h:RV L ρ H w (.agg l) c):∃cs,c=.agg cs.toArray/\bf L ρ H w l cs:=by trivial
theorem JO{L:Nat->Prop}{ρ:Nat->Value}{H:Nat->AO}{w:World}{l:List AV}{c:Value}(h:RV L ρ H w (.au l) c):∃cs,c=.tuple cs.toArray/\bf L ρ H w l cs:=by trivial
theorem zK{L:Nat->Prop}{ρ:Nat->Value}{H:Nat->AO}{w:World}{id:Nat}{c:Value}(h:RV L ρ H w (.own id) c)(hh:(H id).here=true):c=ρ id:=by grind[RV]

def ji(n:Int)(c:be):Prop:=(i64 c.id/\i64 c.size)/\(-n<=c.loc/\c.loc<=n)/\(-n<=c.aC/\c.aC<=n)/\(-n<=c.base/\c.base<=n)/\(-n<=c.br/\c.br<=n)/\(-n<=c.cM/\c.cM<=n)
theorem ji.wf{n:Int}{c:be}(h:ji n c)(hn:n<=9007199254740992):qn c:=by
 obtain⟨⟨V,h2⟩,h3,h4,h5,h6,h7⟩:=h;grind[qn,i64]
theorem ji.put{n m:Int}{c c':be}(h:ji n c)(V:c'.id=c.id)(h2:c'.size=c.size)(h3:(-m<=c'.loc/\c'.loc<=m)/\(-m<=c'.aC/\c'.aC<=m)/\(-m<=c'.base/\c'.base<=m)/\(-m<=c'.br/\c'.br<=m)/\(-m<=c'.cM/\c'.cM<=m)):ji m c':=⟨⟨V▸h.1.1,h2▸h.1.2⟩,h3⟩
theorem ji.mono{n m:Int}{c:be}(h:ji n c)(hn:n<=m):ji m c:=by
 refine h.put rfl rfl ?_;have:=h.2;omega
theorem MD(n:Int):-100<=lR n/\lR n<=100:=by grind[lR]
theorem ME(n:Int):-100<=lS n/\lS n<=100:=by grind[lS]
theorem OV(n:Int):-100<=lA n/\lA n<=100:=by grind[lA]
theorem JP{p q:be->Prop}{l:List be}{a:Int}{f:be->be}(h:∀c∈l,p c)(hf:∀c,p c->q (f c))(hq:∀c,p c->q c):∀c∈cC l a f,q c:=fun c hc=>by
 unfold cC at hc;grind
theorem sh{l:List be}{a:Int}{f:be->be}:(cC l a f).length=l.length:=List.length_map _
theorem mA{l:List aO}{k c n:Int}(h:∀y∈l,Bl y)(hk:i64 k)(hc:i64 c)(hn:i64 n):∀y∈bR l k c n,Bl y:=fun y hy=>by
 grind[Gb,Bl]
theorem zM(l:List aO)(k c n:Int):(bR l k c n).length<=l.length+1:=by
 grind[bR,BH]
theorem sx:∀y∈([]:List aO),Bl y:=by simp
theorem EP{l:List be}{c d:be}(h:d∈ly l c):d∈l\/d=c:=by
 grind[ly]
theorem OW(l:List be)(c:be):(ly l c).length=l.length+1:=by
 grind[ly]
theorem jI.same{x:aw}(hw:di x)(sm:kL x)(c:Int):jI ⟨x,[],c⟩:=⟨hw.ag,hw.an,hw.aq,sx,by have:=sm.lc;grind,by have:=sm.lh;grind,by have:=sm.li;grind,by simp⟩
theorem Qs{x:aw}(hw:di x)(sm:kL x):∀c∈x.ag,ji 1125899906842624 c:=fun c hc=>by
 have V:=hw.ag c hc;have h2:=sm.ag c hc;unfold qn at V;unfold bk at h2;exact⟨⟨V.1,V.2.1⟩,h2.1,h2.2.1,h2.2.2.2.1,h2.2.2.2.2,h2.2.2.1⟩
theorem aaU{x:aw}{a n:Int}{f:be->be}(hw:di x)(sm:kL x)(hf:∀c,ji 1125899906842624 c->ji 4503599627370496 (f c)):∀c∈cC x.ag a f,qn c:=fun c hc=>
 (JP (q:=ji 4503599627370496) (Qs hw sm) hf (fun c h=>h.mono (by omega)) c hc).wf (by omega)
theorem Bs{x:aw}{a b:Int}{f g:be->be}(hw:di x)(sm:kL x)(hf:∀c,ji 1125899906842624 c->ji 4503599627370496 (f c))(hg:∀c,ji 4503599627370496 c->ji 9007199254740992 (g c)):∀c∈cC (cC x.ag a f) b g,qn c:=fun c hc=>
 (JP (q:=ji 9007199254740992) (JP (q:=ji 4503599627370496) (Qs hw sm) hf (fun c h=>h.mono (by omega))) hg (fun c h=>h.mono (by omega)) c hc).wf (by omega)
theorem FL{n:Int}(h:bk n):i64 n:=by grind[bk,i64]
theorem x_11{p:Prop}(c:p:=by (unfold i64;first|omega|(dsimp only;omega))):p:=c
theorem aaV{x:aw}{e:aV}(hw:di x)(sm:kL x)(es:m8 e):jI (zb x e):=by
 have h:=jI.same hw sm 0;refine⟨h.ag,h.an,h.aq,mA (mA sx x_11 x_11 (FL es.af)) x_11 x_11 (by have:=es.af;unfold bk at this;unfold i64;omega),h.lc,h.lh,h.li,?_⟩;have V:=zM (bR [] 1 0 e.af) 2 0 (-e.af);have h2:=zM [] 1 0 e.af;show (bR (bR [] 1 0 e.af) 2 0 (-e.af)).length<=_;grind
theorem Dk(a b c d f g:Int):(bR (bR [] a b c) d f g).length<=100000:=by
 grind[zM]
theorem JQ(a b c d f g h i j:Int):(bR (bR (bR [] a b c) d f g) h i j).length<=100000:=by
 grind[zM]
theorem aaW{x:aw}{e:aV}(hw:di x)(sm:kL x)(es:m8 e)(we:l7 e):jI (sJ x e):=by
 have h:=jI.same hw sm 0;have ha:=es.af;have hf:=es.ay;by_cases q:gO x e=0
 ·rw[tK q];refine⟨fun c hc=>?_,h.an,h.aq,mA (mA sx x_11 we.2.2.1 (FL ha)) x_11 x_11 (by unfold bk at ha;unfold i64;omega),?_,h.lh,h.li,Dk _ _ _ _ _ _⟩
  ·rcases EP hc with hc|rfl
   ·exact h.ag c hc
   unfold bk at ha hf;unfold qn;refine⟨we.2.2.1,?_,?_,?_,by (unfold i64;first|omega|(dsimp only;omega)),by (unfold i64;first|omega|(dsimp only;omega)),by (unfold i64;first|omega|(dsimp only;omega))⟩<;>unfold i64<;>dsimp only<;>omega
  show (ly x.ag _).length<=_;rw[OW];have:=sm.lc;omega
 grind[sK,jI.same]
theorem aaX{x:aw}(sm:kL x)(ch:Int):bk (fz x.ag ch).loc/\bk (fz x.ag ch).aC:=by
 rcases jt x.ag ch with⟨_,q⟩|⟨i,c,_,q1,q2,_⟩
 ·grind[BM,bk]
 rw[q2];have:=sm.ag c (dB q1);grind
theorem aaY{x:aw}{e:aV}(hw:di x)(sm:kL x)(es:m8 e)(we:l7 e):jI (rH x e):=by
 have h:=jI.same hw sm 0;have hf:=es.ay;have hl:=(aaX sm e.ch).1;by_cases q:ir x e=0
 ·rw[yf q];unfold zZ;refine⟨fun c hc=>h.ag c ((List.mem_filter.1 hc).1),h.an,h.aq,mA (mA (mA sx x_11 x_11 ?_) x_11 x_11 (FL hf)) x_11 we.2.2.1 ?_,?_,h.lh,h.li,JQ _ _ _ _ _ _ _ _ _⟩
  ·unfold bk at hf hl;unfold i64;omega
  ·unfold bk at hf hl;unfold i64;omega
  have V:(ny x.ag e.ch).length<=x.ag.length:=List.length_filter_le _ _;have:=sm.lc;show (ny x.ag e.ch).length<=_;omega
 grind[tM,jI.same]
theorem aaZ{x:aw}(sm:kL x){a:Int}{f:be->be}:(cC x.ag a f).length<=100000:=by rw[sh];have:=sm.lc;omega
theorem Bt{x:aw}(sm:kL x){a b:Int}{f g:be->be}:(cC (cC x.ag a f) b g).length<=100000:=by rw[sh,sh];have:=sm.lc;omega
theorem aa0{x:aw}{e:aV}(hw:di x)(sm:kL x)(es:m8 e):jI (ou x e):=by
 have h:=jI.same hw sm 0;have ha:=es.af;have hf:=es.ay;unfold bk at ha hf;unfold ou;split
 ·grind[jI.same]
 refine⟨aaU (n:=0) hw sm (fun c hc=>?_),h.an,h.aq,sx,aaZ sm,h.lh,h.li,h.ll⟩;refine ji.put hc rfl rfl ?_;have:=hc.2;grind
theorem aa1{x:aw}{e:aV}(hw:di x)(sm:kL x)(es:m8 e)(we:l7 e):jI (sP x e):=by
 have h:=jI.same hw sm 0;have ha:=es.af;have hs:bk (cn x e):=lQ _ _;unfold bk at ha hs;by_cases q:gg x e=0
 ·rw[sR q];unfold mI;refine⟨Bs hw sm (fun c hc=>?_) (fun c hc=>?_),fun c hc=>?_,h.aq,mA (mA sx x_11 we.2.2.2.1 ?_) x_11 we.2.2.2.1 (FL es.af),Bt sm,?_,h.li,Dk _ _ _ _ _ _⟩
  ·refine ji.put hc rfl rfl ?_;have:=hc.2;dsimp only at *;omega
  ·refine ji.put hc rfl rfl ?_;have:=hc.2;dsimp only at *;omega
  ·rcases List.mem_append.1 hc with hc|hc
   ·exact h.an c hc
   rw[List.mem_singleton]at hc;subst hc;unfold ue;refine⟨we.2.1,we.2.2.1,we.2.2.2.1,?_,?_,by (unfold i64;first|omega|(dsimp only;omega))⟩<;>unfold i64<;>dsimp only<;>omega
  ·unfold i64;omega
  have:=sm.lh;simp;omega
 grind[jm,jI.same]
theorem aa2{x:aw}{e:aV}(hw:di x)(sm:kL x):jI (mR x e):=by
 have h:=jI.same hw sm 0;unfold mR;split
 ·rename_i y hy;have hm:=List.mem_of_find?_eq_some hy;have w1:=hw.an y hm;have s1:=sm.an y hm;unfold ue at w1;have Ba:(jS x.an y.key).length<=100000:=by
   have V:(jS x.an y.key).length<=x.an.length:=List.length_filter_le _ _;have:=sm.lh;omega
  have ck:∀c∈jS x.an y.key,ue c:=fun c hc=>h.an c ((List.mem_filter.1 hc).1);unfold bk at s1;unfold pN;split
  ·refine⟨Bs hw sm (fun c hc=>?_) (fun c hc=>?_),ck,h.aq,mA (mA (mA sx x_11 x_11 ?_) x_11 w1.2.1 w1.2.2.2.1) x_11 w1.2.2.1 ?_,Bt sm,Ba,h.li,JQ _ _ _ _ _ _ _ _ _⟩
   ·have:=MD c.cM;refine ji.put hc rfl rfl ?_;have:=hc.2;dsimp only at *;omega
   ·refine ji.put hc rfl rfl ?_;have:=hc.2;dsimp only at *;omega
   ·unfold i64;omega
   unfold i64;omega
  refine⟨Bs hw sm (fun c hc=>?_) (fun c hc=>?_),ck,h.aq,mA (mA sx x_11 w1.2.2.1 ?_) x_11 w1.2.2.1 ?_,Bt sm,Ba,h.li,Dk _ _ _ _ _ _⟩
  ·have:=ME c.cM;refine ji.put hc rfl rfl ?_;have:=hc.2;dsimp only at *;omega
  ·refine ji.put hc rfl rfl ?_;have:=hc.2;dsimp only at *;omega
  ·unfold i64;omega
  unfold i64;omega
 grind[jI.same]
theorem aa3{x:aw}(hw:di x)(sm:kL x):jI (p' x):=by
 have h:=jI.same hw sm 0;refine⟨fun c hc=>?_,fun c hc=>?_,h.aq,sx,?_,?_,h.li,h.ll⟩
 ·obtain⟨d,hd,rfl⟩:=List.mem_map.1 hc;unfold l8;split
  ·have V:=h.ag d hd;have h2:=OV d.cM;grind[qn,i64]
  exact h.ag d hd
 ·obtain⟨d,hd,rfl⟩:=List.mem_map.1 hc;have V:=h.an d hd;grind[ue,kx,i64]
 ·show (x.ag.map _).length<=_;rw[List.length_map];exact h.lc
 show (x.an.map _).length<=_;rw[List.length_map];exact h.lh
theorem aa4{x:aw}{e:aV}(hw:di x)(sm:kL x)(es:m8 e)(we:l7 e):jI (sS x e):=by
 have h:=jI.same hw sm 0;have ha:=es.af;have hf:=es.ay;have hs:bk (eM e.af e.ay):=lQ _ _;unfold bk at ha hs hf;by_cases q:fL x e=0
 ·rw[uZ q];unfold oH;refine⟨Bs hw sm (fun c hc=>?_) (fun c hc=>?_),h.an,fun c hc=>?_,mA (mA sx x_11 we.2.2.1 ?_) x_11 we.2.2.1 ?_,Bt sm,h.lh,?_,Dk _ _ _ _ _ _⟩
  ·refine ji.put hc rfl rfl ?_;have:=hc.2;dsimp only at *;omega
  ·refine ji.put hc rfl rfl ?_;have:=hc.2;dsimp only at *;omega
  ·rcases List.mem_append.1 hc with hc|hc
   ·exact h.aq c hc
   rw[List.mem_singleton]at hc;subst hc;unfold vo;refine⟨we.2.1,we.2.2.1,we.2.2.2.1,?_,?_⟩<;>unfold i64<;>dsimp only<;>omega
  ·unfold i64;omega
  ·unfold i64;omega
  have:=sm.li;simp;omega
 grind[od,jI.same]
theorem aa5{x:aw}{e:aV}(hw:di x)(sm:kL x):jI (nm x e):=by
 have h:=jI.same hw sm 0;unfold nm;split
 ·rename_i y hy;have hm:=List.mem_of_find?_eq_some hy;have w1:=hw.aq y hm;have s1:=sm.aq y hm;unfold vo at w1;have Ba:(jA x.aq y.key).length<=100000:=by
   have V:(jA x.aq y.key).length<=x.aq.length:=List.length_filter_le _ _;have:=sm.li;omega
  have ck:∀c∈jA x.aq y.key,vo c:=fun c hc=>h.aq c ((List.mem_filter.1 hc).1);unfold bk at s1;unfold mN;split
  ·refine⟨Bs hw sm (fun c hc=>?_) (fun c hc=>?_),h.an,ck,mA (mA (mA sx x_11 x_11 w1.2.2.2.2) x_11 w1.2.2.1 w1.2.2.2.1) x_11 w1.2.1 ?_,Bt sm,h.lh,Ba,JQ _ _ _ _ _ _ _ _ _⟩
   ·refine ji.put hc rfl rfl ?_;have:=hc.2;dsimp only at *;omega
   ·refine ji.put hc rfl rfl ?_;have:=hc.2;dsimp only at *;omega
   unfold i64;omega
  refine⟨Bs hw sm (fun c hc=>?_) (fun c hc=>?_),h.an,ck,mA (mA sx x_11 w1.2.1 ?_) x_11 w1.2.1 ?_,Bt sm,h.lh,Ba,Dk _ _ _ _ _ _⟩
  ·refine ji.put hc rfl rfl ?_;have:=hc.2;dsimp only at *;omega
  ·refine ji.put hc rfl rfl ?_;have:=hc.2;dsimp only at *;omega
  ·unfold i64;omega
  unfold i64;omega
 grind[jI.same]
theorem aa6{x:aw}{e:aV}(hw:di x)(sm:kL x)(es:m8 e)(we:l7 e):jI (bz x e):=by
 unfold bz;repeat' split
 ·exact aaV hw sm es
 ·exact aaW hw sm es we
 ·exact aaY hw sm es we
 ·exact aa0 hw sm es
 ·exact aa1 hw sm es we
 ·exact aa2 hw sm
 all_goals grind[aa3,aa4,aa5]
theorem rS{x:aw}{e:aV}(h:dG x e=0):eG x=true/\co e=true/\d8 x e=false:=by
 unfold dG at h;grind
theorem XW{x:aw}{e:aV}(hw:di x)(we:l7 e)(h:dG x e=0):jI (bz x e):=by
 obtain⟨V,h2,_⟩:=rS h;exact aa6 hw (CT V).sm (ED h2).1 we
theorem ako{x:aw}{e:aV}(hw:di x)(we:l7 e):(dp x e).ag.length<=100000/\(dp x e).an.length<=100000/\(dp x e).aq.length<=100000/\(dl x e).lines.length<=100000:=by
 by_cases q:dG x e=0
 ·have w:=XW hw we q;by_cases r:(bz x e).l=[]
  ·obtain⟨e1,e2⟩:=ub q r;rw[e1,e2];exact⟨w.lc,w.lh,w.li,by simp⟩
  obtain⟨e1,e2⟩:=rU q r;rw[e1,e2];exact⟨w.lc,w.lh,w.li,w.ll⟩
 obtain⟨e1,e2⟩:=Oj q;rw[e1,e2];unfold rg;simp

abbrev Dl(x:aw)(e:aV):AV:=.au [.agg [int (dp x e).tick,int (dp x e).next,int (dp x e).aA,.own 11,.own 12,.own 13],.agg [int (dl x e).id,.own 14],int (dG x e)]
abbrev zN(x:aw)(e:aV):List (Nat×AO):=[(11,.ai 159 7 (ah aX (dp x e).ag)),(12,df (dp x e).an),(13,d7 (dp x e).aq),(14,dc (dl x e).lines)]
def sy(w:World)(v:Value)(f:List Nat)(o:AO):Prop:=∀(L:Nat->Prop) (ρ:Nat->Value) (H:Nat->AO),OB L ρ H w v f o
theorem zO{L:Nat->Prop}{ρ:Nat->Value}{H:Nat->AO}{w:World}{v:Value}{f:List Nat}{α:Type}{enc:α->List Value}{e:TypeId}{sz:Nat}{l:List α}(h:OB L ρ H w v f (.ai ⟨e,none⟩ sz (ah enc l))):sy w v f (.ai ⟨e,none⟩ sz (ah enc l)):=fun L' ci H'=>by
 obtain⟨xs,fr,k1,k2,k3,k4,k5⟩:=h;have ke:=k1.vj yg;subst ke;exact⟨xs,[],k1,by simp,k3,k4,k5⟩
theorem sy.nil{w:World}{e:TypeId}{sz:Nat}:sy w (.slice none 0 0) [] (.ai ⟨e,none⟩ sz []):=fun L ρ H=>x_110
theorem zR{L:Nat->Prop}{ρ:Nat->Value}{H:Nat->AO}{w:World}{id:Nat}{c:Value}(h:RV L ρ H w (.own id) c):c.oneCell'=true:=by grind[RV]
theorem FM{L:Nat->Prop}{ρ:Nat->Value}{H:Nat->AO}{w:World}{id:Nat}{c:Value}(h:c.oneCell'=true)(h2:c=ρ id):RV L ρ H w (.own id) c:=by grind[RV]
theorem aa7{x:aw}{e:aV}{L:Nat->Prop}{w':World}{y:AV}{bd:List (Nat×AO)}{v:Value}{ci:Nat->Value}{bH:Nat->List Nat}(hR:FG x e y bd)(g2:RV L ci (bx bd) w' y v)(g3:∀i,OB L ci (bx bd) w' (ci i) (bH i) (bx bd i)) :
 ∃v1 v2 v3 v4:Value,∃k1 k2 k3 k4:Bool,v=.tuple #[.agg #[.int .i64 (dp x e).tick,.int .i64 (dp x e).next,.int .i64 (dp x e).aA,v1,v2,v3],.agg #[.int .i64 (dl x e).id,v4],.int .i64 (dG x e)]/\(v1.oneCell'=true/\v2.oneCell'=true/\v3.oneCell'=true/\v4.oneCell'=true)/\
  sy w' v1 (if k1 then bH 1 else []) (.ai 159 7 (ah aX (dp x e).ag))/\sy w' v2 (if k2 then bH 2 else []) (df (dp x e).an)/\sy w' v3 (if k3 then bH 3 else []) (d7 (dp x e).aq)/\sy w' v4 (if k4 then bH 4 else []) (dc (dl x e).lines):=by
 rcases hR with⟨h0,rfl,rfl⟩|⟨h0,hl,rfl,rfl⟩|⟨h0,hl,rfl,rfl⟩
 ·obtain⟨e1,e2⟩:=Oj h0
  obtain⟨cs,rfl,g⟩:=JO g2
  simp only[bf]at g
  obtain⟨v1,_,rfl,k1,v2,_,rfl,k2,v3,_,rfl,k3,rfl⟩:=g
  obtain⟨cs,rfl,g⟩:=Br k1
  simp only[bf]at g
  obtain⟨u1,_,rfl,j1,u2,_,rfl,j2,u3,_,rfl,j3,u4,_,rfl,j4,u5,_,rfl,j5,u6,_,rfl,j6,rfl⟩:=g
  obtain⟨cs,rfl,g⟩:=Br k2
  simp only[bf]at g
  obtain⟨t1,_,rfl,i1,t2,_,rfl,i2,rfl⟩:=g
  rw[j1.gd,j2.gd,j3.gd,j4.gd,j5.gd,j6.gd,i1.gd,i2.gd,k3.gd]
  refine⟨_,_,_,_,false,false,false,false,by rw[e1,e2];rfl,⟨rfl,rfl,rfl,rfl⟩,?_⟩
  rw[e1,e2]
  exact⟨sy.nil,sy.nil,sy.nil,sy.nil⟩
 ·obtain⟨e1,e2⟩:=ub h0 hl
  obtain⟨cs,rfl,g⟩:=JO g2
  simp only[bf]at g
  obtain⟨v1,_,rfl,k1,v2,_,rfl,k2,v3,_,rfl,k3,rfl⟩:=g
  obtain⟨cs,rfl,g⟩:=Br k1
  simp only[bf]at g
  obtain⟨u1,_,rfl,j1,u2,_,rfl,j2,u3,_,rfl,j3,u4,_,rfl,j4,u5,_,rfl,j5,u6,_,rfl,j6,rfl⟩:=g
  obtain⟨cs,rfl,g⟩:=Br k2
  simp only[bf]at g
  obtain⟨t1,_,rfl,i1,t2,_,rfl,i2,rfl⟩:=g
  rw[j1.gd,j2.gd,j3.gd,i1.gd,i2.gd,k3.gd]
  refine⟨_,_,_,_,true,true,true,false,by rw[e1,e2,h0],⟨zR j4,zR j5,zR j6,rfl⟩,?_⟩
  rw[e1,e2,zK j4 rfl,zK j5 rfl,zK j6 rfl]
  exact⟨zO (g3 1),zO (g3 2),zO (g3 3),sy.nil⟩
 obtain⟨e1,e2⟩:=rU h0 hl
 obtain⟨cs,rfl,g⟩:=JO g2
 simp only[bf]at g
 obtain⟨v1,_,rfl,k1,v2,_,rfl,k2,v3,_,rfl,k3,rfl⟩:=g
 obtain⟨cs,rfl,g⟩:=Br k1
 simp only[bf]at g
 obtain⟨u1,_,rfl,j1,u2,_,rfl,j2,u3,_,rfl,j3,u4,_,rfl,j4,u5,_,rfl,j5,u6,_,rfl,j6,rfl⟩:=g
 obtain⟨cs,rfl,g⟩:=Br k2
 simp only[bf]at g
 obtain⟨t1,_,rfl,i1,t2,_,rfl,i2,rfl⟩:=g
 rw[j1.gd,j2.gd,j3.gd,i1.gd,k3.gd]
 refine⟨_,_,_,_,true,true,true,true,by grind,⟨zR j4,zR j5,zR j6,zR i2⟩,?_⟩
 rw[e1,e2,zK j4 rfl,zK j5 rfl,zK j6 rfl,zK i2 rfl]
 exact⟨zO (g3 1),zO (g3 2),zO (g3 3),zO (g3 4)⟩
theorem Qt{f:FuncId}{x:aw}{e:aV}(hc:GX prog f [cj x,ju e] [] (FG x e)):GC prog f [cj x,ju e] [] (Dl x e) (zN x e):=by
 intro L w cs ρ fp hL pF bY pG ud;refine Calls.mono (hc L w cs ρ fp hL pF bY pG ud) ?_;rintro r w' ⟨y,bd,hR,v,ci,bH,rfl,g1,g2,g3,g4,g5⟩;obtain⟨v1,v2,v3,v4,k1,k2,k3,k4,rfl,⟨o1,o2,o3,o4⟩,b1,b2,b3,b4⟩:=aa7 hR g2 g3;have my:∀(k:Bool) i,∀b∈(if k then bH i else []),b∈bH i:=fun k i b hb=>by cases k<;>simp_all
 refine⟨_,_,⟨rfl,rfl⟩,_,(fun i=>if i=11 then v1 else if i=12 then v2 else if i=13 then v3 else if i=14 then v4 else undef),(fun i=>if i=11 then (if k1 then bH 1 else [])else if i=12 then (if k2 then bH 2 else [])else if i=13 then (if k3 then bH 3 else [])else if i=14 then (if k4 then bH 4 else [])else []),rfl,g1,?_,fun i=>?_,fun i j gF b hb ec=>?_,fun i b hb=>?_⟩
 ·rw[RV];refine⟨[_,_,_],rfl,?_⟩;simp only[bf];refine⟨_,_,rfl,?_,_,_,rfl,?_,_,_,rfl,fX rfl,rfl⟩
  ·rw[RV];refine⟨[_,_,_,_,_,_],rfl,?_⟩;simp only[bf];exact⟨_,_,rfl,fX rfl,_,_,rfl,fX rfl,_,_,rfl,fX rfl,_,_,rfl,FM o1 rfl,_,_,rfl,FM o2 rfl,_,_,rfl,FM o3 rfl,rfl⟩
  rw[RV];refine⟨[_,_],rfl,?_⟩;simp only[bf];exact⟨_,_,rfl,fX rfl,_,_,rfl,FM o4 rfl,rfl⟩
 ·by_cases V:i=11
  ·subst V;exact b1 _ _ _
  by_cases h2:i=12
  ·subst h2;exact b2 _ _ _
  by_cases h3:i=13
  ·subst h3;exact b3 _ _ _
  by_cases h4:i=14
  ·subst h4;exact b4 _ _ _
  simp only[if_neg V,if_neg h2,if_neg h3,if_neg h4,bx];rfl
 all_goals grind
theorem Yi(x:aw)(e:aV)(hw:di x):GC prog 41 [cj x,ju e] [] (Dl x e) (zN x e):=Qt (Z9 x e hw)
theorem Yk(x:aw)(e:aV)(hw:di x):GC prog 107 [cj x,ju e] [] (Dl x e) (zN x e):=Qt (aaT x e hw)
abbrev aa8(x:aw):AV:=.agg [int x.tick,int x.next,int x.aA,.own 1,.own 2,.own 3]
abbrev FN(u1 u2 u3:Value)(x:aw):List (Nat×AO):=[(1,.ai ⟨159,some u1⟩ 7 (ah aX x.ag)),(2,.ai ⟨218,some u2⟩ 7 (ah go x.an)),(3,.ai ⟨220,some u3⟩ 5 (ah iX x.aq))]
theorem aa9(x:aw)(e:aV):∀p∈zN x e,M2 p.2:=fun p hp=>by
 simp only[zN,List.mem_cons,List.not_mem_nil,or_false]at hp;rcases hp with rfl|rfl|rfl|rfl<;>exact⟨rfl,yg⟩
theorem OQ{f:FuncId}{u1 u2 u3:Value}{x:aw}{e:aV}(hc:GC prog f [cj x,ju e] [] (Dl x e) (zN x e)):GC prog f [aa8 x,ju e] (FN u1 u2 u3 x) (Dl x e) (zN x e++FN u1 u2 u3 x):=
 hc.Ae rfl rfl (by intro id hid;simp[s7,vN]at hid;rcases hid with rfl|rfl|rfl|rfl<;>rfl) (by intro p hp;simp[FN]at hp;rcases hp with rfl|rfl|rfl<;>rfl) (aa9 x e) (by intro p hp;simp[FN]at hp;rcases hp with rfl|rfl|rfl<;>rfl)

structure fg where
 now:aw
 jD:List Int
 ps:List dX
def kz(s:fg)(e:aV):fg:=⟨if dG s.now e=0 then dp s.now e else s.now,s.jD++[dG s.now e],if dG s.now e=0/\(dl s.now e).lines≠[]then s.ps++[dl s.now e]else s.ps⟩
def bK(x:aw)(es:List aV):fg:=es.foldl kz ⟨x,[],[]⟩
theorem Tb(x:aw):bK x []=⟨x,[],[]⟩:=rfl
theorem fl{x:aw}{es:List aV}{k:Nat}(h:k<es.length):bK x (es.take (k+1))=kz (bK x (es.take k)) es[k]:=by
 grind[bK,List.take_succ_eq_append_getElem]
theorem XV{x:aw}{e:aV}(hw:di x)(we:l7 e):di (dp x e):=by
 by_cases q:dG x e=0
 ·have w:=XW hw we q;have hl:=w.lc;by_cases r:(bz x e).l=[]
  ·rw[(ub q r).1];exact⟨w.ag,w.an,w.aq,by omega⟩
  rw[(rU q r).1];exact⟨w.ag,w.an,w.aq,by grind⟩
 rw[(Oj q).1];unfold rg;exact⟨by simp,by simp,by simp,by simp⟩
theorem XX{s:fg}{e:aV}(hw:di s.now)(we:l7 e):di (kz s e).now:=by
 grind[kz,XV]
theorem D9{x:aw}{es:List aV}(hw:di x)(we:∀e∈es,l7 e):∀k,k<=es.length->di (bK x (es.take k)).now
 |0,_=>by trivial
 |k+1,h=>by
  rw[fl (by omega)];exact XX (D9 hw we k (by omega)) (we _ (List.getElem_mem _))
theorem Ds{x:aw}{es:List aV}:∀k,k<=es.length->(bK x (es.take k)).jD.length=k
 |0,_=>by rfl
 |k+1,h=>by
  rw[fl (by omega)];have:=Ds (x:=x) k (by omega:k<=es.length);unfold kz;simp;exact this
theorem zU{x:aw}{es:List aV}:∀k,k<=es.length->(bK x (es.take k)).ps.length<=k
 |0,_=>by rw[List.take_zero];exact Nat.le_refl _
 |k+1,h=>by
  rw[fl (by omega)];have:=zU (x:=x) k (by omega:k<=es.length);unfold kz;dsimp only;split
  ·simp;omega
  omega
def qI(ps:List dX):List (List PV):=ps.map fun p=>[.v (.int .i64 p.id),.ab 167 3 (ah ct p.lines)]
theorem fw(l:List dX):(qI l).length=l.length:=List.length_map _
theorem Ok{x:aw}{e:aV}(hb:dG x e=0):decide (0<(dl x e).id)=!decide ((dl x e).lines=[]):=by
 obtain⟨V,h2,h3⟩:=rS hb;have hn:=(xO V).2.2.1;have:=cJ.1 hn;by_cases r:(bz x e).l=[]
 ·simp_all[ub]
 rw[(rU hb r).2];grind
theorem Fk{s:fg}{e:aV}(h:dG s.now e=0):(kz s e).now=dp s.now e:=if_pos h
theorem Ol{s:fg}{e:aV}(h:dG s.now e≠0):(kz s e).now=s.now:=if_neg h
theorem Om{s:fg}{e:aV}(h:dG s.now e=0)(h2:(dl s.now e).lines≠[]):(kz s e).ps=s.ps++[dl s.now e]:=if_pos ⟨h,h2⟩
theorem On{s:fg}{e:aV}(h:dG s.now e≠0):(kz s e).ps=s.ps:=if_neg fun q=>h q.1
theorem Oo{s:fg}{e:aV}(h2:(dl s.now e).lines=[]):(kz s e).ps=s.ps:=if_neg fun q=>q.2 h2

def lH(vs:List Value)(ps:List dX):List (List PV):=List.zipWith (fun v (p:dX)=>[.v (.int .i64 p.id),.v v]) vs ps
def fZ(vs:List Value)(ps:List dX):List AO:=List.zipWith (fun v (p:dX)=>.ai ⟨167,some v⟩ 3 (ah ct p.lines)) vs ps
theorem zu{vs:List Value}{ps:List dX}(h:vs.length=ps.length):(lH vs ps).length=ps.length:=by grind[lH]
theorem OL{vs:List Value}{ps:List dX}(h:vs.length=ps.length):(fZ vs ps).length=ps.length:=by grind[fZ]
theorem OM{vs:List Value}{ps:List dX}{u:Value}{p:dX}(h:vs.length=ps.length):lH (vs++[u]) (ps++[p])=lH vs ps++[[.v (.int .i64 p.id),.v u]]:=by simp_all[lH,List.zipWith_append]
theorem ON{vs:List Value}{ps:List dX}{u:Value}{p:dX}(h:vs.length=ps.length):fZ (vs++[u]) (ps++[p])=fZ vs ps++[.ai ⟨167,some u⟩ 3 (ah ct p.lines)]:=by simp_all[fZ,List.zipWith_append]
theorem zv:∀ {vs:List Value} {ps:List dX},dS (fZ vs ps)
 |[],_=>by simp[fZ,dS.nil]
 |_::_,[]=>by simp[fZ,dS.nil]
 |v::vs,p::ps=>fun o ho=>by
  unfold fZ at ho;rw[List.zipWith_cons_cons]at ho;rcases List.mem_cons.1 ho with rfl|ho
  ·rfl
  exact zv (vs:=vs) (ps:=ps) o ho
theorem Yg{vs:List Value}{ps:List dX}{i:Nat}(h:vs.length=ps.length)(hi:i<ps.length):(lH vs ps)[i]? = some [.v (.int .i64 ps[i].id),.v (vs[i]'(by omega))]:=by
 grind[lH]
theorem Yh{vs:List Value}{ps:List dX}{i:Nat}(h:vs.length=ps.length)(hi:i<ps.length):(fZ vs ps)[i]? = some (.ai ⟨167,some (vs[i]'(by omega))⟩ 3 (ah ct ps[i].lines)):=by
 grind[fZ]
theorem Tk{H:Nat->AO}{F:List AO}(hT:Tl H F){vs:List Value}{ps:List dX}(h:vs.length=ps.length){s:Nat}(hF:∀i,i<ps.length->F[s+i]? = (fZ vs ps)[i]?):kf (kf (vm H)) (lH vs ps) (qI ps):=by
 refine Eh (by rw[zu h,fw]) fun i a b ha hb=>?_;have hi:i<ps.length:=by have:=(List.getElem?_eq_some_iff.1 hb).1;rwa [fw]at this
 rw[Yg h hi]at ha;unfold qI at hb;rw[List.getElem?_map,List.getElem?_eq_getElem hi]at hb;injection ha with ha;injection hb with hb;subst ha hb;refine .cons (.inl rfl) (.cons (.inr ⟨_,1000000+(s+i),_,_,_,rfl,?_,rfl⟩) .nil);rw[hT.1,hF i hi,Yh h hi];rfl

def sB(x:aw)(es:List aV):fg:=if eG x=true then bK x es else ⟨rg,[],[]⟩
theorem OO{x:aw}{es:List aV}(h:eG x=true):sB x es=bK x es:=if_pos h
theorem OP{x:aw}{es:List aV}(h:eG x=false):sB x es=⟨rg,[],[]⟩:=if_neg (by simp[h])
abbrev pR(l:List Int):AO:=.ai 3 1 (ah kt l)
abbrev qx(x:aw):AO:=.box 50 none [int x.tick,int x.next,int x.aA,.own 1,.own 2,.own 3]
abbrev Ag(r:fg)(vs:List Value):List (Nat×AO):=[(1,.ai 159 7 (ah aX r.now.ag)),(2,df r.now.an),(3,d7 r.now.aq),(14,.ai 92 2 (lH vs r.ps)),(15,pR r.jD)]
abbrev CS(r:fg):AV:=.au [.agg [int r.now.tick,int r.now.next,int r.now.aA,.own 1,.own 2,.own 3],.own 14,.own 15]
def GW(r:fg):AV->List (Nat×AO)->List AO->Prop:=fun y l1 F1=>∃vs:List Value,vs.length=r.ps.length/\y=CS r/\l1=Ag r vs/\F1=fZ vs r.ps
theorem x_22{p:Prop}(c:p:=by exact Eq.trans (b:=pR ((bK x (es.take k)).jD++[dG (bK x (es.take k)).now es[k]])) (congrArg (AO.ai 3 1) (fx kt _ [_]).symm) rfl):p:=c
theorem x_53{p:Prop}(c:p:=by exact congrArg (fun s:fg=>AO.ai 159 7 (ah aX s.now.ag)) (fl hk).symm):p:=c
theorem x_60{p:Prop}(c:p:=by exact congrArg (fun b:aw=>AO.ai 159 7 (ah aX b.ag)) hn.symm):p:=c
theorem x_70{p:Prop}(c:p:=by exact congrArg (fun s:fg=>df s.now.an) (fl hk).symm):p:=c
theorem x_71{p:Prop}(c:p:=by exact congrArg (fun s:fg=>d7 s.now.aq) (fl hk).symm):p:=c
theorem x_78{p:Prop}(c:p:=by exact congrArg (fun s:fg=>qx s.now) (fl hk).symm):p:=c
theorem x_79{p:Prop}(c:p:=by exact congrArg (fun s:fg=>pR s.jD) (fl hk).symm):p:=c
theorem x_88{p:Prop}(c:p:=by exact congrArg (AO.ai 3 1) (fx kt _ [_]).symm):p:=c
theorem x_104{p:Prop}(c:p:=by exact congrArg (fun b:aw=>df b.an) hn.symm):p:=c
theorem x_105{p:Prop}(c:p:=by exact congrArg (fun b:aw=>d7 b.aq) hn.symm):p:=c
theorem x_107{p:Prop}(c:p:=by exact congrArg (fun s:fg=>AO.ai 92 2 (lH vs s.ps)) (fl hk).symm):p:=c
theorem x_128{p:Prop}(c:p:=by exact congrArg (fun p=>AO.ai 92 2 (lH vs p)) hp.symm):p:=c
theorem Tm(x:aw)(es:List aV)(hw:di x)(we:∀e∈es,l7 e)(hm:es.length<=1048576):GN prog 35 [cj x,.p (.ab 81 7 (ah fR es))] [] ([]) (GW (sB x es)):=by
 refine GN.intro (rs:=[.cell 4 50 (some 6),.tmp 5,.tmp 6]) func35 rfl ntmps35 x_7 ⟨rfl,rfl,cu,rfl,rfl,trivial⟩ rfl ?_;intro L O w0;refine sL<|ab (zX 2002 Z) Z<|ab (zA 2004 mD Z) Z<|e9 Z<|e9 Z<|Y<|aS<|sL<|aP (.agg [U _ _,U _ _,U _ _,vL _ _ _,vL _ _ _,vL _ _ _]) cu Z<|ab (zL func101 (Do x hw) Z) Z<|bX Z<|Y ?_;refine AW.cond rfl ?_ ?_
 ·intro V;refine sL<|lq (rd (x:=.agg [U _ _,U _ _,U _ _,vV _,vV _,vV _]) (cP Z s6 Z Z Z) Z)<|ab (zB 2004 eu ew Z) Z<|e9 Z<|e9 Z<|Y ?_;refine AW.pi 1 2004 3 159 7 rfl (by decide) rfl ?_;refine AW.pi 2 2004 4 218 7 rfl (by decide) rfl ?_;refine AW.pi 3 2004 5 220 5 rfl (by decide) rfl ?_;refine AW.oP 14 5 92 2 rfl ?_;refine AW.oP 15 6 3 1 rfl ?_;refine aR<|rT ?_;have jr:eG x=false:=by simpa using V
  rw[OP jr];refine vW (F1:=[]) (CS ⟨rg,[],[]⟩) (Ag ⟨rg,[],[]⟩ []) ?_ (by simp) rfl rfl ⟨rfl,rfl,rfl,rfl,rfl,trivial⟩ ki;exact⟨[],rfl,rfl,rfl,rfl⟩
 intro V;refine aK<|gT<|aS ?_;have jr:eG x=true:=by simpa using V
 have fi:=CT jr;have sm:=fi.sm;have yz:=D9 hw we;refine aL<|aP (.agg [U _ _,U _ _,U _ _,vL _ _ _,vL _ _ _,vL _ _ _]) cu Z<|ab (zC [(2005,1),(2009,2),(2013,3)] [1,2,3] [] func56 (KY x x_133) (trivial) rfl rfl) Z<|ab (zA 2007 mD rfl) rfl ?_;refine xH ([]) [1,4,5,6,7,20] [1,2,3,2002,2004,2007] ?_;refine ab (zB 2007 eu ew Z) Z<|nA<|e9 Z<|Y ?_;refine AW.oP 14 8 92 2 rfl ?_;refine sL<|e9 Z<|Y ?_;refine AW.oP 15 9 3 1 rfl ?_;refine aS<|sL<|bm Z<|ba jZ Z<|ae Z<|Y<|aB ?_;refine E8 (D:=Nat×List Value) [(4,.ptr 2004 _ 0),(5,vV _),(6,vV _),(7,.ptr 2007 _ 0),(8,.own _),(9,.own _),(21,vL _ _ _),(22,U _ _)] [(2002,.box _ _ [U _ _,U _ _,U _ _,vL _ _ _,vL _ _ _,vL _ _ _]),(2004,.box _ _ [U _ _,U _ _,U _ _,vV _,vV _,vV _])] (fun d=>[(23,int (d.1:Int))]) (fun d=>[(2007,qx (bK x (es.take d.1)).now),(1,.ai 159 7 (ah aX (bK x (es.take d.1)).now.ag)),(2,df (bK x (es.take d.1)).now.an),(3,d7 (bK x (es.take d.1)).now.aq),(14,.ai 92 2 (lH d.2 (bK x (es.take d.1)).ps)),(15,pR (bK x (es.take d.1)).jD)]) (fun d=>fZ d.2 (bK x (es.take d.1)).ps) (fun d=>d.1<=es.length/\d.2.length=(bK x (es.take d.1)).ps.length) (fun d=>es.length-d.1) ((0,[])) (⟨Nat.zero_le _,by rfl⟩) ⟨rfl,trivial⟩ ⟨(by rfl),(by rfl),(by rfl),(by rfl),(by rfl),(by rfl),trivial⟩ ⟨rfl,rfl,rfl,rfl,rfl,rfl,rfl,rfl,trivial⟩ ⟨rfl,rfl,trivial⟩ (by rw[List.take_zero];exact ki) ?_;intro ⟨k,vs⟩ hI;obtain⟨eN,gl⟩:=hI;replace eN:k<=es.length:=eN;replace gl:vs.length=(bK x (es.take k)).ps.length:=gl;have ke:dS (fZ vs (bK x (es.take k)).ps):=zv;refine sL<|ak Z<|Y<|aS ?_;refine AW.cond rfl ?_ ?_
 ·intro h2;refine aK<|gT<|aS<|aB<|sL ?_;have hk:k<es.length:=by simpa[ap]using h2
  have Ac:=yz k eN;have oF:=Ds (x:=x) k eN;have CU:=zU (x:=x) k eN;refine li k jk Z (bS hk)<|d6 (.agg [U _ _,U _ _,U _ _,U _ _,U _ _,U _ _,vB _]) dD Z<|ab (zA 2011 jl Z) Z<|ab (zB 2011 mZ m0 Z) Z<|Y<|aS ?_;refine AW.mU 1 rfl ?_;intro u1;refine AW.mU 2 rfl ?_;intro u2;refine AW.mU 3 rfl ?_;intro u3;refine aL<|aP (.agg [U _ _,U _ _,U _ _,.own _,.own _,.own _]) cu Z<|aP (.agg [U _ _,U _ _,U _ _,U _ _,U _ _,U _ _,vB _]) dD Z ?_;refine ab (zC [(1,1),(2,2),(3,3),(11,61),(12,62),(13,63),(14,64)] [61,62,63,64] [1,2,3] func41 (OQ (Yi _ es[k] Ac)) (⟨stays.ai rfl,stays.ai rfl,stays.ai rfl,trivial⟩) rfl rfl) rfl ?_;refine xH (fZ vs (bK x (es.take k)).ps) [4,5,6,7,8,9,21,22,23,30] [1,2,3,14,15,61,62,63,64,2002,2004,2007,2011] ?_;refine cT (.au [.agg [U _ _,U _ _,U _ _,.own _,.own _,.own _],.agg [U _ _,.own _],U _ _]) Z<|iB (.agg [U _ _,U _ _,U _ _,.own _,.own _,.own _]) Z<|iB (.agg [U _ _,.own _]) Z<|dE Z<|ab (zA 2012 mD rfl) Z<|ab (zA 2013 pC rfl) Z<|ab (zB 2012 eu ew rfl) Z<|ab (zB 2013 na nb rfl) Z<|ao Z<|nA<|bW Z<|ae Z<|ab (zS 2036 (ah kt [dG (bK x (es.take k)).now es[k]]) iU lY rfl) Z<|ab (zP 15 iU lY uy rfl x_14 x_69) Z<|bD Z<|Y<|aS<|sL<|ae Z<|ak Z<|Y ?_;refine AW.cond rfl ?_ ?_
  ·intro h3;refine aE<|eT<|eB<|gT ?_;have cQ:dG (bK x (es.take k)).now es[k]≠0:=by simpa using h3
   refine iQ 1 rfl ?_;refine iQ 2 rfl ?_;refine iQ 3 rfl ?_;refine mi (fZ vs (bK x (es.take k)).ps) [4,5,6,7,8,9,21,22,23] [1,2,3,14,15,2002,2004,2007,2011,2012,2013,2036] ?_;refine aL<|bg Z<|ae Z<|Y ?_;have hn:(kz (bK x (es.take k)) es[k]).now=(bK x (es.take k)).now:=Ol cQ;have hp:(kz (bK x (es.take k)) es[k]).ps=(bK x (es.take k)).ps:=On cQ;refine⟨(k+1,vs),⟨hk,(by grind[fl])⟩,by omega,x_10,⟨(Eq.trans (congrArg qx hn.symm) (congrArg (fun s:fg=>qx s.now) (fl hk).symm)),(Eq.trans (congrArg (fun b:aw=>AO.ai 159 7 (ah aX b.ag)) hn.symm) (congrArg (fun s:fg=>AO.ai 159 7 (ah aX s.now.ag)) (fl hk).symm)),(Eq.trans (congrArg (fun b:aw=>df b.an) hn.symm) (congrArg (fun s:fg=>df s.now.an) (fl hk).symm)),(Eq.trans (congrArg (fun b:aw=>d7 b.aq) hn.symm) (congrArg (fun s:fg=>d7 s.now.aq) (fl hk).symm)),(Eq.trans (congrArg (fun p=>AO.ai 92 2 (lH vs p)) hp.symm) (congrArg (fun s:fg=>AO.ai 92 2 (lH vs s.ps)) (fl hk).symm)),(Eq.trans (Eq.trans (b:=pR ((bK x (es.take k)).jD++[dG (bK x (es.take k)).now es[k]])) (congrArg (AO.ai 3 1) (fx kt _ [_]).symm) rfl) (congrArg (fun s:fg=>pR s.jD) (fl hk).symm)),trivial⟩,⟨rfl,rfl,rfl,rfl,rfl,rfl,rfl,rfl,trivial⟩,⟨rfl,rfl,trivial⟩,(by rw[fl hk,hp];exact ki)⟩
  intro h3;refine aK<|gA<|aP (.agg [U _ _,U _ _,U _ _,.own _,.own _,.own _]) cu Z<|ab (zB 2007 eu ew Z) Z<|nA<|lf 1 t7 Z<|iO gY Z<|ba hZ Z<|ak Z<|Y ?_;refine AW.cond rfl ?_ ?_
  ·intro h4;refine mi (fZ vs (bK x (es.take k)).ps) [4,5,6,7,8,9,13,21,22,23] [1,2,3,14,15,61,62,63,64,2002,2004,2007,2011,2012,2013,2036] ?_;refine AW.mU 64 rfl ?_;intro u64;refine mi (fZ vs (bK x (es.take k)).ps) [4,5,6,7,8,9,13,21,22,23] [1,2,3,14,15,61,62,63,64,2002,2004,2007,2011,2012,2013,2036] ?_;refine Oz 64 rfl rfl zv ?_;have Yj:dS (fZ vs (bK x (es.take k)).ps++[.ai ⟨167,some u64⟩ 3 (ah ct (dl (bK x (es.take k)).now es[k]).lines)]):=zv.gJ (fun o ho=>by rw[List.mem_singleton.1 ho];rfl);refine aL<|bW Z<|aP (.agg [U _ _,vV _]) ol Z<|ab (zS 2047 [[.v (.int .i64 (dl (bK x (es.take k)).now es[k]).id),.v u64]] vb pC rfl (by simp)) Z<|ab (zP 14 vb pC NC rfl x_14 (by grind[zu])) Z<|bD Z<|lN<|gB<|gT ?_;have cQ:dG (bK x (es.take k)).now es[k]=0:=by simpa using h3
   refine AW.swap 61 1 ?_;refine mi ((fZ vs (bK x (es.take k)).ps++[.ai ⟨167,some u64⟩ 3 (ah ct (dl (bK x (es.take k)).now es[k]).lines)])) [4,5,6,7,8,9,21,22,23] [1,2,3,14,15,61,62,63,2002,2004,2007,2011,2012,2013,2036,2047] ?_;refine AW.swap 62 2 ?_;refine mi ((fZ vs (bK x (es.take k)).ps++[.ai ⟨167,some u64⟩ 3 (ah ct (dl (bK x (es.take k)).now es[k]).lines)])) [4,5,6,7,8,9,21,22,23] [1,2,3,14,15,61,62,63,2002,2004,2007,2011,2012,2013,2036,2047] ?_;refine AW.swap 63 3 ?_;refine mi ((fZ vs (bK x (es.take k)).ps++[.ai ⟨167,some u64⟩ 3 (ah ct (dl (bK x (es.take k)).now es[k]).lines)])) [4,5,6,7,8,9,21,22,23] [1,2,3,14,15,61,62,63,2002,2004,2007,2011,2012,2013,2036,2047] ?_;refine mi ((fZ vs (bK x (es.take k)).ps++[.ai ⟨167,some u64⟩ 3 (ah ct (dl (bK x (es.take k)).now es[k]).lines)])) [4,5,6,7,8,9,21,22,23] [1,2,3,14,15,2002,2004,2007,2011,2012,2013,2036,2047] ?_;refine aL<|bg Z<|ae Z<|Y ?_;have hn:(kz (bK x (es.take k)) es[k]).now=dp (bK x (es.take k)).now es[k]:=Fk cQ;have dY:(dl (bK x (es.take k)).now es[k]).lines≠[]:=fun q=>by grind[ah]
   have hp:(kz (bK x (es.take k)) es[k]).ps=(bK x (es.take k)).ps++[dl (bK x (es.take k)).now es[k]]:=Om cQ dY;refine⟨(k+1,vs++[u64]),⟨hk,(by grind[fl])⟩,by omega,x_10,⟨(Eq.trans (congrArg qx hn.symm) (congrArg (fun s:fg=>qx s.now) (fl hk).symm)),(Eq.trans (congrArg (fun b:aw=>AO.ai 159 7 (ah aX b.ag)) hn.symm) (congrArg (fun s:fg=>AO.ai 159 7 (ah aX s.now.ag)) (fl hk).symm)),(Eq.trans (congrArg (fun b:aw=>df b.an) hn.symm) (congrArg (fun s:fg=>df s.now.an) (fl hk).symm)),(Eq.trans (congrArg (fun b:aw=>d7 b.aq) hn.symm) (congrArg (fun s:fg=>d7 s.now.aq) (fl hk).symm)),(Eq.trans (congrArg (AO.ai 92 2) (show _=lH (vs++[u64]) (kz (bK x (es.take k)) es[k]).ps by rw[hp,OM gl])) (congrArg (fun s:fg=>AO.ai 92 2 (lH (vs++[u64]) s.ps)) (fl hk).symm)),(Eq.trans (Eq.trans (b:=pR ((bK x (es.take k)).jD++[dG (bK x (es.take k)).now es[k]])) (congrArg (AO.ai 3 1) (fx kt _ [_]).symm) rfl) (congrArg (fun s:fg=>pR s.jD) (fl hk).symm)),trivial⟩,⟨rfl,rfl,rfl,rfl,rfl,rfl,rfl,rfl,trivial⟩,⟨rfl,rfl,trivial⟩,(by rw[fl hk,hp,ON gl];exact ki)⟩
  intro h4;refine aK<|gB<|gT ?_;have cQ:dG (bK x (es.take k)).now es[k]=0:=by simpa using h3
  refine AW.swap 61 1 ?_;refine mi (fZ vs (bK x (es.take k)).ps) [4,5,6,7,8,9,21,22,23] [1,2,3,14,15,61,62,63,64,2002,2004,2007,2011,2012,2013,2036] ?_;refine AW.swap 62 2 ?_;refine mi (fZ vs (bK x (es.take k)).ps) [4,5,6,7,8,9,21,22,23] [1,2,3,14,15,61,62,63,64,2002,2004,2007,2011,2012,2013,2036] ?_;refine AW.swap 63 3 ?_;refine mi (fZ vs (bK x (es.take k)).ps) [4,5,6,7,8,9,21,22,23] [1,2,3,14,15,61,62,63,64,2002,2004,2007,2011,2012,2013,2036] ?_;refine mi (fZ vs (bK x (es.take k)).ps) [4,5,6,7,8,9,21,22,23] [1,2,3,14,15,2002,2004,2007,2011,2012,2013,2036] ?_;refine aL<|bg Z<|ae Z<|Y ?_;have hn:(kz (bK x (es.take k)) es[k]).now=dp (bK x (es.take k)).now es[k]:=Fk cQ;have dY:(dl (bK x (es.take k)).now es[k]).lines=[]:=List.length_eq_zero_iff.1 x_31;have hp:(kz (bK x (es.take k)) es[k]).ps=(bK x (es.take k)).ps:=Oo dY;refine⟨(k+1,vs),⟨hk,(by grind[fl])⟩,by omega,x_10,⟨(Eq.trans (congrArg qx hn.symm) (congrArg (fun s:fg=>qx s.now) (fl hk).symm)),(Eq.trans (congrArg (fun b:aw=>AO.ai 159 7 (ah aX b.ag)) hn.symm) (congrArg (fun s:fg=>AO.ai 159 7 (ah aX s.now.ag)) (fl hk).symm)),(Eq.trans (congrArg (fun b:aw=>df b.an) hn.symm) (congrArg (fun s:fg=>df s.now.an) (fl hk).symm)),(Eq.trans (congrArg (fun b:aw=>d7 b.aq) hn.symm) (congrArg (fun s:fg=>d7 s.now.aq) (fl hk).symm)),(Eq.trans (congrArg (fun p=>AO.ai 92 2 (lH vs p)) hp.symm) (congrArg (fun s:fg=>AO.ai 92 2 (lH vs s.ps)) (fl hk).symm)),(Eq.trans (Eq.trans (b:=pR ((bK x (es.take k)).jD++[dG (bK x (es.take k)).now es[k]])) (congrArg (AO.ai 3 1) (fx kt _ [_]).symm) rfl) (congrArg (fun s:fg=>pR s.jD) (fl hk).symm)),trivial⟩,⟨rfl,rfl,rfl,rfl,rfl,rfl,rfl,rfl,trivial⟩,⟨rfl,rfl,trivial⟩,(by rw[fl hk,hp];exact ki)⟩
 intro h2;refine aE<|eT<|eT<|eB<|gA<|aP (.agg [U _ _,U _ _,U _ _,.own _,.own _,.own _]) cu Z<|bW Z<|bW Z<|ab (zB 2004 eu ew Z) Z<|bD Z<|bD Z<|Y<|aR ?_;have dZ:k=es.length:=by have h:=h2;simp only[ap,decide_eq_false_iff_not]at h;omega
 subst dZ;rw[OO jr];rw[List.take_length]at gl ke;have CU:=zU (x:=x) (es:=es) es.length (Nat.le_refl _);rw[List.take_length]at CU ⊢;refine vW (F1:=(fZ vs (bK x es).ps)) (CS (bK x es)) (Ag (bK x es) vs) ?_ (by grind[OL]) rfl rfl ⟨rfl,rfl,rfl,rfl,rfl,trivial⟩ ki;exact⟨vs,gl,rfl,rfl,rfl⟩
theorem Tn(x:aw)(es:List aV)(hw:di x)(we:∀e∈es,l7 e)(hm:es.length<=1048576):GN prog 167 [cj x,.p (.ab 81 7 (ah fR es))] [] ([]) (GW (sB x es)):=by
 refine GN.intro (rs:=[.cell 4 50 (some 6),.tmp 5,.tmp 6]) func167 rfl ntmps167 x_7 ⟨rfl,rfl,cu,rfl,rfl,trivial⟩ rfl ?_;intro L O w0;refine sL<|ab (zX 2002 Z) Z<|ab (zA 2004 mD Z) Z<|e9 Z<|e9 Z<|Y<|aS<|sL<|aP (.agg [U _ _,U _ _,U _ _,vL _ _ _,vL _ _ _,vL _ _ _]) cu Z<|ab (zL func179 (Dn x hw) Z) Z<|bX Z<|Y ?_;refine AW.cond rfl ?_ ?_
 ·intro V;refine sL<|lq (rd (x:=.agg [U _ _,U _ _,U _ _,vV _,vV _,vV _]) (cP Z s6 Z Z Z) Z)<|ab (zB 2004 eu ew Z) Z<|e9 Z<|e9 Z<|Y ?_;refine AW.pi 1 2004 3 159 7 rfl (by decide) rfl ?_;refine AW.pi 2 2004 4 218 7 rfl (by decide) rfl ?_;refine AW.pi 3 2004 5 220 5 rfl (by decide) rfl ?_;refine AW.oP 14 5 92 2 rfl ?_;refine AW.oP 15 6 3 1 rfl ?_;refine aR<|rT ?_;have jr:eG x=false:=by simpa using V
  rw[OP jr];refine vW (F1:=[]) (CS ⟨rg,[],[]⟩) (Ag ⟨rg,[],[]⟩ []) ?_ (by simp) rfl rfl ⟨rfl,rfl,rfl,rfl,rfl,trivial⟩ ki;exact⟨[],rfl,rfl,rfl,rfl⟩
 intro V;refine aK<|gT<|aS ?_;have jr:eG x=true:=by simpa using V
 have fi:=CT jr;have sm:=fi.sm;have yz:=D9 hw we;refine aL<|aP (.agg [U _ _,U _ _,U _ _,vL _ _ _,vL _ _ _,vL _ _ _]) cu Z<|ab (zC [(2003,1),(2008,2),(2013,3)] [1,2,3] [] func132 (OR x x_133) (trivial) rfl rfl) Z<|ab (zA 2007 mD rfl) rfl ?_;refine xH ([]) [1,4,5,6,7,20] [1,2,3,2002,2004,2007] ?_;refine ab (zB 2007 eu ew rfl) Z<|nA<|ab (zS 14 [] vb pC rfl (by simp)) Z<|bD Z<|nA<|ab (zS 15 [] iU lY rfl (by simp)) Z<|bD Z<|Y<|aS<|sL<|bm Z<|ba jZ Z<|ae Z<|Y<|aB ?_;refine E8 (D:=Nat×List Value) [(4,.ptr 2004 _ 0),(5,vV _),(6,vV _),(7,.ptr 2007 _ 0),(8,.own _),(9,.own _),(23,vL _ _ _),(24,U _ _)] [(2002,.box _ _ [U _ _,U _ _,U _ _,vL _ _ _,vL _ _ _,vL _ _ _]),(2004,.box _ _ [U _ _,U _ _,U _ _,vV _,vV _,vV _])] (fun d=>[(25,int (d.1:Int))]) (fun d=>[(2007,qx (bK x (es.take d.1)).now),(1,.ai 159 7 (ah aX (bK x (es.take d.1)).now.ag)),(2,df (bK x (es.take d.1)).now.an),(3,d7 (bK x (es.take d.1)).now.aq),(14,.ai 92 2 (lH d.2 (bK x (es.take d.1)).ps)),(15,pR (bK x (es.take d.1)).jD)]) (fun d=>fZ d.2 (bK x (es.take d.1)).ps) (fun d=>d.1<=es.length/\d.2.length=(bK x (es.take d.1)).ps.length) (fun d=>es.length-d.1) ((0,[])) (⟨Nat.zero_le _,by rfl⟩) ⟨rfl,trivial⟩ ⟨(by rfl),(by rfl),(by rfl),(by rfl),(by rfl),(by rfl),trivial⟩ ⟨rfl,rfl,rfl,rfl,rfl,rfl,rfl,rfl,trivial⟩ ⟨rfl,rfl,trivial⟩ (by rw[List.take_zero];exact ki) ?_;intro ⟨k,vs⟩ hI;obtain⟨eN,gl⟩:=hI;replace eN:k<=es.length:=eN;replace gl:vs.length=(bK x (es.take k)).ps.length:=gl;have ke:dS (fZ vs (bK x (es.take k)).ps):=zv;refine sL<|ak Z<|Y<|aS ?_;refine AW.cond rfl ?_ ?_
 ·intro h2;refine aK<|gT<|aS<|aB<|sL ?_;have hk:k<es.length:=by simpa[ap]using h2
  have Ac:=yz k eN;have oF:=Ds (x:=x) k eN;have CU:=zU (x:=x) k eN;refine li k jk Z (bS hk)<|d6 (.agg [U _ _,U _ _,U _ _,U _ _,U _ _,U _ _,vB _]) dD Z<|ab (zA 2011 jl Z) Z<|ab (zB 2011 mZ m0 Z) Z<|Y<|aS ?_;refine AW.mU 1 rfl ?_;intro u1;refine AW.mU 2 rfl ?_;intro u2;refine AW.mU 3 rfl ?_;intro u3;refine aL<|aP (.agg [U _ _,U _ _,U _ _,.own _,.own _,.own _]) cu Z<|aP (.agg [U _ _,U _ _,U _ _,U _ _,U _ _,U _ _,vB _]) dD Z ?_;refine ab (zC [(1,1),(2,2),(3,3),(11,61),(12,62),(13,63),(14,64)] [61,62,63,64] [1,2,3] func107 (OQ (Yk _ es[k] Ac)) (⟨stays.ai rfl,stays.ai rfl,stays.ai rfl,trivial⟩) rfl rfl) rfl ?_;refine xH (fZ vs (bK x (es.take k)).ps) [4,5,6,7,8,9,23,24,25,32] [1,2,3,14,15,61,62,63,64,2002,2004,2007,2011] ?_;refine cT (.au [.agg [U _ _,U _ _,U _ _,.own _,.own _,.own _],.agg [U _ _,.own _],U _ _]) Z<|iB (.agg [U _ _,U _ _,U _ _,.own _,.own _,.own _]) Z<|iB (.agg [U _ _,.own _]) Z<|dE Z<|ab (zA 2012 mD Z) Z<|ab (zA 2013 pC Z) Z<|ab (zB 2012 eu ew Z) Z<|ab (zB 2013 na nb Z) Z<|ao Z<|Y<|aS<|sL<|ae Z<|ak Z<|Y ?_;refine AW.cond rfl ?_ ?_
  ·intro h3;refine sL<|aP (.agg [U _ _,U _ _,U _ _,.own _,.own _,.own _]) cu Z<|ab (zB 2007 eu ew Z) Z<|nA<|lf 0 wN Z<|aj ac Z<|ak Z<|Y ?_;refine AW.cond rfl ?_ ?_
   ·intro h4;refine mi (fZ vs (bK x (es.take k)).ps) [4,5,6,7,8,9,13,14,23,24,25] [1,2,3,14,15,61,62,63,64,2002,2004,2007,2011,2012,2013] ?_;refine AW.mU 64 rfl ?_;intro u64;refine mi (fZ vs (bK x (es.take k)).ps) [4,5,6,7,8,9,13,14,23,24,25] [1,2,3,14,15,61,62,63,64,2002,2004,2007,2011,2012,2013] ?_;refine Oz 64 rfl rfl zv ?_;have Yj:dS (fZ vs (bK x (es.take k)).ps++[.ai ⟨167,some u64⟩ 3 (ah ct (dl (bK x (es.take k)).now es[k]).lines)]):=zv.gJ (fun o ho=>by rw[List.mem_singleton.1 ho];rfl);refine aL<|bW Z<|aP (.agg [U _ _,vV _]) ol Z<|ab (zS 2044 [[.v (.int .i64 (dl (bK x (es.take k)).now es[k]).id),.v u64]] vb pC rfl (by simp)) Z<|ab (zP 14 vb pC NC rfl x_14 (by grind[zu])) Z<|bD Z<|Y<|aL<|bW Z<|ae Z<|ab (zS 2048 (ah kt [dG (bK x (es.take k)).now es[k]]) iU lY rfl) Z<|ab (zP 15 iU lY uy rfl x_14 x_69) Z<|bD Z<|lN<|gB<|gT ?_;have cQ:dG (bK x (es.take k)).now es[k]=0:=by simpa using h3
    refine AW.swap 61 1 ?_;refine mi ((fZ vs (bK x (es.take k)).ps++[.ai ⟨167,some u64⟩ 3 (ah ct (dl (bK x (es.take k)).now es[k]).lines)])) [4,5,6,7,8,9,23,24,25] [1,2,3,14,15,61,62,63,2002,2004,2007,2011,2012,2013,2044,2048] ?_;refine AW.swap 62 2 ?_;refine mi ((fZ vs (bK x (es.take k)).ps++[.ai ⟨167,some u64⟩ 3 (ah ct (dl (bK x (es.take k)).now es[k]).lines)])) [4,5,6,7,8,9,23,24,25] [1,2,3,14,15,61,62,63,2002,2004,2007,2011,2012,2013,2044,2048] ?_;refine AW.swap 63 3 ?_;refine mi ((fZ vs (bK x (es.take k)).ps++[.ai ⟨167,some u64⟩ 3 (ah ct (dl (bK x (es.take k)).now es[k]).lines)])) [4,5,6,7,8,9,23,24,25] [1,2,3,14,15,61,62,63,2002,2004,2007,2011,2012,2013,2044,2048] ?_;refine mi ((fZ vs (bK x (es.take k)).ps++[.ai ⟨167,some u64⟩ 3 (ah ct (dl (bK x (es.take k)).now es[k]).lines)])) [4,5,6,7,8,9,23,24,25] [1,2,3,14,15,2002,2004,2007,2011,2012,2013,2044,2048] ?_;refine aL<|bg Z<|ae Z<|Y ?_;have hn:(kz (bK x (es.take k)) es[k]).now=dp (bK x (es.take k)).now es[k]:=Fk cQ;have hid:=Ok cQ;have dY:(dl (bK x (es.take k)).now es[k]).lines≠[]:=by have h:=h4;rw[hid]at h;simpa using h
    have hp:(kz (bK x (es.take k)) es[k]).ps=(bK x (es.take k)).ps++[dl (bK x (es.take k)).now es[k]]:=Om cQ dY;refine⟨(k+1,vs++[u64]),⟨hk,(by grind[fl])⟩,by omega,x_10,⟨(Eq.trans (congrArg qx hn.symm) (congrArg (fun s:fg=>qx s.now) (fl hk).symm)),(Eq.trans (congrArg (fun b:aw=>AO.ai 159 7 (ah aX b.ag)) hn.symm) (congrArg (fun s:fg=>AO.ai 159 7 (ah aX s.now.ag)) (fl hk).symm)),(Eq.trans (congrArg (fun b:aw=>df b.an) hn.symm) (congrArg (fun s:fg=>df s.now.an) (fl hk).symm)),(Eq.trans (congrArg (fun b:aw=>d7 b.aq) hn.symm) (congrArg (fun s:fg=>d7 s.now.aq) (fl hk).symm)),(Eq.trans (congrArg (AO.ai 92 2) (show _=lH (vs++[u64]) (kz (bK x (es.take k)) es[k]).ps by rw[hp,OM gl])) (congrArg (fun s:fg=>AO.ai 92 2 (lH (vs++[u64]) s.ps)) (fl hk).symm)),(Eq.trans (Eq.trans (b:=pR ((bK x (es.take k)).jD++[dG (bK x (es.take k)).now es[k]])) (congrArg (AO.ai 3 1) (fx kt _ [_]).symm) rfl) (congrArg (fun s:fg=>pR s.jD) (fl hk).symm)),trivial⟩,⟨rfl,rfl,rfl,rfl,rfl,rfl,rfl,rfl,trivial⟩,⟨rfl,rfl,trivial⟩,(by rw[fl hk,hp,ON gl];exact ki)⟩
   intro h4;refine aK<|gT<|aL<|bW Z<|ae Z<|ab (zS 2048 (ah kt [dG (bK x (es.take k)).now es[k]]) iU lY rfl) Z<|ab (zP 15 iU lY uy rfl x_14 x_69) Z<|bD Z<|lN<|gB<|gT ?_;have cQ:dG (bK x (es.take k)).now es[k]=0:=by simpa using h3
   refine AW.swap 61 1 ?_;refine mi (fZ vs (bK x (es.take k)).ps) [4,5,6,7,8,9,23,24,25] [1,2,3,14,15,61,62,63,64,2002,2004,2007,2011,2012,2013,2048] ?_;refine AW.swap 62 2 ?_;refine mi (fZ vs (bK x (es.take k)).ps) [4,5,6,7,8,9,23,24,25] [1,2,3,14,15,61,62,63,64,2002,2004,2007,2011,2012,2013,2048] ?_;refine AW.swap 63 3 ?_;refine mi (fZ vs (bK x (es.take k)).ps) [4,5,6,7,8,9,23,24,25] [1,2,3,14,15,61,62,63,64,2002,2004,2007,2011,2012,2013,2048] ?_;refine mi (fZ vs (bK x (es.take k)).ps) [4,5,6,7,8,9,23,24,25] [1,2,3,14,15,2002,2004,2007,2011,2012,2013,2048] ?_;refine aL<|bg Z<|ae Z<|Y ?_;have hn:(kz (bK x (es.take k)) es[k]).now=dp (bK x (es.take k)).now es[k]:=Fk cQ;have hid:=Ok cQ;have dY:(dl (bK x (es.take k)).now es[k]).lines=[]:=by have h:=h4;rw[hid]at h;simpa using h
   have hp:(kz (bK x (es.take k)) es[k]).ps=(bK x (es.take k)).ps:=Oo dY;refine⟨(k+1,vs),⟨hk,(by grind[fl])⟩,by omega,x_10,⟨(Eq.trans (congrArg qx hn.symm) (congrArg (fun s:fg=>qx s.now) (fl hk).symm)),(Eq.trans (congrArg (fun b:aw=>AO.ai 159 7 (ah aX b.ag)) hn.symm) (congrArg (fun s:fg=>AO.ai 159 7 (ah aX s.now.ag)) (fl hk).symm)),(Eq.trans (congrArg (fun b:aw=>df b.an) hn.symm) (congrArg (fun s:fg=>df s.now.an) (fl hk).symm)),(Eq.trans (congrArg (fun b:aw=>d7 b.aq) hn.symm) (congrArg (fun s:fg=>d7 s.now.aq) (fl hk).symm)),(Eq.trans (congrArg (fun p=>AO.ai 92 2 (lH vs p)) hp.symm) (congrArg (fun s:fg=>AO.ai 92 2 (lH vs s.ps)) (fl hk).symm)),(Eq.trans (Eq.trans (b:=pR ((bK x (es.take k)).jD++[dG (bK x (es.take k)).now es[k]])) (congrArg (AO.ai 3 1) (fx kt _ [_]).symm) rfl) (congrArg (fun s:fg=>pR s.jD) (fl hk).symm)),trivial⟩,⟨rfl,rfl,rfl,rfl,rfl,rfl,rfl,rfl,trivial⟩,⟨rfl,rfl,trivial⟩,(by rw[fl hk,hp];exact ki)⟩
  intro h3;refine aK<|gT<|aL<|bW Z<|ae Z<|ab (zS 2048 (ah kt [dG (bK x (es.take k)).now es[k]]) iU lY rfl) Z<|ab (zP 15 iU lY uy rfl x_14 x_69) Z<|bD Z<|lN<|gB<|gT ?_;have cQ:dG (bK x (es.take k)).now es[k]≠0:=by simpa using h3
  refine iQ 1 rfl ?_;refine iQ 2 rfl ?_;refine iQ 3 rfl ?_;refine mi (fZ vs (bK x (es.take k)).ps) [4,5,6,7,8,9,23,24,25] [1,2,3,14,15,2002,2004,2007,2011,2012,2013,2048] ?_;refine aL<|bg Z<|ae Z<|Y ?_;have hn:(kz (bK x (es.take k)) es[k]).now=(bK x (es.take k)).now:=Ol cQ;have hp:(kz (bK x (es.take k)) es[k]).ps=(bK x (es.take k)).ps:=On cQ;refine⟨(k+1,vs),⟨hk,(by grind[fl])⟩,by omega,x_10,⟨(Eq.trans (congrArg qx hn.symm) (congrArg (fun s:fg=>qx s.now) (fl hk).symm)),(Eq.trans (congrArg (fun b:aw=>AO.ai 159 7 (ah aX b.ag)) hn.symm) (congrArg (fun s:fg=>AO.ai 159 7 (ah aX s.now.ag)) (fl hk).symm)),(Eq.trans (congrArg (fun b:aw=>df b.an) hn.symm) (congrArg (fun s:fg=>df s.now.an) (fl hk).symm)),(Eq.trans (congrArg (fun b:aw=>d7 b.aq) hn.symm) (congrArg (fun s:fg=>d7 s.now.aq) (fl hk).symm)),(Eq.trans (congrArg (fun p=>AO.ai 92 2 (lH vs p)) hp.symm) (congrArg (fun s:fg=>AO.ai 92 2 (lH vs s.ps)) (fl hk).symm)),(Eq.trans (Eq.trans (b:=pR ((bK x (es.take k)).jD++[dG (bK x (es.take k)).now es[k]])) (congrArg (AO.ai 3 1) (fx kt _ [_]).symm) rfl) (congrArg (fun s:fg=>pR s.jD) (fl hk).symm)),trivial⟩,⟨rfl,rfl,rfl,rfl,rfl,rfl,rfl,rfl,trivial⟩,⟨rfl,rfl,trivial⟩,(by rw[fl hk,hp];exact ki)⟩
 intro h2;refine aE<|eT<|eT<|eB<|gA<|aP (.agg [U _ _,U _ _,U _ _,.own _,.own _,.own _]) cu Z<|bW Z<|bW Z<|ab (zB 2004 eu ew Z) Z<|bD Z<|bD Z<|Y<|aR ?_;have dZ:k=es.length:=by have h:=h2;simp only[ap,decide_eq_false_iff_not]at h;omega
 subst dZ;rw[OO jr];rw[List.take_length]at gl ke;have CU:=zU (x:=x) (es:=es) es.length (Nat.le_refl _);rw[List.take_length]at CU ⊢;refine vW (F1:=(fZ vs (bK x es).ps)) (CS (bK x es)) (Ag (bK x es) vs) ?_ (by grind[OL]) rfl rfl ⟨rfl,rfl,rfl,rfl,rfl,trivial⟩ ki;exact⟨vs,gl,rfl,rfl,rfl⟩
end Go.Proofs.YtflhgkmhmcfimaaGreat

