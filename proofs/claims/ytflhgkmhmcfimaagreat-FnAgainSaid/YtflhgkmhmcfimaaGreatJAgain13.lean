/- Texts of the proof of FnFnAgain, joined: EA9, ES1, EP1. -/
import Derived.Test.YtflhgkmhmcfimaaGreatJAgain12
import Derived.Test.YtflhgkmhmcfimaaGreatJAgain8
import Derived.Test.YtflhgkmhmcfimaaGreatJAgain3
import Derived.Test.YtflhgkmhmcfimaaGreatJAgain11
namespace Go.Proofs.YtflhgkmhmcfimaaGreat
open Tryz
open Go.RowKit
set_option maxHeartbeats 16000000
set_option maxRecDepth 100000
set_option linter.unusedSimpArgs false
set_option linter.unusedVariables false
theorem I1{x:aw}(h:wy x=true){k:Nat}(hk:k<x.ag.length):pS x.ag[k]=true/\su x.ag k=true/\ss x x.ag[k]=true:=by
 simp_all[wy,n5]
theorem I0{l:List be}(h:∀k,k<l.length->su l k=true):∀(j i:Nat) (hj:j<l.length) (hi:i<j),(l[i]' x_2).id<l[j].id
 |0,i,hj,hi=>by omega
 |j+1,i,hj,hi=>by
  have V:=h (j+1) hj;unfold su at V;dsimp only at V;rw[List.getElem?_eq_getElem (by omega:j<l.length),List.getElem?_eq_getElem hj]at V;have h2:(l[j]' x_2).id<l[j+1].id:=by simpa using V
  rcases Nat.lt_or_ge i j with q|q
  ·have:=I0 h j i x_2 q;omega
  have:i=j:=by omega
  subst this;exact h2
theorem OT{ks:List Int}(h:wj ks=true):ks.Pairwise (·≠·):=by
 rw[List.pairwise_iff_getElem];intro i j hi hj gF e;unfold wj at h;have V:=List.all_eq_true.1 h j (by simpa using hj);unfold kV at V;simp only[Bool.and_eq_true,Bool.not_eq_true']at V;have e1:ks.getD j 0=ks[j]:=by simp[List.getD_eq_getElem?_getD,List.getElem?_eq_getElem hj]
 rw[e1]at V;have h2:wm (ks.take j) ks[j]=true:=Jn (k:=i) x_74 (by rw[List.getElem_take];exact e);grind
theorem xO{x:aw}(h:eG x=true):bb x.tick=true/\bb x.aA=true/\aI x.next 1 1125899906842624=true/\x.ag.length<=20/\kW x=true/\wy x=true:=by
 simp_all[eG]
theorem CV{x:aw}(h:kW x=true):x.an.length<=60/\x.aq.length<=20/\(∀h∈x.an,qz x.ag h=true)/\(∀h∈x.aq,qA x.ag h=true)/\wj (dN x)=true:=by
 simp_all[kW]
theorem Fq{x:aw}(h:wy x=true){c:be}(hc:c∈x.ag):pS c=true/\ss x c=true:=by
 obtain⟨k,hk,rfl⟩:=List.getElem_of_mem hc;grind[I1]
theorem BC{l:List be}{a b:Int}(h:two l a b=true):a≠b/\0<=eS l a/\0<=eS l b:=by
 simp_all[two]
theorem IZ{c:be}(h:pS c=true):(1<=c.id/\c.id<=99)/\(0<=c.loc/\c.loc<=1125899906842624)/\(0<=c.aC/\c.aC<=1125899906842624)/\(0<=c.base/\c.base<=1125899906842624)/\(0<=c.br/\c.br<=1000000)/\(-100<=c.cM/\c.cM<=100)/\(0<=c.size/\c.size<=1125899906842624):=by
 simp_all[pS,gf,xQ,cY,cJ]
theorem CT{x:aw}(h:eG x=true):sO x:=by
 obtain⟨V,h2,h3,h4,h5,h6⟩:=xO h;obtain⟨p1,p2,p3,p4,p5⟩:=CV h5;have pD:=cY.1 V;have Cr:=cY.1 h2;have h3':=cJ.1 h3;have hp:=OT p5;unfold dN at hp;rw[List.pairwise_append]at hp;refine⟨⟨by grind[bk],by grind[bk],by grind[bk],fun c hc=>?_,fun y hy=>?_,fun y hy=>?_,h4,p1,p2⟩,?_,?_,?_,fun y hy=>?_,fun y hy=>?_⟩
 ·have:=IZ (Fq h6 hc).1;grind[bk]
 ·grind[xR,cY,bk]
 ·grind[wn,cY,bk]
 ·rw[List.pairwise_iff_getElem];intro i j hi hj gF;have:=I0 (fun k hk=>(I1 h6 hk).2.1) j i hj gF;omega
 ·grind
 ·grind
 ·have:=BC (xR.1 (p3 y hy)).2.2.2.2;omega
 have:=BC (wn.1 (p4 y hy)).2.2.2;omega
theorem ED{e:aV}(h:co e=true):m8 e/\0<=e.af/\0<=e.ay:=by
 have:=uu h;rw[cY,cY]at this;exact⟨⟨by grind[bk],by grind[bk]⟩,by omega,by omega⟩
theorem AI{e:aV}(h:co e=true)(hk:e.kind=5\/e.kind=9):e.ch≠e.to:=by
 simp_all[co,hT]
theorem y8{e:aV}(h:co e=true):1<=e.kind/\e.kind<=11:=by
 rcases Classical.em (1<=e.kind/\e.kind<=11)with q|q;all_goals grind[P2]
theorem De{x:aw}(h:eG x=true):(∀h∈x.an,h.c9<=h.cW)/\∀h∈x.aq,0<=h.af/\0<=h.ay:=by
 obtain⟨_,_,_,_,h5,_⟩:=xO h;obtain⟨_,_,p3,p4,_⟩:=CV h5;grind[xR,wn,cY]
theorem EH{x:aw}(h:eG x=true):∀y∈x.aq,0<=y.af/\0<=y.ay/\y.af+y.ay<=1125899906842624:=fun y hy=>by
 obtain⟨V,h2,h3,h4,h5,h6⟩:=xO h;obtain⟨p1,p2,p3,p4,p5⟩:=CV h5;have ha:=(De h).2 y hy;refine⟨ha.1,ha.2,?_⟩;obtain⟨i,c,q1,q2,q3,q4⟩:=p9 (BC (wn.1 (p4 y hy)).2.2.2).2.1;obtain⟨c1,c2⟩:=Fq h6 (dB q2);have c1:=IZ c1;unfold ss at c2;rw[beq_iff_eq]at c2;have sm:=Jr h5;have s1:=Dc sm c.id;have t1:eR c.id y<=bG (eR c.id) x.aq:=by
  obtain⟨k,hk,rfl⟩:=List.getElem_of_mem hy;have e1:bG (eR c.id) x.aq=bG (eR c.id) (x.aq.take (k+1))+bG (eR c.id) (x.aq.drop (k+1)):=by
   unfold bG;rw[<-List.sum_append,<-List.map_append,List.take_append_drop]
  have e2:=oJ (eR c.id) x.aq hk;have e3:=P3 (eR c.id) 2251799813685248 x_3 x.aq (sm.eR c.id) k;have e4:=sd (eR c.id) 2251799813685248 x_3 (x.aq.drop (k+1)) (fun z hz=>sm.eR c.id z (List.mem_of_mem_drop hz));omega
 have t2:0<=bG (dK c.id) x.an:=(sd (dK c.id) 1125899906842624 x_3 x.an (sm.dK c.id)).1;have t3:eR c.id y=y.af+y.ay:=by unfold eR;rw[if_pos q4.symm]
 grind[fB]
def zb(x:aw)(e:aV):WR:=⟨{ x with aA:=x.aA+e.af },bR (bR [] 1 0 e.af) 2 0 (-e.af),0⟩
def ou(x:aw)(e:aV):WR:=if eS x.ag e.ch=-1 then ⟨x,[],6⟩else ⟨{ x with ag:=cC x.ag e.ch fun c=>{ c with base:=e.af,br:=e.ay } },[],0⟩
def bz(x:aw)(e:aV):WR:=
 if e.kind=1 then zb x e else if e.kind=2 then sJ x e else if e.kind=3 then rH x e else if e.kind=4 then ou x e else if e.kind=5 then sP x e
 else if e.kind=6\/e.kind=7 then mR x e else if e.kind=8 then p' x else if e.kind=9 then sS x e else nm x e
def dG(x:aw)(e:aV):Int:=if (eG x&&co e)=true then (if d8 x e=true then 2 else (bz x e).c)else 1
theorem FF{x:aw}{e:aV}(h:(eG x&&co e)=false):dG x e=1:=if_neg x_137
theorem Z7{x:aw}{e:aV}(h:(eG x&&co e)=true)(h2:d8 x e=true):dG x e=2:=by simp_all[dG]
theorem yA{x:aw}{e:aV}(h:(eG x&&co e)=true)(h2:d8 x e=false):dG x e=(bz x e).c:=by simp_all[dG]
theorem xA(x:aw)(e:aV):(bz x e).b.next=x.next:=by
 unfold bz;repeat' split
 ·rfl
 ·unfold sJ;split<;>rfl
 ·unfold rH;split<;>rfl
 ·unfold ou;split<;>rfl
 ·unfold sP;split<;>rfl
 ·unfold mR;split<;>(try unfold pN;split)<;>rfl
 ·rfl
 ·unfold sS;split<;>rfl
 grind[nm,mN]
abbrev xX:AV:=.agg [int 0,int 0,int 0,.p (.v (.slice none 0 0)),.p (.v (.slice none 0 0)),.p (.v (.slice none 0 0))]
abbrev tC:AV:=.agg [int 0,.p (.v (.slice none 0 0))]
abbrev Bh(t n w:Int):AV:=.agg [int t,int n,int w,.own 1,.own 2,.own 3]
abbrev Jz(b:aw):List (Nat×AO):=[(1,.ai 159 7 (ah aX b.ag)),(2,df b.an),(3,d7 b.aq)]
abbrev JA(b:aw)(l:List aO):List (Nat×AO):=[(1,.ai 159 7 (ah aX b.ag)),(2,df b.an),(3,d7 b.aq),(4,dc l)]
def FG(x:aw)(e:aV):AV->List (Nat×AO)->Prop:=fun y bd=>
 (dG x e≠0/\y=.au [xX,tC,int (dG x e)]/\bd=[])\/
 (dG x e=0/\(bz x e).l=[]/\y=.au [Bh (bz x e).b.tick (bz x e).b.next (bz x e).b.aA,tC,int 0]/\bd=Jz (bz x e).b)\/
 (dG x e=0/\(bz x e).l≠[]/\y=.au [Bh (bz x e).b.tick ((bz x e).b.next+1) (bz x e).b.aA,.agg [int x.next,.own 4],int 0]/\bd=JA (bz x e).b (bz x e).l)
theorem Z8{rows:List (List PV)}{i:Nat}{R:List PV}(h:i<rows.length):(rows.set i R)[i]? = some R:=List.getElem?_set_self h
theorem EE{x:aw}{e:aV}(h:d8 x e=false):x.next≠1125899906842624:=fun q=>by simp_all[d8]
theorem yY{x:aw}{e:aV}(h:e.kind=1):zb x e=bz x e:=by grind[bz]
theorem xy{x:aw}{e:aV}(h:e.kind=2):sJ x e=bz x e:=by grind[bz]
theorem yZ{x:aw}{e:aV}(h:e.kind=3):rH x e=bz x e:=by grind[bz]
theorem vK{x:aw}{e:aV}(h:e.kind=4):ou x e=bz x e:=by grind[bz]
theorem xz{x:aw}{e:aV}(h:e.kind=5):sP x e=bz x e:=by grind[bz]
theorem uv{x:aw}{e:aV}(h:e.kind=6\/e.kind=7):mR x e=bz x e:=by grind[bz]
theorem y7{x:aw}{e:aV}(h:e.kind=8):p' x=bz x e:=by grind[bz]
theorem t8{x:aw}{e:aV}(h:e.kind=9):sS x e=bz x e:=by grind[bz]
theorem ua{x:aw}{e:aV}(h:10<=e.kind):nm x e=bz x e:=by
 unfold bz;grind
theorem P4{x:aw}{e:aV}(h:eS x.ag e.ch=-1):ou x e=⟨x,[],6⟩:=if_pos h
theorem P5{x:aw}{e:aV}{i:Nat}(h:eS x.ag e.ch=(i:Int)):ou x e=⟨{ x with ag:=cC x.ag e.ch fun c=>{ c with base:=e.af,br:=e.ay } },[],0⟩:=if_neg x_2
theorem x_7{p:Prop}(c:p:=by exact ⟨(),trivial,trivial,⟨(congrArg (fun r:WR=>cN gw r.b.tick r.b.next r.b.aA r.c) hw),(congrArg (fun r:WR=>AO.ai 159 7 (ah aX r.b.ag)) hw),(congrArg (fun r:WR=>df r.b.an) hw),(congrArg (fun r:WR=>d7 r.b.aq) hw),(congrArg (fun r:WR=>dc r.l) hw),trivial⟩,rfl,rfl⟩):p:=c
theorem x_53{p:Prop}(c:p:=by exact congrArg (fun r:WR=>AO.ai 159 7 (ah aX r.b.ag)) hw):p:=c
theorem x_72{p:Prop}(c:p:=by exact congrArg (fun r:WR=>df r.b.an) hw):p:=c
theorem x_73{p:Prop}(c:p:=by exact congrArg (fun r:WR=>d7 r.b.aq) hw):p:=c
theorem x_84{p:Prop}(c:p:=by exact congrArg (fun r:WR=>dc r.l) hw):p:=c
theorem x_127{p:Prop}(c:p:=by have:=sm.lc;have:=sm.lh;have:=sm.li;omega):p:=c
theorem Z9(x:aw)(e:aV)(hw:di x):GX prog 41 [cj x,ju e] [] (FG x e):=by
 refine GX.intro (rs:=[.cell 4 50 (some 6),.cell 5 92 (some 2),.tmp 6]) func41 rfl ntmps41 x_8 ⟨rfl,rfl,cu,rfl,rfl,ol,rfl,trivial⟩ ?_;intro L O w0;refine sL<|ab (zX 2002 Z) Z<|ab (zX 2003 Z) Z<|ab (zA 2004 mD Z) Z<|ab (zA 2005 pC Z) Z<|ao Z<|Y<|aS<|sL<|aP h1 cu Z<|ab (zL func101 (Do x hw) Z) Z<|bX Z<|aQ Z ?_;refine AL.bool (t:=13) rfl ?_ ?_
 ·intro V;refine aa Z<|aa Z<|aa Z<|aU Z<|Y<|aY Z<|sL<|lq (rd (x:=.agg [c6,c6,c6,vV _,vV _,vV _]) (cP Z s6 Z Z Z) Z)<|lq (rd (x:=.agg [c6,vV _]) (cP Z uA Z Z Z) Z)<|ab (zB 2004 eu ew Z) Z<|ab (zB 2005 na nb Z) Z<|lT [2,3,4,5,6] [2002,2003,2004,2005] ?_;refine ao Z<|Y<|aR<|rT ?_;have mS:(eG x&&co e)=false:=by simp_all
  have qC:=FF mS;refine fN (.au [xX,tC,int 1]) [] ?_ rfl trivial;exact .inl ⟨by omega,by rw[qC],rfl⟩
 intro V;refine aP iK dD Z<|ab (zL func110 (Ps e) Z) Z<|bX Z<|bj Z<|Y<|cE rfl ?_ ?_
 ·intro h2;refine sL<|lq (rd (x:=.agg [c6,c6,c6,vV _,vV _,vV _]) (cP Z s6 Z Z Z) Z)<|lq (rd (x:=.agg [c6,vV _]) (cP Z uA Z Z Z) Z)<|ab (zB 2004 eu ew Z) Z<|ab (zB 2005 na nb Z) Z<|ao Z<|Y<|aR<|rT ?_;have mS:(eG x&&co e)=false:=by simp_all
  have qC:=FF mS;refine fN (.au [xX,tC,int 1]) [] ?_ rfl trivial;exact .inl ⟨by omega,by rw[qC],rfl⟩
 intro h2;refine aK<|gT<|aS<|sL<|aP h1 cu Z ?_;have mS:(eG x&&co e)=true:=by simp_all
 have jr:eG x=true:=by simp_all
 have uQ:co e=true:=by simp_all
 have fi:=CT jr;have sm:=fi.sm;obtain⟨es,zH,tL⟩:=ED uQ;have hm:x.ag.length<=1000000000:=by have:=sm.lc;omega
 obtain⟨Z',P6,JB,aaa,aab,aac⟩:=xO jr;have Gz:=cJ.1 JB;refine aP iK dD Z<|ab (zL func111 (Sh x e sm es) Z) Z<|Y<|cE rfl ?_ ?_
 ·intro h3;refine sL<|lq (rd (x:=.agg [c6,c6,c6,vV _,vV _,vV _]) (cP Z s6 Z Z Z) Z)<|lq (rd (x:=.agg [c6,vV _]) (cP Z uA Z Z Z) Z)<|ab (zB 2004 eu ew Z) Z<|lT [2,3,4,5,6,24] [2002,2003,2004,2005] ?_;refine ab (zB 2005 na nb Z) Z<|ao Z<|Y<|aR<|rT ?_;have qC:=Z7 mS x_2;refine fN (.au [xX,tC,int 2]) [] ?_ rfl trivial;exact .inl ⟨by omega,by rw[qC],rfl⟩
 intro h3;refine aK<|gA<|aP h1 cu Z<|ab (zC [(2005,1),(2009,2),(2013,3)] [1,2,3] [] func56 (KY x x_127) (trivial) rfl rfl) Z<|lq (rd (x:=.agg [c6,c6,c6,.own _,.own _,.own _,vV _,c6]) (cP rfl VJ rfl rfl rfl) rfl)<|ab (zX 0 rfl) Z<|lC Z<|Y ?_;refine AW.pi 4 0 6 167 3 rfl x_3 rfl ?_;refine AW.tZ 0 rfl ?_;intro gw;refine AW.mU 1 rfl ?_;intro u;refine AW.obj 4 (dc []) rfl ?_;refine aJ [2,4,5,6,7] [2002,2003,2004,2005] (D:=Unit) (fun jd=>[]) (fun jd=>[(0,cN gw (bz x e).b.tick (bz x e).b.next (bz x e).b.aA (bz x e).c),(1,.ai 159 7 (ah aX (bz x e).b.ag)),(2,df (bz x e).b.an),(3,d7 (bz x e).b.aq),(4,dc (bz x e).l)]) (fun jd=>True) ?_ ?_
 ·refine sL<|lf 0 jz Z<|aj ac Z<|Y<|aB<|sL<|ak Z<|bv Z<|Y<|cE rfl ?_ ?_
  ·intro h4;refine aS<|aG 11 []<|tq 0 (cG Z)<|tq 1 (rc Z)<|tq 2 (rf 0 dR Z)<|tq 3 (rf 2 iW Z)<|tq 4 (aZ ac Z)<|yq 5 (rf 4 bN Z)<|yq 6 (aZ ac Z) ?_;refine yq 7 (iC rfl ⟨rfl,ce (by have:=sm.aA;have:=es.af;grind[bk,i64])⟩)<|yq 8 (rc rfl)<|yq 9 (rf 0 dR rfl)<|yq 10 (rf 2 iW rfl)<|yl rfl (zB 0 ca cb rfl)<|gA<|aM Z<|lf 4 bN Z<|aj ac rfl ?_;refine ab (et func112 (lU ([]) 0 (LG.nil) x_3 _ _ _ (cL.nil _ _) (gP es.af)) x_6 rfl rfl) Z<|lT [2,3,4,5,6,7] [0,1,2,3,4,2002,2003,2004,2005] ?_;refine Y ?_;refine iQ 1 rfl ?_;refine aL<|aM Z<|lf 4 bN Z<|aj ac Z<|lq (rd (x:=c6) (il rfl rfl (ce x_124)) rfl) ?_;refine ab (bF func112 (lU (bR [] 1 0 e.af) 1 (LG.nil.add (gP es.af)) x_3 _ _ _ x_42 (jM es.af)) x_16 rfl rfl) Z<|lN<|gB<|gT ?_;have hw:zb x e=bz x e:=yY x_14;refine x_7
  intro h4;refine sL<|ak Z<|bv Z<|Y<|cE rfl ?_ ?_
  ·intro h5;refine aL<|aM Z<|aP iK dD Z ?_;refine ab (bF func113 (Sm _ _ x e sm es) x_16 rfl rfl) Z<|lN<|gB<|gT ?_;have hw:sJ x e=bz x e:=xy x_14;refine x_7
  intro h5;refine sL<|ak Z<|bv Z<|Y<|cE rfl ?_ ?_
  ·intro h6;refine aL<|aM Z<|aP iK dD Z ?_;refine ab (bF func114 (Z0 _ _ x e fi es tL) x_16 rfl rfl) Z<|lT [2,4,5,6,7] [0,1,2,3,4,2002,2003,2004,2005] ?_;refine lN<|gB<|gT ?_;have hw:rH x e=bz x e:=yZ x_14;refine x_7
  intro h6;refine sL<|ak Z<|bv Z<|Y<|cE rfl ?_ ?_
  ·intro h7;refine sL<|aM Z<|lf 2 dn Z<|aj ac Z ?_;rcases jt x.ag e.ch with⟨hi,ho⟩|⟨i,c,hi,hc,ho,hid⟩
   ·skip;refine ab (zC [(0,0),(1,1),(2,2),(3,3),(4,4),(2017,2017)] [2,3,4,2017] [0,1] func115 (wJ _ _ x _ _ _ hm hi) x_6 rfl rfl) Z<|lC Z<|Y ?_;refine iQ 1 rfl ?_;refine aG 11 [2017]<|tq 0 (cG Z)<|tq 1 (cG Z)<|tq 2 (rf 4 bN Z)<|tq 3 (aZ ac Z)<|tq 4 (rf 5 fC Z)<|tq 5 (aZ ac Z)<|yq 6 (rc Z)<|yq 7 (rf 4 nE Z)<|cm 8 Z (zB 2017 ca cb Z)<|gX [2,4,5,6,7,73,77] [0,1,2,3,4,2002,2003,2004,2005,2017] ?_;refine yq 9 (rc Z)<|yq 10 (rf 5 mH Z)<|yl Z (zB 2017 ca cb Z)<|gB<|gT ?_;have hw:ou x e=bz x e:=vK x_14;rw[P4 hi]at hw;refine x_7
   have bC:=sm.ag c (dB hc);refine ab (et func115 (rP _ _ x _ _ _ hm _ _ hi hc) x_6 rfl rfl) Z<|lC Z<|Y ?_;refine iQ 1 rfl ?_;refine aG 11 [1]<|tq 0 (cG Z)<|tq 1 (cG Z)<|tq 2 (rf 4 bN Z)<|tq 3 (aZ ac Z)<|tq 4 (rf 5 fC Z)<|tq 5 (aZ ac Z)<|yq 6 (rc Z)<|yq 7 (rf 4 nE Z)<|cm 8 Z (zQ 1 [.v (.int .i64 e.af)] ca cb Z (dk hc))<|gX [2,4,5,6,7,73,77] [0,1,2,3,4,2002,2003,2004,2005] ?_;refine yq 9 (rc rfl)<|yq 10 (rf 5 mH rfl)<|yl rfl (zQ 1 [.v (.int .i64 e.ay)] ca cb rfl (Z8 x_33))<|gB<|gT ?_;have hw:ou x e=bz x e:=vK x_14;rw[P5 hi]at hw;refine⟨(),trivial,trivial,⟨(congrArg (fun r:WR=>cN gw r.b.tick r.b.next r.b.aA r.c) hw),(Eq.trans (Eq.trans (b:=AO.ai 159 7 (((ah aX x.ag).set i ((aX { c with base:=e.af }).map PV.v)).set i ((aX { c with base:=e.af,br:=e.ay }).map PV.v))) rfl (congrArg (AO.ai 159 7) (by rw[List.set_set];exact lB.trans (congrArg (ah aX) (by rw[FD fi.ids hc (fun c=>{ c with base:=e.af,br:=e.ay }),hid]))))) (congrArg (fun r:WR=>AO.ai 159 7 (ah aX r.b.ag)) hw)),x_72,x_73,x_84,trivial⟩,rfl,rfl⟩
  intro h7;refine sL<|ak Z<|bv Z<|Y<|cE rfl ?_ ?_
  ·intro h8;refine aL<|aM Z<|aP iK dD Z ?_;refine ab (bF func116 (Z1 _ _ x e fi es (AI uQ (.inl x_14))) x_16 rfl rfl) Z<|lN<|gB<|gT ?_;have hw:sP x e=bz x e:=xz x_14;refine x_7
  intro h8;refine aS<|sL<|ak Z<|bv Z<|Y<|cE rfl ?_ ?_
  ·intro h9;refine qt 87 true Z h9<|aK<|gT<|aY Z<|aL<|aM Z<|aP iK dD Z ?_;refine ab (bF func117 (P1 _ _ x e fi es (De jr).1) x_16 rfl rfl) Z<|lN<|gB<|gT ?_;have hw:mR x e=bz x e:=uv (.inl x_14);refine x_7
  intro h9;refine qt 87 false Z h9<|aL<|ak Z<|bv Z<|Y<|cE rfl ?_ ?_
  ·intro dh;refine aL<|aM Z<|aP iK dD Z ?_;refine ab (bF func117 (P1 _ _ x e fi es (De jr).1) x_16 rfl rfl) Z<|lT [2,4,5,6,7] [0,1,2,3,4,2002,2003,2004,2005] ?_;refine lN<|gB<|gT ?_;have hw:mR x e=bz x e:=uv (.inr x_14);refine x_7
  intro dh;refine sL<|ak Z<|bv Z<|Y<|cE rfl ?_ ?_
  ·intro gp;refine aL<|aM Z ?_;refine ab (bF func118 (Sk _ _ x sm) x_16 rfl rfl) Z<|lN<|gB<|gT ?_;have hw:p' x=bz x e:=y7 x_14;refine x_7
  intro gp;refine sL<|ak Z<|bv Z<|Y<|cE rfl ?_ ?_
  ·intro gM;refine aL<|aM Z<|aP iK dD Z ?_;refine ab (bF func119 (Z3 _ _ x e fi es (AI uQ (.inr x_14))) x_16 rfl rfl) Z<|lN<|gB<|gT ?_;have hw:sS x e=bz x e:=t8 x_14;refine x_7
  intro gM;refine aL<|aM Z<|aP iK dD Z ?_;refine ab (bF func120 (Z2 _ _ x e fi es (EH jr)) x_16 rfl rfl) Z<|lN<|gB<|gT ?_;have hw:nm x e=bz x e:=ua (by have hek:=y8 uQ;grind);refine x_7
 intro jd hJ;refine aS<|aS ?_;have gy:d8 x e=false:=by simpa using h3
 have FH:=yA mS gy;have mj:=EE gy;refine aL<|aM Z<|lc Z<|lf 7 mK Z<|aj ac Z<|ak Z<|Y<|cE rfl ?_ ?_
 ·intro dO;refine aS<|aG 8 [2004,2005]<|tq 0 (rd (x:=.agg [c6,c6,c6,vV _,vV _,vV _]) (cP Z s6 Z Z Z) Z)<|tq 1 (rd (x:=.agg [c6,vV _]) (cP Z uA Z Z Z) Z)<|tq 2 (cG Z)<|tq 3 (rc Z)<|tq 4 (rf 7 mK Z)<|tq 5 (aZ ac Z)<|cm 6 Z (zB 2004 eu ew Z)<|cm 7 Z (zB 2005 na nb Z)<|yq 8 (j8 Z)<|gD<|gT<|aR<|rT ?_;refine fN (.au [xX,tC,int (bz x e).c]) [] ?_ rfl trivial;exact .inl ⟨by grind,by rw[FH],rfl⟩
 intro dO;refine aK<|gA<|ab (zA 2009 pC Z) Z<|lT [2,4,5,6,7,9] [0,1,2,3,4,2002,2003,2004,2005,2009] ?_;refine Y<|aS<|sL<|aM Z<|lc Z<|lf 6 DJ Z<|iO gY Z<|ba hZ Z<|ak Z<|Y<|cE rfl ?_ ?_
 ·intro ij;refine aS<|aG 7 []<|tq 0 (rf 1 mW Z)<|tq 1 (aZ ac Z)<|yq 2 (cG Z)<|yq 3 (rc Z)<|yq 4 (rf 6 DJ Z)<|yq 5 (gC gY Z)<|yq 6 (rd (x:=qa) (cP Z uA Z Z Z) Z)<|yl Z (zB 2009 na nb Z)<|gT<|aL<|aM Z<|lc Z<|lf 0 dR Z<|lf 1 mW Z<|aj ac Z ?_;refine eo rfl ⟨rfl,ce (by grind[xA,i64])⟩<|lc Z<|lf 0 dR Z<|lf 1 mW Z<|ab (zB 0 ca cb rfl) Z<|lT [4,5,6,7,9] [0,1,2,3,4,2002,2003,2004,2005,2009] ?_;refine Y<|aS<|aG 7 [2004,2005]<|tq 0 (cG Z)<|tq 1 (rc Z)<|tq 2 (rf 0 dR Z)<|tq 3 (dw jG cu Z)<|tq 4 (dw qa ol Z)<|cm 5 Z (zB 2004 eu ew Z)<|cm 6 Z (zB 2005 na nb Z)<|yq 7 (j8 Z)<|gD<|gT<|aR ?_;refine fN (.au [Bh (bz x e).b.tick ((bz x e).b.next+1) (bz x e).b.aA,.agg [int x.next,.own 4],int 0]) (JA (bz x e).b (bz x e).l) ?_ rfl ⟨rfl,rfl,rfl,rfl,trivial⟩;exact .inr (.inr ⟨x_14,(by intro q;have h:=ij;rw[q]at h;cases h),rfl,rfl⟩)
 intro ij;refine aK<|gT<|aS<|aG 7 [2004,2005]<|tq 0 (cG Z)<|tq 1 (rc Z)<|tq 2 (rf 0 dR Z)<|tq 3 (dw jG cu Z)<|tq 4 (dw (.agg [c6,vV _]) ol Z)<|cm 5 Z (zB 2004 eu ew Z)<|gX [4,5,6,139] [0,1,2,3,4,2002,2003,2004,2005,2009] ?_;refine cm 6 Z (zB 2005 na nb Z)<|yq 7 (j8 Z)<|gD<|gT<|aR ?_;have dY:(bz x e).l=[]:=List.length_eq_zero_iff.1 x_33;refine fN (.au [Bh (bz x e).b.tick (bz x e).b.next (bz x e).b.aA,tC,int 0]) (Jz (bz x e).b) ?_ rfl ⟨rfl,rfl,rfl,trivial⟩;exact .inr (.inl ⟨x_14,dY,rfl,rfl⟩)

def kp(x y:aO):Bool:=!cg y.acc x.acc
theorem P7{x:aO}:∀ {l:List aO},l.any (kp x)=false->fV l x=l++[x]
 |[],_=>rfl
 |y::l,h=>by
  rw[List.any_cons,Bool.or_eq_false_iff]at h;unfold fV;have:cg y.acc x.acc=true:=by have:=h.1;unfold kp at this;simpa using this
  rw[if_pos this,P7 h.2];rfl
theorem P8{x y:aO}:∀ {l:List aO},l.any (kp x)=true->fV (l++[y]) x=fV l x++[y]
 |[],h=>by grind
 |z::l,h=>by
  rw[List.any_cons,Bool.or_eq_true]at h;rw[List.cons_append];unfold fV;by_cases q:cg z.acc x.acc=true
  ·rw[if_pos q,if_pos q];have:l.any (kp x)=true:=by
    rcases h with h|h
    ·unfold kp at h;simp[q]at h
    exact h
   rw[P8 this];rfl
  rw[if_neg q,if_neg q];rfl
theorem P9{x y:aO}:∀ {l:List aO},l.any (kp x)=false->kp x y=true->fV (l++[y]) x=l++[x,y]
 |[],_,h=>by
  grind[kp,fV]
 |z::l,h,h2=>by
  rw[List.any_cons,Bool.or_eq_false_iff]at h;rw[List.cons_append];unfold fV;have:cg z.acc x.acc=true:=by have:=h.1;unfold kp at this;simpa using this
  rw[if_pos this,P9 h.2 h2];rfl
def nt(x:aO)(l:List aO):List aO:=if l.any (kp x)then fV l x else l
theorem pr{α:Type}{p:α->Bool}{l:List α}{k:Nat}(hk:k<l.length):(l.take (k+1)).any p=((l.take k).any p||p l[k]):=by grind[List.take_succ_eq_append_getElem]
theorem aad{x:aO}{l:List aO}{k:Nat}(hk:k<l.length)(h:(l.take k).any (kp x)=true):nt x (l.take (k+1))=nt x (l.take k)++[l[k]]:=by
 unfold nt;rw[pr hk,h,Bool.true_or,if_pos rfl,if_pos rfl,List.take_succ_eq_append_getElem hk,P8 h]
theorem aae{x:aO}{l:List aO}{k:Nat}(hk:k<l.length)(h:(l.take k).any (kp x)=false)(h2:kp x l[k]=true):nt x (l.take (k+1))=(nt x (l.take k)++[x])++[l[k]]:=by
 unfold nt;rw[pr hk,h,h2,Bool.false_or,if_pos rfl,if_neg x_19,List.take_succ_eq_append_getElem hk,P9 h h2];simp
theorem aaf{x:aO}{l:List aO}{k:Nat}(hk:k<l.length)(h:(l.take k).any (kp x)=false)(h2:kp x l[k]=false):nt x (l.take (k+1))=nt x (l.take k)++[l[k]]:=by
 unfold nt;rw[pr hk,h,h2,Bool.false_or,if_neg x_19,if_neg x_19,List.take_succ_eq_append_getElem hk]
theorem aag{x:aO}{l:List aO}(h:l.any (kp x)=true):nt x l=fV l x:=if_pos h
theorem aah{x:aO}{l:List aO}(h:l.any (kp x)=false):nt x l++[x]=fV l x:=by simp_all[nt,P7]
theorem Df{x:aO}(l:List aO):(nt x l).length<=l.length+1:=by grind[nt,BH]
abbrev cD(g:Value)(t n w c:Int):AO:=.box 236 (some g) [int t,int n,int w,.own 1,.own 2,.own 3,.own 4,int c]
abbrev p7(g:Value)(x:aw)(l:List aO)(c:Int):List (Nat×AO):=[(0,cD g x.tick x.next x.aA c),(1,.ai 159 7 (ah aX x.ag)),(2,df x.an),(3,d7 x.aq),(4,dc l)]
abbrev yd(g:Value)(r:WR):List (Nat×AO):=p7 g r.b r.l r.c
def wH(x:aw):List Int:=x.an.map (fun h=>h.key)++x.aq.map (fun h=>h.key)
def kt(n:Int):List Value:=[.int .i64 n]
theorem P'{α:Type}{p:α->Bool}{l:List α}:decide (0<=jw p l)=l.any p:=by
 grind[jw]
theorem any_keys(x:aw)(key:Int):(wH x).any (fun k=>k==key)=nD x key:=by
 grind[wH,nD,DG,DH,P']
theorem GJ(a b:Acc):GC prog 263 [.agg [int a.kind,int a.ch],.agg [int b.kind,int b.ch]] [] (aD (cg a b)) []:=by
 refine gi 4 func263 rfl ntmps263 rfl ?_;intro L O w0;refine sL<|ab (zX 2002 Z) Z<|ab (zX 2003 Z) Z<|ar Z<|nA<|lf 0 oW Z<|aj ac Z<|lf 0 oW Z<|aj ac Z<|ak Z<|aQ Z ?_;refine AL.bool (t:=10) rfl ?_ ?_
 ·intro V;refine aa Z<|aa Z<|aa Z<|aa Z<|aa Z<|aa Z<|aa Z<|aa Z<|aa Z<|aa Z<|aa Z<|aa Z<|aU Z<|cI Z<|Y<|aR ?_;refine az trivial ?_;grind[cg]
 intro V;refine lf 0 oW Z<|aj ac Z<|lf 0 oW Z<|aj ac Z<|ak Z<|aQ Z ?_;refine AL.bool (t:=16) rfl ?_ ?_
 ·intro h2;refine lf 1 rV Z<|aj ac Z<|lf 1 rV Z<|aj ac Z<|ak Z<|bj Z<|bj Z<|bv Z<|Y<|aR ?_;refine az trivial ?_;grind[cg]
 intro h2;refine aa Z<|aa Z<|aa Z<|aa Z<|aa Z<|bL Z<|bL Z<|ar Z<|Y<|aR ?_;refine az trivial ?_;grind[cg]
theorem x_24{p:Prop}(c:p:=by exact ⟨rfl,by decide,rfl,⟨_,underlying3⟩,rfl,by decide,rfl,⟨_,underlying3⟩,trivial⟩):p:=c
theorem x_120{p:Prop}(c:p:=by exact congrArg aD (by simp_all[pr])):p:=c
theorem aai(l:List aO)(x:aO)(m:Nat)(hl:LG l m)(hm:m<=1000)(hf:cL l x.acc.kind x.acc.ch):GC prog 209 [.p (.ab 167 3 (ah ct l)),.agg [int x.acc.kind,int x.acc.ch,int x.af]] [] (.own 2009) [(2009,dc (fV l x))]:=by
 have hlen:=hl.len;refine gi 4 func209 rfl ntmps209 rfl ?_;intro L O w0;refine sL<|ab (zX 2003 rfl) Z<|e9 Z<|nA<|ab (zS 2009 [] cV eP rfl x_19) Z<|bD Z<|nA<|ar Z<|Y<|aS<|sL<|bm Z<|ba hZ Z<|ae Z<|Y<|aB ?_;refine aW [3,4,5,10,11] [2003] (D:=Nat) (fun k=>[(6,aD ((l.take k).any (kp x))),(12,int (k:Int))]) (fun k=>[(2009,dc (nt x (l.take k)))]) (fun k=>k<=l.length) (fun k=>l.length-k) (0) (Nat.zero_le _) ⟨rfl,rfl,trivial⟩ ⟨rfl,trivial⟩ ?_;intro k hI;refine sL<|ak Z<|Y<|aS<|cE rfl ?_ ?_
 ·intro V;refine aK<|gT<|aS<|aB<|sL ?_;have hk:k<l.length:=by simpa[ap]using V
  refine li k cV Z (bS hk)<|d6 oo iV Z<|ab (zA 2008 eP Z) Z<|ab (zB 2008 vf vg Z) Z<|Y<|aS<|sL<|aQ Z<|bX Z<|aQ Z ?_;refine AL.bool (t:=18) rfl ?_ ?_
  ·intro h2;refine lf 0 jf Z<|aP pP i0 Z<|lf 0 jf Z<|aP pP i0 Z<|ab (zL func263 (GJ _ _) Z) Z<|lT [3,4,5,6,8,10,11,12,18,23] [2003,2008,2009] ?_;refine bX Z<|bj Z<|Y<|cE rfl ?_ ?_
   ·intro h3;refine aS<|sL<|lf 0 jf Z<|aP pP i0 Z<|lf 0 jf Z<|aP pP i0 Z<|lq (rd (x:=fy) (j0 rfl (.inr rfl) rfl rfl uR wA wB Ad ?hn1) rfl) ?_;case hn1=>exact x_24
    refine bJ 30 true rfl (by show (!dA _ _)=true;have:=hf l[k] (List.getElem_mem hk);grind[dA])<|Y<|aY Z<|aL<|bW Z<|aP oo iV Z<|ab (zS 2033 (ah ct [x]) cV eP rfl) Z<|ab (zP 2009 cV eP lE rfl x_18 (by grind[Df,ah])) Z<|bD Z<|nA<|cI Z<|nA<|lf 0 jf Z<|aP pP i0 Z<|lf 0 jf Z<|aP pP i0 Z<|lq (rd (x:=fy) (j0 rfl (.inl rfl) rfl rfl uR wA wB Ad ?hn2) rfl) ?_;case hn2=>exact x_24
    refine bJ 56 false rfl (by show dA _ _=false;have:=hf l[k] (List.getElem_mem hk);grind[dA])<|Y<|aN Z<|aK<|gT<|aL<|bW Z<|aP oo iV Z<|ab (zS 2059 (ah ct [l[k]]) cV eP rfl) Z<|lT [3,4,5,6,10,11,12,57,59] [2003,2008,2009,2033,2059] ?_;refine ab (zP 2009 cV eP lE rfl x_18 (by grind[Df,ah])) Z<|bD Z<|lN<|gB<|gT<|aL<|bg Z<|ae Z<|Y ?_;have ha:(l.take k).any (kp x)=false:=by simpa using h2
    have hb:kp x l[k]=true:=by unfold kp;simpa using h3
    refine⟨k+1,hk,by omega,⟨(Eq.trans (b:=aD true) rfl (congrArg aD (by simp_all[pr]))),(iq rfl),trivial⟩,⟨(Eq.trans (b:=dc ((nt x (l.take k)++[x])++[l[k]])) (congrArg (AO.ai 167 3) (by grind[fx])) (congrArg dc (aae hk ha hb).symm)),trivial⟩,rfl,rfl⟩
   intro h3;refine aK<|gT<|aL<|bW Z<|aP oo iV Z<|ab (zS 2059 (ah ct [l[k]]) cV eP rfl) Z<|ab (zP 2009 cV eP lE rfl x_18 (by grind[Df,ah])) Z<|bD Z<|lN<|gB<|gT<|aL<|bg Z<|ae Z<|Y ?_;have ha:(l.take k).any (kp x)=false:=by simpa using h2
   have hb:kp x l[k]=false:=by unfold kp;simpa using h3
   refine⟨k+1,hk,by omega,⟨(Eq.trans (b:=aD ((l.take k).any (kp x))) rfl (congrArg aD (by simp_all[pr]))),(iq rfl),trivial⟩,⟨(Eq.trans (b:=dc (nt x (l.take k)++[l[k]])) (congrArg (AO.ai 167 3) (fx ct _ [_]).symm) (congrArg dc (aaf hk ha hb).symm)),trivial⟩,rfl,rfl⟩
  intro h2;refine aa Z<|aa Z<|aa Z<|aa Z<|aa Z<|aa Z<|bL Z<|Y<|aN Z<|aK<|gT<|aL<|bW Z<|aP oo iV Z<|ab (zS 2059 (ah ct [l[k]]) cV eP Z) Z<|lT [3,4,5,6,10,11,12,57,59] [2003,2008,2009,2059] ?_;refine ab (zP 2009 cV eP lE rfl x_18 (by grind[Df,ah])) Z<|bD Z<|lN<|gB<|gT<|aL<|bg Z<|ae Z<|Y ?_;have ha:(l.take k).any (kp x)=true:=by simpa using h2
  refine⟨k+1,hk,by omega,⟨(Eq.trans (b:=aD ((l.take k).any (kp x))) rfl (congrArg aD x_14)),(iq rfl),trivial⟩,⟨(Eq.trans (b:=dc (nt x (l.take k)++[l[k]])) (congrArg (AO.ai 167 3) (fx ct _ [_]).symm) (congrArg dc (aad hk ha).symm)),trivial⟩,rfl,rfl⟩
 intro V;refine aE<|eT<|eT<|eB<|gT<|aS<|sL<|aQ Z<|bX Z<|Y<|cE rfl ?_ ?_
 ·intro h4;refine aL<|bW Z<|aP oo iV Z<|ab (zS 2066 (ah ct [x]) cV eP rfl) Z<|ab (zP 2009 cV eP lE rfl x_18 (by grind[Df,ah])) Z<|bD Z<|nA<|bW Z<|bD Z<|Y<|aR ?_;have dZ:k=l.length:=by have h:=V;simp only[ap,decide_eq_false_iff_not]at h;omega
  subst dZ;refine ax ?_ ⟨(Eq.trans (b:=dc (nt x (l.take l.length)++[x])) (congrArg (AO.ai 167 3) (fx ct _ [_]).symm) (congrArg dc (by grind[aah]))),trivial⟩;rfl
 intro h4;refine aK<|gA<|bW Z<|bD Z<|Y<|aR ?_;have dZ:k=l.length:=by have h:=V;simp only[ap,decide_eq_false_iff_not]at h;omega
 subst dZ;refine ax ?_ ⟨(congrArg dc (by grind[aag])),trivial⟩;rfl
theorem gt{g:Value}{t n w c:Int}{p1:ga}{s1:Nat}{r1:List (List PV)}{p2:ga}{s2:Nat}{r2:List (List PV)}{p3:ga}{s3:Nat}{r3:List (List PV)}{p4:ga}{s4:Nat}{r4:List (List PV)}{is:Bool}{k:Int}:GC prog 196 [.ptr 0 0 0,aD is,int k] [(0,cD g t n w c),(1,.ai p1 s1 r1),(2,.ai p2 s2 r2),(3,.ai p3 s3 r3),(4,.ai p4 s4 r4)] (aD (!decide (bE is c k=0))) [(0,cD g t n w (bE is c k)),(1,.ai p1 s1 r1),(2,.ai p2 s2 r2),(3,.ai p3 s3 r3),(4,.ai p4 s4 r4)]:=by
 refine gi 6 func196 rfl ntmps196 rfl ?_;intro L O w0;refine sL<|ar Z<|Y<|aS<|sL<|aQ Z<|aQ Z ?_;refine AL.bool (t:=8) rfl ?_ ?_
 ·intro V;refine aM Z<|lc Z<|lf 7 uC Z<|aj ac Z<|ak Z<|bj Z<|Y<|cE rfl ?_ ?_
  ·intro h2;refine aL<|aM Z<|ae Z<|lc Z<|lf 7 uC Z<|ab (zB 0 ca cb Z) Z<|lT [0,6] [0,1,2,3,4] ?_;refine nA<|aM Z<|lc Z<|lf 7 uC Z<|aj ac Z<|ak Z<|bv Z<|Y<|aR ?_;refine az ⟨Eq.trans (b:=cD g t n w _) rfl (congrArg (cD g t n w) (by unfold bE;simp_all)),rfl,rfl,rfl,rfl,trivial⟩ ?_;refine congrArg (fun n:Int=>!decide (n=0)) ?_;grind[bE]
  intro h2;refine aK<|gA<|aM Z<|lc Z<|lf 7 uC Z<|aj ac Z<|ak Z<|bv Z<|Y<|aR ?_;refine az ⟨Eq.trans (b:=cD g t n w _) rfl (congrArg (cD g t n w) (by unfold bE;simp_all)),rfl,rfl,rfl,rfl,trivial⟩ ?_;refine congrArg (fun n:Int=>!decide (n=0)) ?_;grind[bE]
 intro V;refine aa Z<|aa Z<|aa Z<|aa Z<|aa Z<|bL Z<|Y<|aN Z<|aK<|gA<|aM Z<|lc Z<|lf 7 uC Z<|aj ac Z<|ak Z<|bv Z<|Y<|aR ?_;refine az ⟨Eq.trans (b:=cD g t n w _) rfl (congrArg (cD g t n w) (by unfold bE;simp_all)),rfl,rfl,rfl,rfl,trivial⟩ ?_;refine congrArg (fun n:Int=>!decide (n=0)) ?_;grind[bE]
theorem jv{g:Value}{t n w c:Int}{p1:ga}{s1:Nat}{r1:List (List PV)}{p2:ga}{s2:Nat}{r2:List (List PV)}{p3:ga}{s3:Nat}{r3:List (List PV)}(l:List aO)(m:Nat)(hl:LG l m)(hm:m<=1000)(k cc nn:Int)(hf:cL l k cc)(hn:dL nn=true):GC prog 198 [.ptr 0 0 0,int k,int cc,int nn] [(0,cD g t n w c),(1,.ai p1 s1 r1),(2,.ai p2 s2 r2),(3,.ai p3 s3 r3),(4,dc l)] (.au []) [(0,cD g t n w c),(1,.ai p1 s1 r1),(2,.ai p2 s2 r2),(3,.ai p3 s3 r3),(4,dc (bR l k cc nn))]:=by
 refine GC.intro (rs:=[]) func198 rfl ntmps198 x_8 trivial ?_;intro L O w0;refine sL<|ae Z<|ak Z<|Y<|cE rfl ?_ ?_
 ·intro V;refine aL<|aM Z<|aM Z<|lc Z<|lf 6 E4 Z<|iO gY Z<|ae Z<|ae Z<|lq (rd (x:=pP) (cP Z KW Z Z Z) Z)<|ae Z<|lq (rd (x:=oo) (cP Z DK Z Z Z) Z) ?_;refine AL.freeze 4 rfl ?_;refine ab (zC [(2009,4)] [4] [] func209 (aai l ⟨⟨k,cc⟩,nn⟩ m hl hm hf) (trivial) rfl rfl) Z<|lc Z<|lf 6 E4 Z<|ab (zB 0 z8 z' rfl) Z<|lT [] [0,1,2,3,4] ?_;refine lN ?_;refine iZ ?_ ⟨rfl,rfl,rfl,rfl,(congrArg dc (BL x_14).symm),trivial⟩;rfl
 intro V;refine aK ?_;refine iZ ?_ ⟨rfl,rfl,rfl,rfl,(congrArg dc (BK x_14).symm),trivial⟩;rfl
theorem OR(x:aw)(hx:x.ag.length<=1000000/\x.an.length<=1000000/\x.aq.length<=1000000):GC prog 132 [cj x] [] (.agg [int x.tick,int x.next,int x.aA,.own 2003,.own 2008,.own 2013]) [(2003,.ai 159 7 (ah aX x.ag)),(2008,df x.an),(2013,d7 x.aq)]:=by
 refine GC.intro (rs:=[.cell 2 50 (some 6)]) func132 rfl ntmps132 x_8 ⟨rfl,rfl,cu,trivial⟩ ?_;intro L O w0;refine sL<|ab (zX 2001 rfl) Z<|ab (zA 2002 mD rfl) Z<|nA<|ab (zS 2003 [] cz dy rfl x_19) Z<|lf 3 dr Z<|bo eg Z<|ab (zP 2003 cz dy jL rfl (Src.p rfl)) Z<|lf 3 dr Z<|ab (zB 2001 sM sN rfl) Z<|nA<|ab (zS 2008 [] f7 iu rfl x_19) Z<|lf 4 eF Z<|bo fS Z<|ab (zP 2008 f7 iu sQ rfl (Src.p rfl)) Z<|lf 4 eF Z<|ab (zB 2001 tQ tR rfl) Z<|lT [1,2] [2001,2002,2003,2008] ?_;refine nA<|ab (zS 2013 [] iI jO rfl x_19) Z<|lf 5 gn Z<|bo ii Z<|ab (zP 2013 iI jO wI rfl (Src.p rfl)) Z<|lf 5 gn Z<|ab (zB 2001 yh yk rfl) Z<|nA<|aP jG cu Z<|ab (zB 2002 eu ew rfl) Z<|Y<|aR ?_;trivial
theorem nF(g:Value)(x:aw)(l:List aO)(cd ch a b:Int)(hm:x.ag.length<=1000000000)(i:Nat)(c:be)(hi:eS x.ag ch=(i:Int))(hc:x.ag[i]? = some c)(hfa:i64 (c.loc+a))(hfb:i64 (c.aC+b)):GC prog 258 [.ptr 0 0 0,int ch,int a,int b] (p7 g x l cd) (.au []) (p7 g { x with ag:=x.ag.set i { c with loc:=c.loc+a,aC:=c.aC+b } } l cd):=by
 refine GC.intro (rs:=[]) func258 rfl ntmps258 x_8 trivial ?_;intro L O w0;refine sL<|aM Z<|lc Z<|lf 0 c8 Z<|aP jG cu Z<|ae Z<|ab (zL func200 (m9 x _ hm) rfl) Z<|ao Z<|nA<|aM Z<|lc Z<|lf 0 c8 Z<|lf 3 dr Z<|iO eg Z<|ae Z<|lq (rd (x:=.ptr 1 _ 0) (pu (i:=i) rfl cz rfl rfl rfl ?hn1 x_33) rfl) ?_;case hn1=>trivial
 refine lq (rd (x:=k7) (dT Z fF Z Z Z (dk hc) Z) Z)<|ab (zA 2009 dy Z) Z<|lT [0,2,3,8,9,23] [0,1,2,3,4,2009] ?_;refine ab (zB 2009 lu lv Z) Z<|nA<|lf 2 fH Z<|aj ac Z<|ae Z ?_;refine eo rfl ⟨rfl,ce hfa⟩<|lf 2 fH Z<|ab (zB 2009 ca cb rfl) Z<|nA<|lf 3 ic Z<|aj ac Z<|ae rfl ?_;refine eo rfl ⟨rfl,ce hfb⟩<|lf 3 ic Z<|ab (zB 2009 ca cb rfl) Z<|Y<|aG 8 []<|tq 0 (cG rfl)<|tq 1 (rc rfl)<|tq 2 (rf 0 c8 rfl)<|tq 3 (rf 3 dr rfl)<|tq 4 (gC eg rfl)<|tq 5 (dW rfl)<|yq 6 (dw k7 fF rfl)<|yq 7 (rd (x:=.ptr 1 _ 0) (pu (i:=i) rfl cz rfl rfl rfl ?hn2 x_33) rfl) ?_;case hn2=>trivial
 refine yl rfl (zQ 1 ((aX { c with loc:=c.loc+a,aC:=c.aC+b }).map PV.v) lu lv rfl (dk hc)) ?_;refine iZ ?_ ⟨rfl,Eq.trans (b:=AO.ai 159 7 ((ah aX x.ag).set i ((aX { c with loc:=c.loc+a,aC:=c.aC+b }).map PV.v))) rfl (congrArg (AO.ai 159 7) lB),rfl,rfl,rfl,trivial⟩;rfl
theorem KJ(x:aw)(mG:x.an.length<=1000)(lr:x.aq.length<=1000):GC prog 254 [cj x] [] (.own 2008) [(2008,.ai 3 1 (ah kt (wH x)))]:=by
 refine gi 2 func254 rfl ntmps254 rfl ?_;intro L O w0;refine sL<|ab (zX 2001 rfl) Z<|e9 Z<|nA<|ab (zS 2008 [] iU lY rfl x_19) Z<|bD Z<|Y<|aS<|sL<|lf 4 eF Z<|bo fS Z<|ba jb Z<|ae Z<|Y<|aB ?_;refine aW [1,2,3,10,11] [2001] (D:=Nat) (fun k=>[(12,int (k:Int))]) (fun k=>[(2008,AO.ai 3 1 (ah kt ((x.an.take k).map fun h=>h.key)))]) (fun k=>k<=x.an.length) (fun k=>x.an.length-k) (0) (Nat.zero_le _) ⟨rfl,trivial⟩ ⟨rfl,trivial⟩ ?_;intro k hI;refine sL<|ak Z<|Y<|aS<|cE rfl ?_ ?_
 ·intro V;refine aK<|gT<|aS<|aB<|sL ?_;have hk:k<x.an.length:=by simpa[ap]using V
  refine li k f7 Z (bS hk)<|d6 nG kZ Z<|ab (zA 2005 iu Z) Z<|ab (zB 2005 nJ nL Z) Z<|Y<|aL<|bW Z<|lf 0 u7 Z<|aj ac Z<|ab (zS 2019 (ah kt [x.an[k].key]) iU lY Z) Z<|lT [1,2,3,10,11,12,16,19] [2001,2005,2008,2019] ?_;refine ab (zP 2008 iU lY uy rfl x_18 x_69) Z<|bD Z<|lN<|gB<|gT<|aL<|bg Z<|ae Z<|Y ?_;refine⟨k+1,hk,by omega,x_11,⟨(congrArg (AO.ai 3 1) ((fx kt _ [x.an[k].key]).symm.trans (congrArg (ah kt) (by grind[List.take_succ_eq_append_getElem])))),trivial⟩,rfl,rfl⟩
 intro V;refine aE<|eT<|eT<|eB<|gT<|aS<|sL<|lf 5 gn Z<|bo ii Z<|ba j7 Z<|ae Z<|Y<|aB ?_;have dZ:k=x.an.length:=by have h:=V;simp only[ap,decide_eq_false_iff_not]at h;omega
 refine aW [2,3,23,24] [2001] (D:=Nat) (fun j=>[(25,int (j:Int))]) (fun j=>[(2008,AO.ai 3 1 (ah kt (x.an.map (fun h=>h.key)++(x.aq.take j).map fun h=>h.key)))]) (fun j=>j<=x.aq.length) (fun j=>x.aq.length-j) (0) (Nat.zero_le _) ⟨rfl,trivial⟩ ⟨(congrArg (fun l=>AO.ai 3 1 (ah kt l)) x_14),trivial⟩ ?_;intro j hI;refine sL<|ak Z<|Y<|aS<|cE rfl ?_ ?_
 ·intro h2;refine aK<|gT<|aS<|aB<|sL ?_;have hj:j<x.aq.length:=by simpa[ap]using h2
  refine li j iI Z (bS hj)<|d6 ow l5 Z<|ab (zA 2007 jO Z) Z<|ab (zB 2007 oK oL Z) Z<|Y<|aL<|bW Z<|lf 0 u9 Z<|aj ac Z<|ab (zS 2032 (ah kt [x.aq[j].key]) iU lY Z) Z<|lT [2,3,23,24,25,29,32] [2001,2007,2008,2032] ?_;refine ab (zP 2008 iU lY uy rfl x_18 (by grind[ah,List.length_take])) Z<|bD Z<|lN<|gB<|gT<|aL<|bg Z<|ae Z<|Y ?_;refine⟨j+1,hj,by omega,x_11,⟨(congrArg (AO.ai 3 1) ((fx kt _ [x.aq[j].key]).symm.trans (congrArg (ah kt) (by grind[List.take_succ_eq_append_getElem])))),trivial⟩,rfl,rfl⟩
 intro h2;refine aE<|eT<|eT<|eB<|gA<|bW Z<|bD Z<|Y<|aR ?_;refine ax ?_ ⟨(congrArg (fun l=>AO.ai 3 1 (ah kt l)) (by have h:=h2;simp only[ap,decide_eq_false_iff_not]at h;rw[show j=x.aq.length by omega,List.take_length];rfl)),trivial⟩;rfl
theorem KK(l:List Int)(n:Int)(hm:l.length<=1000000000):GC prog 253 [.p (.ab 3 1 (ah kt l)),int n] [] (aD (l.any fun k=>k==n)) []:=by
 refine gi 4 func253 rfl ntmps253 rfl ?_;intro L O w0;refine sL<|ar Z<|Y<|aS<|sL<|bm Z<|ba x4 Z<|ae Z<|Y<|aB ?_;refine aW [1,4,7,8] [] (D:=Nat) (fun k=>[(9,int (k:Int))]) (fun k=>[]) (fun k=>k<=l.length/\∀j (h:j<l.length),j<k->(l[j]==n)=false) (fun k=>l.length-k) (0) (⟨Nat.zero_le _,fun j _ h=>absurd h x_2⟩) ⟨rfl,trivial⟩ trivial ?_;intro k hI;obtain⟨eN,bB⟩:=hI;refine sL<|ak Z<|Y<|aS<|cE rfl ?_ ?_
 ·intro V;refine aK<|gT<|aS<|aB<|sL ?_;have hk:k<l.length:=by simpa[ap]using V
  refine li k iU Z (bS hk)<|oy ac Z<|ao Z<|nA<|ae Z<|ae Z<|ak Z<|Y<|cE rfl ?_ ?_
  ·intro h2;refine sL<|cI Z<|Y<|aR<|rB<|rT<|rT<|rB<|rT ?_;refine az trivial ?_;grind
  intro h2;refine aK<|gB<|gT<|aL<|bg Z<|ae Z<|Y ?_;refine⟨k+1,⟨hk,all_succ (p:=fun k=>k==n) hk bB x_2⟩,by omega,x_11,trivial,rfl,rfl⟩
 intro V;refine aE<|eT<|eT<|eB<|gA<|ar Z<|Y<|aR ?_;refine az trivial ?_;grind[BD,ap]

abbrev SH(d:du):List (Nat×AO):=[(1,.ai 195 1 (oS d.cells)),(2,.ai 192 2 (oT d.bu))]
abbrev aeL(d:du)(es:List aV):List (Nat×AO):=[(1,.ai 195 1 (oS d.cells)),(2,.ai 192 2 (oT d.bu)),(3,uT es)]
abbrev inV(l:List Int):AV:=.p (.ab 3 1 (ah kt l))
abbrev kAr(l:List Int):AO:=.ai 3 1 (ah kt l)
theorem aeM{cs:List Cell}{k:Nat}(hk:k<cs.length):oS (cs.take k)++[[nQ cs[k].bytes]]=oS (cs.take (k+1)):=by
 rw[List.take_succ_eq_append_getElem hk];unfold oS;rw[List.map_append];rfl
theorem ady{cs:List Cell}{i:Nat}{b:List Int}:(oS cs).set i [nQ b]=oS (cs.set i ⟨b⟩):=by unfold oS;rw[List.map_set]
theorem GC.bT{f:FuncId}{args:List AV}{d:du}(h:GC prog f args [] Gn (SH d)):GC prog f args [] (mt d) []:=
 (GX.frozen (Z:=fun y=>y=mt d) h fun x ob ⟨V,h2⟩=>by
   subst V h2;exact⟨_,Still.agg (.cons (Still.row (e:=⟨195,none⟩) (sz:=1) (rows:=oS d.cells) rfl) (.cons (Still.row (e:=⟨192,none⟩) (sz:=2) (rows:=oT d.bu) rfl) .nil)),rfl⟩).mono fun y o ⟨e1,e2⟩=>⟨e2,e1⟩
theorem GC.aeN{f:FuncId}{args:List AV}{d:du}{b:Bool}(h:GC prog f args [] (.au [Gn,aD b]) (SH d)):GC prog f args [] (.au [mt d,aD b]) []:=
 (GX.frozen (Z:=fun y=>y=.au [mt d,aD b]) h fun x ob ⟨V,h2⟩=>by
   subst V h2;exact⟨_,Still.au (.cons (Still.agg (.cons (Still.row (e:=⟨195,none⟩) (sz:=1) (rows:=oS d.cells) rfl) (.cons (Still.row (e:=⟨192,none⟩) (sz:=2) (rows:=oT d.bu) rfl) .nil))) (.cons (Still.p _) .nil)),rfl⟩).mono fun y o ⟨e1,e2⟩=>⟨e2,e1⟩
theorem x_92{p:Prop}(c:p:=by first|(simp[fU,pH];done)|(simp[fU,pH];omega)):p:=c
theorem adz(d:du)(hs:DkS d):GC prog 131 [mt d] [] (Gn) (SH d):=by
 refine GC.intro (rs:=[.cell 2 43 (some 2)]) func131 rfl ntmps131 x_8 x_80 ?_;intro L O w0;refine sL<|ab (zX 2001 Z) Z<|ab (zA 2002 Du Z) Z<|nA<|lq (rd (x:=.agg [vV _,vV _]) (cP Z adU Z Z Z) Z)<|ab (zA 2003 Du Z) Z<|ab (zB 2003 Dv Dw Z) Z<|Y<|aS<|aS ?_;refine AW.pi 1 2003 0 195 1 rfl x_3 rfl ?_;refine AW.pi 2 2003 1 192 2 rfl x_3 rfl ?_;refine aL<|lf 0 n9 Z<|bo oB Z<|ba po Z ?_;refine dC 11 (int (d.cells.length:Int)) (congrArg (fun n:Nat=>int (n:Int)) (fU _)) ?_;refine ae Z<|Y<|aB ?_;refine aW [1,2,3,10,11] [2,2001,2002,2003] (D:=Nat) (fun a=>[(12,int (a:Int))]) (fun a=>[(1,.ai 195 1 (oS (d.cells.take a)))]) (fun a=>a<=d.cells.length) (fun a=>d.cells.length-a) (0) (Nat.zero_le _) ⟨rfl,trivial⟩ ⟨rfl,trivial⟩ ?_;intro k hI;have eN:k<=d.cells.length:=hI;refine sL<|ak Z<|Y<|aS<|cE rfl ?_ ?_
 ·intro V;refine aK<|gT<|aS<|aB<|aS ?_;have hk:k<d.cells.length:=by have h:=V;simp only[decide_eq_true_eq]at h;omega
  have oF:=hs.lc;refine aL<|li k xE Z (vw hk)<|d6 qN zn Z<|ab (zA 2005 CB Z) Z<|ab (zB 2005 E2 E3 Z) Z<|lT [1,2,3,5,10,11,12] [1,2,2001,2002,2003,2005] ?_;refine Y<|aG 10 [1,2018]<|tq 0 (rf 0 n9 rfl)<|tq 1 (gC oB rfl)<|tq 3 (rf 0 uB rfl)<|tq 4 (jj kb rfl)<|cm 2 rfl (zS 2018 (ah dF []) fh ie rfl x_106)<|cm 5 rfl (zP 2018 fh ie mu rfl (Src.p rfl) (by have:=hs.bc _ (List.getElem_mem hk);simp[ah];omega)) ?_;refine AG.freeze 2018 rfl ?_;refine yq 6 (rd (x:=qN) (cP rfl acN rfl rfl rfl) rfl)<|cm 7 rfl (zS 2023 [[nQ d.cells[k].bytes]] xE CB rfl x_55)<|cm 8 rfl (zP 1 xE CB VT rfl x_18 x_92)<|yq 9 (rf 0 n9 rfl)<|yl rfl (zB 2003 VF VG rfl)<|gB<|gT<|aL<|bg Z<|ae Z<|Y ?_;refine⟨(k+1),hk,by show d.cells.length-(k+1)<d.cells.length-k;omega,x_11,⟨(congrArg (AO.ai 195 1) (aeM hk)),trivial⟩,rfl,rfl⟩
 intro V;refine aE<|eT<|eT<|eB<|gT<|aS<|aS ?_;have dZ:k=d.cells.length:=by have h:=V;simp only[decide_eq_false_iff_not]at h;omega
 subst dZ;rw[List.take_length];refine aL<|lf 1 ru Z<|bo sk Z<|ba vT Z ?_;refine dC 29 (int (d.bu.length:Int)) (congrArg (fun n:Nat=>int (n:Int)) (pH _)) ?_;refine ae Z<|Y<|aB ?_;refine aW [2,3,28,29] [1,2001,2002,2003] (D:=Nat) (fun a=>[(30,int (a:Int))]) (fun a=>[(2,.ai 192 2 (oT (d.bu.take a)))]) (fun a=>a<=d.bu.length) (fun a=>d.bu.length-a) (0) (Nat.zero_le _) ⟨rfl,trivial⟩ ⟨rfl,trivial⟩ ?_;intro j hI;have ro:j<=d.bu.length:=hI;refine sL<|ak Z<|Y<|aS<|cE rfl ?_ ?_
 ·intro h2;refine aK<|gT<|aS<|aB<|aS ?_;have hj:j<d.bu.length:=by have h:=h2;simp only[decide_eq_true_eq]at h;omega
  have hlw:=hs.lw;refine aL<|li j uz Z (td hj)<|d6 kj AY Z<|ab (zA 2007 CA Z) Z<|lT [2,3,7,28,29,30,33] [1,2,2001,2002,2003,2007] ?_;refine ab (zB 2007 E0 E1 rfl) Z<|Y<|aG 12 [2,2038]<|tq 0 (rf 1 ru rfl)<|tq 1 (gC sk rfl)<|tq 2 (rf 0 xG rfl)<|tq 3 (aZ ac rfl)<|tq 5 (rf 1 zm rfl)<|tq 6 (jj kb rfl)<|cm 4 rfl (zS 2038 (ah dF []) fh ie rfl x_106)<|cm 7 rfl (zP 2038 fh ie mu rfl (Src.p rfl) (by have:=hs.bw _ (List.getElem_mem hj);simp[ah];omega)) ?_;refine AG.freeze 2038 rfl ?_;refine yq 8 (rd (x:=kj) (cP rfl acq rfl rfl rfl) rfl)<|cm 9 rfl (zS 2043 [[.v (.int .i64 d.bu[j].at_),nQ d.bu[j].bytes]] uz CA rfl x_55)<|cm 10 rfl (zP 2 uz CA VS rfl x_18 x_92)<|yq 11 (rf 1 ru rfl)<|yl rfl (zB 2003 VH VI rfl)<|gB<|gT<|aL<|bg Z<|ae Z<|Y ?_;refine⟨(j+1),hj,by show d.bu.length-(j+1)<d.bu.length-j;omega,x_11,⟨(congrArg (AO.ai 192 2) (adr hj)),trivial⟩,rfl,rfl⟩
 intro h2;refine aE<|eT<|eT<|eB<|gT<|aS ?_;have Ji:j=d.bu.length:=by have h:=h2;simp only[decide_eq_false_iff_not]at h;omega
 subst Ji;rw[List.take_length];refine aL<|aP qm mE Z<|ab (zB 2002 Dv Dw Z) Z<|lT [2] [1,2,2001,2002,2003] ?_;refine Y<|aR ?_;refine ax ?_ ⟨rfl,rfl,trivial⟩;rfl
theorem aeO(d:du)(i:Nat)(b:List Int)(hd:ik d=true)(hi:i<d.cells.length)(hw:d.bu.length<600)(hb:b.length=128):GC prog 166 [mt d,int (i:Int),gV b] [] (.au [Gn,aD true]) (SH (v6 d i b)):=by
 refine GC.intro (rs:=[.cell 6 43 (some 2),.tmp 7]) func166 rfl ntmps166 x_8 ⟨rfl,rfl,mE,rfl,trivial⟩ ?_;intro L O w0;refine sL<|ab (zX 2003 Z) Z<|ab (zA 2006 Du Z) Z<|ar Z<|Y<|aS<|aS ?_;have gR:=(wL hd).1;refine aL<|aP nq mE Z<|ab (zC [] [] [] func87 (FU d) (trivial) rfl rfl) Z<|bJ 10 true rfl (hd)<|ma Z<|Y<|aN Z<|aK<|gA<|aP nq mE Z<|ab (zC [(1,1),(2,2)] [1,2] [] func131 (adz d (acF hd)) (trivial) rfl rfl) Z<|ab (zA 2008 Du rfl) Z<|ab (zB 2008 Dv Dw rfl) Z<|Y<|aS<|aG 10 [2,2018]<|tq 0 (rf 1 ru rfl)<|tq 1 (gC sk rfl)<|tq 2 (dW rfl)<|tq 4 (ng rfl)<|cm 3 rfl (zS 2018 (ah dF []) fh ie rfl x_106)<|gX [6,7,8,16,17,18,19] [1,2,2003,2006,2008,2018] ?_;refine cm 5 rfl (zP 2018 fh ie mu rfl (Src.p rfl) (by have:=hb;simp[ah];omega)) ?_;refine AG.freeze 2018 rfl ?_;refine yq 6 (rd (x:=kj) (cP rfl acq rfl rfl rfl) rfl)<|cm 7 rfl (zS 2022 [[.v (.int .i64 (i:Int)),nQ b]] uz CA rfl x_55)<|cm 8 rfl (zP 2 uz CA VS rfl x_18 x_92)<|yq 9 (rf 1 ru rfl)<|yl rfl (zB 2008 VH VI rfl)<|gT<|aS<|aS ?_;refine AW.obj 2 (.ai 192 2 (oT (v6 d i b).bu)) (congrArg (AO.ai 192 2) (show oT d.bu++[[.v (.int .i64 (i:Int)),nQ b]]=_ by unfold oT v6;rw[List.map_append];rfl)) ?_;refine aL<|aP qm mE Z<|ab (zL func87 (FU (v6 d i b)) Z) Z<|bJ 26 true Z (ab7 hd hi hw hb)<|ma Z<|Y<|aN Z<|aK<|gA<|aP qm mE Z<|ab (zB 2006 Dv Dw Z) Z<|cI Z<|Y<|aR ?_;refine ax ?_ ⟨rfl,rfl,trivial⟩;rfl
theorem aeP(d:du)(i:Nat)(b:List Int)(hd:ik d=true)(hi:i<d.cells.length)(hw:d.bu.length<600)(hb:b.length=128):GC prog 166 [mt d,int (i:Int),gV b] [] (.au [mt (v6 d i b),aD true]) []:=(aeO d i b hd hi hw hb).aeN
theorem acZ{vA:List Int}{ws:List gq}{k:Nat}{cs:List Cell}(hk:k<ws.length):abP vA (ws.drop k) k cs=abP vA (ws.drop (k+1)) (k+1) (ab8 vA cs k ws[k]):=by
 rw[List.drop_eq_getElem_cons hk];rfl
theorem aeQ{vA:List Int}{k:Nat}{cs:List Cell}{w:gq}(h:(vA[k]?).getD 0<1):ab8 vA cs k w=cs:=if_pos (by unfold acv;omega)
theorem ac0{vA:List Int}{k m:Nat}{cs:List Cell}{w:gq}(h:¬(vA[k]?).getD 0<1)(V:(m:Int)<=(vA[k]?).getD 0)(h2:m<=128)(h3:(vA[k]?).getD 0<=m\/128<=m)(hc:w.at_.toNat<cs.length):ab8 vA cs k w=cs.set w.at_.toNat ⟨abL (cs[w.at_.toNat]).bytes w.bytes m⟩:=by
 have e:acv vA k=m:=by unfold acv;omega
 unfold ab8;rw[e,if_neg x_2,List.getElem?_eq_getElem hc];rfl
theorem ac1{old new:List Int}{m:Nat}(V:(yP old).length=128)(h2:new.length=128)(hm:m<=128):(abL old new m).length=128:=by
 unfold abL;rw[List.length_append,List.length_take,List.length_drop];omega
theorem adA{c:Cell}(h:lL c=true):(yP c.bytes).length=128:=by
 unfold lL at h;unfold yP;split
 ·simp
 simp_all
theorem aeR{old new:List Int}{m:Nat}(V:(yP old).length=128)(h2:new.length=128)(hm:m<128):(abL old new m).set m (new[m]' x_2)=abL old new (m+1):=by
 unfold abL;rw[List.set_append_right _ _ (by rw[List.length_take];omega),List.take_succ_eq_append_getElem x_2,List.append_assoc,List.length_take,show m-min m new.length=0 by omega,List.drop_eq_getElem_cons (show m<(yP old).length by omega)];rfl
theorem aeS{old new:List Int}:abL old new 0=yP old:=by unfold abL;simp
theorem aeT{old new:List Int}(V:(yP old).length=128)(h2:new.length=128):abL old new 128=new:=by
 unfold abL;rw[List.take_of_length_le x_2,List.drop_eq_nil_of_le x_2,List.append_nil]
theorem aeU{l:List Int}{i:Nat}{x:Int}:(ah dF l).set i [.v (.int .u8 x)]=ah dF (l.set i x):=by unfold ah;rw[List.map_set];rfl
theorem acC{cs:List Cell}{i:Nat}{b:List Int}(h:cs.all lL=true)(hb:b.length=128):(cs.set i ⟨b⟩).all lL=true:=by
 rw[List.all_eq_true]at *;intro x hx;rcases List.mem_or_eq_of_mem_set hx with q|rfl
 ·exact h x q
 unfold lL;simp[hb]
theorem adB{d:du}{vA:List Int}(h:ik d=true):acU d vA=⟨abP vA d.bu 0 d.cells,[]⟩:=if_pos h
theorem ac2{cs:List Cell}(h:cs.all lL=true){i:Nat}(hi:i<cs.length):lL cs[i]=true:=List.all_eq_true.1 h _ (List.getElem_mem hi)
theorem aeV{c:Cell}(h:lL c=true):c.bytes.length<=128:=by unfold lL at h;simp only[Bool.or_eq_true,decide_eq_true_eq]at h;omega
theorem x_41{p:Prop}(c:p:=by exact ⟨(k+1,cs.set d.bu[k].at_.toNat ⟨abL cs[d.bu[k].at_.toNat].bytes d.bu[k].bytes m⟩),⟨hk,by rw[List.length_set];exact qH,acC hco (ac1 TP (Jk hd hk) x_2),by rw[<-pJ,acZ hk,ac0 acH x_2 x_2 ac3 abV]⟩,by show d.bu.length-(k+1)<d.bu.length-k;omega,x_11,⟨(congrArg (AO.ai 195 1) ady),trivial⟩,rfl,rfl⟩):p:=c
theorem x_133{p:Prop}(c:p:=by have h:=h2;simp only[ap,decide_eq_false_iff_not]at h;omega):p:=c
theorem aeW(d:du)(vA:List Int)(hd:ik d=true):GC prog 71 [mt d,inV vA] [] (Gn) (SH (acU d vA)):=by
 refine GC.intro (rs:=[.cell 4 43 (some 2)]) func71 rfl ntmps71 x_8 x_80 ?_;intro L O w0;refine sL<|ab (zX 2002 Z) Z<|ab (zA 2004 Du Z) Z<|Y<|aS<|aS ?_;have gR:=(wL hd).1;refine aL<|aP nq mE Z<|ab (zC [] [] [] func87 (FU d) (trivial) Z Z) Z<|bJ 12 true Z (hd)<|ma Z<|Y<|aN Z<|aK<|gA<|aP nq mE Z<|ab (zC [(1,1),(2,2)] [1,2] [] func131 (adz d (acF hd)) (trivial) Z Z) Z<|ab (zA 2005 Du Z) Z<|ab (zB 2005 Dv Dw Z) Z<|nA<|lf 1 ru Z<|ab (zB 2005 VH VI Z) Z<|Y<|aS<|sL<|lf 1 ru Z<|bo sk Z<|ba vT Z ?_;refine dC 20 (int (d.bu.length:Int)) (congrArg (fun n:Nat=>int (n:Int)) (pH _)) ?_;refine ae Z<|Y<|aB ?_;refine aW [1,4,5,19,20] [2002,2004,2005] (D:=Nat×List Cell) (fun a=>[(21,int (a.1:Int))]) (fun a=>[(1,.ai 195 1 (oS a.2))]) (fun a=>a.1<=d.bu.length/\a.2.length=d.cells.length/\a.2.all lL=true/\abP vA (d.bu.drop a.1) a.1 a.2=abP vA d.bu 0 d.cells) (fun a=>d.bu.length-a.1) ((0,d.cells)) (⟨Nat.zero_le _,rfl,(wL hd).2.1,rfl⟩) ⟨rfl,trivial⟩ ⟨rfl,trivial⟩ ?_;intro ⟨k,cs⟩ hI;obtain⟨eN,qH,hco,pJ⟩:=hI;replace eN:k<=d.bu.length:=eN;replace qH:cs.length=d.cells.length:=qH;replace hco:cs.all lL=true:=hco;replace pJ:abP vA (d.bu.drop k) k cs=abP vA d.bu 0 d.cells:=pJ;refine sL<|ak Z<|Y<|aS<|cE rfl ?_ ?_
 ·intro V;refine aK<|gT<|aS<|aB<|aS ?_;have hk:k<d.bu.length:=by have h:=V;simp only[decide_eq_true_eq]at h;omega
  have MQ:=acW hd hk;have abV:d.bu[k].at_.toNat<cs.length:=by omega
  refine aL<|ae Z<|li k uz Z (td hk)<|d6 kj AY Z<|ab (zA 2007 CA Z) Z<|lT [1,4,5,7,19,20,21,23,25] [1,2002,2004,2005,2007] ?_;refine ao Z<|ab (zB 2007 E0 E1 Z) Z<|nA<|ao Z<|Y ?_;refine aJ [1,4,5,7,19,20,21] [1,2002,2004,2005,2007] (D:=Unit) (fun jd=>[(8,int ((vA[k]?).getD 0))]) (fun jd=>[]) (fun jd=>True) ?_ ?_
  ·refine sL<|ae Z<|bm Z<|ba x4 Z<|ak Z<|Y<|cE rfl ?_ ?_
   ·intro h2;have uG:k<vA.length:=by have h:=h2;simp only[ap,decide_eq_true_eq]at h;omega
    refine aL<|bm Z<|ae Z<|li k iU Z (bS uG)<|oy ac Z<|ao Z<|Y ?_;refine⟨(),trivial,⟨(Eq.trans (b:=int _) rfl (congrArg int (show vA[k]=((vA[k]?).getD 0) by rw[List.getElem?_eq_getElem uG];rfl))),trivial⟩,trivial,rfl,rfl⟩
   intro h2;refine aK<|gT ?_;refine⟨(),trivial,⟨(Eq.trans (b:=int _) rfl (congrArg int (show (0:Int)=((vA[k]?).getD 0) by rw[List.getElem?_eq_none x_133];rfl))),trivial⟩,trivial,rfl,rfl⟩
  intro jd hJ;refine aS<|sL<|ae Z<|ak Z<|Y<|cE rfl ?_ ?_
  ·intro h3;refine aE<|eT<|eB<|gT ?_;have acH:((vA[k]?).getD 0)<1:=by have h:=h3;simpa using h
   refine aL<|bg Z<|ae Z<|Y ?_;refine⟨(k+1,cs),⟨hk,qH,hco,by rw[<-pJ,acZ hk,aeQ acH]⟩,by show d.bu.length-(k+1)<d.bu.length-k;omega,x_11,⟨rfl,trivial⟩,rfl,rfl⟩
  intro h3;refine aK<|gT<|aS ?_;have acH:¬((vA[k]?).getD 0)<1:=by have h:=h3;simpa using h
  have TP:=adA (ac2 hco abV);refine aL<|lf 0 n9 Z<|iO oB Z<|lf 0 xG Z<|aj ac Z<|lq (rd (x:=.ptr 1 _ 0) (pu (i:=d.bu[k].at_.toNat) rfl xE rfl rfl rfl ?hn1 (by rw[fU];exact abV)) rfl) ?_;case hn1=>exact(Int.toNat_of_nonneg MQ.1).symm
  refine lf 0 uB Z<|lq (rd (x:=c7) (dT rfl kb rfl rfl rfl (vw abV) rfl) rfl)<|ab (zC [(1,2043)] [2043] [] func154 (Zy cs[d.bu[k].at_.toNat].bytes (Nat.le_trans (aeV (ac2 hco abV)) x_3)) (trivial) rfl rfl) Z<|bD Z<|Y<|aS<|sL<|ao Z<|Y<|aB ?_;refine aW [1,4,5,7,8,9,19,20,21] [1,2002,2004,2005,2007] (D:=Nat) (fun b=>[(10,int (b:Int))]) (fun b=>[(2043,iT (abL cs[d.bu[k].at_.toNat].bytes d.bu[k].bytes b))]) (fun b=>b<=128/\(b:Int)<=((vA[k]?).getD 0)) (fun b=>128-b) (0) (⟨Nat.zero_le _,by omega⟩) ⟨rfl,trivial⟩ ⟨(Eq.trans (b:=iT (yP cs[d.bu[k].at_.toNat].bytes)) rfl (congrArg iT aeS.symm)),trivial⟩ ?_;intro m hI;obtain⟨hm1,hm2⟩:=hI;replace hm1:m<=128:=hm1;replace hm2:(m:Int)<=((vA[k]?).getD 0):=hm2;refine aS<|sL<|ae Z<|ae Z<|ak Z<|aQ Z ?_;refine AL.bool (t:=47) rfl ?_ ?_
  ·intro h4;refine ae Z<|ak Z<|bj Z<|Y<|cE rfl ?_ ?_
   ·intro h5;refine aK<|gT<|aS<|aB ?_;have hm:(m:Int)<((vA[k]?).getD 0)/\m<128:=by
     have V:=h4;have h2:=h5;simp only[decide_eq_true_eq]at V h2;omega
    have vX:=Jk hd hk;have vd:=ac1 (m:=m) TP vX x_2;refine aL<|bW Z<|ae Z<|lf 1 zm Z<|bo kb Z<|ae Z<|li m fh rfl (bS x_2)<|oy tf Z<|lq (rj m fh rfl (by rw[ap];omega))<|ab (zQ 2043 [.v (.int .u8 (d.bu[k].bytes[m]' x_2))] Vs Vt rfl (bS x_2)) Z<|lT [1,4,5,7,8,9,10,19,20,21] [1,2002,2004,2005,2007,2043] ?_;refine lN<|gB<|gT<|aL<|ae Z<|bg Z<|ao Z<|Y ?_;refine⟨(m+1),x_99,by show 128-(m+1)<128-m;omega,x_11,⟨(Eq.trans (congrArg (AO.ai 5 1) aeU) (congrArg iT (aeR TP (Jk hd hk) x_2))),trivial⟩,rfl,rfl⟩
   intro h5;refine aE<|eT<|eT<|eB<|gT ?_;have ac3:((vA[k]?).getD 0)<=m\/128<=m:=by first|(have h:=h5;simp only[decide_eq_false_iff_not]at h;omega)|(have h:=h4;simp only[decide_eq_false_iff_not]at h;omega)|(have h:=h3;simp only[decide_eq_false_iff_not]at h;omega)|(have h:=V;simp only[decide_eq_false_iff_not]at h;omega)
   refine aL<|lf 0 n9 Z<|iO oB Z<|lf 0 xG Z<|aj ac Z<|bW Z<|lq (rd (x:=.ptr 1 _ 0) (pu (i:=d.bu[k].at_.toNat) rfl xE rfl rfl rfl ?hn2 (by rw[fU];exact abV)) rfl) ?_;case hn2=>exact(Int.toNat_of_nonneg MQ.1).symm
   refine lf 0 uB rfl ?_;refine AL.freeze 2043 rfl ?_;refine ab (zQ 1 [nQ (abL cs[d.bu[k].at_.toNat].bytes d.bu[k].bytes m)] Ih Ii Z (vw abV)) Z<|lN<|gB<|gT<|aL<|bg Z<|ae Z<|Y ?_;refine x_41
  intro h4;refine aa Z<|aa Z<|bL Z<|Y<|aN Z<|aE<|eT<|eT<|eB<|gT ?_;have ac3:((vA[k]?).getD 0)<=m\/128<=m:=by first|(have h:=h4;simp only[decide_eq_false_iff_not]at h;omega)|(have h:=h3;simp only[decide_eq_false_iff_not]at h;omega)|(have h:=V;simp only[decide_eq_false_iff_not]at h;omega)
  refine aL<|lf 0 n9 Z<|iO oB Z<|lf 0 xG Z<|aj ac Z<|bW Z<|lq (rd (x:=.ptr 1 _ 0) (pu (i:=d.bu[k].at_.toNat) rfl xE rfl rfl rfl ?hn3 (by rw[fU];exact abV)) rfl) ?_;case hn3=>exact(Int.toNat_of_nonneg MQ.1).symm
  refine lf 0 uB rfl ?_;refine AL.freeze 2043 rfl ?_;refine ab (zQ 1 [nQ (abL cs[d.bu[k].at_.toNat].bytes d.bu[k].bytes m)] Ih Ii Z (vw abV)) Z<|lT [1,4,5,19,20,21] [1,2002,2004,2005,2007] ?_;refine lN<|gB<|gT<|aL<|bg Z<|ae Z<|Y ?_;refine x_41
 intro V;refine aE<|eT<|eT<|eB<|gT<|aS ?_;have dZ:k=d.bu.length:=by have h:=V;simp only[decide_eq_false_iff_not]at h;omega
 have aeX:cs=abP vA d.bu 0 d.cells:=by rw[<-pJ,dZ,List.drop_length];rfl
 refine aT [4,5] [1,2002,2004,2005] ?_;refine AW.pi 2 2005 1 192 2 rfl x_3 rfl ?_;refine aL<|aP qm mE Z<|ab (zB 2004 Dv Dw Z) Z<|Y<|aR ?_;rw[adB hd,<-aeX];refine ax ?_ ⟨rfl,rfl,trivial⟩;rfl
theorem adC{vA:List Int}:∀(ws:List gq) (k:Nat) (cs:List Cell),(∀j,k<=j->j<k+ws.length->vA[j]? = some 128)->(∀w∈ws,w.bytes.length=128/\w.at_.toNat<cs.length)->cs.all lL=true->abP vA ws k cs=ws.foldl abT cs
 |[],_,_,_,_,_=>rfl
 |w::ws,k,cs,hk,hw,hc=>by
  have V:=hw w x_19;have uG:=hk k (Nat.le_refl _) x_19;have e:ab8 vA cs k w=abT cs w:=by
   rw[ac0 (m:=128) (by rw[uG];decide) (by rw[uG];decide) x_2 (.inr x_2) V.2,aeT (adA (ac2 hc V.2)) V.1];rfl
  show abP vA ws (k+1) (ab8 vA cs k w)=_;rw[e,List.foldl_cons];refine adC ws (k+1) _ (fun j Ox Eg=>hk j x_2 x_74) (fun x hx=>?_) (acC hc V.1);have:=hw x (by simp[hx]);exact⟨this.1,by unfold abT;rw[List.length_set];exact this.2⟩
theorem aeY{d:du}(h:ik d=true):acU d (List.replicate d.bu.length 128)=abM d:=by
 rw[adB h,acu h];unfold abE;rw[List.take_length];refine congrArg (fun c=>(⟨c,[]⟩:du)) (adC _ 0 _ (fun j _ hj=>by rw[List.getElem?_replicate];exact if_pos x_2) (fun w hw=>?_) (wL h).2.1);obtain⟨j,hj,rfl⟩:=List.getElem_of_mem hw;exact⟨Jk h hj,(acW h hj).2⟩
theorem aeZ(d:du)(hd:ik d=true):GC prog 133 [mt d] [] (Gn) (SH (abM d)):=by
 refine GC.intro (rs:=[.cell 2 43 (some 2)]) func133 rfl ntmps133 x_8 x_80 ?_;intro L O w0;refine sL<|ab (zX 2001 Z) Z<|ab (zA 2002 Du Z) Z<|Y<|aS ?_;have gR:=(wL hd).1;refine aL<|ab (zS 2004 (ah kt []) iU lY rfl x_106) Z<|bD Z<|Y<|aS<|sL<|lf 1 ru Z<|bo sk Z<|ba vT rfl ?_;refine dC 7 (int (d.bu.length:Int)) (congrArg (fun n:Nat=>int (n:Int)) (pH _)) ?_;refine ae Z<|Y<|aB ?_;refine aW [1,2,7] [2001,2002] (D:=Nat) (fun a=>[(8,int (a:Int)),(3,.own 2004)]) (fun a=>[(2004,kAr (List.replicate a 128))]) (fun a=>a<=d.bu.length) (fun a=>d.bu.length-a) (0) (Nat.zero_le _) ⟨rfl,rfl,trivial⟩ ⟨rfl,trivial⟩ ?_;intro k hI;have eN:k<=d.bu.length:=hI;refine sL<|ak Z<|Y<|aS<|cE rfl ?_ ?_
 ·intro V;refine aK<|gT<|aS<|aB ?_;have hk:k<d.bu.length:=by have h:=V;simp only[decide_eq_true_eq]at h;omega
  refine aL<|bW Z<|ab (zS 2011 (ah kt [128]) iU lY rfl) Z<|ab (zP 2004 iU lY uy rfl x_18 (by simp[ah];omega)) Z<|bD Z<|lN<|gB<|gT<|aL<|bg Z<|ae Z<|Y ?_;refine⟨(k+1),hk,by show d.bu.length-(k+1)<d.bu.length-k;omega,x_83,⟨(Eq.trans (b:=AO.ai 3 1 (ah kt (List.replicate k 128)++ah kt [128])) rfl (congrArg (AO.ai 3 1) (by rw[<-rR,<-List.replicate_succ']))),trivial⟩,rfl,rfl⟩
 intro V;refine aE<|eT<|eT<|eB<|gT<|aS ?_;have dZ:k=d.bu.length:=by have h:=V;simp only[decide_eq_false_iff_not]at h;omega
 refine aL<|aP nq mE Z<|bW Z ?_;refine AL.freeze 2004 rfl ?_;refine ab (zC [(1,1),(2,2)] [1,2] [] func71 (aeW d (List.replicate k 128) hd) (trivial) Z Z) Z<|lT [2,16] [1,2,2001,2002] ?_;refine ab (zB 2002 Dv Dw Z) Z<|Y<|aR ?_;rw[<-aeY hd,<-dZ];refine ax ?_ ⟨rfl,rfl,trivial⟩;rfl
theorem ae0(d:du)(hb:qK d):GC prog 81 [mt d] [] (.au [.agg [.own 1,.own 2,int (m4 d).next,int (m4 d).dP],.own 3,int (m1 d)]) (aeL (m4 d).bT (ab9 d)):=by
 refine GC.intro (rs:=[.cell 2 45 (some 4),.tmp 3,.tmp 4]) func81 rfl ntmps81 x_8 ⟨rfl,rfl,EY,rfl,rfl,trivial⟩ ?_;intro L O w0;refine sL<|ab (zX 2001 Z) Z<|ab (zA 2002 Nx Z) Z<|e9 Z<|ao Z<|Y<|aS<|sL<|aP nq mE Z<|ab (zC [] [] [] func87 (FU d) (trivial) Z Z) Z<|bX Z<|aQ Z ?_;refine AL.bool (t:=15) rfl ?_ ?_
 ·intro V;refine aa Z<|aa Z<|aa Z<|aa Z<|aU Z<|Y<|aY Z<|sL<|lq (rd (x:=.agg [vV _,vV _,c6,c6]) (cP Z abQ Z Z Z) Z)<|ab (zB 2002 Nv Nw Z) Z<|e9 Z<|ao Z<|Y ?_;refine AW.pi 1 2002 0 195 1 rfl x_3 rfl ?_;refine AW.pi 2 2002 1 192 2 rfl x_3 rfl ?_;refine AW.oP 3 3 81 7 rfl ?_;refine aR<|rT ?_;have hc:m1 d=1:=lg1 (by first|exact .inl x_28|exact .inr x_17);have hL:=abU (d:=d) x_54;have hE:=ab1 (d:=d) x_54;rw[hc,hL,hE];refine ax ?_ ⟨rfl,rfl,rfl,trivial⟩;rfl
 intro V;refine lf 1 ru Z<|bo sk Z<|ba vT Z ?_;refine dC 18 (int (d.bu.length:Int)) (congrArg (fun n:Nat=>int (n:Int)) (pH _)) ?_;refine ak Z<|bj Z<|Y<|cE rfl ?_ ?_
 ·intro h2;refine sL<|lq (rd (x:=.agg [vV _,vV _,c6,c6]) (cP Z abQ Z Z Z) Z)<|ab (zB 2002 Nv Nw Z) Z<|lT [1,2,3,4] [2001,2002] ?_;refine e9 Z<|ao Z<|Y ?_;refine AW.pi 1 2002 0 195 1 rfl x_3 rfl ?_;refine AW.pi 2 2002 1 192 2 rfl x_3 rfl ?_;refine AW.oP 3 3 81 7 rfl ?_;refine aR<|rT ?_;have hc:m1 d=1:=lg1 (by first|exact .inl x_38|exact .inr x_21|exact .inl x_28|exact .inr x_17);have hL:=abU (d:=d) x_54;have hE:=ab1 (d:=d) x_54;rw[hc,hL,hE];refine ax ?_ ⟨rfl,rfl,rfl,trivial⟩;rfl
 intro h2;refine aK<|gT<|aS ?_;have hd:ik d=true:=by first|(have h:=h2;simpa using h;done)|(have h:=V;simpa using h;done)
 have yz:d.bu.length=0:=by first|(have h:=h2;simp only[gt_iff_lt,decide_eq_false_iff_not]at h;omega;done)|(have h:=V;simp only[gt_iff_lt,decide_eq_false_iff_not]at h;omega;done)
 have hle:=acD hd;have gR:=(wL hd).1;obtain⟨Tv,ht1⟩:=acY d;refine aL<|aP nq mE Z<|ab (zC [] [] [] func88 (Kc d hb) (trivial) Z Z) Z<|cT (.au [c7,c6]) Z<|rF Z<|dE Z<|nv Z<|ao Z<|nA<|aP nq mE Z<|ab (zC [] [] [] func164 (ae1 d hb) (trivial) Z Z) Z<|ao Z<|Y<|aS<|sL<|ae Z<|lf 0 n9 Z<|bo oB Z<|ba po Z ?_;refine dC 32 (int (d.cells.length:Int)) (congrArg (fun n:Nat=>int (n:Int)) (fU _)) ?_;refine ak Z<|aQ Z ?_;refine AL.bool (t:=34) rfl ?_ ?_
 ·intro h3;refine aa Z<|aa Z<|aU Z<|Y<|aY Z<|sL<|lq (rd (x:=.agg [vV _,vV _,c6,c6]) (cP Z abQ Z Z Z) Z)<|ab (zB 2002 Nv Nw Z) Z<|lT [1,2,3,4,6,7] [2001,2002] ?_;refine e9 Z<|ao Z<|Y ?_;refine AW.pi 1 2002 0 195 1 rfl x_3 rfl ?_;refine AW.pi 2 2002 1 192 2 rfl x_3 rfl ?_;refine AW.oP 3 3 81 7 rfl ?_;refine aR<|rT ?_;have hc:m1 d=2:=lg2 hd yz (by first|exact .inl x_47|exact .inr x_47|exact .inl x_48|exact .inr x_48|exact .inl x_50|exact .inr x_50);have hL:=abU (d:=d) x_54;have hE:=ab1 (d:=d) x_54;rw[hc,hL,hE];refine ax ?_ ⟨rfl,rfl,rfl,trivial⟩;rfl
 intro h3;refine ae Z<|ak Z<|bj Z<|Y<|cE rfl ?_ ?_
 ·intro h4;refine sL<|lq (rd (x:=.agg [vV _,vV _,c6,c6]) (cP Z abQ Z Z Z) Z)<|ab (zB 2002 Nv Nw Z) Z<|e9 Z<|ao Z<|Y ?_;refine AW.pi 1 2002 0 195 1 rfl x_3 rfl ?_;refine AW.pi 2 2002 1 192 2 rfl x_3 rfl ?_;refine AW.oP 3 3 81 7 rfl ?_;refine aR<|rT ?_;have hc:m1 d=2:=lg2 hd yz (by first|exact .inl x_78|exact .inr x_78|exact .inl x_47|exact .inr x_47|exact .inl x_48|exact .inr x_48|exact .inl x_50|exact .inr x_50);have hL:=abU (d:=d) x_54;have hE:=ab1 (d:=d) x_54;rw[hc,hL,hE];refine ax ?_ ⟨rfl,rfl,rfl,trivial⟩;rfl
 intro h4;refine aK<|gT<|aS ?_;have hn:¬((dH d).length=d.cells.length\/16000000<=m2 d):=by
  have V:=h3;have h2:=h4;simp only[decide_eq_false_iff_not]at V h2;omega
 have eI:(dH d).length<d.cells.length:=by omega
 have hS:=adx hd eI x_2;have hBl:(oq ⟨(dH d).length,m2 d+1,[66]⟩).length=128:=TB x_8;refine aL<|ae Z<|ae Z<|bg Z<|ab (zS 2043 (ah dF [66]) fh ie Z) Z<|lq (rd (x:=qu) (cP Z r9 Z Z Z) Z) ?_;refine AL.freeze 2043 rfl ?_;refine ab (zC [] [] [] func165 (ad2 (⟨(dH d).length,m2 d+1,[66]⟩:fb)) (trivial) rfl rfl) rfl ?_;refine dC 45 (.au [gV (oq (⟨(dH d).length,m2 d+1,[66]⟩:fb)),aD true]) (Eq.trans (b:=AV.au [gV (r8 (⟨(dH d).length,m2 d+1,[66]⟩:fb)),aD (i8 (⟨(dH d).length,m2 d+1,[66]⟩:fb))]) rfl (by rw[At hS,hS])) ?_;refine lT [1,2,3,4,6,7,45] [2001,2002] ?_;refine cT (.au [c7,fy]) Z<|rF Z<|eU Z<|nv Z<|bv Z<|nA<|aP nq mE Z<|ae Z<|bm Z ?_;refine ab (zC [] [] [] func166 (aeP d (dH d).length (oq (⟨(dH d).length,m2 d+1,[66]⟩:fb)) hd eI x_2 hBl) (trivial) rfl rfl) Z<|cT (.au [nq,fy]) Z<|iB nq Z<|eU Z<|ab (zA 2010 Du rfl) Z<|ab (zB 2010 Dv Dw rfl) Z<|lT [1,2,3,4,6,7,10,54] [2001,2002,2010] ?_;refine bv Z<|Y<|aS<|aF [9]<|sq 0 (dw nq mE rfl)<|pq 2 (gL c6 rfl)<|sq 3 (qV rfl (by unfold i64;omega))<|pq 4 (gL c6 rfl)<|sq 5 (qV rfl (by unfold i64;omega))<|sq 7 (dw nq mE rfl) ?_;refine bn 1 rfl (zC [(1,1),(2,2)] [1,2] [] func133 (aeZ (v6 d (dH d).length (oq ⟨(dH d).length,m2 d+1,[66]⟩)) (ab7 hd eI x_2 hBl)) (trivial) rfl rfl) (.inr rfl)<|sq 6 (rd (x:=qb) (cP rfl abQ rfl rfl rfl) rfl)<|bn 8 rfl (zC [(1,3)] [3] [] func34 (QW d hb) (trivial) rfl rfl) (.inr rfl)<|bn 9 rfl (zB 2002 Nv Nw rfl) (.inl rfl)<|vq 10 (tF rfl)<|vq 11 (j8 rfl)<|fD<|gT<|aR ?_;have hc:m1 d=0:=lg0 hd yz hn;have hL:=acE hc;have hE:=acG hc;rw[hc,hL,hE];refine ax ?_ ⟨rfl,rfl,rfl,trivial⟩;rfl
theorem ahq{n a b:Int}(h:¬(a<=n/\n<=b)):aI n a b=false:=Bool.eq_false_iff.2 fun q=>h (ahS.1 q)
theorem x_36{p:Prop}(c:p:=by have h:=h3;simp only[gt_iff_lt,decide_eq_true_eq]at h;omega):p:=c
theorem x_58{p:Prop}(c:p:=by have h:=h4;simp only[gt_iff_lt,decide_eq_true_eq]at h;omega):p:=c
theorem x_91{p:Prop}(c:p:=by have h:=h5;simp only[gt_iff_lt,decide_eq_true_eq]at h;omega):p:=c
theorem akc(l:uW)(e:aV):GC prog 108 [G9 l,ju e] [] (.au [.agg [.own 1,.own 2,int (ahu l e).next,int (ahu l e).dP],int (aho l e)]) (SH (ahu l e).bT):=by
 refine GC.intro (rs:=[.cell 4 45 (some 4),.tmp 5]) func108 rfl ntmps108 x_8 ⟨rfl,rfl,EY,rfl,trivial⟩ ?_;intro L O w0;refine sL<|ab (zX 2002 Z) Z<|ab (zX 2003 Z) Z<|ab (zA 2004 Nx Z) Z<|ao Z<|Y<|aS<|sL<|lf 0 Bv Z<|aP nq mE Z<|ab (zC [] [] [] func87 (FU l.bT) (trivial) Z Z) Z<|bX Z<|aQ Z ?_;refine AL.bool (t:=16) rfl ?_ ?_
 ·intro V;refine aa Z<|aa Z<|aa Z<|aU Z<|bM Z<|aa Z<|aa Z<|aa Z<|aa Z<|aa Z<|aa Z<|aa Z<|aU Z<|bM Z<|aa Z<|aa Z<|aa Z<|aU Z<|bM Z<|aa Z<|aa Z<|aa Z<|aU Z<|bM Z<|aa Z<|aa Z<|aa Z<|aU Z<|Y ?_;refine aY Z<|sL<|lq (rd (x:=.agg [vV _,vV _,c6,c6]) (cP Z abQ Z Z Z) Z)<|ab (zB 2004 Nv Nw Z) Z<|lT [2,3,4,5] [2002,2003,2004] ?_;refine ao Z<|Y ?_;refine AW.pi 1 2004 0 195 1 rfl x_3 rfl ?_;refine AW.pi 2 2004 1 192 2 rfl x_3 rfl ?_;refine aR<|rT ?_;have hc:aho l e=1:=al4 (by first|exact .inl x_28|exact .inr (.inl (ahq x_17))|exact .inr (.inr (.inl (ahq x_17)))|exact .inr (.inr (.inr x_28)));have hL:=ahz (l:=l) (e:=e) x_54;rw[hc,hL];refine ax ?_ ⟨rfl,rfl,trivial⟩;rfl
 intro V;refine lf 2 wD Z<|aj ac Z<|ak Z<|bj Z<|aQ Z ?_;refine AL.bool (t:=21) rfl ?_ ?_
 ·intro h2;refine aa Z<|aa Z<|aa Z<|aa Z<|aa Z<|aa Z<|aa Z<|aU Z<|bM Z<|aa Z<|aa Z<|aa Z<|aU Z<|bM Z<|aa Z<|aa Z<|aa Z<|aU Z<|bM Z<|aa Z<|aa Z<|aa Z<|aU Z<|Y<|aY Z<|sL<|lq (rd (x:=.agg [vV _,vV _,c6,c6]) (cP Z abQ Z Z Z) Z)<|ab (zB 2004 Nv Nw Z) Z ?_;refine lT [2,3,4,5] [2002,2003,2004] ?_;refine ao Z<|Y ?_;refine AW.pi 1 2004 0 195 1 rfl x_3 rfl ?_;refine AW.pi 2 2004 1 192 2 rfl x_3 rfl ?_;refine aR<|rT ?_;have hc:aho l e=1:=al4 (by first|exact .inl x_38|exact .inr (.inl (ahq x_21))|exact .inr (.inr (.inl (ahq x_21)))|exact .inr (.inr (.inr x_38))|exact .inl x_28|exact .inr (.inl (ahq x_17))|exact .inr (.inr (.inl (ahq x_17)))|exact .inr (.inr (.inr x_28)));have hL:=ahz (l:=l) (e:=e) x_54;rw[hc,hL];refine ax ?_ ⟨rfl,rfl,trivial⟩;rfl
 intro h2;refine lf 2 wD Z<|aj ac Z<|lf 0 Bv Z<|lf 0 n9 Z<|bo oB Z<|ba po Z ?_;refine dC 27 (int (l.bT.cells.length:Int)) (congrArg (fun n:Nat=>int (n:Int)) (fU _)) ?_;refine ak Z<|bj Z<|aQ Z ?_;refine AL.bool (t:=30) rfl ?_ ?_
 ·intro h3;refine aa Z<|aa Z<|aa Z<|aU Z<|bM Z<|aa Z<|aa Z<|aa Z<|aU Z<|bM Z<|aa Z<|aa Z<|aa Z<|aU Z<|Y<|aY Z<|sL<|lq (rd (x:=.agg [vV _,vV _,c6,c6]) (cP Z abQ Z Z Z) Z)<|ab (zB 2004 Nv Nw Z) Z<|lT [2,3,4,5] [2002,2003,2004] ?_;refine ao Z<|Y ?_;refine AW.pi 1 2004 0 195 1 rfl x_3 rfl ?_;refine AW.pi 2 2004 1 192 2 rfl x_3 rfl ?_;refine aR<|rT ?_;have hc:aho l e=1:=al4 (by first|exact .inl x_59|exact .inr (.inl (ahq x_36))|exact .inr (.inr (.inl (ahq x_36)))|exact .inr (.inr (.inr x_59))|exact .inl x_38|exact .inr (.inl (ahq x_21))|exact .inr (.inr (.inl (ahq x_21)))|exact .inr (.inr (.inr x_38))|exact .inl x_28|exact .inr (.inl (ahq x_17))|exact .inr (.inr (.inl (ahq x_17)))|exact .inr (.inr (.inr x_28)));have hL:=ahz (l:=l) (e:=e) x_54;rw[hc,hL];refine ax ?_ ⟨rfl,rfl,trivial⟩;rfl
 intro h3;refine lf 3 zW Z<|aj ac Z<|ak Z<|bj Z<|aQ Z ?_;refine AL.bool (t:=35) rfl ?_ ?_
 ·intro h4;refine aa Z<|aa Z<|aa Z<|aU Z<|bM Z<|aa Z<|aa Z<|aa Z<|aU Z<|Y<|aY Z<|sL<|lq (rd (x:=.agg [vV _,vV _,c6,c6]) (cP Z abQ Z Z Z) Z)<|ab (zB 2004 Nv Nw Z) Z<|ao Z<|Y ?_;refine AW.pi 1 2004 0 195 1 rfl x_3 rfl ?_;refine AW.pi 2 2004 1 192 2 rfl x_3 rfl ?_;refine aR<|rT ?_;have hc:aho l e=1:=al4 (by first|exact .inl x_86|exact .inr (.inl (ahq x_58))|exact .inr (.inr (.inl (ahq x_58)))|exact .inr (.inr (.inr x_86))|exact .inl x_59|exact .inr (.inl (ahq x_36))|exact .inr (.inr (.inl (ahq x_36)))|exact .inr (.inr (.inr x_59))|exact .inl x_38|exact .inr (.inl (ahq x_21))|exact .inr (.inr (.inl (ahq x_21)))|exact .inr (.inr (.inr x_38))|exact .inl x_28|exact .inr (.inl (ahq x_17))|exact .inr (.inr (.inl (ahq x_17)))|exact .inr (.inr (.inr x_28)));have hL:=ahz (l:=l) (e:=e) x_54;rw[hc,hL];refine ax ?_ ⟨rfl,rfl,trivial⟩;rfl
 intro h4;refine lf 3 zW Z<|aj ac Z<|ak Z<|bj Z<|aQ Z ?_;refine AL.bool (t:=40) rfl ?_ ?_
 ·intro h5;refine aa Z<|aa Z<|aa Z<|aU Z<|Y<|aY Z<|sL<|lq (rd (x:=.agg [vV _,vV _,c6,c6]) (cP Z abQ Z Z Z) Z)<|ab (zB 2004 Nv Nw Z) Z<|lT [2,3,4,5] [2002,2003,2004] ?_;refine ao Z<|Y ?_;refine AW.pi 1 2004 0 195 1 rfl x_3 rfl ?_;refine AW.pi 2 2004 1 192 2 rfl x_3 rfl ?_;refine aR<|rT ?_;have hc:aho l e=1:=al4 (by first|exact .inl (by simpa using h5)|exact .inr (.inl (ahq x_91))|exact .inr (.inr (.inl (ahq x_91)))|exact .inr (.inr (.inr (by simpa using h5)))|exact .inl x_86|exact .inr (.inl (ahq x_58))|exact .inr (.inr (.inl (ahq x_58)))|exact .inr (.inr (.inr x_86))|exact .inl x_59|exact .inr (.inl (ahq x_36))|exact .inr (.inr (.inl (ahq x_36)))|exact .inr (.inr (.inr x_59))|exact .inl x_38|exact .inr (.inl (ahq x_21))|exact .inr (.inr (.inl (ahq x_21)))|exact .inr (.inr (.inr x_38))|exact .inl x_28|exact .inr (.inl (ahq x_17))|exact .inr (.inr (.inl (ahq x_17)))|exact .inr (.inr (.inr x_28)));have hL:=ahz (l:=l) (e:=e) x_54;rw[hc,hL];refine ax ?_ ⟨rfl,rfl,trivial⟩;rfl
 intro h5;refine aP iK dD Z<|ab (zC [] [] [] func195 (Px e) (trivial) Z Z) Z<|bX Z<|bj Z<|Y<|cE rfl ?_ ?_
 ·intro h6;refine sL<|lq (rd (x:=.agg [vV _,vV _,c6,c6]) (cP Z abQ Z Z Z) Z)<|ab (zB 2004 Nv Nw Z) Z<|ao Z<|Y ?_;refine AW.pi 1 2004 0 195 1 rfl x_3 rfl ?_;refine AW.pi 2 2004 1 192 2 rfl x_3 rfl ?_;refine aR<|rT ?_;have hc:aho l e=1:=al4 (by first|exact .inl (by simpa using h6)|exact .inr (.inl (ahq (by have h:=h6;simp only[gt_iff_lt,decide_eq_true_eq]at h;omega)))|exact .inr (.inr (.inl (ahq (by have h:=h6;simp only[gt_iff_lt,decide_eq_true_eq]at h;omega))))|exact .inr (.inr (.inr (by simpa using h6)))|exact .inl (by simpa using h5)|exact .inr (.inl (ahq x_91))|exact .inr (.inr (.inl (ahq x_91)))|exact .inr (.inr (.inr (by simpa using h5)))|exact .inl x_86|exact .inr (.inl (ahq x_58))|exact .inr (.inr (.inl (ahq x_58)))|exact .inr (.inr (.inr x_86))|exact .inl x_59|exact .inr (.inl (ahq x_36))|exact .inr (.inr (.inl (ahq x_36)))|exact .inr (.inr (.inr x_59))|exact .inl x_38|exact .inr (.inl (ahq x_21))|exact .inr (.inr (.inl (ahq x_21)))|exact .inr (.inr (.inr x_38))|exact .inl x_28|exact .inr (.inl (ahq x_17))|exact .inr (.inr (.inl (ahq x_17)))|exact .inr (.inr (.inr x_28)));have hL:=ahz (l:=l) (e:=e) x_54;rw[hc,hL];refine ax ?_ ⟨rfl,rfl,trivial⟩;rfl
 intro h6;refine aK<|gT<|aS<|aS ?_;have hd:ik l.bT=true:=by first|(have h:=h6;simpa using h;done)|(have h:=h5;simpa using h;done)|(have h:=h4;simpa using h;done)|(have h:=h3;simpa using h;done)|(have h:=h2;simpa using h;done)|(have h:=V;simpa using h;done)
 have hi:aI l.next 0 l.bT.cells.length=true:=ahS.2 (by
  have V:=h2;have h2:=h3;simp only[decide_eq_false_iff_not]at V h2;omega)
 have hp:aI l.dP 1 16000000=true:=ahS.2 (by
  have V:=h4;have h2:=h5;simp only[decide_eq_false_iff_not]at V h2;omega)
 have he:co e=true:=by first|(have h:=h6;simpa using h;done)|(have h:=h5;simpa using h;done)|(have h:=h4;simpa using h;done)|(have h:=h3;simpa using h;done)|(have h:=h2;simpa using h;done)|(have h:=V;simpa using h;done)
 have gR:=(wL hd).1;have LR:=ahS.1 hi;refine aL<|lf 2 wD Z<|aj ac Z<|lf 0 Bv Z<|lf 0 n9 Z<|bo oB Z<|ba po Z ?_;refine dC 51 (int (l.bT.cells.length:Int)) (congrArg (fun n:Nat=>int (n:Int)) (fU _)) ?_;refine ak Z<|aQ Z ?_;refine AL.bool (t:=53) rfl ?_ ?_
 ·intro h7;refine aa Z<|aa Z<|aa Z<|aa Z<|aa Z<|aU Z<|Y<|aY Z<|sL<|lq (rd (x:=.agg [vV _,vV _,c6,c6]) (cP Z abQ Z Z Z) Z)<|ab (zB 2004 Nv Nw Z) Z<|lT [2,3,4,5] [2002,2003,2004] ?_;refine ao Z<|Y ?_;refine AW.pi 1 2004 0 195 1 rfl x_3 rfl ?_;refine AW.pi 2 2004 1 192 2 rfl x_3 rfl ?_;refine aR<|rT ?_;have hc:aho l e=2:=al0 hd hi hp he (by first|exact .inl (by have h:=h7;simp only[decide_eq_true_eq]at h;omega)|exact .inr (by have h:=h7;simp only[ge_iff_le,decide_eq_true_eq]at h;omega)|exact .inl (by have h:=h6;simp only[decide_eq_true_eq]at h;omega)|exact .inr (by have h:=h6;simp only[ge_iff_le,decide_eq_true_eq]at h;omega)|exact .inl (by have h:=h5;simp only[decide_eq_true_eq]at h;omega)|exact .inr (by have h:=h5;simp only[ge_iff_le,decide_eq_true_eq]at h;omega)|exact .inl x_78|exact .inr (by have h:=h4;simp only[ge_iff_le,decide_eq_true_eq]at h;omega)|exact .inl x_47|exact .inr (by have h:=h3;simp only[ge_iff_le,decide_eq_true_eq]at h;omega)|exact .inl x_48|exact .inr (by have h:=h2;simp only[ge_iff_le,decide_eq_true_eq]at h;omega)|exact .inl x_50|exact .inr (by have h:=V;simp only[ge_iff_le,decide_eq_true_eq]at h;omega));have hL:=ahz (l:=l) (e:=e) x_54;rw[hc,hL];refine ax ?_ ⟨rfl,rfl,trivial⟩;rfl
 intro h7;refine lf 0 Bv Z<|lf 1 ru Z<|bo sk Z<|ba vT Z ?_;refine dC 57 (int (l.bT.bu.length:Int)) (congrArg (fun n:Nat=>int (n:Int)) (pH _)) ?_;refine ak Z<|bj Z<|Y<|cE rfl ?_ ?_
 ·intro h8;refine sL<|lq (rd (x:=.agg [vV _,vV _,c6,c6]) (cP Z abQ Z Z Z) Z)<|ab (zB 2004 Nv Nw Z) Z<|ao Z<|Y ?_;refine AW.pi 1 2004 0 195 1 rfl x_3 rfl ?_;refine AW.pi 2 2004 1 192 2 rfl x_3 rfl ?_;refine aR<|rT ?_;have hc:aho l e=2:=al0 hd hi hp he (by first|exact .inl (by have h:=h8;simp only[decide_eq_true_eq]at h;omega)|exact .inr (by have h:=h8;simp only[ge_iff_le,decide_eq_true_eq]at h;omega)|exact .inl (by have h:=h7;simp only[decide_eq_true_eq]at h;omega)|exact .inr (by have h:=h7;simp only[ge_iff_le,decide_eq_true_eq]at h;omega)|exact .inl (by have h:=h6;simp only[decide_eq_true_eq]at h;omega)|exact .inr (by have h:=h6;simp only[ge_iff_le,decide_eq_true_eq]at h;omega)|exact .inl (by have h:=h5;simp only[decide_eq_true_eq]at h;omega)|exact .inr (by have h:=h5;simp only[ge_iff_le,decide_eq_true_eq]at h;omega)|exact .inl x_78|exact .inr (by have h:=h4;simp only[ge_iff_le,decide_eq_true_eq]at h;omega)|exact .inl x_47|exact .inr (by have h:=h3;simp only[ge_iff_le,decide_eq_true_eq]at h;omega)|exact .inl x_48|exact .inr (by have h:=h2;simp only[ge_iff_le,decide_eq_true_eq]at h;omega)|exact .inl x_50|exact .inr (by have h:=V;simp only[ge_iff_le,decide_eq_true_eq]at h;omega));have hL:=ahz (l:=l) (e:=e) x_54;rw[hc,hL];refine ax ?_ ⟨rfl,rfl,trivial⟩;rfl
 intro h8;refine aK<|gT<|aS ?_;have hn:¬(l.next=l.bT.cells.length\/600<=l.bT.bu.length):=by
  have V:=h7;have h2:=h8;simp only[ge_iff_le,decide_eq_false_iff_not]at V h2;omega
 have hS:=ajC (e:=e) hd hi hp x_2;have hBl:(oq (⟨l.next,l.dP,rY e⟩:fb)).length=128:=TB (by rw[show ((⟨l.next,l.dP,rY e⟩:fb)).body=rY e from rfl,TF];decide);refine aL<|aP iK dD Z<|ab (zC [] [] [] func188 (Zn e) (trivial) Z Z) Z ?_;refine dC 63 (.au [gV (rY e),aD true]) (Eq.trans (b:=AV.au [gV (tB e),aD (co e)]) rfl (by rw[wo he,he])) ?_;refine cT (.au [c7,fy]) Z<|rF Z<|eU Z<|nv Z<|bv Z<|nA<|lf 2 wD Z<|aj ac Z<|lf 3 zW Z<|aj ac Z<|bm Z<|lq (rd (x:=pv) (cP Z r9 Z Z Z) Z) ?_;refine ab (zC [] [] [] func165 (ad2 (⟨l.next,l.dP,rY e⟩:fb)) (trivial) rfl rfl) rfl ?_;refine dC 73 (.au [gV (oq (⟨l.next,l.dP,rY e⟩:fb)),aD true]) (Eq.trans (b:=AV.au [gV (r8 (⟨l.next,l.dP,rY e⟩:fb)),aD (i8 (⟨l.next,l.dP,rY e⟩:fb))]) rfl (by rw[At hS,hS])) ?_;refine lT [2,4,5,73] [2002,2003,2004] ?_;refine cT (.au [c7,fy]) Z<|rF Z<|eU Z<|nv Z<|bv Z<|nA<|lf 0 Bv Z<|aP nq mE Z<|lf 2 wD Z<|aj ac Z<|jK 80 ((l.next.toNat:Nat):Int) rfl x_2<|bm rfl ?_;refine ab (zC [(1,1),(2,2)] [1,2] [] func166 (aeO l.bT l.next.toNat (oq (⟨l.next,l.dP,rY e⟩:fb)) hd x_2 x_2 hBl) (trivial) rfl rfl) Z<|cT (.au [qm,vB true]) Z<|iB qm Z<|iB (vB true) Z<|ab (zA 2010 Du rfl) Z<|lT [2,4,5,10,83,84] [1,2,2002,2003,2004,2010] ?_;refine ab (zB 2010 Dv Dw Z) Z<|cI Z<|nA<|aP qm mE Z<|lf 2 wD Z<|aj ac Z<|bg Z<|lf 3 zW Z<|aj ac Z<|lq (rd (x:=qb) (cP Z abQ Z Z Z) Z)<|ab (zB 2004 Nv Nw Z) Z<|ao Z<|Y<|aR ?_;have hc:aho l e=0:=amx hd hi hp he hn;have hL:=aiw hc;rw[hc,hL];refine ax ?_ ⟨rfl,rfl,trivial⟩;rfl
theorem aga(l:uW):GC prog 50 [G9 l] [] (.agg [.own 1,.own 2,int (afM l).next,int (afM l).dP]) (SH (afM l).bT):=by
 refine GC.intro (rs:=[.cell 2 45 (some 4)]) func50 rfl ntmps50 x_8 ⟨rfl,rfl,EY,trivial⟩ ?_;intro L O w0;refine sL<|ab (zX 2001 Z) Z<|ab (zA 2002 Nx Z) Z<|Y<|aS<|sL<|lf 0 Bv Z<|aP nq mE Z<|ab (zC [] [] [] func87 (FU l.bT) (trivial) Z Z) Z<|bX Z<|Y<|cE rfl ?_ ?_
 ·intro V;refine sL<|lq (rd (x:=.agg [vV _,vV _,c6,c6]) (cP Z abQ Z Z Z) Z)<|ab (zB 2002 Nv Nw Z) Z<|Y ?_;refine AW.pi 1 2002 0 195 1 rfl x_3 rfl ?_;refine AW.pi 2 2002 1 192 2 rfl x_3 rfl ?_;refine aR<|rT ?_;have hd:ik l.bT=false:=by first|(have h:=V;simpa using h;done)
  rw[afU hd];refine ax ?_ ⟨rfl,rfl,trivial⟩;rfl
 intro V;refine aK<|gT<|aS ?_;have hd:ik l.bT=true:=by first|(have h:=V;simpa using h;done)
 have gR:=(wL hd).1;refine aF [8]<|pq 0 (qf 0 Bv Z)<|sq 1 (dw nq mE Z)<|pq 3 (qf 2 wD Z)<|sq 4 (aZ ac Z)<|pq 5 (qf 3 zW Z)<|sq 6 (aZ ac Z)<|bn 2 Z (zC [(1,1),(2,2)] [1,2] [] func133 (aeZ l.bT hd) (trivial) Z Z) (.inr Z)<|fT [2,10,12,14] [1,2,2001,2002] ?_;refine vq 7 (rd (x:=qb) (cP Z abQ Z Z Z) Z)<|bn 8 Z (zB 2002 Nv Nw Z) (.inl Z)<|fD<|gT<|aR ?_;rw[afS hd];refine ax ?_ ⟨rfl,rfl,trivial⟩;rfl
end Go.Proofs.YtflhgkmhmcfimaaGreat

