/- FnLate is proved: the given statement holds with no condition. Texts joined: EY3, EY4, HubP, EW8, EY5, LFnLate, CFnLate. -/
import Derived.Test.YtflhgkmhmcfimaaGreatJLate21
import Derived.Test.YtflhgkmhmcfimaaGreatJLate20
import Derived.Test.YtflhgkmhmcfimaaGreatRows
import Derived.Test.YtflhgkmhmcfimaaGreatVOpn
namespace Go.Proofs.YtflhgkmhmcfimaaGreat
open Go.RowKit
set_option maxHeartbeats 16000000
set_option maxRecDepth 100000
set_option linter.unusedSimpArgs false
set_option linter.unusedVariables false
structure ai0(L Q:mm->Prop):Prop where
 id:∀ {h},L h->Q h
 nx:∀ {h} (n:Int),L h->Q ⟨⟨h.log.bT,n,h.log.dP⟩,h.book,h.ia,h.wait,h.f9⟩
 tk:∀ {h} (n:Int),L h->Q ⟨h.log,⟨n,h.book.next,h.book.aA,h.book.ag,h.book.an,h.book.aq⟩,h.ia,h.wait,h.f9⟩
 la:∀ {h} (n:Int),L h->Q ⟨h.log,h.book,⟨n,h.ia.lines⟩,h.wait,h.f9⟩
 wt:∀ {h} (e:aV),L h->Q ⟨h.log,h.book,h.ia,h.wait++[e],h.f9⟩
 ep:∀ {h},L h->Q ⟨⟨h.log.bT,h.log.next,0⟩,h.book,h.ia,h.wait,h.f9⟩
 cl:∀ {h},L h->0<h.log.bT.cells.length->Q ⟨⟨⟨h.log.bT.cells.set 0 ⟨[]⟩,h.log.bT.bu⟩,h.log.next,h.log.dP⟩,h.book,h.ia,h.wait,h.f9⟩
 wf:∀ {h},L h->HbD h
def DrQ(Q:mm->Prop):AV->List (Nat×AO)->Prop:=fun x ob2=>∃h,Q h/\x=ahO h/\ob2=obK h
theorem akz{I:Nat->mm->Prop}{ahx ahw:mm->Prop}(W:aix I)(hIL:∀ {k h},k<=17->I k h->ahx h)(A:ai0 ahx ahw)(g:Value)(code:List Int)(i:Nat)(h:Int)(hc:ahk code i):GX Tryz.prog 103 [.ptr 0 0 0] [(0,ahm g code i h)] (DrX g code (DrQ ahw)):=by
 refine GX.intro (rs:=[.cell 2 56 (some 14)]) Tryz.func103 rfl Tryz.ntmps103 x_8 ⟨rfl,rfl,EZ,trivial⟩ ?_;intro L O w0;refine sL<|ab (zA 2002 Ig Z) Z<|nA<|aM Z ?_;refine alX [(0,0),(1,1),(2,2)] [1,2] [0] Tryz.func97 (akk W g code _ _ 12 hc x_3) x_11 (aiU) Z ?_;intro xz1 oz1 fa;obtain⟨i1,q1,_,qC,⟨akX,ahQ,hkD,hID,rfl,rfl⟩,rfl⟩:=fa;refine ab (zA 2003 Ig Z) Z<|lT [0,2,3,6] [0,1,2,2002,2003] ?_;refine ab (zB 2003 NA NB Z) Z<|nA<|aM Z ?_;refine alX [(0,0)] [] [0] Tryz.func98 (ahp g code _ _ _ qC) x_11 (ahn) Z ?_;intro xz2 oz2 hz2;obtain⟨i2,q2,Cj,⟨n2,⟨na2,nb2⟩,rfl⟩,rfl⟩:=hz2;refine ao Z<|Y ?_;refine aJ [0,2,3,4] [2002] (D:=Nat×Int×mm) (fun d=>[]) (fun d=>[(0,ahm g code d.1 d.2.1),(2003,.box 56 none [.own 1,.p (.ab 192 2 (oT d.2.2.log.bT.bu)),int d.2.2.log.next,int d.2.2.log.dP,int d.2.2.book.tick,int d.2.2.book.next,int d.2.2.book.aA,.p (.ab 159 7 (ah aX d.2.2.book.ag)),.p (.ab 218 7 (ah go d.2.2.book.an)),.p (.ab 220 5 (ah iX d.2.2.book.aq)),int d.2.2.ia.last,.p (.ab 167 3 (ah ct d.2.2.ia.lines)),.own 2,.p (.ab 81 7 (ah fR d.2.2.f9))]),(1,.ai 195 1 (oS d.2.2.log.bT.cells)),(2,uT d.2.2.wait)]) (fun d=>ahk code d.1/\(n2<=0->ahw d.2.2)/\(0<n2->ahx d.2.2)) ?_ ?_
 ·refine aS ?_;have akA:=hIL hkD hID;have hQD:n2<=-1->ahw ahQ:=fun q=>by omega
  have hLD:-1<n2->ahx ahQ:=fun _=>akA;refine aL<|ae Z<|ak Z<|Y ?_;refine AW.cond rfl ?_ ?_
  ·intro V;refine aL<|aM Z ?_;refine alX [(0,0)] [] [0] Tryz.func193 (ah9 g code _ _ Cj) x_11 (ahn) Z ?_;intro xz3 oz3 hz3;obtain⟨i3,q3,hc3,⟨ahG,hn3,rfl⟩,rfl⟩:=hz3;refine lT [0,2,3,4,12] [0,1,2,2002,2003] ?_;refine lf 0 qL Z<|lf 2 wD Z<|ab (zB 2003 ca cb Z) Z<|Y ?_;have hkv:n2=0:=by have h:=V;simpa using h
   refine⟨(_,_,⟨⟨ahQ.log.bT,ahG,ahQ.log.dP⟩,ahQ.book,ahQ.ia,ahQ.wait,ahQ.f9⟩),⟨by assumption,(fun q=>A.nx _ (hLD x_2)),(fun q=>by omega)⟩,trivial,⟨rfl,rfl,rfl,rfl,trivial⟩,rfl,rfl⟩
  intro V;refine aK<|gT ?_;refine⟨(_,_,ahQ),⟨by assumption,(fun q=>hQD (by first|(have h:=V;simp only[decide_eq_false_iff_not]at h;omega)|omega)),(fun q=>hLD x_2)⟩,trivial,⟨rfl,rfl,rfl,rfl,trivial⟩,rfl,rfl⟩
 intro ⟨iJ5,qJ5,hJ5⟩ hiJ5;dsimp only;obtain⟨ah',ai1,aiA⟩:=hiJ5;replace ah':ahk code iJ5:=ah';replace ai1:n2<=0->ahw hJ5:=ai1;replace aiA:0<n2->ahx hJ5:=aiA;refine aJ [0,2,3,4] [2002] (D:=Nat×Int×mm) (fun d=>[]) (fun d=>[(0,ahm g code d.1 d.2.1),(2003,.box 56 none [.own 1,.p (.ab 192 2 (oT d.2.2.log.bT.bu)),int d.2.2.log.next,int d.2.2.log.dP,int d.2.2.book.tick,int d.2.2.book.next,int d.2.2.book.aA,.p (.ab 159 7 (ah aX d.2.2.book.ag)),.p (.ab 218 7 (ah go d.2.2.book.an)),.p (.ab 220 5 (ah iX d.2.2.book.aq)),int d.2.2.ia.last,.p (.ab 167 3 (ah ct d.2.2.ia.lines)),.own 2,.p (.ab 81 7 (ah fR d.2.2.f9))]),(1,.ai 195 1 (oS d.2.2.log.bT.cells)),(2,uT d.2.2.wait)]) (fun d=>ahk code d.1/\(n2<=1->ahw d.2.2)/\(1<n2->ahx d.2.2)) ?_ ?_
 ·refine sL<|ae Z<|ak Z<|Y ?_;refine AW.cond rfl ?_ ?_
  ·intro h2;refine aL<|lf 4 Bw Z<|lf 4 mB Z<|aj ac Z<|lq (rd (x:=U _ _) (kg Z Z Z (N7 Z) Z) Z)<|lf 4 Bw Z<|lf 4 mB Z<|lT [0,2,3,4,20,22] [0,1,2,2002,2003] ?_;refine ab (zB 2003 ca cb Z) Z<|Y ?_;have hkv:n2=1:=by have h:=h2;simpa using h
   refine⟨(_,_,⟨hJ5.log,⟨IntKind.i64.wrap (hJ5.book.tick+1),hJ5.book.next,hJ5.book.aA,hJ5.book.ag,hJ5.book.an,hJ5.book.aq⟩,hJ5.ia,hJ5.wait,hJ5.f9⟩),⟨by assumption,(fun q=>A.tk _ (aiA x_2)),(fun q=>by omega)⟩,trivial,⟨rfl,rfl,rfl,rfl,trivial⟩,rfl,rfl⟩
  intro h2;refine aK<|gT ?_;refine⟨(_,_,hJ5),⟨by assumption,(fun q=>ai1 (by first|(have h:=h2;simp only[decide_eq_false_iff_not]at h;omega)|omega)),(fun q=>aiA x_2)⟩,trivial,⟨rfl,rfl,rfl,rfl,trivial⟩,rfl,rfl⟩
 intro ⟨iJ7,qJ7,hJ7⟩ hiJ7;dsimp only;obtain⟨aia,ai2,aiB⟩:=hiJ7;replace aia:ahk code iJ7:=aia;replace ai2:n2<=1->ahw hJ7:=ai2;replace aiB:1<n2->ahx hJ7:=aiB;refine aJ [0,2,3,4] [2002] (D:=Nat×Int×mm) (fun d=>[]) (fun d=>[(0,ahm g code d.1 d.2.1),(2003,.box 56 none [.own 1,.p (.ab 192 2 (oT d.2.2.log.bT.bu)),int d.2.2.log.next,int d.2.2.log.dP,int d.2.2.book.tick,int d.2.2.book.next,int d.2.2.book.aA,.p (.ab 159 7 (ah aX d.2.2.book.ag)),.p (.ab 218 7 (ah go d.2.2.book.an)),.p (.ab 220 5 (ah iX d.2.2.book.aq)),int d.2.2.ia.last,.p (.ab 167 3 (ah ct d.2.2.ia.lines)),.own 2,.p (.ab 81 7 (ah fR d.2.2.f9))]),(1,.ai 195 1 (oS d.2.2.log.bT.cells)),(2,uT d.2.2.wait)]) (fun d=>ahk code d.1/\(n2<=2->ahw d.2.2)/\(2<n2->ahx d.2.2)) ?_ ?_
 ·refine sL<|ae Z<|ak Z<|Y ?_;refine AW.cond rfl ?_ ?_
  ·intro h3;refine aL<|lf 10 Bx Z<|lf 10 pW Z<|aj ac Z<|lq (rd (x:=U _ _) (kg Z Z Z (N7 Z) Z) Z)<|lf 10 Bx Z<|lf 10 pW Z<|lT [0,2,3,4,28,30] [0,1,2,2002,2003] ?_;refine ab (zB 2003 ca cb Z) Z<|Y ?_;have hkv:n2=2:=by have h:=h3;simpa using h
   refine⟨(_,_,⟨hJ7.log,hJ7.book,⟨IntKind.i64.wrap (hJ7.ia.last+1),hJ7.ia.lines⟩,hJ7.wait,hJ7.f9⟩),⟨by assumption,(fun q=>A.la _ (aiB x_2)),(fun q=>by omega)⟩,trivial,⟨rfl,rfl,rfl,rfl,trivial⟩,rfl,rfl⟩
  intro h3;refine aK<|gT ?_;refine⟨(_,_,hJ7),⟨by assumption,(fun q=>ai2 (by first|(have h:=h3;simp only[decide_eq_false_iff_not]at h;omega)|omega)),(fun q=>aiB x_2)⟩,trivial,⟨rfl,rfl,rfl,rfl,trivial⟩,rfl,rfl⟩
 intro ⟨iJ9,qJ9,hJ9⟩ hiJ9;dsimp only;obtain⟨ahI,ai3,aib⟩:=hiJ9;replace ahI:ahk code iJ9:=ahI;replace ai3:n2<=2->ahw hJ9:=ai3;replace aib:2<n2->ahx hJ9:=aib;refine aJ [2,3,4] [2002] (D:=Nat×Int×mm) (fun d=>[]) (fun d=>[(0,ahm g code d.1 d.2.1),(2003,.box 56 none [.own 1,.p (.ab 192 2 (oT d.2.2.log.bT.bu)),int d.2.2.log.next,int d.2.2.log.dP,int d.2.2.book.tick,int d.2.2.book.next,int d.2.2.book.aA,.p (.ab 159 7 (ah aX d.2.2.book.ag)),.p (.ab 218 7 (ah go d.2.2.book.an)),.p (.ab 220 5 (ah iX d.2.2.book.aq)),int d.2.2.ia.last,.p (.ab 167 3 (ah ct d.2.2.ia.lines)),.own 2,.p (.ab 81 7 (ah fR d.2.2.f9))]),(1,.ai 195 1 (oS d.2.2.log.bT.cells)),(2,uT d.2.2.wait)]) (fun d=>ahk code d.1/\(n2<=3->ahw d.2.2)/\(3<n2->ahx d.2.2)) ?_ ?_
 ·refine sL<|ae Z<|ak Z<|Y ?_;refine AW.cond rfl ?_ ?_
  ·intro h4;have hk3:n2=3:=by have h:=h4;simpa using h
   have hd3:=A.wf (aib x_2);have hlw:=hd3.lw;refine aF [3,5,7]<|pq 0 (qf 12 Bz Z)<|pq 2 (dJ Z) ?_;refine AF.two (i:=1) (j:=3) x_34 ?_ ?_
   ·refine d9.rd (i:=1) (x:=.own _) rfl (sC rfl tE rfl rfl rfl rfl) rfl rfl x_3 ?_;refine abx (i:=3) rfl x_34 (Un [(0,0)] [] [0] rfl x_69 rfl Tryz.func104 rfl rfl (aim g code _ _ ahI) ⟨rfl,rfl,rfl⟩ x_11 (ahn) rfl) (.inl rfl) rfl ?_;rintro _ _ ⟨xz5,oz5,hz5,rfl,rfl⟩;obtain⟨i5,q5,hc5,⟨⟨va5,vb5,vc5,vd5,ve5,vf5,vg5⟩,hw5,rfl⟩,rfl⟩:=hz5;refine fT [2,3,4,34,36] [0,1,2,2002,2003] ?_;refine bn 4 rfl (zS 2037 (ah fR [⟨va5,vb5,vc5,vd5,ve5,vf5,vg5⟩]) jk jl rfl) (.inr rfl)<|bn 5 rfl (zP 2 jk jl sD rfl x_17) (.inl rfl)<|vq 6 (rf 12 Bz rfl)<|bn 7 rfl (zB 2003 Ny Nz rfl) (.inl rfl)<|fT [2,3,4] [0,1,2,2002,2003,2037] ?_;refine fD<|gT ?_;have hkv:n2=3:=by have h:=h4;simpa using h
    refine⟨(_,_,⟨hJ9.log,hJ9.book,hJ9.ia,hJ9.wait++[⟨va5,vb5,vc5,vd5,ve5,vf5,vg5⟩],hJ9.f9⟩),⟨by assumption,(fun q=>A.wt _ (aib x_2)),(fun q=>by omega)⟩,trivial,⟨rfl,rfl,rfl,x_76,trivial⟩,rfl,rfl⟩
   refine abq (i:=3) rfl (Un [(0,0)] [] [0] rfl x_69 rfl Tryz.func104 rfl rfl (aim g code _ _ ahI) ⟨rfl,rfl,rfl⟩ x_11 (ahn) rfl) (.inl rfl) rfl ?_;rintro _ _ ⟨xz6,oz6,hz6,rfl,rfl⟩;obtain⟨i6,q6,hc6,⟨⟨va6,vb6,vc6,vd6,ve6,vf6,vg6⟩,hw6,rfl⟩,rfl⟩:=hz6;refine sq 1 (gC tE rfl) ?_;refine bn 4 rfl (zS 2037 (ah fR [⟨va6,vb6,vc6,vd6,ve6,vf6,vg6⟩]) jk jl rfl) (.inr rfl)<|bn 5 rfl (zP 2 jk jl sD rfl x_17) (.inl rfl)<|fT [2,3,4,38] [0,1,2,2002,2003,2037] ?_;refine vq 6 (rf 12 Bz Z)<|bn 7 Z (zB 2003 Ny Nz Z) (.inl Z)<|fD<|gT ?_;have hkv:n2=3:=by have h:=h4;simpa using h
   refine⟨(_,_,⟨hJ9.log,hJ9.book,hJ9.ia,hJ9.wait++[⟨va6,vb6,vc6,vd6,ve6,vf6,vg6⟩],hJ9.f9⟩),⟨by assumption,(fun q=>A.wt _ (aib x_2)),(fun q=>by omega)⟩,trivial,⟨rfl,rfl,rfl,x_76,trivial⟩,rfl,rfl⟩
  intro h4;refine aK<|gT ?_;refine⟨(_,_,hJ9),⟨by assumption,(fun q=>ai3 (by first|(have h:=h4;simp only[decide_eq_false_iff_not]at h;omega)|omega)),(fun q=>aib x_2)⟩,trivial,⟨rfl,rfl,rfl,rfl,trivial⟩,rfl,rfl⟩
 intro ⟨iJ11,qJ11,hJ11⟩ hiJ11;dsimp only;obtain⟨ahR,ai4,aiC⟩:=hiJ11;replace ahR:ahk code iJ11:=ahR;replace ai4:n2<=3->ahw hJ11:=ai4;replace aiC:3<n2->ahx hJ11:=aiC;refine aJ [2,3,4] [2002] (D:=Nat×Int×mm) (fun d=>[]) (fun d=>[(0,ahm g code d.1 d.2.1),(2003,.box 56 none [.own 1,.p (.ab 192 2 (oT d.2.2.log.bT.bu)),int d.2.2.log.next,int d.2.2.log.dP,int d.2.2.book.tick,int d.2.2.book.next,int d.2.2.book.aA,.p (.ab 159 7 (ah aX d.2.2.book.ag)),.p (.ab 218 7 (ah go d.2.2.book.an)),.p (.ab 220 5 (ah iX d.2.2.book.aq)),int d.2.2.ia.last,.p (.ab 167 3 (ah ct d.2.2.ia.lines)),.own 2,.p (.ab 81 7 (ah fR d.2.2.f9))]),(1,.ai 195 1 (oS d.2.2.log.bT.cells)),(2,uT d.2.2.wait)]) (fun d=>ahk code d.1/\(n2<=4->ahw d.2.2)/\(4<n2->ahx d.2.2)) ?_ ?_
 ·refine sL<|ae Z<|ak Z<|Y ?_;refine AW.cond rfl ?_ ?_
  ·intro h5;refine aL<|lf 0 qL Z<|lf 3 zW Z<|ab (zB 2003 ca cb Z) Z<|lT [2,3,4] [0,1,2,2002,2003] ?_;refine Y ?_;have hkv:n2=4:=by have h:=h5;simpa using h
   refine⟨(_,_,⟨⟨hJ11.log.bT,hJ11.log.next,0⟩,hJ11.book,hJ11.ia,hJ11.wait,hJ11.f9⟩),⟨by assumption,(fun q=>A.ep (aiC x_2)),(fun q=>by omega)⟩,trivial,⟨rfl,rfl,rfl,rfl,trivial⟩,rfl,rfl⟩
  intro h5;refine aK<|gT ?_;refine⟨(_,_,hJ11),⟨by assumption,(fun q=>ai4 (by first|(have h:=h5;simp only[decide_eq_false_iff_not]at h;omega)|omega)),(fun q=>aiC x_2)⟩,trivial,⟨rfl,rfl,rfl,rfl,trivial⟩,rfl,rfl⟩
 intro ⟨iJ13,qJ13,hJ13⟩ hiJ13;dsimp only;obtain⟨aic,aiD,ah4⟩:=hiJ13;replace aic:ahk code iJ13:=aic;replace aiD:n2<=4->ahw hJ13:=aiD;replace ah4:4<n2->ahx hJ13:=ah4;refine aJ [2,3] [2002] (D:=Nat×Int×mm) (fun d=>[]) (fun d=>[(0,ahm g code d.1 d.2.1),(2003,.box 56 none [.own 1,.p (.ab 192 2 (oT d.2.2.log.bT.bu)),int d.2.2.log.next,int d.2.2.log.dP,int d.2.2.book.tick,int d.2.2.book.next,int d.2.2.book.aA,.p (.ab 159 7 (ah aX d.2.2.book.ag)),.p (.ab 218 7 (ah go d.2.2.book.an)),.p (.ab 220 5 (ah iX d.2.2.book.aq)),int d.2.2.ia.last,.p (.ab 167 3 (ah ct d.2.2.ia.lines)),.own 2,.p (.ab 81 7 (ah fR d.2.2.f9))]),(1,.ai 195 1 (oS d.2.2.log.bT.cells)),(2,uT d.2.2.wait)]) (fun d=>ahk code d.1/\(n2<=5->ahw d.2.2)/\(5<n2->ahx d.2.2)) ?_ ?_
 ·refine sL<|ae Z<|ak Z<|aQ Z ?_;refine AL.bool (t:=46) rfl ?_ ?_
  ·intro h6;refine lf 0 qL Z<|lf 0 Bv Z<|lf 0 n9 Z<|iO oB Z<|ba po Z ?_;refine dC 51 (int (hJ13.log.bT.cells.length:Int)) (congrArg (fun n:Nat=>int (n:Int)) (fU _)) ?_;refine lT [2,3,46,51] [0,1,2,2002,2003] ?_;refine ak Z<|bj Z<|Y ?_;refine AW.cond rfl ?_ ?_
   ·intro h7;have dY:0<hJ13.log.bT.cells.length:=by have h:=h7;simp only[gt_iff_lt,decide_eq_true_eq]at h;omega
    refine aL<|lf 0 qL Z<|lf 0 Bv Z<|lf 0 n9 Z<|iO oB Z<|lq (rj 0 xE rfl (by rw[fU];exact dY))<|lf 0 uB Z<|lT [2,3,59] [0,1,2,2002,2003] ?_;refine ab (zQ 1 [.v (.slice none 0 0)] Ih Ii rfl (vw dY)) rfl ?_;refine AL.ah7 1 (rows':=(oS hJ13.log.bT.cells).set 0 [nQ []]) rfl (by rw[List.length_set,List.length_set]) (ajz _ 0) ?_;refine Y ?_;have hkv:n2=5:=by have h:=h6;simpa using h
    refine⟨(_,_,⟨⟨⟨hJ13.log.bT.cells.set 0 ⟨[]⟩,hJ13.log.bT.bu⟩,hJ13.log.next,hJ13.log.dP⟩,hJ13.book,hJ13.ia,hJ13.wait,hJ13.f9⟩),⟨by assumption,(fun q=>A.cl (ah4 x_2) dY),(fun q=>by omega)⟩,trivial,⟨rfl,rfl,(congrArg (AO.ai 195 1) ady),rfl,trivial⟩,rfl,rfl⟩
   intro h7;refine aK<|gT ?_;refine⟨(_,_,hJ13),⟨by assumption,(fun q=>by by_cases z:n2=5<;>first|exact A.id (ah4 x_2)|exact aiD x_2),(fun q=>ah4 x_2)⟩,trivial,⟨rfl,rfl,rfl,rfl,trivial⟩,rfl,rfl⟩
  intro h6;refine aa Z<|aa Z<|aa Z<|aa Z<|aa Z<|aa Z<|bL Z<|Y<|aN Z<|aK<|gT ?_;refine⟨(_,_,hJ13),⟨by assumption,(fun q=>by by_cases z:n2=5<;>first|exact A.id (ah4 x_2)|exact aiD x_2),(fun q=>ah4 x_2)⟩,trivial,⟨rfl,rfl,rfl,rfl,trivial⟩,rfl,rfl⟩
 intro ⟨iJ15,qJ15,hJ15⟩ hiJ15;dsimp only;obtain⟨ahM,ai5,ai6⟩:=hiJ15;replace ahM:ahk code iJ15:=ahM;replace ai5:n2<=5->ahw hJ15:=ai5;replace ai6:5<n2->ahx hJ15:=ai6;refine sL<|aP (.agg [.own _,vL _ _ _,U _ _,U _ _,U _ _,U _ _,U _ _,vL _ _ _,vL _ _ _,vL _ _ _,U _ _,vL _ _ _,.own _,vL _ _ _]) EZ Z<|ab (zB 2002 NA NB Z) Z<|Y<|aR ?_;have hQf:ahw hJ15:=by by_cases z:n2<=5<;>first|exact ai5 z|exact A.id (ai6 x_2)
 refine fN ((ahO hJ15)) ((0,ahm g code iJ15 qJ15)::obK hJ15) ?_ rfl ⟨rfl,rfl,rfl,trivial⟩;exact⟨_,_,_,ahM,⟨hJ15,hQf,rfl,rfl⟩,rfl⟩
def akB(Q:mm->Prop):AV->List (Nat×AO)->Prop:=fun x ob=>∃h e,Q h/\l7 e/\x=.au [Bu h,ju e]/\ob=[]
theorem akC{I:Nat->mm->Prop}{ahx ahw:mm->Prop}(W:aix I)(hIL:∀ {k h},k<=17->I k h->ahx h)(A:ai0 ahx ahw)(code:List Int)(hm:code.length<=1048576):GX Tryz.prog 38 [.p (.ab 5 1 (ah ahN code))] [] (akB ahw):=by
 refine GX.intro (rs:=[.cell 2 56 (some 14),.cell 3 81 (some 7)]) Tryz.func38 rfl Tryz.ntmps38 x_8 ⟨rfl,rfl,EZ,rfl,rfl,dD,trivial⟩ ?_;intro L O w0;refine sL<|ab (zA 2002 Ig Z) Z<|ab (zA 2003 jl Z) Z<|nA<|bm Z ?_;refine alX [(31,0)] [0] [] Tryz.func96 (akD code hm) (trivial) (fun _ _ _=>trivial) Z ?_;intro xz1 oz1 fa;obtain⟨q1,rfl,rfl⟩:=fa;refine lT [2,3,8] [0,2002,2003] ?_;refine lC Z<|Y<|aS ?_;refine AW.tZ 0 rfl ?_;intro g;have hc:ahk code 0:=⟨Nat.zero_le _,hm⟩;refine aL<|aM Z ?_;refine alX [(0,0),(1,1),(2,2)] [1,2] [0] Tryz.func103 (akz W hIL A g code _ _ hc) x_11 (aiU) Z ?_;intro xz2 oz2 hz2;obtain⟨i2,q2,_,Cj,⟨hA,hqA,rfl,rfl⟩,rfl⟩:=hz2;refine ab (zA 2005 Ig Z) Z<|lT [2,3,4,5,10] [0,1,2,2002,2003,2005] ?_;refine ab (zB 2005 NA NB Z) Z<|nA<|aM Z ?_;refine alX [(0,0)] [] [0] Tryz.func104 (aim g code _ _ Cj) x_11 (ahn) Z ?_;intro xz3 oz3 hz3;obtain⟨i3,q3,hc3,⟨⟨va3,vb3,vc3,vd3,ve3,vf3,vg3⟩,hw3,rfl⟩,rfl⟩:=hz3;refine ab (zA 2006 jl Z) Z<|lT [2,3,4,5,6,12] [0,1,2,2002,2003,2005,2006] ?_;refine ab (zB 2006 mZ m0 Z) Z<|Y ?_;refine aJ [2,3,4,5,6] [1,2,2002,2003,2005] (D:=Nat×Int×Ev7) (fun d=>[]) (fun d=>[(0,ahm g code d.1 d.2.1),(2006,ahy none d.2.2.1 d.2.2.2.1 d.2.2.2.2.1 d.2.2.2.2.2.1 d.2.2.2.2.2.2.1 d.2.2.2.2.2.2.2.1 d.2.2.2.2.2.2.2.2)]) (fun d=>ahk code d.1/\l7 (f5 d.2.2)) ?_ ?_
 ·refine sL<|aM Z ?_;refine alX [(0,0)] [] [0] Tryz.func98 (ahp g code _ _ _ hc3) x_11 (ahn) Z ?_;intro xz4 oz4 hz4;obtain⟨i4,q4,hc4,⟨ahZ,⟨na4,nb4⟩,rfl⟩,rfl⟩:=hz4;refine ak Z<|Y ?_;refine AW.cond rfl ?_ ?_
  ·intro V;refine aL<|lq (rd (x:=.agg [U _ _,U _ _,U _ _,U _ _,U _ _,U _ _,vB false]) (cP Z xF Z Z Z) Z)<|ab (zB 2006 mZ m0 Z) Z<|lT [2,3,4,5,6] [0,1,2,2002,2003,2005,2006] ?_;refine Y ?_;refine⟨(_,_,_,_,_,_,_,_,_),(by refine⟨by assumption,?_⟩;simp only[l7,i64,f5]at *;omega),trivial,⟨rfl,rfl,trivial⟩,rfl,rfl⟩
  intro V;refine aK<|gT ?_;refine⟨(_,_,_,_,_,_,_,_,_),(by refine⟨by assumption,?_⟩;simp only[l7,i64,f5]at *;omega),trivial,⟨rfl,rfl,trivial⟩,rfl,rfl⟩
 intro ⟨iJ6,qJ6,ea6,eb6,ec6,ed6,ee6,ef6,eg6⟩ hJ6;dsimp only;obtain⟨ah5,ain⟩:=hJ6;replace ah5:ahk code iJ6:=ah5;unfold l7 i64 at ain;simp only[f5]at ain;refine aJ [2,3,5,6] [1,2,2002,2003,2005] (D:=Nat×Int×Ev7) (fun d=>[]) (fun d=>[(0,ahm g code d.1 d.2.1),(2006,ahy none d.2.2.1 d.2.2.2.1 d.2.2.2.2.1 d.2.2.2.2.2.1 d.2.2.2.2.2.2.1 d.2.2.2.2.2.2.2.1 d.2.2.2.2.2.2.2.2)]) (fun d=>ahk code d.1/\l7 (f5 d.2.2)) ?_ ?_
 ·refine sL<|aM Z ?_;refine alX [(0,0)] [] [0] Tryz.func98 (ahp g code _ _ _ ah5) x_11 (ahn) Z ?_;intro xz5 oz5 hz5;obtain⟨i5,q5,hc5,⟨ahU,⟨na5,nb5⟩,rfl⟩,rfl⟩:=hz5;refine ak Z<|Y ?_;refine AW.cond rfl ?_ ?_
  ·intro h2;refine aL<|aM Z ?_;refine alX [(0,0)] [] [0] Tryz.func105 (akE g code _ _ hc5) x_11 (ahn) Z ?_;intro xz6 oz6 hz6;obtain⟨i6,q6,hc6,⟨⟨va6,vb6,vc6,vd6,ve6,vf6,vg6⟩,hw6,rfl⟩,rfl⟩:=hz6;refine lT [2,3,5,6,21] [0,1,2,2002,2003,2005,2006] ?_;refine ab (zB 2006 mZ m0 Z) Z<|Y ?_;refine⟨(_,_,_,_,_,_,_,_,_),(by refine⟨by assumption,?_⟩;simp only[l7,i64,f5]at *;omega),trivial,⟨rfl,rfl,trivial⟩,rfl,rfl⟩
  intro h2;refine aK<|gT ?_;refine⟨(_,_,_,_,_,_,_,_,_),(by refine⟨by assumption,?_⟩;simp only[l7,i64,f5]at *;omega),trivial,⟨rfl,rfl,trivial⟩,rfl,rfl⟩
 intro ⟨iJ8,qJ8,ea8,eb8,ec8,ed8,ee8,ef8,eg8⟩ hJ8;dsimp only;obtain⟨aid,aio⟩:=hJ8;replace aid:ahk code iJ8:=aid;unfold l7 i64 at aio;simp only[f5]at aio;refine aS ?_;refine AW.freeze 1 rfl ?_;refine AW.freeze 2 rfl ?_;refine aF [2,3]<|sq 0 (dw (.agg [vL _ _ _,vL _ _ _,U _ _,U _ _,U _ _,U _ _,U _ _,vL _ _ _,vL _ _ _,vL _ _ _,U _ _,vL _ _ _,vL _ _ _,vL _ _ _]) EZ Z) ?_;refine AF.two (i:=1) (j:=2) x_34 ?_ ?_
 ·refine d9.rd (i:=1) (x:=.agg [U _ _,U _ _,U _ _,U _ _,U _ _,U _ _,vB _]) rfl (sC rfl dD rfl rfl rfl rfl) rfl rfl x_3 ?_;refine bn 2 Z (zB 2002 NA NB Z) (.inl Z)<|bn 3 Z (zB 2003 mZ m0 Z) (.inl Z)<|fT [2,3] [0,2002,2003,2005,2006] ?_;refine fD<|gT<|aR ?_;refine fN ((.au [Bu hA,ju ⟨ea8,eb8,ec8,ed8,ee8,ef8,eg8⟩])) [] ?_ rfl trivial;exact⟨hA,⟨ea8,eb8,ec8,ed8,ee8,ef8,eg8⟩,hqA,by unfold l7 i64;omega,rfl,rfl⟩
 refine v1 2 Z (zB 2002 NA NB Z) (.inl Z)<|vq 1 (dw (.agg [U _ _,U _ _,U _ _,U _ _,U _ _,U _ _,vB _]) dD Z)<|bn 3 Z (zB 2003 mZ m0 Z) (.inl Z)<|fD<|gT<|aR ?_;refine fN ((.au [Bu hA,ju ⟨ea8,eb8,ec8,ed8,ee8,ef8,eg8⟩])) [] ?_ rfl trivial;exact⟨hA,⟨ea8,eb8,ec8,ed8,ee8,ef8,eg8⟩,hqA,by unfold l7 i64;omega,rfl,rfl⟩

theorem ai7{h:mm}(q:zV h=true):h.f9.length+h.wait.length<=600:=by
 have ht:=(aiF q).tail;have hl:=Ka h.log.bT;unfold pZ at ht;simp only[Bool.and_eq_true,decide_eq_true_eq,List.length_append]at ht;omega
theorem ajA{h:mm}{e:aV}(d:HbD h)(we:l7 e)(q:ahr h e=0):HbD (aht h e):=by
 obtain⟨V,h2,h3,h4⟩:=aiu q;have hf:=ai7 V;obtain⟨a1,a2,a3,_⟩:=ako d.wf we;rw[ahV q];refine⟨ajt d.db,XV d.wf we,by show (dp h.book e).an.length<=1048576;omega,by show (dp h.book e).aq.length<=1048576;omega,?_,?_,d.ls⟩
 ·show (ahs h e).lines.length<=1048576;unfold ahs;split
  ·exact d.ll
  exact Nat.le_trans (UI _ _) x_3
 show (h.wait++[e]).length<=1048576;rw[List.length_append,List.length_singleton];omega
theorem akG{h:mm}(d:HbD h):HbD (afL h):=by
 cases q:zV h
 ·rw[afX q];exact ajf
 have hf:=ai7 q;rw[afY q];exact⟨ajr d.db,d.wf,d.lh,d.li,d.ll,by simp,by show (h.f9++h.wait).length<=1048576;rw[List.length_append];omega⟩
theorem akH{d:du}(hb:qK d):HbD (e6 d):=by
 have z:=adR d;by_cases c:y3 d=0
 ·have hB:=Dr (Dp d);rw[ac5 c]at z ⊢;exact⟨ajq hb,hB.wf,z.lh,z.li,z.ll,z.lw,z.ls⟩
 rw[acJ c];exact ajf
def HbW(h:mm):Prop:=HbD h/\h.wait.length<=1000
theorem ajB{d:du}(hb:qK d):HbW (e6 d):=⟨akH hb,by
 by_cases c:y3 d=0
 ·rw[ac5 c];exact Nat.zero_le _
 rw[acJ c];exact Nat.zero_le _⟩
theorem akI:aix fun _ h=>HbW h:=⟨fun n _ _=>ajB (ajm n),fun d=>d,fun{_ h e} d we q=>⟨ajA d.1 we q,by
 have hf:=ai7 (aiu q).1;rw[ahV q];show (h.wait++[e]).length<=1000;rw[List.length_append,List.length_singleton];omega⟩,fun{_ h} d=>⟨akG d.1,by
 cases q:zV h
 ·rw[afX q];exact Nat.zero_le _
 rw[afY q];exact Nat.zero_le _⟩,fun vA d _=>ajB (ahF d.1),fun d=>d.1⟩
theorem akJ:ai0 HbW HbD:=⟨fun d=>d.1,fun _ d=>⟨d.1.db,d.1.wf,d.1.lh,d.1.li,d.1.ll,d.1.lw,d.1.ls⟩,fun _ d=>⟨d.1.db,⟨d.1.wf.ag,d.1.wf.an,d.1.wf.aq,d.1.wf.len⟩,d.1.lh,d.1.li,d.1.ll,d.1.lw,d.1.ls⟩,fun _ d=>⟨d.1.db,d.1.wf,d.1.lh,d.1.li,d.1.ll,d.1.lw,d.1.ls⟩,fun{h} e d=>⟨d.1.db,d.1.wf,d.1.lh,d.1.li,d.1.ll,by
 have:=d.2;show (h.wait++[e]).length<=1048576;rw[List.length_append,List.length_singleton];omega,d.1.ls⟩,fun d=>⟨d.1.db,d.1.wf,d.1.lh,d.1.li,d.1.ll,d.1.lw,d.1.ls⟩,fun d _=>⟨akf d.1.db .nil,d.1.wf,d.1.lh,d.1.li,d.1.ll,d.1.lw,d.1.ls⟩,fun d=>d.1⟩

def HbL(h:mm):Prop:=HbW h/\alZ h
theorem alM:aix fun _ h=>HbL h:=⟨fun n a b=>⟨akI.new n a b,alo _⟩,fun d=>d,fun d we q=>⟨akI.take (k:=0) d.1 we q,(alg d.2 q).1⟩,fun d=>⟨akI.sync (k:=0) d.1,aly d.2⟩,fun vA d q=>⟨akI.aiT (k:=0) vA d.1 q,alo _⟩,fun d=>d.1.1⟩
theorem alN(cs:List Cell)(ws:List gq):oh ⟨cs.set 0 ⟨[]⟩,ws⟩=(oh ⟨cs,ws⟩).set 0 (io ⟨cs.set 0 ⟨[]⟩,ws⟩ 0):=by
 refine List.ext_getElem (by rw[List.length_set,Jl,Jl];exact List.length_set ..) fun j V h2=>?_;rw[List.getElem_set,ak7];by_cases q:0=j
 ·subst q;rw[if_pos rfl]
 rw[if_neg q,ak7];unfold io;show (match kD ws j with|some b=>b|none=>yP (((cs.set 0 ⟨[]⟩)[j]?).getD ⟨[]⟩).bytes)=_;rw[List.getElem?_set_ne q];rfl
def alO(h:mm):Prop:=HbD h/\(zV h=true->alZ h)
theorem alP:ai0 HbL alO:=⟨fun d=>⟨d.1.1,fun _=>d.2⟩,fun n d=>⟨akJ.nx n d.1,fun q=>⟨(aiF q).len,d.2.top,d.2.bey,d.2.one⟩⟩,fun n d=>⟨akJ.tk n d.1,fun q=>⟨d.2.len,d.2.top,d.2.bey,d.2.one⟩⟩,fun n d=>⟨akJ.la n d.1,fun q=>⟨d.2.len,d.2.top,d.2.bey,d.2.one⟩⟩,fun e d=>⟨akJ.wt e d.1,fun q=>⟨d.2.len,d.2.top,d.2.bey,d.2.one⟩⟩,fun d=>⟨akJ.ep d.1,fun q=>by
 have:=ahS.1 (aiF q).ep;simp at this⟩,fun{h} d hl=>⟨akJ.cl d.1 hl,fun q=>by
 have g:=aiF q;have ale:=g.len;have alW:=d.2.len;replace ale:((dH ⟨h.log.bT.cells.set 0 ⟨[]⟩,h.log.bT.bu⟩).length:Int)=h.log.next:=ale;have hn:(dH ⟨h.log.bT.cells.set 0 ⟨[]⟩,h.log.bT.bu⟩).length=(dH h.log.bT).length:=by omega
 have V:1<=(dH h.log.bT).length:=by
  rcases d.2.one with r|r
  ·rw[r]at hl;cases hl
  exact r
 have hv:=alN h.log.bT.cells h.log.bT.bu;have hep:=ahS.1 g.ep;refine⟨ale,?_,?_,.inr (by show 1<=(dH ⟨h.log.bT.cells.set 0 ⟨[]⟩,h.log.bT.bu⟩).length;omega)⟩
 ·show ∀b∈oh ⟨h.log.bT.cells.set 0 ⟨[]⟩,h.log.bT.bu⟩,(kP b).dP<=h.log.dP;intro b hb;rw[hv]at hb;rcases List.mem_or_eq_of_mem_set hb with r|r
  ·exact d.2.top b r
  cases hw:kD h.log.bT.bu ((0:Nat):Int)with
  |some c=>
   have e1:b=io h.log.bT 0:=by rw[r];unfold io;show (match kD h.log.bT.bu ((0:Nat):Int)with|some b=>b|none=>_)=(match kD h.log.bT.bu ((0:Nat):Int)with|some b=>b|none=>_);rw[hw]
   refine d.2.top b (List.mem_iff_getElem.2 ⟨0,by rw[Jl];exact hl,?_⟩);rw[ak7,e1]
  |none=>
   have e1:b=List.replicate 128 0:=by
    rw[r];unfold io;show (match kD h.log.bT.bu ((0:Nat):Int)with|some b=>b|none=>yP (((h.log.bT.cells.set 0 (⟨[]⟩:Cell))[0]?).getD (⟨[]⟩:Cell)).bytes)=_;rw[hw,List.getElem?_set_self hl];rfl
   have e2:(kP (List.replicate 128 0)).dP=0:=by rw[TD alI]
   rw[e1,e2];have:1<=h.log.dP:=hep.1;omega
 show ∀b∈(oh ⟨h.log.bT.cells.set 0 ⟨[]⟩,h.log.bT.bu⟩).drop (dH ⟨h.log.bT.cells.set 0 ⟨[]⟩,h.log.bT.bu⟩).length,(kP b).dP<h.log.dP;rw[hn,hv,List.drop_set_of_lt x_2];exact d.2.bey⟩,fun d=>d.1.1⟩
theorem alQ{h:mm}(d:HbD h)(q:zV h=true):It h/\E9 h:=by
 have hd:=af4 q;have hs:=(wL hd).1;refine⟨⟨by omega,fun c hc=>?_,by omega,fun c hc=>?_,Nat.le_trans d.wf.len x_3,Nat.le_trans d.lh x_3,Nat.le_trans d.li x_3,Nat.le_trans d.ll x_3,Nat.le_trans d.lw x_3,Nat.le_trans d.ls x_3,d.db,d.wf.ag,d.wf.an,d.wf.aq⟩,d.z q⟩
 ·obtain⟨j,hj,rfl⟩:=List.getElem_of_mem hc;have:=PC hd hj;omega
 obtain⟨j,hj,rfl⟩:=List.getElem_of_mem hc;have:=Jk hd hj;omega

theorem agy{f:FuncId}{args:List AV}{h:mm}(hg:GN Tryz.prog f args [] [] (afV h)):GC Tryz.prog f args [] (Bu h) []:=
 (GX.frozen (Z:=fun y=>y=Bu h) (show GX Tryz.prog _ _ [] _ from hg) fun x ob ⟨l1,F1,hs,hF,hM,e,⟨vs,us,hv,hu,e1,e2,e3⟩⟩=>by
   subst e e1 e2 e3;refine⟨Bu h,?_,rfl⟩;have hT:Tl (bx (obH vs us h++je 1000000 (sY vs us h.log.bT))) (sY vs us h.log.bT):=by rw[Gm rfl];exact Tl.tl hF
   have l1:(fY vs (l9 h.log.bT.cells)).length=h.log.bT.cells.length:=by rw[Aa (by simpa using hv),List.length_map]
   have R:∀(i:Nat) (t:TypeId) (sz:Nat) (rows:List (List PV)),bx (obH vs us h++je 1000000 (sY vs us h.log.bT)) i=.ai ⟨t,none⟩ sz rows->Still (bx (obH vs us h++je 1000000 (sY vs us h.log.bT))) (.own i) (.p (.ab t sz rows)):=fun i t sz rows h=>Still.row (e:=⟨t,none⟩) h;exact Still.agg (.cons (Still.own (id:=1) (e:=⟨195,none⟩) (sz:=1) (rows:=oR vs) rfl (SF hT hv (s:=0) fun i hi=>by unfold sY;rw[Nat.zero_add,List.getElem?_append_left x_2]))
    (.cons (Still.own (id:=2) (e:=⟨192,none⟩) (sz:=2) (rows:=lW us h.log.bT.bu) rfl (SG hT hu (s:=h.log.bT.cells.length) fun i hi=>by unfold sY;rw[List.getElem?_append_right x_2];congr 1;omega)) (.cons (Still.p _) (.cons (Still.p _) (.cons (Still.p _) (.cons (Still.p _) (.cons (Still.p _) (.cons (R 3 _ _ _ rfl) (.cons (R 4 _ _ _ rfl) (.cons (R 5 _ _ _ rfl) (.cons (Still.p _) (.cons (R 6 _ _ _ rfl) (.cons (R 7 _ _ _ rfl) (.cons (R 8 _ _ _ rfl) .nil))))))))))))))).mono fun y o ⟨e1,e2⟩=>⟨e2,e1⟩

theorem alR(code:List Int):GC Tryz.prog 9 [.p (.ab 5 1 (ah ahN code))] [] (aD true) []:=by
 refine gi 2 Tryz.func9 rfl Tryz.ntmps9 rfl ?_;intro L O w0;refine sL<|ar Z<|Y<|aS<|sL<|bm Z<|ba kE Z<|ak Z<|Y ?_;refine AW.cond rfl ?_ ?_
 ·intro V;refine sL<|cI Z<|Y<|aR<|rT ?_;refine ax ?_ trivial;rfl
 intro V;refine aK<|gA<|bm Z ?_;refine alX [] [] [] Tryz.func38 (akC alM (fun _ d=>d) alP code (by have h:=V;simp only[ap,gt_iff_lt,decide_eq_false_iff_not]at h;omega)) (trivial) (fun _ _ _=>trivial) Z ?_;intro xz1 oz1 fa;obtain⟨h,e,⟨hd,FZ⟩,we,rfl,rfl⟩:=fa;refine cT (.au [.agg [vL _ _ _,vL _ _ _,U _ _,U _ _,U _ _,U _ _,U _ _,vL _ _ _,vL _ _ _,vL _ _ _,U _ _,vL _ _ _,vL _ _ _,vL _ _ _],.agg [U _ _,U _ _,U _ _,U _ _,U _ _,U _ _,vB _]]) Z<|iB (.agg [vL _ _ _,vL _ _ _,U _ _,U _ _,U _ _,U _ _,U _ _,vL _ _ _,vL _ _ _,vL _ _ _,U _ _,vL _ _ _,vL _ _ _,vL _ _ _]) Z<|iB (.agg [U _ _,U _ _,U _ _,U _ _,U _ _,U _ _,vB _]) Z<|ab (zA 2003 Ig Z) Z<|ab (zA 2004 jl Z) Z<|ab (zB 2003 NA NB Z) Z<|ab (zB 2004 mZ m0 Z) Z<|lT [2,3,4] [2003,2004] ?_;refine nA<|aP (.agg [vL _ _ _,vL _ _ _,U _ _,U _ _,U _ _,U _ _,U _ _,vL _ _ _,vL _ _ _,vL _ _ _,U _ _,vL _ _ _,vL _ _ _,vL _ _ _]) EZ Z<|aP (.agg [U _ _,U _ _,U _ _,U _ _,U _ _,U _ _,vB _]) dD Z<|ab (zC [] [] [] Tryz.func39 (akb h e hd) (trivial) Z Z) Z<|cT (.au [.agg [vL _ _ _,vL _ _ _,U _ _,U _ _,U _ _,U _ _,U _ _,vL _ _ _,vL _ _ _,vL _ _ _,U _ _,vL _ _ _,vL _ _ _,vL _ _ _],U _ _]) Z<|iB (.agg [vL _ _ _,vL _ _ _,U _ _,U _ _,U _ _,U _ _,U _ _,vL _ _ _,vL _ _ _,vL _ _ _,U _ _,vL _ _ _,vL _ _ _,vL _ _ _]) Z<|dE Z<|ab (zA 2005 Ig Z) Z<|ab (zB 2005 NA NB Z) Z<|ao Z<|nA<|aP (.agg [vL _ _ _,vL _ _ _,U _ _,U _ _,U _ _,U _ _,U _ _,vL _ _ _,vL _ _ _,vL _ _ _,U _ _,vL _ _ _,vL _ _ _,vL _ _ _]) EZ Z<|aP (.agg [U _ _,U _ _,U _ _,U _ _,U _ _,U _ _,vB _]) dD Z<|ab (zC [] [] [] Tryz.func40 (akd h e hd) (trivial) Z Z) Z<|cT (.au [.agg [vL _ _ _,vL _ _ _,U _ _,U _ _,U _ _,U _ _,U _ _,vL _ _ _,vL _ _ _,vL _ _ _,U _ _,vL _ _ _,vL _ _ _,vL _ _ _],U _ _]) Z<|iB (.agg [vL _ _ _,vL _ _ _,U _ _,U _ _,U _ _,U _ _,U _ _,vL _ _ _,vL _ _ _,vL _ _ _,U _ _,vL _ _ _,vL _ _ _,vL _ _ _]) Z<|dE Z<|ab (zA 2007 Ig Z) Z<|lT [2,3,4,5,6,7,28,29] [2003,2004,2005,2007] ?_;refine ab (zB 2007 NA NB rfl) Z<|ao Z<|Y<|aS<|sL<|ae Z<|ae Z<|ak Z<|bJ 32 false rfl x_20<|Y<|aN Z<|aK<|gT<|aS<|sL<|ae Z<|ak Z<|Y ?_;refine AW.cond rfl ?_ ?_
 ·intro h2;refine sL<|lf 13 By Z<|bo tE Z<|ba jZ Z ?_;refine dC 37 (int 0) (Eq.trans (b:=int ((ah fR (aht h e).f9).length:Int)) rfl (congrArg int (by rw[ah6 x_139];rfl))) ?_;refine ak Z<|bJ 38 true Z (Z)<|bM Z<|lf 12 Bz Z<|bo tE Z<|ba jZ Z ?_;refine dC 42 (int 0) (Eq.trans (b:=int ((ah fR (aht h e).wait).length:Int)) rfl (congrArg int (by rw[ah6 x_139];rfl))) ?_;refine ak Z<|bJ 43 true Z (Z)<|aU Z<|cI Z<|Y<|aR<|rT ?_;refine ax ?_ trivial;rfl
 intro h2;refine aK<|gT<|aS ?_;have q0:ahr h e=0:=by have h:=h2;simpa using h
 obtain⟨V,h2,h3,h4⟩:=aiu q0;have hL:=ahV q0;have hdG:=ajA hd we q0;have okG:=alA (FZ V) q0;have hf:=ai7 V;have hS:afL (aht h e)=(⟨afM (ahu h.log e),dp h.book e,ahs h e,[],h.f9++(h.wait++[e])⟩:mm):=by rw[afY okG,hL]
 have okS:=alC okG;have hdS:=akG hdG;obtain⟨alS,alT⟩:=alQ hdG okG;refine aL<|aP (.agg [vL _ _ _,vL _ _ _,U _ _,U _ _,U _ _,U _ _,U _ _,vL _ _ _,vL _ _ _,vL _ _ _,U _ _,vL _ _ _,vL _ _ _,vL _ _ _]) EZ Z<|ab (zC [] [] [] Tryz.func14 (agy (af3 (aht h e) alS alT)) (trivial) Z Z) Z<|lT [2,3,4,5,46] [2003,2004,2005,2007] ?_;refine ab (zA 2009 Ig Z) Z<|ab (zB 2009 NA NB Z) Z<|Y<|aS ?_;rw[hS]at okS hdS;rw[hL]at okG hdG;refine AW.obj 2005 (.box 56 none [.p (.ab 195 1 (oS (⟨ahu h.log e,dp h.book e,ahs h e,h.wait++[e],h.f9⟩:mm).log.bT.cells)),.p (.ab 192 2 (oT (⟨ahu h.log e,dp h.book e,ahs h e,h.wait++[e],h.f9⟩:mm).log.bT.bu)),int (⟨ahu h.log e,dp h.book e,ahs h e,h.wait++[e],h.f9⟩:mm).log.next,int (⟨ahu h.log e,dp h.book e,ahs h e,h.wait++[e],h.f9⟩:mm).log.dP,int (⟨ahu h.log e,dp h.book e,ahs h e,h.wait++[e],h.f9⟩:mm).book.tick,int (⟨ahu h.log e,dp h.book e,ahs h e,h.wait++[e],h.f9⟩:mm).book.next,int (⟨ahu h.log e,dp h.book e,ahs h e,h.wait++[e],h.f9⟩:mm).book.aA,.p (.ab 159 7 (ah aX (⟨ahu h.log e,dp h.book e,ahs h e,h.wait++[e],h.f9⟩:mm).book.ag)),.p (.ab 218 7 (ah go (⟨ahu h.log e,dp h.book e,ahs h e,h.wait++[e],h.f9⟩:mm).book.an)),.p (.ab 220 5 (ah iX (⟨ahu h.log e,dp h.book e,ahs h e,h.wait++[e],h.f9⟩:mm).book.aq)),int (⟨ahu h.log e,dp h.book e,ahs h e,h.wait++[e],h.f9⟩:mm).ia.last,.p (.ab 167 3 (ah ct (⟨ahu h.log e,dp h.book e,ahs h e,h.wait++[e],h.f9⟩:mm).ia.lines)),.p (.ab 81 7 (ah fR (⟨ahu h.log e,dp h.book e,ahs h e,h.wait++[e],h.f9⟩:mm).wait)),.p (.ab 81 7 (ah fR (⟨ahu h.log e,dp h.book e,ahs h e,h.wait++[e],h.f9⟩:mm).f9))]) (Eq.trans (b:=AO.box 56 none [.p (.ab 195 1 (oS (aht h e).log.bT.cells)),.p (.ab 192 2 (oT (aht h e).log.bT.bu)),int (aht h e).log.next,int (aht h e).log.dP,int (aht h e).book.tick,int (aht h e).book.next,int (aht h e).book.aA,.p (.ab 159 7 (ah aX (aht h e).book.ag)),.p (.ab 218 7 (ah go (aht h e).book.an)),.p (.ab 220 5 (ah iX (aht h e).book.aq)),int (aht h e).ia.last,.p (.ab 167 3 (ah ct (aht h e).ia.lines)),.p (.ab 81 7 (ah fR (aht h e).wait)),.p (.ab 81 7 (ah fR (aht h e).f9))]) rfl (by rw[hL])) ?_;refine AW.obj 2009 (.box 56 none [.p (.ab 195 1 (oS (⟨afM (ahu h.log e),dp h.book e,ahs h e,[],h.f9++(h.wait++[e])⟩:mm).log.bT.cells)),.p (.ab 192 2 (oT (⟨afM (ahu h.log e),dp h.book e,ahs h e,[],h.f9++(h.wait++[e])⟩:mm).log.bT.bu)),int (⟨afM (ahu h.log e),dp h.book e,ahs h e,[],h.f9++(h.wait++[e])⟩:mm).log.next,int (⟨afM (ahu h.log e),dp h.book e,ahs h e,[],h.f9++(h.wait++[e])⟩:mm).log.dP,int (⟨afM (ahu h.log e),dp h.book e,ahs h e,[],h.f9++(h.wait++[e])⟩:mm).book.tick,int (⟨afM (ahu h.log e),dp h.book e,ahs h e,[],h.f9++(h.wait++[e])⟩:mm).book.next,int (⟨afM (ahu h.log e),dp h.book e,ahs h e,[],h.f9++(h.wait++[e])⟩:mm).book.aA,.p (.ab 159 7 (ah aX (⟨afM (ahu h.log e),dp h.book e,ahs h e,[],h.f9++(h.wait++[e])⟩:mm).book.ag)),.p (.ab 218 7 (ah go (⟨afM (ahu h.log e),dp h.book e,ahs h e,[],h.f9++(h.wait++[e])⟩:mm).book.an)),.p (.ab 220 5 (ah iX (⟨afM (ahu h.log e),dp h.book e,ahs h e,[],h.f9++(h.wait++[e])⟩:mm).book.aq)),int (⟨afM (ahu h.log e),dp h.book e,ahs h e,[],h.f9++(h.wait++[e])⟩:mm).ia.last,.p (.ab 167 3 (ah ct (⟨afM (ahu h.log e),dp h.book e,ahs h e,[],h.f9++(h.wait++[e])⟩:mm).ia.lines)),.p (.ab 81 7 (ah fR (⟨afM (ahu h.log e),dp h.book e,ahs h e,[],h.f9++(h.wait++[e])⟩:mm).wait)),.p (.ab 81 7 (ah fR (⟨afM (ahu h.log e),dp h.book e,ahs h e,[],h.f9++(h.wait++[e])⟩:mm).f9))]) (Eq.trans (b:=AO.box 56 none [.p (.ab 195 1 (oS (afL (aht h e)).log.bT.cells)),.p (.ab 192 2 (oT (afL (aht h e)).log.bT.bu)),int (afL (aht h e)).log.next,int (afL (aht h e)).log.dP,int (afL (aht h e)).book.tick,int (afL (aht h e)).book.next,int (afL (aht h e)).book.aA,.p (.ab 159 7 (ah aX (afL (aht h e)).book.ag)),.p (.ab 218 7 (ah go (afL (aht h e)).book.an)),.p (.ab 220 5 (ah iX (afL (aht h e)).book.aq)),int (afL (aht h e)).ia.last,.p (.ab 167 3 (ah ct (afL (aht h e)).ia.lines)),.p (.ab 81 7 (ah fR (afL (aht h e)).wait)),.p (.ab 81 7 (ah fR (afL (aht h e)).f9))]) rfl (by rw[hS])) ?_;have hrw:(ah fR (h.f9++(h.wait++[e])))[h.f9.length+h.wait.length]? = some ((fR e).map PV.v):=by rw[<-List.append_assoc,<-List.length_append,ah,List.getElem?_map,List.getElem?_append_right (Nat.le_refl _),Nat.sub_self];rfl
 refine aF []<|pq 0 (qf 13 By Z)<|sq 1 (jj tE Z)<|pq 2 (qd (x:=U _ _) (ada Z jZ Z) Z) ?_;refine DR 49 (int (h.f9.length:Int)) (congrArg (fun n:Nat=>int (n:Int)) (ap ..)) ?_;refine vq 3 (rf 13 By Z)<|vq 4 (jj tE Z)<|vq 5 (le jZ Z) ?_;refine DR 52 (int (h.f9.length:Int)) (congrArg (fun n:Nat=>int (n:Int)) (ap ..)) ?_;refine vq 6 (dt Z)<|nw 53 true Z (decide_eq_true Z)<|vq 7 (cF Z)<|pq 8 (qf 12 Bz Z)<|sq 9 (jj tE Z)<|pq 10 (qd (x:=U _ _) (ada Z jZ Z) Z) ?_;refine DR 57 (int ((h.wait++[e]).length:Int)) (congrArg (fun n:Nat=>int (n:Int)) (ap ..)) ?_;refine vq 11 (rf 12 Bz Z)<|vq 12 (jj tE Z)<|vq 13 (le jZ Z) ?_;refine DR 60 (int (h.wait.length:Int)) (congrArg (fun n:Nat=>int (n:Int)) (ap ..)) ?_;refine vq 14 (qV rfl (by unfold i64;omega))<|vq 15 (dt rfl)<|nw 62 true rfl (decide_eq_true (by rw[List.length_append,List.length_singleton];rfl))<|vq 16 (bA rfl)<|vq 17 (cF rfl)<|vq 18 (rf 12 Bz rfl)<|vq 19 (jj tE rfl)<|vq 20 (le jZ rfl) ?_;refine DR 67 (int (([]:List aV).length:Int)) (congrArg (fun n:Nat=>int (n:Int)) (ap ..)) ?_;refine vq 21 (dt Z)<|nw 68 true Z (Z)<|vq 22 (bA Z)<|vq 23 (cF Z)<|pq 24 (qf 13 By Z)<|sq 25 (jj tE Z)<|pq 26 (qd (x:=U _ _) (ada Z jZ Z) Z) ?_;refine DR 73 (int ((h.f9++(h.wait++[e])).length:Int)) (congrArg (fun n:Nat=>int (n:Int)) (ap ..)) ?_;refine pq 27 (qf 13 By Z)<|fT [2,4,5,9,70,73,74] [2003,2004,2005,2007,2009] ?_;refine sq 28 (jj tE Z)<|pq 29 (qd (x:=U _ _) (ada Z jZ Z) Z) ?_;refine DR 76 (int (h.f9.length:Int)) (congrArg (fun n:Nat=>int (n:Int)) (ap ..)) ?_;refine vq 30 (rf 12 Bz Z)<|vq 31 (jj tE Z)<|vq 32 (le jZ Z) ?_;refine DR 79 (int ((h.wait++[e]).length:Int)) (congrArg (fun n:Nat=>int (n:Int)) (ap ..)) ?_;refine vq 33 (iC rfl ⟨rfl,ce (by rw[List.length_append,List.length_singleton];unfold i64;omega)⟩)<|vq 34 (dt rfl)<|nw 81 true rfl (decide_eq_true (by rw[List.length_append];rfl))<|vq 35 (bA rfl)<|vq 36 (cF rfl)<|vq 37 (dw (.agg [vL _ _ _,vL _ _ _,U _ _,U _ _,U _ _,U _ _,U _ _,vL _ _ _,vL _ _ _,vL _ _ _,U _ _,vL _ _ _,vL _ _ _,vL _ _ _]) EZ rfl)<|bn 38 rfl (zC [] [] [] Tryz.func31 (aj5 hdG) (trivial) rfl rfl) (.inr rfl)<|nw 85 true rfl (okG)<|vq 39 (bA rfl)<|vq 40 (cF rfl)<|vq 41 (dw (.agg [vL _ _ _,vL _ _ _,U _ _,U _ _,U _ _,U _ _,U _ _,vL _ _ _,vL _ _ _,vL _ _ _,U _ _,vL _ _ _,vL _ _ _,vL _ _ _]) EZ rfl)<|bn 42 rfl (zC [] [] [] Tryz.func31 (aj5 hdS) (trivial) rfl rfl) (.inr rfl)<|nw 89 true rfl (okS)<|fT [2,4,9,87,89] [2003,2004,2005,2007,2009] ?_;refine vq 43 (bA Z)<|vq 44 (cF Z)<|pq 45 (qf 13 By Z)<|sq 46 (jj tE Z)<|pq 47 (qf 13 By Z)<|sq 48 (jj tE Z)<|pq 49 (qd (x:=U _ _) (ada Z jZ Z) Z) ?_;refine DR 96 (int ((h.f9++(h.wait++[e])).length:Int)) (congrArg (fun n:Nat=>int (n:Int)) (ap ..)) ?_;refine pq 50 (qd (x:=U _ _) (ac' rfl rfl ⟨rfl,ce (by rw[List.length_append,List.length_append,List.length_singleton];unfold i64;omega)⟩) rfl)<|qM 97 ((h.f9.length+h.wait.length:Nat):Int) rfl (by rw[List.length_append,List.length_append,List.length_singleton];omega)<|sq 51 (ri ((h.f9.length+h.wait.length)) jk rfl (hrw))<|sq 52 (gm (.agg [U _ _,U _ _,U _ _,U _ _,U _ _,U _ _,vB _]) dD rfl)<|vq 53 (dw (.agg [U _ _,U _ _,U _ _,U _ _,U _ _,U _ _,vB _]) dD rfl)<|vq 54 (rd (x:=vB _) (j0 rfl (.inl rfl) rfl rfl oz pe pf pg ?hn1) rfl) ?_;case hn1=>exact⟨rfl,by decide,rfl,⟨_,Tryz.underlying3⟩,rfl,by decide,rfl,⟨_,Tryz.underlying3⟩,rfl,by decide,rfl,⟨_,Tryz.underlying3⟩,rfl,by decide,rfl,⟨_,Tryz.underlying3⟩,rfl,by decide,rfl,⟨_,Tryz.underlying3⟩,rfl,by decide,rfl,⟨_,Tryz.underlying3⟩,by decide,rfl,Tryz.underlying4,trivial⟩
 refine nw 101 true rfl (by simp[fR,dA])<|vq 55 (bA rfl)<|vq 56 (Av rfl)<|fD<|gT<|aR ?_;refine ax ?_ trivial;rfl

theorem alU(l:List Int)(a:Option Addr)(c:Nat)(w:World)(h0:dd 1 yb w 0 w.heap.size (.slice a l.length c) l) :
 Calls Tryz.prog 9 #[.slice a l.length c] w fun r w'=>r=.returned (.bool true)/\cZ w w':=
 Xx (cs:=[_]) rfl (alR l) (by
  simp only[bf];exact⟨_,_,rfl,wU (enc:=ahN) h0 (fun _ _ h=>h.1) (fun _=>rfl) (by intro c u hu;simp[ahN]at hu;subst hu;rfl) (Nat.le_refl _) (fun _ _ _=>mh),rfl⟩)
end Go.Proofs.YtflhgkmhmcfimaaGreat

namespace Go.Proofs.YtflhgkmhmcfimaaGreat.fnLate
open Go.ChangeShapes Go.WideShapes Go.ChangeAt Go.RowKit Go.Proofs.YtflhgkmhmcfimaaGreat
set_option maxHeartbeats 16000000
set_option maxRecDepth 100000
set_option linter.unusedVariables false
theorem own:ownKnob Tryz.prog.godebug=none:=by kernel_rfl
theorem laid:laidOutB Tryz.prog=true:=by kernel_rfl
theorem readable:∀t∈[76],Tryz.prog.readableRec t=true/\t<Tryz.prog.types.size:=by
 intro t ht;simp only[List.mem_cons,List.not_mem_nil,or_false]at ht;rcases ht with rfl;all_goals exact⟨by kernel_rfl,of_decide_eq_true x_34⟩
theorem lifted(os:Os)(started:os.Started)(H:Type)(enc:TypeId×Value->H) :
 ReturnsInHanded {} Tryz.checked os 9 .any (Rows.fnLateSpec.pre6 enc Tryz.prog Tryz.f9 Rows.fnLateRow.domain false) (Rows.fnLateSpec.post enc Tryz.prog Tryz.f9 false true false false):=by
 refine returnsInHanded_of_change (C:=Tryz.checked) own started x_34 Tryz.func9
  (ChangeSpec.witness6 (enc:=enc) (C:=Tryz.checked) false ⟨#[],#[.slice none 0 0],[]⟩ 8 x_34 x_34 x_34 x_34) ?_
 intro W base args ds gs before O2 hW aby _
 have O3:∀(j:Nat) t v,Tryz.f9.params[j]? = some t->args[j]? = some v->Value.okWide Tryz.prog W .any base t v:=O2
 have O4:=hW
 obtain⟨p,q,O5,hV,rfl,hfz,jU⟩:=hW
 have hA:DataW.TrodAll enc Tryz.prog W 0 (fun _=>true) true Tryz.f9.params.toList args.toList ds p:=O5
 rw[Tryz.params9]at hA O3
 have hB:=hA
 obtain⟨v0,vs0,d0,ds0,p0,q0,pF,rfl,rfl,h0,r0⟩:=trodAll_cons hA
 obtain⟨rfl,rfl,rfl⟩:=trodAll_nil r0
 obtain rfl:args=#[v0]:=by cases args;simp_all
 obtain⟨rfl,rfl⟩:=trodVars_none hV
 obtain⟨a0,l0,c0,rfl⟩:=okWide_slice Tryz.underlying76 (O3 0 76 v0 rfl rfl)
 obtain⟨fu0,t0⟩:=h0
 obtain⟨x0,afR⟩:=tG (dg:=yb) Tryz.underlying76 Kk x_3 (fun _ _ _ h=>Kl h) t0
 obtain rfl:l0=x0.length:=by obtain⟨_,_,he,_⟩:=afR;injection he
 clear O5 O2
 simp only[List.append_nil]at O4
 refine(alU x0 a0 c0 W afR).mono fun e W' ⟨he,hg⟩=>?_
 subst he
 exact⟨_,rfl,_,_,_,_,_,[],O4,trodAll_mk1 (shut_bool Tryz.underlying4 true),
  Pk laid hg.below (readable) hB,rfl,hg.below.frame _,fun h=>by cases h⟩
theorem YN:(Rows.fnLateRow.inPlace==Tryz.pinned.checked.prog.inPlace 9)=true:=by kernel_rfl
theorem YO:(Rows.fnLateRow.unfollowed==Tryz.pinned.checked.prog.unfollowed 9)=true:=by kernel_rfl
theorem YP:(Rows.fnLateRow.recurses==Tryz.pinned.checked.prog.recurses 9)=true:=by kernel_rfl
theorem YQ:(Rows.fnLateRow.named==Tryz.pinned.checked.prog.varsNamed 9)=true:=by kernel_rfl
theorem YR:Tryz.pinned.checked.prog.funcNamed Rows.fnLateRow.func=some 9:=by kernel_rfl
theorem closed:joinedFacts Tryz.pinned.checked.prog 9 Tryz.f9 Rows.fnLateSpec Rows.fnLateRow=true:=by
 unfold joinedFacts;rw[YN,YO,YP,YQ];kernel_rfl
theorem YS:Rows.fnLateRow.holds Tryz.pinned (OpenSpec.ofChange Rows.fnLateSpec):=
 OpenClaim.holds_of_wide 9 Tryz.f9 rfl rfl rfl rfl rfl rfl rfl ⟨rfl,rfl,rfl,rfl,rfl⟩ rfl rfl rfl rfl rfl YR Tryz.func9 closed
  (of_decide_eq_true x_34) (by unfold Func.isWrapper;first|(rw[if_pos (by decide +kernel)];kernel_rfl)|(rw[if_neg (by decide +kernel)];exact⟨rfl,rfl⟩))
  (fun os started H enc _=>lifted os started H enc)
theorem proved:Rows.FnLateSaid:=
 YS
#print axioms proved
end Go.Proofs.YtflhgkmhmcfimaaGreat.fnLate

