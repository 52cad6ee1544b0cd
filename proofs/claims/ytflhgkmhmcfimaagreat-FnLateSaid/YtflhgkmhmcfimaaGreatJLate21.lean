/- Texts of the proof of FnFnLate, joined: HubL, EW5, EW7, EY0, AppF, E39, EY1, E41, EY2, E40. -/
import Derived.Test.YtflhgkmhmcfimaaGreatJLate14
import Derived.Test.YtflhgkmhmcfimaaGreatJLate20
import Derived.Test.YtflhgkmhmcfimaaGreatJLate13
import Derived.Test.YtflhgkmhmcfimaaGreatJLate5
import Derived.Test.YtflhgkmhmcfimaaGreatJLate19
import Derived.Test.YtflhgkmhmcfimaaGreatJLate4
namespace Go.Proofs.YtflhgkmhmcfimaaGreat
set_option maxRecDepth 100000
open Tryz
open Go.RowKit
set_option linter.unusedSimpArgs false
set_option linter.unusedVariables false
structure alZ(h:mm):Prop where
 len:((dH h.log.bT).length:Int)=h.log.next
 top:∀b∈oh h.log.bT,(kP b).dP<=h.log.dP
 bey:∀b∈(oh h.log.bT).drop (dH h.log.bT).length,(kP b).dP<h.log.dP
 one:h.log.bT.cells=[]\/1<=(dH h.log.bT).length
theorem alf:alZ acj:=⟨rfl,(fun b hb=>by cases hb),(fun b hb=>by rw[show oh acj.log.bT=[]from rfl,List.drop_nil]at hb;cases hb),.inl rfl⟩
theorem drop_set{α:Type}{l:List α}{n:Nat}{a:α}:(l.set n a).drop (n+1)=l.drop (n+1):=List.drop_set_of_lt x_2
theorem alw{l:uW}{e:aV}(hc:aho l e=0)(hn:((dH l.bT).length:Int)=l.next):oh (ahu l e).bT=(oh l.bT).set (dH l.bT).length (oq ⟨l.next,l.dP,rY e⟩):=by
 have hx:l.next.toNat=(dH l.bT).length:=by omega
 rw[aiw hc,hx];exact ala
theorem alg{h:mm}{e:aV}(i:alZ h)(q:ahr h e=0):alZ (aht h e)/\f8 (aht h e).log.bT=f8 h.log.bT++[e]:=by
 obtain⟨V,h2,h3,h4⟩:=aiu q;obtain⟨a1,a2,a3,a4,a5⟩:=ajs h3;have hi:=ahS.1 a2;have hl:=i.len;have eI:(dH h.log.bT).length<h.log.bT.cells.length:=by omega
 have hv:=alw h3 hl;have hS:=ajC (e:=e) a1 a2 a3 x_2;have okL:=aki h3;have hR:=DP a1;have Gz:(ahu h.log e).next=h.log.next+1:=by rw[aiw h3]
 have hep:(ahu h.log e).dP=h.log.dP:=by rw[aiw h3]
 have Lm:yu (dH h.log.bT)<=h.log.dP:=by
  rw[hR];refine Int.le_trans (alh _) (alb _ _ ?_ i.top);have:=ahS.1 a3;omega
 generalize hb:oq ⟨h.log.next,h.log.dP,rY e⟩=b at hv;have hbF:g8 b=true:=by rw[<-hb];exact ali hS
 have hbC:gu b=⟨h.log.next,h.log.dP,rY e⟩:=by rw[<-hb];exact TE hS
 have hg:pA (dH h.log.bT) b=true:=sW.2 ⟨hbF,by rw[hbC];exact hl.symm,by rw[hbC];exact Lm⟩;have rq:dH (ahu h.log e).bT=dH h.log.bT++[⟨h.log.next,h.log.dP,rY e⟩]:=by
  rw[DP okL,hv];have e:=run_set (bs:=oh h.log.bT) (b:=b) (by rw[<-hR,Jl];exact eI);rw[<-hR]at e;rw[e];rw[amX,if_pos hg,hbC];refine alj (t:=h.log.dP-1) (fun x hx=>?_) (by rw[alk];show h.log.dP-1<h.log.dP;omega);have:=i.bey x (List.drop_subset_drop_left _ (Nat.le_succ _) hx);omega
 rw[ahV q];refine⟨⟨?_,fun x hx=>?_,fun x hx=>?_,.inr ?_⟩,?_⟩
 ·show ((dH (ahu h.log e).bT).length:Int)=(ahu h.log e).next;rw[rq,Gz,List.length_append,List.length_singleton];omega
 ·show (kP x).dP<=(ahu h.log e).dP;replace hx:x∈oh (ahu h.log e).bT:=hx;rw[hv]at hx;rw[hep];rcases List.mem_or_eq_of_mem_set hx with r|rfl
  ·exact i.top x r
  rw[dv hbF,hbC];exact Int.le_refl _
 ·show (kP x).dP<(ahu h.log e).dP;replace hx:x∈(oh (ahu h.log e).bT).drop (dH (ahu h.log e).bT).length:=hx;rw[hv,rq,List.length_append,List.length_singleton,drop_set]at hx;rw[hep];exact i.bey x (List.drop_subset_drop_left _ (Nat.le_succ _) hx)
 ·show 1<=(dH (ahu h.log e).bT).length;rw[rq,List.length_append,List.length_singleton];omega
 show f8 (ahu h.log e).bT=_;unfold f8;rw[rq,alm];congr 1;unfold pj;simp[alx a4,alc a4]
theorem aln{h:mm}(q:zV h=true):(afL h).log=⟨abM h.log.bT,h.log.next,h.log.dP⟩:=by
 rw[afY q];exact afS (aiF q).dok
theorem ak'{d:du}(h:ik d=true):dH (abM d)=dH d:=by
 rw[DP (aiS h).1,DP h,ak8 h]
theorem aly{h:mm}(i:alZ h):alZ (afL h):=by
 cases q:zV h with
 |false=>rw[afX q];exact alf
 |true=>
  have hd:=(aiF q).dok;have hl:=aln q;refine⟨?_,?_,?_,?_⟩<;>rw[hl]
  ·rw[ak' hd];exact i.len
  ·show ∀b∈oh (abM _),_;rw[ak8 hd];exact i.top
  ·show ∀b∈(oh (abM _)).drop (dH (abM _)).length,_;rw[ak8 hd,ak' hd];exact i.bey
  show _\/1<=(dH (abM _)).length;rw[ak' hd];rcases i.one with r|r
  ·have:=(wL hd).1;rw[r]at this;simp at this
  exact .inr r
theorem alz{es m:List aV}{e:aV}(h:pZ es m=true):pZ (es++[e]) (m++[e])=true:=by
 unfold pZ at h ⊢;simp only[Bool.and_eq_true,decide_eq_true_eq]at h ⊢;obtain⟨V,h2⟩:=h;refine⟨by simp;exact V,?_⟩;have e1:(es++[e]).drop ((es++[e]).length-(m++[e]).length)=m++[e]:=by
  rw[List.length_append,List.length_append,List.length_singleton,show es.length+1-(m.length+1)=es.length-m.length by omega,List.drop_append_of_le_length x_2,aie alu h2]
 rw[e1];exact aif (fun a=>by simp[fR,dA]) _
theorem alA{h:mm}{e:aV}(i:alZ h)(q:ahr h e=0):zV (aht h e)=true:=by
 obtain⟨V,h2,h3,h4⟩:=aiu q;obtain⟨i2,he⟩:=alg i q;obtain⟨r1,r2,r3⟩:=alv q;have g:=aiF V;have ok:=aki h3;have hle:=acD ok;have hl:=i2.len;have ht:=alz (e:=e) g.tail;rw[ahV q]at he hl ⊢;replace he:f8 (ahu h.log e).bT=f8 h.log.bT++[e]:=he;replace hl:((dH (ahu h.log e).bT).length:Int)=(ahu h.log e).next:=hl;refine aiE.ok ⟨ok,ahS.2 (by show 0<=(ahu h.log e).next/\(ahu h.log e).next<=((ahu h.log e).bT.cells.length:Int);omega),?_,hl,?_,?_,Gy h2,?_,?_⟩
 ·show aI (ahu h.log e).dP 1 16000000=true;rw[aiw h3];exact g.ep
 ·show eL (f8 (ahu h.log e).bT)=true;rw[he];exact r1
 ·show dp h.book e=(de (f8 (ahu h.log e).bT)).now;rw[he];exact r2.symm
 ·show ahs h e=(d5 (f8 (ahu h.log e).bT)).1;rw[he];exact r3.symm
 show pZ (f8 (ahu h.log e).bT) (h.f9++(h.wait++[e]))=true;rw[he,<-List.append_assoc];exact ht
theorem alB{d:du}(h:ik d=true):f8 (abM d)=f8 d:=(kept h).2
theorem alC{h:mm}(q:zV h=true):zV (afL h)=true:=by
 have g:=aiF q;have hl:=aln q;have hd:=aiS g.dok;have hc:(abM h.log.bT).cells.length=h.log.bT.cells.length:=by rw[acu g.dok];exact abW _ _
 have hr:=ak' g.dok;have he:=alB g.dok;have e1:(afL h).book=h.book:=by rw[afY q]
 have e2:(afL h).ia=h.ia:=by rw[afY q]
 have e3:(afL h).f9++(afL h).wait=h.f9++h.wait:=by rw[afY q];exact List.append_nil _
 refine aiE.ok ⟨?_,?_,?_,?_,?_,?_,?_,?_,?_⟩<;>(try rw[hl])
 ·exact hd.1
 ·show aI h.log.next 0 ((abM h.log.bT).cells.length:Int)=true;rw[hc];exact g.nx
 ·exact g.ep
 ·show ((dH (abM _)).length:Int)=h.log.next;rw[hr];exact g.len
 ·show eL (f8 (abM _))=true;rw[he];exact g.rp
 ·show _=(de (f8 (abM _))).now;rw[he,e1];exact g.book
 ·rw[e1];exact g.bok
 ·show _=(d5 (f8 (abM _))).1;rw[he,e2];exact g.led
 show pZ (f8 (abM _)) _=true;rw[he,e3];exact g.tail
theorem alD{d:du}(hc:m1 d=0):oh (m4 d).bT=(oh d).set (dH d).length (oq ⟨(dH d).length,m2 d+1,[66]⟩):=by
 have g9:ik d=true:=by rcases aep d with q|q;exact q.2.1;exact absurd hc q.1
 have h0:d.bu.length=0:=by
  by_cases h:d.bu.length=0
  ·exact h
  rw[lg1 (.inr h)]at hc;cases hc
 have hn:¬((dH d).length=d.cells.length\/16000000<=m2 d):=fun q=>by rw[lg2 g9 h0 q]at hc;cases hc
 have hle:=acD g9;have hW:=ab7 g9 (show (dH d).length<d.cells.length by omega) x_2 (TB (s:=⟨(dH d).length,m2 d+1,[66]⟩) x_8);rw[acE hc];show oh (abM _)=_;rw[ak8 hW,ala]
theorem alE{d:du}(h:y3 d=0):m1 d=0/\eL (f8 d)=true:=by
 by_cases c:m1 d=0
 ·cases r:eL (f8 d)with
  |true=>exact⟨c,rfl⟩
  |false=>rw[adI c r]at h;cases h
 rw[adH c]at h;exact absurd h c
theorem alF{d:du}(h:y3 d=0):m1 d=0:=(alE h).1
theorem alo(d:du):alZ (e6 d):=by
 by_cases h:y3 d=0
 ·have hc:=alF h;have g9:ik d=true:=by rcases aep d with q|q;exact q.2.1;exact absurd hc q.1
  have okL:ik (m4 d).bT=true:=by rcases aep d with q|q;exact q.2.2;exact absurd hc q.1
  have hO:=alG hc;have hT:=hO.top;rw[adS okL]at hT;have hl:(dH (m4 d).bT).length=(dH d).length+1:=by rw[hO.run,List.length_append,List.length_singleton]
  have e:(e6 d).log=m4 d:=by rw[ac5 h]
  refine⟨?_,?_,?_,?_⟩<;>rw[e]
  ·exact hO.len
  ·intro b hb;rw[<-hT];exact ak9 hb
  ·intro b hb;rw[hl,alD hc,drop_set]at hb;have:=ak9 (List.mem_of_mem_drop hb);rw[<-adS g9]at this;rw[hO.ep];omega
  exact .inr x_2
 rw[acJ h];exact alf

set_option maxHeartbeats 16000000
set_option maxRecDepth 100000
def LnB(x:aw)(r:WR):Prop:=r.b.an.length<=x.an.length+1/\r.b.aq.length<=x.aq.length+1
theorem LnB.ite{x:aw}{p:Prop}[Decidable p]{a b:WR}(V:LnB x a)(h2:LnB x b):LnB x (if p then a else b):=by split<;>assumption
theorem afq(x:aw)(e:aV):LnB x (bz x e):=by
 have F1:∀k,(jS x.an k).length<=x.an.length+1:=fun k=>Nat.le_trans (List.length_filter_le _ _) (Nat.le_succ _);have ac7:∀k,(jA x.aq k).length<=x.aq.length+1:=fun k=>Nat.le_trans (List.length_filter_le _ _) (Nat.le_succ _);have hs:LnB x (mR x e):=by
  unfold mR;split
  ·exact LnB.ite ⟨F1 _,Nat.le_succ _⟩ ⟨F1 _,Nat.le_succ _⟩
  exact⟨Nat.le_succ _,Nat.le_succ _⟩
 have hl:LnB x (nm x e):=by
  unfold nm;split
  ·exact LnB.ite ⟨Nat.le_succ _,ac7 _⟩ ⟨Nat.le_succ _,ac7 _⟩
  exact⟨Nat.le_succ _,Nat.le_succ _⟩
 have h0:∀b l c,b.an=x.an->b.aq=x.aq->LnB x ⟨b,l,c⟩:=fun b l c e1 e2=>⟨by rw[e1];exact Nat.le_succ _,by rw[e2];exact Nat.le_succ _⟩;exact .ite (h0 _ _ _ rfl rfl) (.ite (.ite (h0 _ _ _ rfl rfl) (h0 _ _ _ rfl rfl)) (.ite (.ite (h0 _ _ _ rfl rfl) (h0 _ _ _ rfl rfl)) (.ite (.ite (h0 _ _ _ rfl rfl) (h0 _ _ _ rfl rfl)) (.ite (.ite ⟨by simp[mI],Nat.le_succ _⟩ (h0 _ _ _ rfl rfl)) (.ite hs (.ite ⟨by simp[p'],Nat.le_succ _⟩ (.ite (.ite ⟨Nat.le_succ _,by simp[oH]⟩ (h0 _ _ _ rfl rfl)) hl)))))))
theorem afr{x:aw}{e:aV}:(dp x e).an.length<=61/\(dp x e).aq.length<=21:=by
 by_cases h:dG x e=0
 ·have hb:eG x=true:=by
   cases q:eG x
   ·rw[FF (by rw[q];rfl)]at h;cases h
   rfl
  have sm:=(CT hb).sm;have V:=sm.lh;have h2:=sm.li;have hw:=afq x e;unfold LnB at hw;unfold dp;rw[if_pos h];split
  ·omega
  show (bz x e).b.an.length<=61/\(bz x e).b.aq.length<=21;omega
 rw[(Oj h).1];exact⟨by simp[rg],by simp[rg]⟩
theorem adQ{es:List aV}:∀k,k<=es.length->(bK pm (es.take k)).now.an.length<=61/\(bK pm (es.take k)).now.aq.length<=21
 |0,_=>by rw[List.take_zero];decide
 |k+1,h=>by
  rw[fl x_2];by_cases hc:dG (bK pm (es.take k)).now es[k]=0
  ·rw[Fk hc];exact afr
  rw[Ol hc];exact adQ k x_2
theorem adR(d:du):E9 (e6 d):=by
 by_cases hc:y3 d=0
 ·rw[ac5 hc];have hB:=Dr (Dp d);have hn:(de (f8 d))=bK pm (f8 d):=OO QB;have hl:=adQ (es:=f8 d) _ (Nat.le_refl _);rw[List.take_length,<-hn]at hl;exact⟨aeq d,hB.wf.len,by show (de (f8 d)).now.an.length<=_;omega,by show (de (f8 d)).now.aq.length<=_;omega,by have:=hB.ll;show (d5 (f8 d)).1.lines.length<=_;omega,by simp,by simp⟩
 rw[acJ hc];exact⟨adq,by simp,by simp,by simp,by simp,by simp,by simp⟩

theorem agl{H:Nat->AO}{x:aw}{a b c:Nat}(V:H a=.ai 159 7 (ah aX x.ag))(h2:H b=df x.an)(h3:H c=d7 x.aq):Still H (.agg [int x.tick,int x.next,int x.aA,.own a,.own b,.own c]) (cj x):=
 Still.agg (.cons (Still.p _) (.cons (Still.p _) (.cons (Still.p _) (.cons (Still.row (e:=⟨159,none⟩) (sz:=7) V) (.cons (Still.row (e:=⟨218,none⟩) (sz:=7) h2) (.cons (Still.row (e:=⟨220,none⟩) (sz:=5) h3) .nil))))))
theorem agm(x:aw)(hc:x.ag.length<=1048576)(hh:x.an.length<=1048576)(hi:x.aq.length<=1048576):GC prog 132 [cj x] [] (afW x) (Jz x):=by
 refine GC.intro (rs:=[.cell 2 50 (some 6)]) func132 rfl ntmps132 x_8 ⟨rfl,rfl,cu,trivial⟩ ?_;intro L O w0;refine sL<|ab (zX 2001 rfl) Z<|ab (zA 2002 mD rfl) Z<|nA<|ab (zS 1 [] cz dy rfl x_20) Z<|lf 3 dr Z<|bo eg Z<|ab (zP 1 cz dy jL rfl (Src.p rfl)) Z<|lf 3 dr Z<|ab (zB 2001 sM sN rfl) Z<|nA<|ab (zS 2 [] f7 iu rfl x_20) Z<|lf 4 eF Z<|bo fS Z<|ab (zP 2 f7 iu sQ rfl (Src.p rfl)) Z<|lf 4 eF Z<|ab (zB 2001 tQ tR rfl) Z<|lT [1,2] [1,2,2001,2002] ?_;refine nA<|ab (zS 3 [] iI jO rfl x_20) Z<|lf 5 gn Z<|bo ii Z<|ab (zP 3 iI jO wI rfl (Src.p rfl)) Z<|lf 5 gn Z<|ab (zB 2001 yh yk rfl) Z<|nA<|aP (.agg [U _ _,U _ _,U _ _,.own _,.own _,.own _]) cu Z<|ab (zB 2002 eu ew rfl) Z<|Y<|aR ?_;refine ax ?_ ⟨rfl,rfl,rfl,trivial⟩;rfl
theorem agn(x:aw)(hc:x.ag.length<=1048576)(hh:x.an.length<=1048576)(hi:x.aq.length<=1048576):GC prog 132 [cj x] [] (cj x) []:=
 (GX.frozen (Z:=fun y=>y=cj x) (agm x hc hh hi) fun y ob ⟨e1,e2⟩=>by
   subst e1 e2;exact⟨_,agl (a:=1) (b:=2) (c:=3) rfl rfl rfl,rfl⟩).mono fun y o ⟨e1,e2⟩=>⟨e2,e1⟩
abbrev ago(h:mm):AV:=.agg [.p (.ab 195 1 (oS h.log.bT.cells)),.p (.ab 192 2 (oT h.log.bT.bu)),int h.log.next,int h.log.dP,int h.book.tick,int h.book.next,int h.book.aA,.p (.ab 159 7 (ah aX h.book.ag)),.p (.ab 218 7 (ah go h.book.an)),.p (.ab 220 5 (ah iX h.book.aq)),int h.ia.last,.own 6,.own 7,.own 8]
abbrev agp(h:mm):List (Nat×AO):=[(6,dc h.ia.lines),(7,uT h.wait),(8,uT h.f9)]
theorem agq(h:mm)(hz:E9 h)(hs:DkS h.log.bT):GC prog 49 [Bu h] [] (ago h) (agp h):=by
 refine GC.intro (rs:=[.cell 2 56 (some 14)]) func49 rfl ntmps49 x_8 ⟨rfl,rfl,EZ,trivial⟩ ?_;intro L O w0;refine sL<|ab (zX 2001 Z) Z<|ab (zA 2002 Ig Z) Z<|nA<|lf 0 qL Z<|lf 0 Bv Z<|aP (.agg [vL _ _ _,vL _ _ _]) mE Z<|ab (zC [] [] [] func131 ((adz h.log.bT hs).bT) (trivial) Z Z) Z<|lf 0 qL Z<|lf 0 Bv Z<|ab (zB 2001 Dv Dw Z) Z<|nA<|lf 4 Bw Z<|aP (.agg [U _ _,U _ _,U _ _,vL _ _ _,vL _ _ _,vL _ _ _]) cu Z<|ab (zC [] [] [] func132 (agn h.book hz.lc hz.lh hz.li) (trivial) Z Z) Z<|lf 4 Bw Z<|ab (zB 2001 eu ew Z) Z<|lT [1,2] [2001,2002] ?_;refine Y<|aS ?_;have rl:=hz.ll;have hlw:=hz.lw;have T7:=hz.ls;refine aL<|ab (zS 6 [] cV eP rfl x_20) Z<|lf 10 Bx Z<|lf 11 jY Z<|bo gY Z<|ab (zP 6 cV eP lE rfl (Src.p rfl)) Z<|lf 10 Bx Z<|lf 11 jY Z<|ab (zB 2001 z8 z' rfl) Z<|nA<|ab (zS 7 [] jk jl rfl x_20) Z<|lf 12 Bz Z<|bo tE Z<|ab (zP 7 jk jl sD rfl (Src.p rfl)) Z<|lf 12 Bz Z<|ab (zB 2001 Ny Nz rfl) Z<|lT [1,2] [6,7,2001,2002] ?_;refine nA<|ab (zS 8 [] jk jl rfl x_20) Z<|lf 13 By Z<|bo tE Z<|ab (zP 8 jk jl sD rfl (Src.p rfl)) Z<|lf 13 By Z<|ab (zB 2001 Ny Nz rfl) Z<|nA<|aP (.agg [vL _ _ _,vL _ _ _,U _ _,U _ _,U _ _,U _ _,U _ _,vL _ _ _,vL _ _ _,vL _ _ _,U _ _,.own _,.own _,.own _]) EZ Z<|ab (zB 2002 NA NB rfl) Z<|Y<|aR ?_;refine ax ?_ ⟨rfl,rfl,rfl,trivial⟩;rfl
theorem af4{h:mm}(q:zV h=true):ik h.log.bT=true:=by
 unfold zV at q;simp only[Bool.and_eq_true]at q;simp_all

theorem ajO(u:Value)(d:du)(hs:DkS d):GC prog 131 [.agg [.own 31,.p (.ab 192 2 (oT d.bu))]] [(31,.ai ⟨195,some u⟩ 1 (oS d.cells))] (Gn) (SH d++[(31,.ai ⟨195,some u⟩ 1 (oS d.cells))]):=by
 refine GC.intro (rs:=[.cell 2 43 (some 2)]) func131 rfl ntmps131 x_8 x_113 ?_;intro L O w0;refine sL<|ab (zX 2001 Z) Z<|ab (zA 2002 Du Z) Z<|nA<|lq (rd (x:=.agg [vV _,vV _]) (cP Z adU Z Z Z) Z)<|ab (zA 2003 Du Z) Z<|ab (zB 2003 Dv Dw Z) Z<|Y<|aS<|aS ?_;refine AW.pi 1 2003 0 195 1 rfl x_3 rfl ?_;refine AW.pi 2 2003 1 192 2 rfl x_3 rfl ?_;refine aL<|lf 0 n9 Z<|iO oB Z<|ba po Z ?_;refine dC 11 (int (d.cells.length:Int)) (congrArg (fun n:Nat=>int (n:Int)) (fU _)) ?_;refine ae Z<|Y<|aB ?_;refine aW [1,2,3,10,11] [2,31,2001,2002,2003] (D:=Nat) (fun a=>[(12,int (a:Int))]) (fun a=>[(1,.ai 195 1 (oS (d.cells.take a)))]) (fun a=>a<=d.cells.length) (fun a=>d.cells.length-a) (0) (Nat.zero_le _) ⟨rfl,trivial⟩ ⟨rfl,trivial⟩ ?_;intro k hI;have eN:k<=d.cells.length:=hI;refine sL<|ak Z<|Y<|aS ?_;refine AW.cond rfl ?_ ?_
 ·intro V;refine aK<|gT<|aS<|aB<|aS ?_;have hk:k<d.cells.length:=by have h:=V;simp only[decide_eq_true_eq]at h;omega
  have oF:=hs.lc;refine aL<|lq (rj k xE rfl (by rw[fU];exact hk))<|lq (rd (x:=.agg [vL _ _ _]) (dT rfl zn rfl rfl rfl (vw hk) rfl) rfl)<|ab (zA 2005 CB rfl) Z<|ab (zB 2005 E2 E3 rfl) Z<|lT [1,2,3,5,10,11,12] [1,2,31,2001,2002,2003,2005] ?_;refine Y<|aG 10 [1,2018]<|tq 0 (rf 0 n9 rfl)<|tq 1 (gC oB rfl)<|tq 3 (rf 0 uB rfl)<|tq 4 (jj kb rfl)<|cm 2 rfl (zS 2018 (ah dF []) fh ie rfl x_125)<|cm 5 rfl (zP 2018 fh ie mu rfl (Src.p rfl) (by have:=hs.bc _ (List.getElem_mem hk);simp[ah];omega)) ?_;refine AG.freeze 2018 rfl ?_;refine yq 6 (rd (x:=.agg [vL _ _ _]) (cP rfl acN rfl rfl rfl) rfl)<|cm 7 rfl (zS 2023 [[nQ d.cells[k].bytes]] xE CB rfl x_56)<|cm 8 rfl (zP 1 xE CB VT rfl x_17 x_97)<|yq 9 (rf 0 n9 rfl)<|yl rfl (zB 2003 VF VG rfl)<|gB<|gT<|aL<|bg Z<|ae Z<|Y ?_;refine⟨(k+1),hk,by show d.cells.length-(k+1)<d.cells.length-k;omega,x_12,⟨(congrArg (AO.ai 195 1) (aeM hk)),trivial⟩,rfl,rfl⟩
 intro V;refine aE<|eT<|eT<|eB<|gT<|aS<|aS ?_;have dZ:k=d.cells.length:=by have h:=V;simp only[decide_eq_false_iff_not]at h;omega
 subst dZ;rw[List.take_length];refine aL<|lf 1 ru Z<|bo sk Z<|ba vT Z ?_;refine dC 29 (int (d.bu.length:Int)) (congrArg (fun n:Nat=>int (n:Int)) (pH _)) ?_;refine ae Z<|Y<|aB ?_;refine aW [2,3,28,29] [1,31,2001,2002,2003] (D:=Nat) (fun a=>[(30,int (a:Int))]) (fun a=>[(2,.ai 192 2 (oT (d.bu.take a)))]) (fun a=>a<=d.bu.length) (fun a=>d.bu.length-a) (0) (Nat.zero_le _) ⟨rfl,trivial⟩ ⟨rfl,trivial⟩ ?_;intro j hI;have ro:j<=d.bu.length:=hI;refine sL<|ak Z<|Y<|aS ?_;refine AW.cond rfl ?_ ?_
 ·intro h2;refine aK<|gT<|aS<|aB<|aS ?_;have hj:j<d.bu.length:=by have h:=h2;simp only[decide_eq_true_eq]at h;omega
  have hlw:=hs.lw;refine aL<|li j uz Z (td hj)<|d6 (.agg [U _ _,vL _ _ _]) AY Z<|ab (zA 2007 CA Z) Z<|lT [2,3,7,28,29,30,33] [1,2,31,2001,2002,2003,2007] ?_;refine ab (zB 2007 E0 E1 rfl) Z<|Y<|aG 12 [2,2038]<|tq 0 (rf 1 ru rfl)<|tq 1 (gC sk rfl)<|tq 2 (rf 0 xG rfl)<|tq 3 (aZ ac rfl)<|tq 5 (rf 1 zm rfl)<|tq 6 (jj kb rfl)<|cm 4 rfl (zS 2038 (ah dF []) fh ie rfl x_125)<|cm 7 rfl (zP 2038 fh ie mu rfl (Src.p rfl) (by have:=hs.bw _ (List.getElem_mem hj);simp[ah];omega)) ?_;refine AG.freeze 2038 rfl ?_;refine yq 8 (rd (x:=.agg [U _ _,vL _ _ _]) (cP rfl acq rfl rfl rfl) rfl)<|cm 9 rfl (zS 2043 [[.v (.int .i64 d.bu[j].at_),nQ d.bu[j].bytes]] uz CA rfl x_56)<|cm 10 rfl (zP 2 uz CA VS rfl x_17 x_97)<|yq 11 (rf 1 ru rfl)<|yl rfl (zB 2003 VH VI rfl)<|gB<|gT<|aL<|bg Z<|ae Z<|Y ?_;refine⟨(j+1),hj,by show d.bu.length-(j+1)<d.bu.length-j;omega,x_12,⟨(congrArg (AO.ai 192 2) (adr hj)),trivial⟩,rfl,rfl⟩
 intro h2;refine aE<|eT<|eT<|eB<|gT<|aS ?_;have Ji:j=d.bu.length:=by have h:=h2;simp only[decide_eq_false_iff_not]at h;omega
 subst Ji;rw[List.take_length];refine aL<|aP (.agg [.own _,.own _]) mE Z<|ab (zB 2002 Dv Dw Z) Z<|lT [2] [1,2,31,2001,2002,2003] ?_;refine Y<|aR ?_;refine ax ?_ ⟨rfl,rfl,rfl,trivial⟩;rfl
theorem ajP(u:Value)(d:du)(vA:List Int)(hd:ik d=true):GC prog 71 [.agg [.own 31,.p (.ab 192 2 (oT d.bu))],inV vA] [(31,.ai ⟨195,some u⟩ 1 (oS d.cells))] (Gn) (SH (acU d vA)++[(31,.ai ⟨195,some u⟩ 1 (oS d.cells))]):=by
 refine GC.intro (rs:=[.cell 4 43 (some 2)]) func71 rfl ntmps71 x_8 x_113 ?_;intro L O w0;refine sL<|ab (zX 2002 Z) Z<|ab (zA 2004 Du Z) Z<|Y<|aS<|aS ?_;have gR:=(wL hd).1;refine aL<|aP (.agg [.own _,vL _ _ _]) mE Z<|ab (zL func87 (FU d) Z) Z<|bJ 12 true Z (hd)<|ma Z<|Y<|aN Z<|aK<|gA<|aP (.agg [.own _,vL _ _ _]) mE Z ?_;refine ab (zC [(1,1),(2,2),(31,31)] [1,2] [31] func131 (ajO u d (acF hd)) (⟨stays.ai rfl,trivial⟩) rfl rfl) Z<|ab (zA 2005 Du rfl) Z<|ab (zB 2005 Dv Dw rfl) Z<|nA<|lf 1 ru Z<|ab (zB 2005 VH VI rfl) Z<|Y<|aS<|sL<|lf 1 ru Z<|bo sk Z<|ba vT rfl ?_;refine dC 20 (int (d.bu.length:Int)) (congrArg (fun n:Nat=>int (n:Int)) (pH _)) ?_;refine ae Z<|Y<|aB ?_;refine aW [1,4,5,19,20] [31,2002,2004,2005] (D:=Nat×List Cell) (fun a=>[(21,int (a.1:Int))]) (fun a=>[(1,.ai 195 1 (oS a.2))]) (fun a=>a.1<=d.bu.length/\a.2.length=d.cells.length/\a.2.all lL=true/\abP vA (d.bu.drop a.1) a.1 a.2=abP vA d.bu 0 d.cells) (fun a=>d.bu.length-a.1) ((0,d.cells)) (⟨Nat.zero_le _,rfl,(wL hd).2.1,rfl⟩) ⟨rfl,trivial⟩ ⟨rfl,trivial⟩ ?_;intro ⟨k,cs⟩ hI;obtain⟨eN,qH,hco,pJ⟩:=hI;replace eN:k<=d.bu.length:=eN;replace qH:cs.length=d.cells.length:=qH;replace hco:cs.all lL=true:=hco;replace pJ:abP vA (d.bu.drop k) k cs=abP vA d.bu 0 d.cells:=pJ;refine sL<|ak Z<|Y<|aS ?_;refine AW.cond rfl ?_ ?_
 ·intro V;refine aK<|gT<|aS<|aB<|aS ?_;have hk:k<d.bu.length:=by have h:=V;simp only[decide_eq_true_eq]at h;omega
  have MQ:=acW hd hk;have abV:d.bu[k].at_.toNat<cs.length:=by omega
  refine aL<|ae Z<|li k uz Z (td hk)<|d6 (.agg [U _ _,vL _ _ _]) AY Z<|ab (zA 2007 CA Z) Z<|lT [1,4,5,7,19,20,21,23,25] [1,31,2002,2004,2005,2007] ?_;refine ao Z<|ab (zB 2007 E0 E1 Z) Z<|nA<|ao Z<|Y ?_;refine aJ [1,4,5,7,19,20,21] [1,31,2002,2004,2005,2007] (D:=Unit) (fun jd=>[(8,int ((vA[k]?).getD 0))]) (fun jd=>[]) (fun jd=>True) ?_ ?_
  ·refine sL<|ae Z<|bm Z<|ba x4 Z<|ak Z<|Y ?_;refine AW.cond rfl ?_ ?_
   ·intro h2;have uG:k<vA.length:=by have h:=h2;simp only[ap,decide_eq_true_eq]at h;omega
    refine aL<|bm Z<|ae Z<|li k iU Z (bS uG)<|oy ac Z<|ao Z<|Y ?_;refine⟨(),trivial,⟨(Eq.trans (b:=int _) rfl (congrArg int (show vA[k]=((vA[k]?).getD 0) by rw[List.getElem?_eq_getElem uG];rfl))),trivial⟩,trivial,rfl,rfl⟩
   intro h2;refine aK<|gT ?_;refine⟨(),trivial,⟨(Eq.trans (b:=int _) rfl (congrArg int (show (0:Int)=((vA[k]?).getD 0) by rw[List.getElem?_eq_none (by have h:=h2;simp only[ap,decide_eq_false_iff_not]at h;omega)];rfl))),trivial⟩,trivial,rfl,rfl⟩
  intro jd hJ;refine aS<|sL<|ae Z<|ak Z<|Y ?_;refine AW.cond rfl ?_ ?_
  ·intro h3;refine aE<|eT<|eB<|gT ?_;have acH:((vA[k]?).getD 0)<1:=by have h:=h3;simpa using h
   refine aL<|bg Z<|ae Z<|Y ?_;refine⟨(k+1,cs),⟨hk,qH,hco,by rw[<-pJ,acZ hk,aeQ acH]⟩,by show d.bu.length-(k+1)<d.bu.length-k;omega,x_12,⟨rfl,trivial⟩,rfl,rfl⟩
  intro h3;refine aK<|gT<|aS ?_;have acH:¬((vA[k]?).getD 0)<1:=by have h:=h3;simpa using h
  have TP:=adA (ac2 hco abV);refine aL<|lf 0 n9 Z<|iO oB Z<|lf 0 xG Z<|aj ac Z<|lq (rd (x:=.ptr 1 _ 0) (pu (i:=d.bu[k].at_.toNat) rfl xE rfl rfl rfl ?hn1 (by rw[fU];exact abV)) rfl) ?_;case hn1=>exact(Int.toNat_of_nonneg MQ.1).symm
  refine lf 0 uB Z<|lq (rd (x:=vL _ _ _) (dT rfl kb rfl rfl rfl (vw abV) rfl) rfl)<|ab (zC [(1,2043)] [2043] [] func154 (Zy cs[d.bu[k].at_.toNat].bytes (Nat.le_trans (aeV (ac2 hco abV)) x_3)) (trivial) rfl rfl) Z<|bD Z<|Y<|aS<|sL<|ao Z<|Y<|aB ?_;refine aW [1,4,5,7,8,9,19,20,21] [1,31,2002,2004,2005,2007] (D:=Nat) (fun b=>[(10,int (b:Int))]) (fun b=>[(2043,iT (abL cs[d.bu[k].at_.toNat].bytes d.bu[k].bytes b))]) (fun b=>b<=128/\(b:Int)<=((vA[k]?).getD 0)) (fun b=>128-b) (0) (⟨Nat.zero_le _,by omega⟩) ⟨rfl,trivial⟩ ⟨(Eq.trans (b:=iT (yP cs[d.bu[k].at_.toNat].bytes)) rfl (congrArg iT aeS.symm)),trivial⟩ ?_;intro m hI;obtain⟨hm1,hm2⟩:=hI;replace hm1:m<=128:=hm1;replace hm2:(m:Int)<=((vA[k]?).getD 0):=hm2;refine aS<|sL<|ae Z<|ae Z<|ak Z<|aQ Z ?_;refine AL.bool (t:=47) rfl ?_ ?_
  ·intro h4;refine ae Z<|ak Z<|bj Z<|Y ?_;refine AW.cond rfl ?_ ?_
   ·intro h5;refine aK<|gT<|aS<|aB ?_;have hm:(m:Int)<((vA[k]?).getD 0)/\m<128:=by
     have V:=h4;have h2:=h5;simp only[decide_eq_true_eq]at V h2;omega
    have vX:=Jk hd hk;have vd:=ac1 (m:=m) TP vX x_2;refine aL<|bW Z<|ae Z<|lf 1 zm Z<|bo kb Z<|ae Z<|li m fh rfl (bS x_2)<|oy tf Z<|lq (rj m fh rfl (by rw[ap];omega))<|ab (zQ 2043 [.v (.int .u8 (d.bu[k].bytes[m]' x_2))] Vs Vt rfl (bS x_2)) Z<|lT [1,4,5,7,8,9,10,19,20,21] [1,31,2002,2004,2005,2007,2043] ?_;refine lN<|gB<|gT<|aL<|ae Z<|bg Z<|ao Z<|Y ?_;refine⟨(m+1),x_106,by show 128-(m+1)<128-m;omega,x_12,⟨(Eq.trans (congrArg (AO.ai 5 1) aeU) (congrArg iT (aeR TP (Jk hd hk) x_2))),trivial⟩,rfl,rfl⟩
   intro h5;refine aE<|eT<|eT<|eB<|gT ?_;have ac3:((vA[k]?).getD 0)<=m\/128<=m:=by first|(have h:=h5;simp only[decide_eq_false_iff_not]at h;omega)|(have h:=h4;simp only[decide_eq_false_iff_not]at h;omega)|(have h:=h3;simp only[decide_eq_false_iff_not]at h;omega)|(have h:=V;simp only[decide_eq_false_iff_not]at h;omega)
   refine aL<|lf 0 n9 Z<|iO oB Z<|lf 0 xG Z<|aj ac Z<|bW Z<|lq (rd (x:=.ptr 1 _ 0) (pu (i:=d.bu[k].at_.toNat) rfl xE rfl rfl rfl ?hn2 (by rw[fU];exact abV)) rfl) ?_;case hn2=>exact(Int.toNat_of_nonneg MQ.1).symm
   refine lf 0 uB rfl ?_;refine AL.freeze 2043 rfl ?_;refine ab (zQ 1 [nQ (abL cs[d.bu[k].at_.toNat].bytes d.bu[k].bytes m)] Ih Ii Z (vw abV)) Z<|lN<|gB<|gT<|aL<|bg Z<|ae Z<|Y ?_;refine x_41
  intro h4;refine aa Z<|aa Z<|bL Z<|Y<|aN Z<|aE<|eT<|eT<|eB<|gT ?_;have ac3:((vA[k]?).getD 0)<=m\/128<=m:=by first|(have h:=h4;simp only[decide_eq_false_iff_not]at h;omega)|(have h:=h3;simp only[decide_eq_false_iff_not]at h;omega)|(have h:=V;simp only[decide_eq_false_iff_not]at h;omega)
  refine aL<|lf 0 n9 Z<|iO oB Z<|lf 0 xG Z<|aj ac Z<|bW Z<|lq (rd (x:=.ptr 1 _ 0) (pu (i:=d.bu[k].at_.toNat) rfl xE rfl rfl rfl ?hn3 (by rw[fU];exact abV)) rfl) ?_;case hn3=>exact(Int.toNat_of_nonneg MQ.1).symm
  refine lf 0 uB rfl ?_;refine AL.freeze 2043 rfl ?_;refine ab (zQ 1 [nQ (abL cs[d.bu[k].at_.toNat].bytes d.bu[k].bytes m)] Ih Ii Z (vw abV)) Z<|lT [1,4,5,19,20,21] [1,31,2002,2004,2005,2007] ?_;refine lN<|gB<|gT<|aL<|bg Z<|ae Z<|Y ?_;refine x_41
 intro V;refine aE<|eT<|eT<|eB<|gT<|aS ?_;have dZ:k=d.bu.length:=by have h:=V;simp only[decide_eq_false_iff_not]at h;omega
 have aeX:cs=abP vA d.bu 0 d.cells:=by rw[<-pJ,dZ,List.drop_length];rfl
 refine aT [4,5] [1,31,2002,2004,2005] ?_;refine AW.pi 2 2005 1 192 2 rfl x_3 rfl ?_;refine aL<|aP (.agg [.own _,.own _]) mE Z<|ab (zB 2004 Dv Dw Z) Z<|Y<|aR ?_;rw[adB hd,<-aeX];refine ax ?_ ⟨rfl,rfl,rfl,trivial⟩;rfl
abbrev ajQ(h:mm):AV:=.agg [.own 31,.p (.ab 192 2 (oT h.log.bT.bu)),int h.log.next,int h.log.dP,int h.book.tick,int h.book.next,int h.book.aA,.p (.ab 159 7 (ah aX h.book.ag)),.p (.ab 218 7 (ah go h.book.an)),.p (.ab 220 5 (ah iX h.book.aq)),int h.ia.last,.p (.ab 167 3 (ah ct h.ia.lines)),.own 32,.p (.ab 81 7 (ah fR h.f9))]
abbrev ai'(u v:Value)(h:mm):List (Nat×AO):=[(31,.ai ⟨195,some u⟩ 1 (oS h.log.bT.cells)),(32,.ai ⟨81,some v⟩ 7 (ah fR h.wait))]

abbrev aig(x:aw)(e:aV):AV:=.au [cj (dp x e),DT (dl x e),int (dG x e)]
theorem ajd{f:FuncId}{args:List AV}{x:aw}{e:aV}(h:GC prog f args [] (Dl x e) (zN x e)):GC prog f args [] (aig x e) []:=
 (GX.frozen (Z:=fun y=>y=aig x e) (show GX prog f args [] _ from h) fun y ob ⟨e1,e2⟩=>by
   subst e1 e2;exact⟨aig x e,Still.au (.cons (Still.agg (.cons (Still.p _) (.cons (Still.p _) (.cons (Still.p _) (.cons (Still.row (id:=11) (e:=⟨159,none⟩) (sz:=7) (rows:=ah aX (dp x e).ag) rfl) (.cons (Still.row (id:=12) (e:=⟨218,none⟩) (sz:=7) (rows:=ah go (dp x e).an) rfl) (.cons (Still.row (id:=13) (e:=⟨220,none⟩) (sz:=5) (rows:=ah iX (dp x e).aq) rfl) .nil)))))))
    (.cons (Still.agg (.cons (Still.p _) (.cons (Still.row (id:=14) (e:=⟨167,none⟩) (sz:=3) (rows:=ah ct (dl x e).lines) rfl) .nil))) (.cons (Still.p _) .nil))),rfl⟩).mono fun y o ⟨e1,e2⟩=>⟨e2,e1⟩
theorem aje(x:aw)(e:aV)(hw:di x):GC prog 41 [cj x,ju e] [] (aig x e) []:=ajd (Yi x e hw)
theorem aj4(x:aw)(e:aV)(hw:di x):GC prog 107 [cj x,ju e] [] (aig x e) []:=ajd (Yk x e hw)

section
variable {P:Program}{L O:Nat->Prop}{w0:World}{N:Nat}{Q:AQ}{τ:Nat->AV}{H:Nat->AO}{c:Code}
theorem RR.ahJ{ρ:Nat->Value}{fp:Nat->List Nat}{a:Act}{w:World}(h:RR L O w0 N τ H ρ fp a w){id:Nat}{T:TypeId}{cells ahD:List AV}{p:Option Value}(hH:H id=.box T p cells)(hi:ff cells ahD)(hl:ahD.length=cells.length)(hc:∀x∈ahD,x.cell=true):RR L O w0 N τ (aH H id (.box T p ahD)) ρ fp a w:=by
 have e1:(AO.box T p ahD).here=(H id).here:=by rw[hH];rfl
 have e2:(AO.box T p ahD).len=(H id).len:=by rw[hH];rfl
 have e3:(AO.box T p ahD).sz=(H id).sz:=by rw[hH];exact hl
 have E:=N6 (L:=L) (ρ:=ρ) (w:=w) e1 e2 e3;refine⟨h.jp,h.size,h.defers,fun t=>by have:=RV.env E _ (h.tm t);rwa [mf]at this,N5 h.ob e1 e2 e3 ?_,h.dj,h.own,h.lo⟩;have bY:=(h.ob id).env E (fun _ _=>rfl);rw[AO.mf,hH]at bY;obtain⟨xs,k1,k2,k3,k4,k5⟩:=bY;exact⟨xs,hi k1,hc,by rw[hl];exact k3,k4,k5⟩
theorem AW.ahJ(id:Nat){T:TypeId}{cells:List AV}(ahD:List AV){p:Option Value}(hH:H id=.box T p cells)(hi:ff cells ahD)(hl:ahD.length=cells.length)(hc:(ahD.all AV.cell)=true)(h:AW P L O w0 N c τ (aH H id (.box T p ahD)) Q):AW P L O w0 N c τ H Q:=fun ρ fp a w hr=>h ρ fp a w (hr.ahJ hH hi hl (List.all_eq_true.1 hc))
end
theorem ff.same{x:AV}{l m:List AV}(h:ff l m):ff (x::l) (x::m):=ff.cons (fe.refl x) h
theorem ahl{e:TypeId}{sz:Nat}{l m:List AV}(h:ff l m):ff (.p (.v (.slice none 0 0))::l) (.p (.ab e sz [])::m):=ff.cons (fe.nil e sz) h

structure HbD(h:mm):Prop where
 db:qK h.log.bT
 wf:di h.book
 lh:h.book.an.length<=1048576
 li:h.book.aq.length<=1048576
 ll:h.ia.lines.length<=1048576
 lw:h.wait.length<=1048576
 ls:h.f9.length<=1048576
theorem ajf:HbD acj:=⟨x_67,⟨by simp,by simp,by simp,by simp⟩,by simp,by simp,by simp,by simp,by simp⟩
theorem aj5{h:mm}(d:HbD h):GC prog 31 [Bu h] [] (aD (zV h)) []:=QS h d.db d.wf ⟨d.wf.len,d.lh,d.li⟩ d.ll d.lw d.ls
theorem aiL{h:mm}(d:HbD h):GC prog 30 [Bu h] [] (aD (zV h)) []:=QV h d.db d.wf ⟨d.wf.len,d.lh,d.li⟩ d.ll d.lw d.ls
theorem HbD.z{h:mm}(d:HbD h)(q:zV h=true):E9 h:=⟨aeo (af4 q),d.wf.len,d.lh,d.li,d.ll,d.lw,d.ls⟩
theorem aiM(x:aw)(e:aV):(dl x e).lines.length<=1000:=by
 by_cases h:dG x e=0
 ·have q:=(Ab h).len;by_cases l:(bz x e).l=[]
  ·rw[(ub h l).2];simp
  rw[(rU h l).2];show (bz x e).l.length<=1000;omega
 rw[(Oj h).2];simp
abbrev adV(l:uW)(c:Int):AV:=.au [G9 l,int c]
theorem aj6{f:FuncId}{args:List AV}{l:uW}{c:Int}(h:GN prog f args [] [] (ajg l c)):GC prog f args [] (adV l c) []:=
 (GX.frozen (Z:=fun y=>y=adV l c) (show GX prog _ _ [] _ from h) fun x ob ⟨l1,F1,hs,hF,hM,e,⟨vs,us,hv,hu,e1,e2,e3⟩⟩=>by
   subst e e1 e2 e3;refine⟨adV l c,?_,rfl⟩;have hT:Tl (bx (DS vs us l.bT++je 1000000 (sY vs us l.bT))) (sY vs us l.bT):=by rw[Gm rfl];exact Tl.tl hF
   have l1:(fY vs (l9 l.bT.cells)).length=l.bT.cells.length:=by rw[Aa (by simpa using hv),List.length_map]
   exact Still.au (H:=bx (DS vs us l.bT++je 1000000 (sY vs us l.bT))) (.cons (Still.agg (.cons (Still.own (id:=1) (e:=⟨195,none⟩) (sz:=1) (rows:=oR vs) rfl (SF hT hv (s:=0) fun i hi=>by unfold sY;rw[Nat.zero_add,List.getElem?_append_left x_2]))
    (.cons (Still.own (id:=2) (e:=⟨192,none⟩) (sz:=2) (rows:=lW us l.bT.bu) rfl (SG hT hu (s:=l.bT.cells.length) fun i hi=>by unfold sY;rw[List.getElem?_append_right x_2];congr 1;omega)) (.cons (Still.p _) (.cons (Still.p _) .nil))))) (.cons (Still.p _) .nil))).mono fun y o ⟨e1,e2⟩=>⟨e2,e1⟩
theorem aj7(l:uW)(e:aV):GC prog 106 [G9 l,ju e] [] (adV (ahu l e) (aho l e)) []:=aj6 (aj8 l e)
theorem aj9(l:cH)(hl:l.lines.length<=1000):GC prog 57 [cR l] [] (cR l) []:=
 (GX.frozen (Z:=fun y=>y=cR l) (adZ l hl) fun x ob ⟨e1,e2⟩=>by
   subst e1 e2;exact⟨_,Still.agg (.cons (Still.p _) (.cons (Still.row (id:=51) (e:=⟨167,none⟩) (sz:=3) (rows:=ah ct l.lines) rfl) .nil)),rfl⟩).mono fun y o ⟨e1,e2⟩=>⟨e2,e1⟩
theorem aj'(l:cH)(p:dX)(hp:p.lines.length<=1000):GC prog 109 [cR l,DT p] [] (.au [cR (iD l p),int (iv l p)]) []:=by
 have:=GO l p hp;rwa [LK.1,LK.2]at this
abbrev ahO(h:mm):AV:=.agg [.own 1,.p (.ab 192 2 (oT h.log.bT.bu)),int h.log.next,int h.log.dP,int h.book.tick,int h.book.next,int h.book.aA,.p (.ab 159 7 (ah aX h.book.ag)),.p (.ab 218 7 (ah go h.book.an)),.p (.ab 220 5 (ah iX h.book.aq)),int h.ia.last,.p (.ab 167 3 (ah ct h.ia.lines)),.own 2,.p (.ab 81 7 (ah fR h.f9))]
abbrev obK(h:mm):List (Nat×AO):=[(1,.ai 195 1 (oS h.log.bT.cells)),(2,uT h.wait)]
abbrev ZH:AV:=.agg [y5,y5,int 0,int 0,int 0,int 0,int 0,y5,y5,y5,int 0,y5,y5,y5]
def aka(h:mm)(e:aV):AV->List (Nat×AO)->Prop:=fun y ob=>(ahr h e≠0/\y=.au [ZH,int (ahr h e)]/\ob=[])\/(ahr h e=0/\y=.au [ahO (aht h e),int 0]/\ob=obK (aht h e))
theorem aiN{h:mm}{e:aV}(q:(dl h.book e).lines=[]):ahs h e=h.ia:=if_pos q
theorem aiO{h:mm}{e:aV}(q:(dl h.book e).lines≠[]):ahs h e=iD h.ia (dl h.book e):=if_neg q
theorem ajh{h:mm}{e:aV}(q:(dl h.book e).lines=[]):ahA h e=0:=if_pos q
theorem aih{h:mm}{e:aV}(q:(dl h.book e).lines≠[]):ahA h e=iv h.ia (dl h.book e):=if_neg q
theorem akb(h:mm)(e:aV)(hd:HbD h):GC prog 39 [Bu h,ju e] [] (.au [Bu (aht h e),int (ahr h e)]) []:=by
 refine GC.intro (rs:=[.cell 4 56 (some 14),.tmp 5]) func39 rfl ntmps39 x_8 ⟨rfl,rfl,EZ,rfl,trivial⟩ ?_;intro L O w0;refine sL<|ab (zX 2002 Z) Z<|ab (zX 2003 Z) Z<|ab (zA 2004 Ig Z) Z<|ao Z<|Y<|aS<|sL<|aP (.agg [vL _ _ _,vL _ _ _,U _ _,U _ _,U _ _,U _ _,U _ _,vL _ _ _,vL _ _ _,vL _ _ _,U _ _,vL _ _ _,vL _ _ _,vL _ _ _]) EZ Z<|ab (zC [] [] [] func31 (aj5 hd) (trivial) Z Z) Z<|lT [2,3,4,5,15] [2002,2003,2004] ?_;refine bX Z<|Y ?_;refine AW.cond rfl ?_ ?_
 ·intro V;refine sL<|lq (rd (x:=.agg [vV _,vV _,U _ _,U _ _,U _ _,U _ _,U _ _,vV _,vV _,vV _,U _ _,vV _,vV _,vV _]) (cP Z acf Z Z Z) Z)<|ab (zB 2004 NA NB Z) Z<|ao Z<|Y ?_;refine AW.ahJ 2004 [.p (.ab 195 1 []),.p (.ab 192 2 []),int 0,int 0,int 0,int 0,int 0,.p (.ab 159 7 []),.p (.ab 218 7 []),.p (.ab 220 5 []),int 0,.p (.ab 167 3 []),.p (.ab 81 7 []),.p (.ab 81 7 [])] Z (ahl<|ahl<|ff.same<|ff.same<|ff.same<|ff.same<|ff.same<|ahl<|ahl<|ahl<|ff.same<|ahl<|ahl<|ahl<|ff.nil) Z Z ?_;refine aR<|rT ?_;have hq:zV h=false:=by have h:=V;simpa using h
  have hc:ahr h e=20:=aiG hq;have hL:=ah6 (h:=h) (e:=e) x_55;rw[hc,hL];refine ax ?_ trivial;rfl
 intro V;refine aK<|gT<|aS ?_;have hq:zV h=true:=by have h:=V;simpa using h
 refine aL<|lf 4 Bw Z<|aP (.agg [U _ _,U _ _,U _ _,vL _ _ _,vL _ _ _,vL _ _ _]) cu Z<|aP (.agg [U _ _,U _ _,U _ _,U _ _,U _ _,U _ _,vB _]) dD Z<|ab (zC [] [] [] func41 (aje h.book e hd.wf) (trivial) Z Z) Z<|lT [2,3,4,5,22] [2002,2003,2004] ?_;refine cT (.au [.agg [U _ _,U _ _,U _ _,vL _ _ _,vL _ _ _,vL _ _ _],.agg [U _ _,vL _ _ _],U _ _]) Z<|iB (.agg [U _ _,U _ _,U _ _,vL _ _ _,vL _ _ _,vL _ _ _]) Z<|iB (.agg [U _ _,vL _ _ _]) Z<|dE Z<|ab (zA 2006 mD Z) Z<|ab (zA 2007 pC Z) Z<|lT [2,3,4,5,6,7,23,24,25] [2002,2003,2004,2006,2007] ?_;refine ab (zB 2006 eu ew Z) Z<|ab (zB 2007 na nb Z) Z<|ao Z<|Y<|aS<|sL<|ae Z<|ak Z<|Y ?_;refine AW.cond rfl ?_ ?_
 ·intro h2;refine sL<|lq (rd (x:=.agg [vV _,vV _,U _ _,U _ _,U _ _,U _ _,U _ _,vV _,vV _,vV _,U _ _,vV _,vV _,vV _]) (cP Z acf Z Z Z) Z)<|ae Z<|ab (zB 2004 NA NB Z) Z<|lT [2,3,4,5,6,7,29] [2002,2003,2004,2006,2007] ?_;refine ao Z<|Y ?_;refine AW.ahJ 2004 [.p (.ab 195 1 []),.p (.ab 192 2 []),int 0,int 0,int 0,int 0,int 0,.p (.ab 159 7 []),.p (.ab 218 7 []),.p (.ab 220 5 []),int 0,.p (.ab 167 3 []),.p (.ab 81 7 []),.p (.ab 81 7 [])] Z (ahl<|ahl<|ff.same<|ff.same<|ff.same<|ff.same<|ff.same<|ahl<|ahl<|ahl<|ff.same<|ahl<|ahl<|ahl<|ff.nil) Z Z ?_;refine aR<|rT ?_;have hcn:dG h.book e≠0:=by have h:=h2;simpa using h
  have hc:ahr h e=dG h.book e:=aiH hq hcn;have hL:=ah6 (h:=h) (e:=e) (by rw[hc];exact hcn);rw[hc,hL];refine ax ?_ trivial;rfl
 intro h2;refine aK<|gT<|aS ?_;have cQ:dG h.book e=0:=by have h:=h2;simpa using h
 refine aL<|lf 0 qL Z<|aP (.agg [vL _ _ _,vL _ _ _,U _ _,U _ _]) EY Z<|aP (.agg [U _ _,U _ _,U _ _,U _ _,U _ _,U _ _,vB _]) dD Z<|ab (zC [] [] [] func106 (aj7 h.log e) (trivial) Z Z) Z<|cT (.au [.agg [vL _ _ _,vL _ _ _,U _ _,U _ _],U _ _]) Z<|iB (.agg [vL _ _ _,vL _ _ _,U _ _,U _ _]) Z<|dE Z<|ab (zA 2009 Nx Z) Z<|lT [2,3,4,5,6,7,9,35,36] [2002,2003,2004,2006,2007,2009] ?_;refine ab (zB 2009 Nv Nw Z) Z<|ao Z<|Y<|aS<|sL<|ae Z<|ak Z<|Y ?_;refine AW.cond rfl ?_ ?_
 ·intro h3;refine sL<|lq (rd (x:=.agg [vV _,vV _,U _ _,U _ _,U _ _,U _ _,U _ _,vV _,vV _,vV _,U _ _,vV _,vV _,vV _]) (cP Z acf Z Z Z) Z)<|ab (zB 2004 NA NB Z) Z<|lT [2,3,4,5,6,7,9] [2002,2003,2004,2006,2007,2009] ?_;refine ao Z<|Y ?_;refine AW.ahJ 2004 [.p (.ab 195 1 []),.p (.ab 192 2 []),int 0,int 0,int 0,int 0,int 0,.p (.ab 159 7 []),.p (.ab 218 7 []),.p (.ab 220 5 []),int 0,.p (.ab 167 3 []),.p (.ab 81 7 []),.p (.ab 81 7 [])] Z (ahl<|ahl<|ff.same<|ff.same<|ff.same<|ff.same<|ff.same<|ahl<|ahl<|ahl<|ff.same<|ahl<|ahl<|ahl<|ff.nil) Z Z ?_;refine aR<|rT ?_;have aiP:aho h.log e≠0:=by have h:=h3;simpa using h
  have hc:ahr h e=21:=aiI hq cQ aiP;have hL:=ah6 (h:=h) (e:=e) x_55;rw[hc,hL];refine ax ?_ trivial;rfl
 intro h3;refine aK<|gT<|aS ?_;have dY:aho h.log e=0:=by have h:=h3;simpa using h
 have hlw:=hd.lw;have T7:=hd.ls;refine aL<|lf 10 Bx Z<|aP (.agg [U _ _,vL _ _ _]) eZ Z<|ab (zC [] [] [] func57 (aj9 h.ia (by have:=agi hq;omega)) (trivial) rfl rfl) Z<|ab (zA 2011 ld rfl) Z<|ab (zB 2011 cA cB rfl) Z<|lT [2,3,4,5,6,7,9,11] [2002,2003,2004,2006,2007,2009,2011] ?_;refine Y ?_;refine aJ [2,3,4,5,6,9,11] [2002,2003,2004,2006,2007,2009] (D:=Unit) (fun jd=>[]) (fun jd=>[(2011,.box 53 none [int (ahs h e).last,.p (.ab 167 3 (ah ct (ahs h e).lines))])]) (fun jd=>ahA h e=0) ?_ ?_
 ·refine sL<|lf 1 t7 Z<|bo gY Z<|ba hZ Z<|ak Z<|Y ?_;refine AW.cond rfl ?_ ?_
  ·intro h4;refine aS ?_;have hln:(dl h.book e).lines≠[]:=by have h:=h4;intro q;rw[q]at h;simp[ah]at h
   refine aL<|lf 10 Bx Z<|aP (.agg [U _ _,vL _ _ _]) eZ Z<|aP (.agg [U _ _,vL _ _ _]) ol Z<|ab (zC [] [] [] func42 (SO h.ia (dl h.book e) (aiM _ _)) (trivial) Z Z) Z<|lT [2,3,4,5,6,9,11,51] [2002,2003,2004,2006,2007,2009,2011] ?_;refine cT (.au [.agg [U _ _,vL _ _ _],U _ _]) Z<|iB (.agg [U _ _,vL _ _ _]) Z<|dE Z<|ab (zA 2012 ld Z) Z<|ab (zB 2012 cA cB Z) Z<|ao Z<|Y<|aS<|sL<|ae Z<|ak Z<|Y ?_;refine AW.cond rfl ?_ ?_
   ·intro h5;refine sL<|lq (rd (x:=.agg [vV _,vV _,U _ _,U _ _,U _ _,U _ _,U _ _,vV _,vV _,vV _,U _ _,vV _,vV _,vV _]) (cP Z acf Z Z Z) Z)<|ab (zB 2004 NA NB Z) Z<|lT [2,3,4,5,6,9,11,12] [2002,2003,2004,2006,2007,2009,2011,2012] ?_;refine ao Z<|Y ?_;refine AW.ahJ 2004 [.p (.ab 195 1 []),.p (.ab 192 2 []),int 0,int 0,int 0,int 0,int 0,.p (.ab 159 7 []),.p (.ab 218 7 []),.p (.ab 220 5 []),int 0,.p (.ab 167 3 []),.p (.ab 81 7 []),.p (.ab 81 7 [])] Z (ahl<|ahl<|ff.same<|ff.same<|ff.same<|ff.same<|ff.same<|ahl<|ahl<|ahl<|ff.same<|ahl<|ahl<|ahl<|ff.nil) Z Z ?_;refine aR<|rT<|rT ?_;have HD:iv h.ia (dl h.book e)≠0:=by have h:=h5;simpa using h
    have hc:ahr h e=22:=aiJ hq cQ dY (by rw[aih hln];exact HD);have hL:=ah6 (h:=h) (e:=e) x_55;rw[hc,hL];refine ax ?_ trivial;rfl
   intro h5;refine aK<|gT ?_;have Zk:iv h.ia (dl h.book e)=0:=by have h:=h5;simpa using h
   have hL:=aiO hln;have Tx:ahA h e=0:=by rw[aih hln];exact Zk
   refine aL<|aP (.agg [U _ _,vL _ _ _]) eZ Z<|ab (zB 2011 cA cB Z) Z<|Y ?_;refine⟨(),Tx,trivial,⟨(Eq.trans (b:=AO.box 53 none [int (iD h.ia (dl h.book e)).last,.p (.ab 167 3 (ah ct (iD h.ia (dl h.book e)).lines))]) rfl (by rw[hL])),trivial⟩,rfl,rfl⟩
  intro h4;refine aK<|gT ?_;have hln:(dl h.book e).lines=[]:=by have h:=h4;simp[ap]at h;exact h
  have hL:=aiN hln;have Tx:ahA h e=0:=ajh hln;refine⟨(),Tx,trivial,⟨(Eq.trans (b:=AO.box 53 none [int h.ia.last,.p (.ab 167 3 (ah ct h.ia.lines))]) rfl (by rw[hL])),trivial⟩,rfl,rfl⟩
 intro jd hpc;refine aS<|aG 14 [7,8,2004]<|tq 0 (dw (.agg [vL _ _ _,vL _ _ _,U _ _,U _ _]) EY Z)<|tq 1 (dw (.agg [U _ _,U _ _,U _ _,vL _ _ _,vL _ _ _,vL _ _ _]) cu Z)<|tq 2 (dw (.agg [U _ _,vL _ _ _]) eZ Z)<|tq 3 (rf 12 Bz Z)<|tq 4 (jj tE Z)<|tq 6 (dw (.agg [U _ _,U _ _,U _ _,U _ _,U _ _,U _ _,vB _]) dD Z)<|tq 9 (rf 13 By Z)<|tq 10 (jj tE Z) ?_;refine AG.two (i:=5) (j:=7) x_34 ?_ ?_
 ·refine oe.st (i:=5) rfl (St.call [(1,7)] [7] [] rfl x_69 rfl func58 rfl rfl (QO h.wait hd.lw) ⟨rfl,rfl,rfl⟩ (trivial) (trivial) rfl) x_3 rfl ?_;refine gX [4,5,58,59,60,63,64,68] [7,2002,2003,2004,2006,2007,2009,2011] ?_;refine cm 7 Z (zS 2065 (ah fR [e]) jk jl Z)<|cm 8 Z (zP 7 jk jl sD Z (Src.own Z Z))<|cm 11 Z (zC [(1,8)] [8] [] func58 (QO h.f9 hd.ls) (trivial) Z Z)<|yq 12 (rd (x:=.agg [vL _ _ _,vL _ _ _,U _ _,U _ _,U _ _,U _ _,U _ _,vL _ _ _,vL _ _ _,vL _ _ _,U _ _,vL _ _ _,.own _,.own _]) (cP Z acf Z Z Z) Z)<|cm 13 Z (zB 2004 NA NB Z)<|yq 14 (j8 Z)<|gD<|gT ?_;refine AW.obj 7 (uT (h.wait++[e])) (congrArg (AO.ai 81 7) (fx fR _ _).symm) ?_;refine AW.freeze 7 rfl ?_;refine AW.freeze 8 rfl ?_;refine aR ?_;have hc:ahr h e=0:=aiK hq cQ dY hpc;have hL:=ahV hc;rw[hc,hL];refine ax ?_ trivial;rfl
 refine oe.st (i:=7) rfl (BO 2065 (rows:=ah fR [e]) rfl rfl x_3 jk jl rfl rfl rfl rfl (by intro r hr;simp[ah]at hr;subst hr;rfl) rfl x_3 x_3) x_3 rfl ?_;refine gX [4,5,58,59,60,62,65,68] [2002,2003,2004,2006,2007,2009,2011,2065] ?_;refine cm 5 Z (zC [(1,7)] [7] [] func58 (QO h.wait hd.lw) (trivial) Z Z)<|cm 8 Z (zP 7 jk jl sD Z (Src.own Z Z))<|cm 11 Z (zC [(1,8)] [8] [] func58 (QO h.f9 hd.ls) (trivial) Z Z)<|yq 12 (rd (x:=.agg [vL _ _ _,vL _ _ _,U _ _,U _ _,U _ _,U _ _,U _ _,vL _ _ _,vL _ _ _,vL _ _ _,U _ _,vL _ _ _,.own _,.own _]) (cP Z acf Z Z Z) Z)<|cm 13 Z (zB 2004 NA NB Z)<|yq 14 (j8 Z)<|gD<|gT ?_;refine AW.obj 7 (uT (h.wait++[e])) (congrArg (AO.ai 81 7) (fx fR _ _).symm) ?_;refine AW.freeze 7 rfl ?_;refine AW.freeze 8 rfl ?_;refine aR ?_;have hc:ahr h e=0:=aiK hq cQ dY hpc;have hL:=ahV hc;rw[hc,hL];refine ax ?_ trivial;rfl
theorem aji(h:mm)(e:aV)(hd:HbD h):GX prog 40 [Bu h,ju e] [] (aka h e):=by
 refine GX.intro (rs:=[.cell 4 56 (some 14),.tmp 5]) func40 rfl ntmps40 x_8 ⟨rfl,rfl,EZ,rfl,trivial⟩ ?_;intro L O w0;refine sL<|ab (zX 2002 Z) Z<|ab (zX 2003 Z) Z<|ab (zA 2004 Ig Z) Z<|ao Z<|Y<|aS<|sL<|aP (.agg [vL _ _ _,vL _ _ _,U _ _,U _ _,U _ _,U _ _,U _ _,vL _ _ _,vL _ _ _,vL _ _ _,U _ _,vL _ _ _,vL _ _ _,vL _ _ _]) EZ Z<|ab (zC [] [] [] func30 (aiL hd) (trivial) Z Z) Z<|lT [2,3,4,5,15] [2002,2003,2004] ?_;refine bX Z<|Y ?_;refine AW.cond rfl ?_ ?_
 ·intro V;refine sL<|lq (rd (x:=.agg [vV _,vV _,U _ _,U _ _,U _ _,U _ _,U _ _,vV _,vV _,vV _,U _ _,vV _,vV _,vV _]) (cP Z acf Z Z Z) Z)<|ab (zB 2004 NA NB Z) Z<|ao Z<|Y<|aR<|rT ?_;have hq:zV h=false:=by have h:=V;simpa using h
  have hc:ahr h e=20:=aiG hq;refine fN ((.au [ZH,int 20])) [] ?_ rfl trivial;exact .inl ⟨by rw[hc];decide,by rw[hc],rfl⟩
 intro V;refine aK<|gT<|aS ?_;have hq:zV h=true:=by have h:=V;simpa using h
 refine aL<|lf 4 Bw Z<|aP (.agg [U _ _,U _ _,U _ _,vL _ _ _,vL _ _ _,vL _ _ _]) cu Z<|aP (.agg [U _ _,U _ _,U _ _,U _ _,U _ _,U _ _,vB _]) dD Z<|ab (zC [] [] [] func107 (aj4 h.book e hd.wf) (trivial) Z Z) Z<|lT [2,3,4,5,22] [2002,2003,2004] ?_;refine cT (.au [.agg [U _ _,U _ _,U _ _,vL _ _ _,vL _ _ _,vL _ _ _],.agg [U _ _,vL _ _ _],U _ _]) Z<|iB (.agg [U _ _,U _ _,U _ _,vL _ _ _,vL _ _ _,vL _ _ _]) Z<|iB (.agg [U _ _,vL _ _ _]) Z<|dE Z<|ab (zA 2006 mD Z) Z<|ab (zA 2007 pC Z) Z<|lT [2,3,4,5,6,7,23,24,25] [2002,2003,2004,2006,2007] ?_;refine ab (zB 2006 eu ew Z) Z<|ab (zB 2007 na nb Z) Z<|ao Z<|Y<|aS<|sL<|ae Z<|ak Z<|Y ?_;refine AW.cond rfl ?_ ?_
 ·intro h2;refine sL<|lq (rd (x:=.agg [vV _,vV _,U _ _,U _ _,U _ _,U _ _,U _ _,vV _,vV _,vV _,U _ _,vV _,vV _,vV _]) (cP Z acf Z Z Z) Z)<|ae Z<|ab (zB 2004 NA NB Z) Z<|lT [2,3,4,5,6,7,29] [2002,2003,2004,2006,2007] ?_;refine ao Z<|Y<|aR<|rT ?_;have hcn:dG h.book e≠0:=by have h:=h2;simpa using h
  have hc:ahr h e=dG h.book e:=aiH hq hcn;refine fN ((.au [ZH,int (dG h.book e)])) [] ?_ rfl trivial;exact .inl ⟨by rw[hc];exact hcn,by rw[hc],rfl⟩
 intro h2;refine aK<|gT<|aS ?_;have cQ:dG h.book e=0:=by have h:=h2;simpa using h
 refine aL<|lf 0 qL Z<|aP (.agg [vL _ _ _,vL _ _ _,U _ _,U _ _]) EY Z<|aP (.agg [U _ _,U _ _,U _ _,U _ _,U _ _,U _ _,vB _]) dD Z<|ab (zC [(1,1),(2,2)] [1,2] [] func108 (akc h.log e) (trivial) Z Z) Z<|cT (.au [.agg [.own _,.own _,U _ _,U _ _],U _ _]) Z<|iB (.agg [.own _,.own _,U _ _,U _ _]) Z<|dE Z<|ab (zA 2009 Nx Z) Z<|lT [2,3,4,5,6,7,9,35,36] [1,2,2002,2003,2004,2006,2007,2009] ?_;refine ab (zB 2009 Nv Nw Z) Z<|ao Z<|Y<|aS<|aS ?_;refine AW.freeze 2 rfl ?_;refine aL<|ae Z<|ak Z<|Y ?_;refine AW.cond rfl ?_ ?_
 ·intro h3;refine sL<|lq (rd (x:=.agg [vV _,vV _,U _ _,U _ _,U _ _,U _ _,U _ _,vV _,vV _,vV _,U _ _,vV _,vV _,vV _]) (cP Z acf Z Z Z) Z)<|ab (zB 2004 NA NB Z) Z<|lT [2,3,4,5,6,7,9] [1,2002,2003,2004,2006,2007,2009] ?_;refine ao Z<|Y<|aR<|rT ?_;have aiP:aho h.log e≠0:=by have h:=h3;simpa using h
  have hc:ahr h e=21:=aiI hq cQ aiP;refine fN ((.au [ZH,int 21])) [] ?_ rfl trivial;exact .inl ⟨by rw[hc];decide,by rw[hc],rfl⟩
 intro h3;refine aK<|gT<|aS ?_;have dY:aho h.log e=0:=by have h:=h3;simpa using h
 have hlw:=hd.lw;have T7:=hd.ls;refine aL<|aP (.agg [vL _ _ _,vL _ _ _,U _ _,U _ _,U _ _,U _ _,U _ _,vL _ _ _,vL _ _ _,vL _ _ _,U _ _,vL _ _ _,vL _ _ _,vL _ _ _]) EZ Z<|ab (zC [(6,6),(7,2),(8,8)] [6,2,8] [] func49 (agq h (hd.z hq) (acF (af4 hq))) (trivial) Z Z) Z<|ab (zA 2011 Ig Z) Z<|ab (zB 2011 NA NB Z) Z<|Y ?_;refine AW.freeze 6 rfl ?_;refine aJ [3,4,5,6,9,11] [1,2,8,2002,2003,2004,2006,2007,2009] (D:=Unit) (fun jd=>[]) (fun jd=>[(2011,.box 56 none [.p (.ab 195 1 (oS h.log.bT.cells)),.p (.ab 192 2 (oT h.log.bT.bu)),int h.log.next,int h.log.dP,int h.book.tick,int h.book.next,int h.book.aA,.p (.ab 159 7 (ah aX h.book.ag)),.p (.ab 218 7 (ah go h.book.an)),.p (.ab 220 5 (ah iX h.book.aq)),int (ahs h e).last,.p (.ab 167 3 (ah ct (ahs h e).lines)),.own 2,.own 8])]) (fun jd=>ahA h e=0) ?_ ?_
 ·refine sL<|lf 0 wN Z<|aj ac Z<|ak Z<|Y ?_;refine AW.cond rfl ?_ ?_
  ·intro h4;refine aS ?_;have hln:(dl h.book e).lines≠[]:=(aiv hq).1 (by have h:=h4;simpa using h);refine aL<|lf 10 Bx Z<|aP (.agg [U _ _,vL _ _ _]) eZ Z<|aP (.agg [U _ _,vL _ _ _]) ol Z<|ab (zC [] [] [] func109 (aj' h.ia (dl h.book e) (aiM _ _)) (trivial) Z Z) Z<|lT [3,4,5,6,9,11,49] [1,2,8,2002,2003,2004,2006,2007,2009,2011] ?_;refine cT (.au [.agg [U _ _,vL _ _ _],U _ _]) Z<|iB (.agg [U _ _,vL _ _ _]) Z<|dE Z<|ab (zA 2012 ld Z) Z<|ab (zB 2012 cA cB Z) Z<|ao Z<|Y<|aS<|sL<|ae Z<|ak Z<|Y ?_;refine AW.cond rfl ?_ ?_
   ·intro h5;refine sL<|lq (rd (x:=.agg [vV _,vV _,U _ _,U _ _,U _ _,U _ _,U _ _,vV _,vV _,vV _,U _ _,vV _,vV _,vV _]) (cP Z acf Z Z Z) Z)<|ab (zB 2004 NA NB Z) Z<|lT [3,4,5,6,9,11,12] [1,2,8,2002,2003,2004,2006,2007,2009,2011,2012] ?_;refine ao Z<|Y<|aR<|rT<|rT ?_;have HD:iv h.ia (dl h.book e)≠0:=by have h:=h5;simpa using h
    have hc:ahr h e=22:=aiJ hq cQ dY (by rw[aih hln];exact HD);refine fN ((.au [ZH,int 22])) [] ?_ rfl trivial;exact .inl ⟨by rw[hc];decide,by rw[hc],rfl⟩
   intro h5;refine aK<|gT ?_;have Zk:iv h.ia (dl h.book e)=0:=by have h:=h5;simpa using h
   have hL:=aiO hln;have Tx:ahA h e=0:=by rw[aih hln];exact Zk
   refine aL<|aP (.agg [U _ _,vL _ _ _]) eZ Z<|lf 10 Bx Z<|ab (zB 2011 cA cB Z) Z<|Y ?_;refine⟨(),Tx,trivial,⟨(Eq.trans (b:=AO.box 56 none [.p (.ab 195 1 (oS h.log.bT.cells)),.p (.ab 192 2 (oT h.log.bT.bu)),int h.log.next,int h.log.dP,int h.book.tick,int h.book.next,int h.book.aA,.p (.ab 159 7 (ah aX h.book.ag)),.p (.ab 218 7 (ah go h.book.an)),.p (.ab 220 5 (ah iX h.book.aq)),int (iD h.ia (dl h.book e)).last,.p (.ab 167 3 (ah ct (iD h.ia (dl h.book e)).lines)),.own 2,.own 8]) rfl (by rw[hL])),trivial⟩,rfl,rfl⟩
  intro h4;refine aK<|gT ?_;have hln:(dl h.book e).lines=[]:=Classical.byContradiction fun q=>by have h:=h4;have:=(aiv hq).2 q;simp at h;omega
  have hL:=aiN hln;have Tx:ahA h e=0:=ajh hln;refine⟨(),Tx,trivial,⟨(Eq.trans (b:=AO.box 56 none [.p (.ab 195 1 (oS h.log.bT.cells)),.p (.ab 192 2 (oT h.log.bT.bu)),int h.log.next,int h.log.dP,int h.book.tick,int h.book.next,int h.book.aA,.p (.ab 159 7 (ah aX h.book.ag)),.p (.ab 218 7 (ah go h.book.an)),.p (.ab 220 5 (ah iX h.book.aq)),int h.ia.last,.p (.ab 167 3 (ah ct h.ia.lines)),.own 2,.own 8]) rfl (by rw[hL])),trivial⟩,rfl,rfl⟩
 intro jd hpc;refine sL<|aP (.agg [.own _,vL _ _ _,U _ _,U _ _]) EY Z<|lf 0 qL Z<|ab (zB 2011 Nv Nw Z) Z<|nA<|aP (.agg [U _ _,U _ _,U _ _,vL _ _ _,vL _ _ _,vL _ _ _]) cu Z<|lf 4 Bw Z<|ab (zB 2011 eu ew Z) Z<|lT [3,4,5,11] [1,2,8,2002,2003,2004,2006,2007,2009,2011] ?_;refine nA<|lf 12 Bz Z<|iO tE Z<|aP (.agg [U _ _,U _ _,U _ _,U _ _,U _ _,U _ _,vB _]) dD Z<|ab (zS 2064 (ah fR [e]) jk jl Z) Z<|ab (zP 2 jk jl sD Z (Src.own Z Z)) Z<|lf 12 Bz Z<|ab (zB 2011 Ny Nz Z) Z<|lT [4,5,11] [1,2,8,2002,2003,2004,2006,2007,2009,2011,2064] ?_;refine nA<|aP (.agg [.own _,vL _ _ _,U _ _,U _ _,U _ _,U _ _,U _ _,vL _ _ _,vL _ _ _,vL _ _ _,U _ _,vL _ _ _,.own _,.own _]) EZ Z<|ab (zB 2004 NA NB Z) Z<|ao Z<|Y ?_;refine AW.obj 2 (uT (h.wait++[e])) (congrArg (AO.ai 81 7) (fx fR _ _).symm) ?_;refine AW.freeze 8 rfl ?_;refine aR ?_;have hc:ahr h e=0:=aiK hq cQ dY hpc;have hL:=ahV hc;refine fN ((.au [ahO ⟨ahu h.log e,dp h.book e,ahs h e,h.wait++[e],h.f9⟩,int 0])) (obK ⟨ahu h.log e,dp h.book e,ahs h e,h.wait++[e],h.f9⟩) ?_ rfl ⟨rfl,rfl,trivial⟩;exact .inr ⟨hc,by rw[hL],by rw[hL]⟩
theorem ajj{h:mm}{e:aV}(hd:HbD h)(hc:ahr h e=0):GC prog 40 [Bu h,ju e] [] (.au [ahO (aht h e),int 0]) (obK (aht h e)):=(aji h e hd).gc fun y o q=>by
 rcases q with⟨q,_⟩|⟨_,q1,q2⟩
 ·exact absurd hc q
 exact⟨q1,q2⟩
theorem ajk{h:mm}{e:aV}(hd:HbD h)(hc:ahr h e≠0):GC prog 40 [Bu h,ju e] [] (.au [ZH,int (ahr h e)]) []:=(aji h e hd).gc fun y o q=>by
 rcases q with⟨_,q1,q2⟩|⟨q,_⟩
 ·exact⟨q1,q2⟩
 exact absurd q hc
theorem akd(h:mm)(e:aV)(hd:HbD h):GC prog 40 [Bu h,ju e] [] (.au [Bu (aht h e),int (ahr h e)]) []:=by
 by_cases hc:ahr h e=0
 ·rw[hc];refine(GX.frozen (Z:=fun y=>y=.au [Bu (aht h e),int 0]) (ajj hd hc) fun x ob ⟨e1,e2⟩=>?_).mono fun y o ⟨e1,e2⟩=>⟨e2,e1⟩;subst e1 e2;exact⟨_,Still.au (.cons (Still.agg (.cons (Still.row (id:=1) (e:=⟨195,none⟩) (sz:=1) (rows:=oS (aht h e).log.bT.cells) rfl) (.cons (Still.p _) (.cons (Still.p _) (.cons (Still.p _) (.cons (Still.p _) (.cons (Still.p _) (.cons (Still.p _) (.cons (Still.p _) (.cons (Still.p _) (.cons (Still.p _) (.cons (Still.p _) (.cons (Still.p _) (.cons (Still.row (id:=2) (e:=⟨81,none⟩) (sz:=7) (rows:=ah fR (aht h e).wait) rfl) (.cons (Still.p _) .nil))))))))))))))) (.cons (Still.p _) .nil)),rfl⟩
 rw[ah6 hc];refine GX.imp (ajk hd hc) (fun x bd ⟨e1,e2⟩=>?_);subst e1 e2;exact⟨_,fe.au (ff.cons (fe.agg (ahl<|ahl<|ff.same<|ff.same<|ff.same<|ff.same<|ff.same<|ahl<|ahl<|ahl<|ff.same<|ahl<|ahl<|ahl<|ff.nil)) (ff.same ff.nil)),rfl,rfl⟩

section
variable {P:Program}{L O:Nat->Prop}{w0:World}{N:Nat}{τ:Nat->AV}{H:Nat->AO}{Q:AQ}
theorem aJ2(ks os:List Nat){v:List AV}{b:List AO}{D:Type}(T:D->List (Nat×AV))(B:D->List (Nat×AO))(I:D->Prop){x y z:Code}
 (h:AW P L O w0 N x τ H (Q.andThen fun τ1 H1=>AW P L O w0 N y τ1 H1 (Q.andThen fun τ H=>∃d,I d/\iN (T d) τ/\fo (B d) H/\ge τ ks=v/\ge H os=b))) (h2:∀d,I d->AW P L O w0 N z (Cu (T d) (eh .bad ks v)) (Cv (B d) (eh .gone os b)) Q) (_:ge τ ks=v:=by exact nz) (_:ge H os=b:=by exact nz):AW P L O w0 N (.seq x (.seq y z)) τ H Q:=
 AW.seq (h.mono fun e τ1 H1 q=>by
  cases e<;>first|exact q|skip
  refine Xz (fun d=>T d++ks.zip v) (fun d=>B d++os.zip b) I (AW.mono q fun e τ' H' q=>?_) (fun d hI=>by rw[H5,H6];exact h2 d hI);cases e<;>first|exact q|(obtain⟨d',q1,q3,q4,q5,q6⟩:=q;exact⟨d',q1,iN.gJ q3 (AR q5),fo.gJ q4 (AS q6)⟩))
end

def crD(h:mm)(vA:List Int):du:=if zV h=true then acU h.log.bT vA else ⟨[],[]⟩
theorem agL{h:mm}{vA:List Int}(q:zV h=false):crD h vA=⟨[],[]⟩:=if_neg (by simp[q])
theorem agM{h:mm}{vA:List Int}(q:zV h=true):crD h vA=acU h.log.bT vA:=if_pos q
theorem ahP(u v:Value)(h:mm)(vA:List Int)(hd:HbD h):GC prog 18 [ajQ h,inV vA] (ai' u v h) (Gn) (SH (crD h vA)++ai' u v h):=by
 refine GC.intro (rs:=[.cell 4 43 (some 2)]) func18 rfl ntmps18 x_8 x_113 ?_;intro L O w0;refine sL<|ab (zX 2002 Z) Z<|ab (zA 2004 Du Z) Z<|Y<|aS<|sL<|aP (.agg [.own _,vL _ _ _,U _ _,U _ _,U _ _,U _ _,U _ _,vL _ _ _,vL _ _ _,vL _ _ _,U _ _,vL _ _ _,.own _,vL _ _ _]) EZ Z<|ab (zL func30 (aiL hd) Z) Z<|lT [1,2,4,6] [31,32,2002,2004] ?_;refine bX Z<|Y ?_;refine AW.cond rfl ?_ ?_
 ·intro V;refine sL<|lq (rd (x:=.agg [vV _,vV _]) (cP Z adU Z Z Z) Z)<|ab (zB 2004 Dv Dw Z) Z<|Y ?_;refine AW.pi 1 2004 0 195 1 rfl x_3 rfl ?_;refine AW.pi 2 2004 1 192 2 rfl x_3 rfl ?_;refine aR<|rT ?_;have hq:zV h=false:=by have h:=V;simpa using h
  rw[agL hq];refine ax ?_ ⟨rfl,rfl,rfl,rfl,trivial⟩;rfl
 intro V;refine aK<|gT<|aS ?_;have hq:zV h=true:=by have h:=V;simpa using h
 refine aL<|lf 0 qL Z<|lf 0 Bv Z<|aP (.agg [.own _,vL _ _ _]) mE Z<|bm Z ?_;refine ab (zC [(1,1),(2,2),(31,31)] [1,2] [31] func71 (ajP u h.log.bT vA (af4 hq)) (⟨stays.ai rfl,trivial⟩) rfl rfl) Z<|lT [4,13] [1,2,31,32,2002,2004] ?_;refine ab (zB 2004 Dv Dw Z) Z<|Y<|aR ?_;rw[agM hq];refine ax ?_ ⟨rfl,rfl,rfl,rfl,trivial⟩;rfl
theorem ahE(d:du)(hb:qK d):GC prog 27 [mt d] [] (.au [ahO (e6 d),int (y3 d)]) (obK (e6 d)):=by
 refine GC.intro (rs:=[.cell 2 56 (some 14),.tmp 3]) func27 rfl ntmps27 x_8 ⟨rfl,rfl,EZ,rfl,trivial⟩ ?_;intro L O w0;refine sL<|ab (zX 2001 Z) Z<|ab (zA 2002 Ig Z) Z<|ao Z<|nA<|aP (.agg [vL _ _ _,vL _ _ _]) mE Z<|ab (zC [(1,1),(2,2),(3,3)] [1,2,3] [] func81 (ae0 d hb) (trivial) Z Z) Z<|lT [2,3,12] [1,2,3,2001,2002] ?_;refine cT (.au [.agg [.own _,.own _,U _ _,U _ _],.own _,U _ _]) Z<|iB (.agg [.own _,.own _,U _ _,U _ _]) Z<|qT Z<|dE Z<|ab (zA 2004 Nx Z) Z<|lT [2,3,4,13,14,15] [1,2,3,2001,2002,2004] ?_;refine ab (zB 2004 Nv Nw Z) Z<|bD Z<|ao Z<|Y<|aS<|aS ?_;refine AW.freeze 2 rfl ?_;refine AW.freeze 3 rfl ?_;refine aL<|ae Z<|ak Z<|Y ?_;refine AW.cond rfl ?_ ?_
 ·intro V;refine sL<|lq (rd (x:=.agg [vV _,vV _,U _ _,U _ _,U _ _,U _ _,U _ _,vV _,vV _,vV _,U _ _,vV _,vV _,vV _]) (cP Z acf Z Z Z) Z)<|ae Z<|ab (zB 2002 NA NB Z) Z<|lT [2,3,4,5,19] [1,2001,2002,2004] ?_;refine ao Z<|Y ?_;refine AW.pi 1 2002 0 195 1 rfl x_3 rfl ?_;refine AW.pi 2 2002 12 81 7 rfl x_3 rfl ?_;refine AW.ahJ 2002 [.own 1,.p (.ab 192 2 []),int 0,int 0,int 0,int 0,int 0,.p (.ab 159 7 []),.p (.ab 218 7 []),.p (.ab 220 5 []),int 0,.p (.ab 167 3 []),.own 2,.p (.ab 81 7 [])] Z (ff.same<|ahl<|ff.same<|ff.same<|ff.same<|ff.same<|ff.same<|ahl<|ahl<|ahl<|ff.same<|ahl<|ff.same<|ahl<|ff.nil) Z Z ?_;refine aR<|rT ?_;have hc:y3 d=m1 d:=adH (by have h:=V;simpa using h);have hL:=acJ (d:=d) (by rw[hc];have h:=V;simpa using h);rw[hL,hc];refine ax ?_ ⟨rfl,rfl,trivial⟩;rfl
 intro V;refine aK<|gT<|aS ?_;have cQ:m1 d=0:=by have h:=V;simpa using h
 have hle:=Ka d;refine aL<|bm Z ?_;refine dC 21 (.p (.ab 81 7 (ah fR (f8 d)))) (congrArg (fun l=>AV.p (.ab 81 7 (ah fR l))) (acG cQ)) ?_;refine ab (zC [] [] [] func82 (QK (f8 d) (Dp d) x_2) (trivial) rfl rfl) Z<|cT (.au [.agg [U _ _,U _ _,U _ _,vL _ _ _,vL _ _ _,vL _ _ _],.agg [U _ _,vL _ _ _],vB _]) Z<|iB (.agg [U _ _,U _ _,U _ _,vL _ _ _,vL _ _ _,vL _ _ _]) Z<|iB (.agg [U _ _,vL _ _ _]) Z<|eU Z<|ab (zA 2007 mD rfl) Z<|lT [2,3,4,7,23,24,25] [1,2001,2002,2004,2007] ?_;refine ab (zA 2008 ld Z) Z<|ab (zB 2007 eu ew Z) Z<|ab (zB 2008 cA cB Z) Z<|bv Z<|Y<|aS<|sL<|aQ Z<|bX Z<|Y ?_;refine AW.cond rfl ?_ ?_
 ·intro h2;refine sL<|lq (rd (x:=.agg [vV _,vV _,U _ _,U _ _,U _ _,U _ _,U _ _,vV _,vV _,vV _,U _ _,vV _,vV _,vV _]) (cP Z acf Z Z Z) Z)<|ab (zB 2002 NA NB Z) Z<|lT [2,3,4,7,8] [1,2001,2002,2004,2007,2008] ?_;refine ao Z<|Y ?_;refine AW.pi 1 2002 0 195 1 rfl x_3 rfl ?_;refine AW.pi 2 2002 12 81 7 rfl x_3 rfl ?_;refine AW.ahJ 2002 [.own 1,.p (.ab 192 2 []),int 0,int 0,int 0,int 0,int 0,.p (.ab 159 7 []),.p (.ab 218 7 []),.p (.ab 220 5 []),int 0,.p (.ab 167 3 []),.own 2,.p (.ab 81 7 [])] Z (ff.same<|ahl<|ff.same<|ff.same<|ff.same<|ff.same<|ff.same<|ahl<|ahl<|ahl<|ff.same<|ahl<|ff.same<|ahl<|ff.nil) Z Z ?_;refine aR<|rT ?_;have hc:y3 d=3:=adI cQ x_139;have hL:=acJ (d:=d) x_55;rw[hL,hc];refine ax ?_ ⟨rfl,rfl,trivial⟩;rfl
 intro h2;refine aK<|gA<|aP (.agg [.own _,vL _ _ _,U _ _,U _ _]) EY Z<|aP (.agg [U _ _,U _ _,U _ _,vL _ _ _,vL _ _ _,vL _ _ _]) cu Z<|aP (.agg [U _ _,vL _ _ _]) eZ Z<|lq (rd (x:=.agg [.own _,vL _ _ _,U _ _,U _ _,U _ _,U _ _,U _ _,vL _ _ _,vL _ _ _,vL _ _ _,U _ _,vL _ _ _,vV _,vV _]) (cP Z acf Z Z Z) Z)<|ab (zB 2002 NA NB Z) Z<|lT [2,3] [1,2001,2002,2004,2007,2008] ?_;refine ao Z<|Y ?_;refine AW.pi 2 2002 12 81 7 rfl x_3 rfl ?_;refine AW.ahJ 2002 [.own 1,.p (.ab 192 2 (oT (m4 d).bT.bu)),int (m4 d).next,int (m4 d).dP,int (de (f8 d)).now.tick,int (de (f8 d)).now.next,int (de (f8 d)).now.aA,.p (.ab 159 7 (ah aX (de (f8 d)).now.ag)),.p (.ab 218 7 (ah go (de (f8 d)).now.an)),.p (.ab 220 5 (ah iX (de (f8 d)).now.aq)),int (d5 (f8 d)).1.last,.p (.ab 167 3 (ah ct (d5 (f8 d)).1.lines)),.own 2,.p (.ab 81 7 [])] Z (ff.same<|ff.same<|ff.same<|ff.same<|ff.same<|ff.same<|ff.same<|ff.same<|ff.same<|ff.same<|ff.same<|ff.same<|ff.same<|ahl<|ff.nil) Z Z ?_;refine aR ?_;have hc:y3 d=0:=adJ cQ x_139;have hL:=ac5 hc;rw[hL,hc];refine ax ?_ ⟨rfl,rfl,trivial⟩;rfl
theorem akj(h:mm)(hd:HbD h):GC prog 12 [Bu h] [] (ahO (afL h)) (obK (afL h)):=by
 refine GC.intro (rs:=[.cell 2 56 (some 14)]) func12 rfl ntmps12 x_8 ⟨rfl,rfl,EZ,trivial⟩ ?_;intro L O w0;refine sL<|ab (zX 2001 Z) Z<|ab (zA 2002 Ig Z) Z<|Y<|aS<|sL<|aP (.agg [vL _ _ _,vL _ _ _,U _ _,U _ _,U _ _,U _ _,U _ _,vL _ _ _,vL _ _ _,vL _ _ _,U _ _,vL _ _ _,vL _ _ _,vL _ _ _]) EZ Z<|ab (zC [] [] [] func30 (aiL hd) (trivial) Z Z) Z<|lT [1,2,5] [2001,2002] ?_;refine bX Z<|Y ?_;refine AW.cond rfl ?_ ?_
 ·intro V;refine sL<|lq (rd (x:=.agg [vV _,vV _,U _ _,U _ _,U _ _,U _ _,U _ _,vV _,vV _,vV _,U _ _,vV _,vV _,vV _]) (cP Z acf Z Z Z) Z)<|ab (zB 2002 NA NB Z) Z<|Y ?_;refine AW.pi 1 2002 0 195 1 rfl x_3 rfl ?_;refine AW.pi 2 2002 12 81 7 rfl x_3 rfl ?_;refine AW.ahJ 2002 [.own 1,.p (.ab 192 2 []),int 0,int 0,int 0,int 0,int 0,.p (.ab 159 7 []),.p (.ab 218 7 []),.p (.ab 220 5 []),int 0,.p (.ab 167 3 []),.own 2,.p (.ab 81 7 [])] Z (ff.same<|ahl<|ff.same<|ff.same<|ff.same<|ff.same<|ff.same<|ahl<|ahl<|ahl<|ff.same<|ahl<|ff.same<|ahl<|ff.nil) Z Z ?_;refine aR<|rT ?_;have hq:zV h=false:=by have h:=V;simpa using h
  rw[afX hq];refine ax ?_ ⟨rfl,rfl,trivial⟩;rfl
 intro V;refine aK<|gT<|aS ?_;have hq:zV h=true:=by have h:=V;simpa using h
 have hlw:=hd.lw;have T7:=hd.ls;refine aL<|aP (.agg [vL _ _ _,vL _ _ _,U _ _,U _ _,U _ _,U _ _,U _ _,vL _ _ _,vL _ _ _,vL _ _ _,U _ _,vL _ _ _,vL _ _ _,vL _ _ _]) EZ Z<|ab (zC [(6,6),(7,7),(8,8)] [6,7,8] [] func49 (agq h (hd.z hq) (acF (af4 hq))) (trivial) Z Z) Z<|lT [1,2,9] [6,7,8,2001,2002] ?_;refine ab (zA 2003 Ig Z) Z<|ab (zB 2003 NA NB Z) Z<|nA<|lf 0 qL Z<|aP (.agg [vL _ _ _,vL _ _ _,U _ _,U _ _]) EY Z<|ab (zC [(1,1),(2,2)] [1,2] [] func50 (aga h.log) (trivial) Z Z) Z<|lT [2,3,12] [1,2,6,7,8,2001,2002,2003] ?_;refine lf 0 qL Z<|ab (zB 2003 Nv Nw Z) Z<|Y<|aS ?_;refine AW.freeze 2 rfl ?_;refine aL<|lf 13 By Z<|iO tE Z<|lf 12 Bz Z<|iO tE Z<|ab (zP 8 jk jl sD Z (Src.own Z Z)) Z<|lT [2,3,18] [1,6,7,8,2001,2002,2003] ?_;refine lf 13 By Z<|ab (zB 2003 Ny Nz Z) Z<|nA<|lf 12 Bz Z<|ab (zB 2003 Ny Nz Z) Z<|lT [2,3] [1,6,7,8,2001,2002,2003] ?_;refine nA<|aP (.agg [.own _,vL _ _ _,U _ _,U _ _,U _ _,U _ _,U _ _,vL _ _ _,vL _ _ _,vL _ _ _,U _ _,.own _,vV _,.own _]) EZ Z<|ab (zB 2002 NA NB Z) Z<|Y ?_;refine AW.obj 8 (uT (h.f9++h.wait)) (congrArg (AO.ai 81 7) (fx fR _ _).symm) ?_;refine AW.freeze 6 rfl ?_;refine AW.freeze 8 rfl ?_;refine AW.pi 2 2002 12 81 7 rfl x_3 rfl ?_;refine aR ?_;rw[afY hq];refine ax ?_ ⟨rfl,rfl,trivial⟩;rfl
structure aix(I:Nat->mm->Prop):Prop where
 new:∀n,1<=n->n<=600->I 0 (e6 (ahW n))
 mono:∀ {k h},I k h->I (k+1) h
 take:∀ {k h e},I k h->l7 e->ahr h e=0->I k (aht h e)
 sync:∀ {k h},I k h->I k (afL h)
 aiT:∀ {k h} (vA:List Int),I k h->y3 (crD h vA)=0->I (k+1) (e6 (crD h vA))
 wf:∀ {k h},I k h->HbD h
theorem ahF{h:mm}{vA:List Int}(hd:HbD h):qK (crD h vA):=by
 cases q:zV h
 ·rw[agL q];exact x_67
 rw[agM q];exact(aii (af4 q) hd.db).2.1
def DrH(I:Nat->mm->Prop)(m:Nat):AV->List (Nat×AO)->Prop:=fun x ob2=>∃k h,k<=m/\I k h/\x=ahO h/\ob2=obK h
theorem x_48{p:Prop}(c:p:=by exact congrArg (fun n:Nat=>int (n:Int)) (ap ..)):p:=c
theorem x_60{p:Prop}(c:p:=by exact ⟨stays.ai rfl,stays.ai rfl,trivial⟩):p:=c
theorem x_77{p:Prop}(c:p:=by exact Eq.trans (b:=int _) rfl (congrArg int (by show _=((kJ+1:Nat):Int);omega))):p:=c
theorem x_149{p:Prop}(c:p:=by assumption):p:=c
theorem akk{I:Nat->mm->Prop}(W:aix I)(g:Value)(code:List Int)(i:Nat)(h m:Int)(hc:ahk code i)(hm:0<=m/\m<=100):GX prog 97 [.ptr 0 0 0,int m] [(0,ahm g code i h)] (DrX g code (DrH I (5+m).toNat)):=by
 refine GX.intro (rs:=[.cell 4 56 (some 14)]) func97 rfl ntmps97 x_8 ⟨rfl,rfl,EZ,trivial⟩ ?_;intro L O w0;refine sL<|ab (zA 2004 Ig Z) Z<|nA<|aM Z ?_;refine alX [(0,0)] [] [0] func98 (ahp g code _ _ _ hc) x_11 (ahn) Z ?_;intro xz1 oz1 fa;obtain⟨i1,q1,qC,⟨n1,⟨na1,nb1⟩,rfl⟩,rfl⟩:=fa;refine bg Z<|jK 19 (((8+n1).toNat:Nat):Int) rfl x_2<|ab (zC [] [] [] func182 (akh (8+n1).toNat x_2 x_2) (trivial) rfl rfl) Z<|lT [0,1,4,20] [0,2004] ?_;refine cT (.au [.agg [vL _ _ _,vL _ _ _],vB _]) Z<|iB (.agg [vL _ _ _,vL _ _ _]) Z<|eU Z<|ab (zA 2005 Du Z) Z<|lT [0,1,4,5,21,22] [0,2004,2005] ?_;refine ab (zB 2005 Dv Dw Z) Z<|bv Z<|nA<|aP (.agg [vL _ _ _,vL _ _ _]) mE Z<|ab (zC [(1,1),(2,2)] [1,2] [] func27 (ahE (ahW (8+n1).toNat) (ajm _)) (trivial) Z Z) Z<|lT [0,1,4,25] [0,1,2,2004,2005] ?_;refine cT (.au [.agg [.own _,vL _ _ _,U _ _,U _ _,U _ _,U _ _,U _ _,vL _ _ _,vL _ _ _,vL _ _ _,U _ _,vL _ _ _,.own _,vL _ _ _],U _ _]) Z<|iB (.agg [.own _,vL _ _ _,U _ _,U _ _,U _ _,U _ _,U _ _,vL _ _ _,vL _ _ _,vL _ _ _,U _ _,vL _ _ _,.own _,vL _ _ _]) Z<|dE Z<|ab (zA 2007 Ig Z) Z<|lT [0,1,4,7,26,27] [0,1,2,2004,2005,2007] ?_;refine ab (zB 2007 NA NB Z) Z<|ao Z<|Y<|aS<|sL<|aM Z<|ae Z ?_;refine alX [(0,0),(50,50)] [50] [0] func183 (akl g code _ _ m qC hm) x_11 (aiU) Z ?_;intro xz2 oz2 hz2;obtain⟨i2,q2,_,Cj,⟨es1,aiV,rfl,rfl⟩,rfl⟩:=hz2;refine lT [0,4,7,30] [0,1,2,50,2004,2005,2007] ?_;refine ba jZ rfl ?_;refine dC 31 (int (es1.length:Int)) (congrArg (fun n:Nat=>int (n:Int)) (ap ..)) ?_;refine ae Z<|Y ?_;refine AW.freeze 50 rfl ?_;refine aB ?_;refine aW [0,4,7,30,31] [2004,2005] (D:=Nat×Int×Nat×mm) (fun d=>[(32,int (d.2.2.1:Int))]) (fun d=>[(0,ahm g code d.1 d.2.1),(2007,.box 56 none [.own 1,.p (.ab 192 2 (oT d.2.2.2.log.bT.bu)),int d.2.2.2.log.next,int d.2.2.2.log.dP,int d.2.2.2.book.tick,int d.2.2.2.book.next,int d.2.2.2.book.aA,.p (.ab 159 7 (ah aX d.2.2.2.book.ag)),.p (.ab 218 7 (ah go d.2.2.2.book.an)),.p (.ab 220 5 (ah iX d.2.2.2.book.aq)),int d.2.2.2.ia.last,.p (.ab 167 3 (ah ct d.2.2.2.ia.lines)),.own 2,.p (.ab 81 7 (ah fR d.2.2.2.f9))]),(1,.ai 195 1 (oS d.2.2.2.log.bT.cells)),(2,uT d.2.2.2.wait)]) (fun d=>ahk code d.1/\d.2.2.1<=es1.length/\I d.2.2.1 d.2.2.2) (fun d=>es1.length-d.2.2.1) ((_,_,0,e6 (ahW (8+n1).toNat))) (⟨by assumption,Nat.zero_le _,W.new _ x_2 x_2⟩) ⟨rfl,trivial⟩ ⟨rfl,rfl,rfl,rfl,trivial⟩ ?_;intro ⟨iJ,qJ,kJ,hJ⟩ hI;dsimp only;obtain⟨hcJ,hkJ,hgJ⟩:=hI;replace hcJ:ahk code iJ:=hcJ;replace hkJ:kJ<=es1.length:=hkJ;replace hgJ:I kJ hJ:=hgJ;have hdJ:=W.wf hgJ;refine sL<|ak Z<|Y<|aS ?_;refine AW.cond rfl ?_ ?_
 ·intro V;refine aK<|gT<|aS<|aB<|aS ?_;have akV:=aiV.2;have hk:kJ<es1.length:=by have h:=V;simp only[decide_eq_true_eq]at h;omega
  refine aL<|li kJ jk Z (bS hk)<|d6 (.agg [U _ _,U _ _,U _ _,U _ _,U _ _,U _ _,vB _]) dD Z<|ab (zA 2010 jl Z) Z<|lT [0,4,7,10,30,31,32,35] [0,1,2,2004,2005,2007,2010] ?_;refine ab (zB 2010 mZ m0 Z) Z<|Y ?_;refine aJ2 [0,4,7,30,31,32] [2004,2005,2010] (D:=Nat×Int×mm) (fun d=>[]) (fun d=>[(0,ahm g code d.1 d.2.1),(2007,.box 56 none [.own 1,.p (.ab 192 2 (oT d.2.2.log.bT.bu)),int d.2.2.log.next,int d.2.2.log.dP,int d.2.2.book.tick,int d.2.2.book.next,int d.2.2.book.aA,.p (.ab 159 7 (ah aX d.2.2.book.ag)),.p (.ab 218 7 (ah go d.2.2.book.an)),.p (.ab 220 5 (ah iX d.2.2.book.aq)),int d.2.2.ia.last,.p (.ab 167 3 (ah ct d.2.2.ia.lines)),.own 2,.p (.ab 81 7 (ah fR d.2.2.f9))]),(1,.ai 195 1 (oS d.2.2.log.bT.cells)),(2,uT d.2.2.wait)]) (fun d=>ahk code d.1/\I kJ d.2.2) ?_ ?_
  ·by_cases T8:ahr hJ es1[kJ]=0
   ·skip;refine AW.freeze 1 rfl ?_;refine AW.freeze 2 rfl ?_;refine aL<|aP (.agg [vL _ _ _,vL _ _ _,U _ _,U _ _,U _ _,U _ _,U _ _,vL _ _ _,vL _ _ _,vL _ _ _,U _ _,vL _ _ _,vL _ _ _,vL _ _ _]) EZ Z<|aP (.agg [U _ _,U _ _,U _ _,U _ _,U _ _,U _ _,vB _]) dD Z<|ab (zC [(1,81),(2,82)] [81,82] [] func40 (ajj hdJ T8) (trivial) Z Z) Z<|lT [0,4,7,30,31,32,39] [0,81,82,2004,2005,2007,2010] ?_;refine cT (.au [.agg [.own _,vL _ _ _,U _ _,U _ _,U _ _,U _ _,U _ _,vL _ _ _,vL _ _ _,vL _ _ _,U _ _,vL _ _ _,.own _,vL _ _ _],U _ _]) Z<|iB (.agg [.own _,vL _ _ _,U _ _,U _ _,U _ _,U _ _,U _ _,vL _ _ _,vL _ _ _,vL _ _ _,U _ _,vL _ _ _,.own _,vL _ _ _]) Z<|dE Z<|ab (zA 2011 Ig Z) Z<|lT [0,4,7,11,30,31,32,40,41] [0,81,82,2004,2005,2007,2010,2011] ?_;refine ab (zB 2011 NA NB Z) Z<|ao Z<|Y<|aS ?_;skip;refine aL<|ae Z<|ak Z<|bJ 43 true Z (Z)<|Y<|aY Z<|aL<|aP (.agg [.own _,vL _ _ _,U _ _,U _ _,U _ _,U _ _,U _ _,vL _ _ _,vL _ _ _,vL _ _ _,U _ _,vL _ _ _,.own _,vL _ _ _]) EZ Z<|ab (zB 2007 NA NB Z) Z ?_;refine AL.swap 81 1 ?_;refine AL.swap 82 2 ?_;refine lT [0,4,7,30,31,32] [0,1,2,2004,2005,2007,2010,2011] ?_;refine Y ?_;refine⟨(_,_,aht hJ es1[kJ]),⟨by assumption,W.take hgJ (aiV.1 _ (List.getElem_mem _)) T8⟩,trivial,⟨rfl,rfl,rfl,rfl,trivial⟩,rfl,rfl⟩
   skip;refine aL<|aP (.agg [.own _,vL _ _ _,U _ _,U _ _,U _ _,U _ _,U _ _,vL _ _ _,vL _ _ _,vL _ _ _,U _ _,vL _ _ _,.own _,vL _ _ _]) EZ Z<|aP (.agg [U _ _,U _ _,U _ _,U _ _,U _ _,U _ _,vB _]) dD Z<|ab (zL func40 (ajk hdJ T8) Z) Z<|cT (.au [.agg [vV _,vV _,U _ _,U _ _,U _ _,U _ _,U _ _,vV _,vV _,vV _,U _ _,vV _,vV _,vV _],U _ _]) Z<|iB (.agg [vV _,vV _,U _ _,U _ _,U _ _,U _ _,U _ _,vV _,vV _,vV _,U _ _,vV _,vV _,vV _]) Z<|dE Z<|ab (zA 2011 Ig Z) Z<|lT [0,4,7,11,30,31,32,40,41] [0,1,2,2004,2005,2007,2010,2011] ?_;refine ab (zB 2011 NA NB Z) Z<|ao Z<|Y<|aS ?_;skip;refine aL<|ae Z<|ak Z<|bJ 43 false Z (decide_eq_false T8)<|Y<|aN Z<|aK<|gT ?_;refine⟨(_,_,hJ),⟨by assumption,hgJ⟩,trivial,⟨rfl,rfl,rfl,rfl,trivial⟩,rfl,rfl⟩
  intro ⟨iJ9,qJ9,hJ9⟩ hiJ9;dsimp only;obtain⟨ahI,aij⟩:=hiJ9;replace ahI:ahk code iJ9:=ahI;replace aij:I kJ hJ9:=aij;have akm:=W.wf aij;refine sL<|aM Z ?_;refine alX [(0,0)] [] [0] func98 (ahp g code _ _ _ ahI) x_11 (ahn) Z ?_;intro xz3 oz3 hz3;obtain⟨i3,q3,hc3,⟨ahG,⟨na3,nb3⟩,rfl⟩,rfl⟩:=hz3;refine ao Z<|Y ?_;refine aJ [0,4,7,13,30,31,32] [2004,2005,2010] (D:=Nat×Int×mm) (fun d=>[]) (fun d=>[(0,ahm g code d.1 d.2.1),(2007,.box 56 none [.own 1,.p (.ab 192 2 (oT d.2.2.log.bT.bu)),int d.2.2.log.next,int d.2.2.log.dP,int d.2.2.book.tick,int d.2.2.book.next,int d.2.2.book.aA,.p (.ab 159 7 (ah aX d.2.2.book.ag)),.p (.ab 218 7 (ah go d.2.2.book.an)),.p (.ab 220 5 (ah iX d.2.2.book.aq)),int d.2.2.ia.last,.p (.ab 167 3 (ah ct d.2.2.ia.lines)),.own 2,.p (.ab 81 7 (ah fR d.2.2.f9))]),(1,.ai 195 1 (oS d.2.2.log.bT.cells)),(2,uT d.2.2.wait)]) (fun d=>ahk code d.1/\I kJ d.2.2) ?_ ?_
  ·refine sL<|ae Z<|ak Z<|Y ?_;refine AW.cond rfl ?_ ?_
   ·intro h2;refine AW.freeze 1 rfl ?_;refine AW.freeze 2 rfl ?_;refine aL<|aP (.agg [vL _ _ _,vL _ _ _,U _ _,U _ _,U _ _,U _ _,U _ _,vL _ _ _,vL _ _ _,vL _ _ _,U _ _,vL _ _ _,vL _ _ _,vL _ _ _]) EZ Z<|ab (zC [(1,81),(2,82)] [81,82] [] func12 (akj hJ9 akm) (trivial) Z Z) Z<|lT [0,4,7,13,30,31,32,50] [0,81,82,2004,2005,2007,2010] ?_;refine ab (zB 2007 NA NB rfl) rfl ?_;refine AL.swap 81 1 ?_;refine AL.swap 82 2 ?_;refine Y ?_;refine⟨(_,_,afL hJ9),⟨by assumption,W.sync aij⟩,trivial,⟨rfl,rfl,rfl,rfl,trivial⟩,rfl,rfl⟩
   intro h2;refine aK<|gT ?_;refine⟨(_,_,hJ9),⟨by assumption,aij⟩,trivial,⟨rfl,rfl,rfl,rfl,trivial⟩,rfl,rfl⟩
  intro ⟨iJ12,qJ12,hJ12⟩ hiJ12;dsimp only;obtain⟨ahX,ahY⟩:=hiJ12;replace ahX:ahk code iJ12:=ahX;replace ahY:I kJ hJ12:=ahY;have ahv:=W.wf ahY;refine sL<|ae Z<|ak Z<|aQ Z ?_;refine AL.bool (t:=53) rfl ?_ ?_
  ·intro h3;refine aM rfl ?_;refine alX [(0,0)] [] [0] func98 (ahp g code _ _ _ ahX) x_11 (ahn) Z ?_;intro xz4 oz4 hz4;obtain⟨i4,q4,hc4,⟨ahZ,⟨na4,nb4⟩,rfl⟩,rfl⟩:=hz4;refine lT [0,4,7,30,31,32,53,55] [0,1,2,2004,2005,2007,2010] ?_;refine ak Z<|bj Z<|Y ?_;refine AW.cond rfl ?_ ?_
   ·intro h4;refine AW.mU 1 rfl ?_;intro u1;refine AW.mU 2 rfl ?_;intro u2;refine aJ [0,4,7,30,31,32] [1,2,2004,2005,2007,2010] (D:=Nat×Int×Int) (fun d=>[(14,.ptr 2014 0 0),(15,int (y3 (crD hJ12 [128,d.2.2,128,0,128])))]) (fun d=>[(0,ahm g code d.1 d.2.1),(2014,.box 56 none [.own 83,.p (.ab 192 2 (oT (e6 (crD hJ12 [128,d.2.2,128,0,128])).log.bT.bu)),int (e6 (crD hJ12 [128,d.2.2,128,0,128])).log.next,int (e6 (crD hJ12 [128,d.2.2,128,0,128])).log.dP,int (e6 (crD hJ12 [128,d.2.2,128,0,128])).book.tick,int (e6 (crD hJ12 [128,d.2.2,128,0,128])).book.next,int (e6 (crD hJ12 [128,d.2.2,128,0,128])).book.aA,.p (.ab 159 7 (ah aX (e6 (crD hJ12 [128,d.2.2,128,0,128])).book.ag)),.p (.ab 218 7 (ah go (e6 (crD hJ12 [128,d.2.2,128,0,128])).book.an)),.p (.ab 220 5 (ah iX (e6 (crD hJ12 [128,d.2.2,128,0,128])).book.aq)),int (e6 (crD hJ12 [128,d.2.2,128,0,128])).ia.last,.p (.ab 167 3 (ah ct (e6 (crD hJ12 [128,d.2.2,128,0,128])).ia.lines)),.own 84,.p (.ab 81 7 (ah fR (e6 (crD hJ12 [128,d.2.2,128,0,128])).f9))]),(83,.ai 195 1 (oS (e6 (crD hJ12 [128,d.2.2,128,0,128])).log.bT.cells)),(84,uT (e6 (crD hJ12 [128,d.2.2,128,0,128])).wait)]) (fun d=>ahk code d.1) ?_ ?_
    ·refine aF [2,4,10]<|pq 1 (dJ Z) ?_;refine Dt (i:=0) (j:=2) (k:=9) x_34 ?_ ?_ ?_
     ·refine d9.rd (i:=0) (x:=.agg [.own _,vL _ _ _,U _ _,U _ _,U _ _,U _ _,U _ _,vL _ _ _,vL _ _ _,vL _ _ _,U _ _,vL _ _ _,.own _,vL _ _ _]) rfl (sC rfl EZ rfl rfl rfl rfl) rfl rfl x_3 ?_;refine AF.two (i:=2) (j:=9) x_34 ?_ ?_
      ·refine abq (i:=2) rfl (Un [(0,0)] [] [0] rfl x_69 rfl func98 rfl rfl (ahp g code _ _ _ hc4) ⟨rfl,rfl,rfl⟩ x_11 (ahn) rfl) (.inl rfl) rfl ?_;rintro _ _ ⟨xz6,oz6,hz6,rfl,rfl⟩;obtain⟨i6,q6,hc6,⟨ahB,⟨na6,nb6⟩,rfl⟩,rfl⟩:=hz6;refine fT [0,4,7,30,31,32,59,61] [0,1,2,2004,2005,2007,2010] ?_;refine AF.two (i:=3) (j:=9) x_34 ?_ ?_
       ·refine v1 3 rfl (zS 2062 (ah kt [128,ahB,128,0,128]) iU lY rfl x_31) (.inr rfl) ?_;refine AF.freeze 2062 rfl ?_;refine AF.two (i:=4) (j:=9) x_34 ?_ ?_
        ·refine v1 4 rfl (zC [(1,91),(2,92),(31,1),(32,2)] [91,92] [31,32] func18 (ahP u1 u2 hJ12 [128,ahB,128,0,128] ahv) x_60 rfl rfl) (.inl rfl) ?_;refine AF.freeze 91 rfl ?_;refine AF.freeze 92 rfl ?_;refine AF.two (i:=5) (j:=9) x_34 ?_ ?_
         ·refine v1 5 Z (zC [(1,83),(2,84)] [83,84] [] func27 (ahE (crD hJ12 [128,ahB,128,0,128]) (ahF ahv)) (trivial) Z Z) (.inr Z)<|pq 6 (gL (.au [.agg [.own _,vL _ _ _,U _ _,U _ _,U _ _,U _ _,U _ _,vL _ _ _,vL _ _ _,vL _ _ _,U _ _,vL _ _ _,.own _,vL _ _ _],U _ _]) Z)<|pq 7 (qxX (.agg [.own _,vL _ _ _,U _ _,U _ _,U _ _,U _ _,U _ _,vL _ _ _,vL _ _ _,vL _ _ _,U _ _,vL _ _ _,.own _,vL _ _ _]) Z)<|pq 8 (qxI Z)<|bn 9 Z (zA 2014 Ig Z) (.inr Z)<|fT [0,4,7,14,30,31,32,65,66] [0,1,2,83,84,2004,2005,2007,2010,2014] ?_;refine bn 10 Z (zB 2014 NA NB Z) (.inl Z)<|vq 11 (j8 Z)<|fD<|gT ?_;refine⟨(_,_,_),x_149,⟨rfl,rfl,trivial⟩,⟨rfl,rfl,rfl,rfl,trivial⟩,rfl,rfl⟩
         refine v1 9 Z (zA 2014 Ig Z) (.inr Z)<|bn 5 Z (zC [(1,83),(2,84)] [83,84] [] func27 (ahE (crD hJ12 [128,ahB,128,0,128]) (ahF ahv)) (trivial) Z Z) (.inr Z)<|fT [0,4,7,14,30,31,32,64] [0,1,2,83,84,2004,2005,2007,2010,2014] ?_;refine vq 6 (sj (.au [.agg [.own _,vL _ _ _,U _ _,U _ _,U _ _,U _ _,U _ _,vL _ _ _,vL _ _ _,vL _ _ _,U _ _,vL _ _ _,.own _,vL _ _ _],U _ _]) Z)<|pq 7 (qxX (.agg [.own _,vL _ _ _,U _ _,U _ _,U _ _,U _ _,U _ _,vL _ _ _,vL _ _ _,vL _ _ _,U _ _,vL _ _ _,.own _,vL _ _ _]) Z)<|pq 8 (qxI Z)<|bn 10 Z (zB 2014 NA NB Z) (.inl Z)<|fT [0,4,7,14,30,31,32,66] [0,1,2,83,84,2004,2005,2007,2010,2014] ?_;refine vq 11 (j8 Z)<|fD<|gT ?_;refine⟨(_,_,_),x_149,⟨rfl,rfl,trivial⟩,⟨rfl,rfl,rfl,rfl,trivial⟩,rfl,rfl⟩
        refine v1 9 rfl (zA 2014 Ig rfl) (.inr rfl) ?_;refine bn 4 rfl (zC [(1,91),(2,92),(31,1),(32,2)] [91,92] [31,32] func18 (ahP u1 u2 hJ12 [128,ahB,128,0,128] ahv) x_60 rfl rfl) (.inl rfl) ?_;refine AF.freeze 91 rfl ?_;refine AF.freeze 92 rfl ?_;refine bn 5 Z (zC [(1,83),(2,84)] [83,84] [] func27 (ahE (crD hJ12 [128,ahB,128,0,128]) (ahF ahv)) (trivial) Z Z) (.inr Z)<|fT [0,4,7,14,30,31,32,64] [0,1,2,83,84,2004,2005,2007,2010,2014] ?_;refine vq 6 (sj (.au [.agg [.own _,vL _ _ _,U _ _,U _ _,U _ _,U _ _,U _ _,vL _ _ _,vL _ _ _,vL _ _ _,U _ _,vL _ _ _,.own _,vL _ _ _],U _ _]) Z)<|pq 7 (qxX (.agg [.own _,vL _ _ _,U _ _,U _ _,U _ _,U _ _,U _ _,vL _ _ _,vL _ _ _,vL _ _ _,U _ _,vL _ _ _,.own _,vL _ _ _]) Z)<|pq 8 (qxI Z)<|bn 10 Z (zB 2014 NA NB Z) (.inl Z)<|fT [0,4,7,14,30,31,32,66] [0,1,2,83,84,2004,2005,2007,2010,2014] ?_;refine vq 11 (j8 Z)<|fD<|gT ?_;refine⟨(_,_,_),x_149,⟨rfl,rfl,trivial⟩,⟨rfl,rfl,rfl,rfl,trivial⟩,rfl,rfl⟩
       refine v1 9 rfl (zA 2014 Ig rfl) (.inr rfl)<|bn 3 rfl (zS 2062 (ah kt [128,ahB,128,0,128]) iU lY rfl x_31) (.inr rfl) ?_;refine AF.freeze 2062 rfl ?_;refine bn 4 rfl (zC [(1,91),(2,92),(31,1),(32,2)] [91,92] [31,32] func18 (ahP u1 u2 hJ12 [128,ahB,128,0,128] ahv) x_60 rfl rfl) (.inl rfl)<|fT [0,4,7,14,30,31,32,63] [0,1,2,91,92,2004,2005,2007,2010,2014] ?_;refine AF.freeze 91 rfl ?_;refine AF.freeze 92 rfl ?_;refine bn 5 Z (zC [(1,83),(2,84)] [83,84] [] func27 (ahE (crD hJ12 [128,ahB,128,0,128]) (ahF ahv)) (trivial) Z Z) (.inr Z)<|vq 6 (sj (.au [.agg [.own _,vL _ _ _,U _ _,U _ _,U _ _,U _ _,U _ _,vL _ _ _,vL _ _ _,vL _ _ _,U _ _,vL _ _ _,.own _,vL _ _ _],U _ _]) Z)<|pq 7 (qxX (.agg [.own _,vL _ _ _,U _ _,U _ _,U _ _,U _ _,U _ _,vL _ _ _,vL _ _ _,vL _ _ _,U _ _,vL _ _ _,.own _,vL _ _ _]) Z)<|pq 8 (qxI Z)<|bn 10 Z (zB 2014 NA NB Z) (.inl Z)<|fT [0,4,7,14,30,31,32,66] [0,1,2,83,84,2004,2005,2007,2010,2014] ?_;refine vq 11 (j8 Z)<|fD<|gT ?_;refine⟨(_,_,_),x_149,⟨rfl,rfl,trivial⟩,⟨rfl,rfl,rfl,rfl,trivial⟩,rfl,rfl⟩
      refine v1 9 rfl (zA 2014 Ig rfl) (.inr rfl) ?_;refine abx (i:=2) rfl x_34 (Un [(0,0)] [] [0] rfl x_69 rfl func98 rfl rfl (ahp g code _ _ _ hc4) ⟨rfl,rfl,rfl⟩ x_11 (ahn) rfl) (.inl rfl) rfl ?_;rintro _ _ ⟨xz7,oz7,hz7,rfl,rfl⟩;obtain⟨i7,q7,hc7,⟨ah8,⟨na7,nb7⟩,rfl⟩,rfl⟩:=hz7;refine bn 3 rfl (zS 2062 (ah kt [128,ah8,128,0,128]) iU lY rfl x_31) (.inr rfl)<|fT [0,4,7,14,30,31,32,59,62] [0,1,2,2004,2005,2007,2010,2014,2062] ?_;refine AF.freeze 2062 rfl ?_;refine bn 4 rfl (zC [(1,91),(2,92),(31,1),(32,2)] [91,92] [31,32] func18 (ahP u1 u2 hJ12 [128,ah8,128,0,128] ahv) x_60 rfl rfl) (.inl rfl) ?_;refine AF.freeze 91 rfl ?_;refine AF.freeze 92 rfl ?_;refine bn 5 Z (zC [(1,83),(2,84)] [83,84] [] func27 (ahE (crD hJ12 [128,ah8,128,0,128]) (ahF ahv)) (trivial) Z Z) (.inr Z)<|vq 6 (sj (.au [.agg [.own _,vL _ _ _,U _ _,U _ _,U _ _,U _ _,U _ _,vL _ _ _,vL _ _ _,vL _ _ _,U _ _,vL _ _ _,.own _,vL _ _ _],U _ _]) Z)<|pq 7 (qxX (.agg [.own _,vL _ _ _,U _ _,U _ _,U _ _,U _ _,U _ _,vL _ _ _,vL _ _ _,vL _ _ _,U _ _,vL _ _ _,.own _,vL _ _ _]) Z)<|pq 8 (qxI Z)<|bn 10 Z (zB 2014 NA NB Z) (.inl Z)<|fT [0,4,7,14,30,31,32,66] [0,1,2,83,84,2004,2005,2007,2010,2014] ?_;refine vq 11 (j8 Z)<|fD<|gT ?_;refine⟨(_,_,_),x_149,⟨rfl,rfl,trivial⟩,⟨rfl,rfl,rfl,rfl,trivial⟩,rfl,rfl⟩
     ·refine abq (i:=2) rfl (Un [(0,0)] [] [0] rfl x_69 rfl func98 rfl rfl (ahp g code _ _ _ hc4) ⟨rfl,rfl,rfl⟩ x_11 (ahn) rfl) (.inl rfl) rfl ?_;rintro _ _ ⟨xz8,oz8,hz8,rfl,rfl⟩;obtain⟨i8,q8,hc8,⟨ahC,⟨na8,nb8⟩,rfl⟩,rfl⟩:=hz8;refine sq 0 (dw (.agg [.own _,vL _ _ _,U _ _,U _ _,U _ _,U _ _,U _ _,vL _ _ _,vL _ _ _,vL _ _ _,U _ _,vL _ _ _,.own _,vL _ _ _]) EZ rfl) ?_;refine AF.two (i:=3) (j:=9) x_34 ?_ ?_
      ·refine v1 3 rfl (zS 2062 (ah kt [128,ahC,128,0,128]) iU lY rfl x_31) (.inr rfl)<|fT [0,4,7,30,31,32,59,62] [0,1,2,2004,2005,2007,2010,2062] ?_;refine AF.freeze 2062 rfl ?_;refine AF.two (i:=4) (j:=9) x_34 ?_ ?_
       ·refine v1 4 rfl (zC [(1,91),(2,92),(31,1),(32,2)] [91,92] [31,32] func18 (ahP u1 u2 hJ12 [128,ahC,128,0,128] ahv) x_60 rfl rfl) (.inl rfl) ?_;refine AF.freeze 91 rfl ?_;refine AF.freeze 92 rfl ?_;refine AF.two (i:=5) (j:=9) x_34 ?_ ?_
        ·refine v1 5 Z (zC [(1,83),(2,84)] [83,84] [] func27 (ahE (crD hJ12 [128,ahC,128,0,128]) (ahF ahv)) (trivial) Z Z) (.inr Z)<|pq 6 (gL (.au [.agg [.own _,vL _ _ _,U _ _,U _ _,U _ _,U _ _,U _ _,vL _ _ _,vL _ _ _,vL _ _ _,U _ _,vL _ _ _,.own _,vL _ _ _],U _ _]) Z)<|pq 7 (qxX (.agg [.own _,vL _ _ _,U _ _,U _ _,U _ _,U _ _,U _ _,vL _ _ _,vL _ _ _,vL _ _ _,U _ _,vL _ _ _,.own _,vL _ _ _]) Z)<|pq 8 (qxI Z)<|bn 9 Z (zA 2014 Ig Z) (.inr Z)<|fT [0,4,7,14,30,31,32,65,66] [0,1,2,83,84,2004,2005,2007,2010,2014] ?_;refine bn 10 Z (zB 2014 NA NB Z) (.inl Z)<|vq 11 (j8 Z)<|fD<|gT ?_;refine⟨(_,_,_),x_149,⟨rfl,rfl,trivial⟩,⟨rfl,rfl,rfl,rfl,trivial⟩,rfl,rfl⟩
        refine v1 9 Z (zA 2014 Ig Z) (.inr Z)<|bn 5 Z (zC [(1,83),(2,84)] [83,84] [] func27 (ahE (crD hJ12 [128,ahC,128,0,128]) (ahF ahv)) (trivial) Z Z) (.inr Z)<|fT [0,4,7,14,30,31,32,64] [0,1,2,83,84,2004,2005,2007,2010,2014] ?_;refine vq 6 (sj (.au [.agg [.own _,vL _ _ _,U _ _,U _ _,U _ _,U _ _,U _ _,vL _ _ _,vL _ _ _,vL _ _ _,U _ _,vL _ _ _,.own _,vL _ _ _],U _ _]) Z)<|pq 7 (qxX (.agg [.own _,vL _ _ _,U _ _,U _ _,U _ _,U _ _,U _ _,vL _ _ _,vL _ _ _,vL _ _ _,U _ _,vL _ _ _,.own _,vL _ _ _]) Z)<|pq 8 (qxI Z)<|bn 10 Z (zB 2014 NA NB Z) (.inl Z)<|fT [0,4,7,14,30,31,32,66] [0,1,2,83,84,2004,2005,2007,2010,2014] ?_;refine vq 11 (j8 Z)<|fD<|gT ?_;refine⟨(_,_,_),x_149,⟨rfl,rfl,trivial⟩,⟨rfl,rfl,rfl,rfl,trivial⟩,rfl,rfl⟩
       refine v1 9 rfl (zA 2014 Ig rfl) (.inr rfl) ?_;refine bn 4 rfl (zC [(1,91),(2,92),(31,1),(32,2)] [91,92] [31,32] func18 (ahP u1 u2 hJ12 [128,ahC,128,0,128] ahv) x_60 rfl rfl) (.inl rfl) ?_;refine AF.freeze 91 rfl ?_;refine AF.freeze 92 rfl ?_;refine bn 5 Z (zC [(1,83),(2,84)] [83,84] [] func27 (ahE (crD hJ12 [128,ahC,128,0,128]) (ahF ahv)) (trivial) Z Z) (.inr Z)<|fT [0,4,7,14,30,31,32,64] [0,1,2,83,84,2004,2005,2007,2010,2014] ?_;refine vq 6 (sj (.au [.agg [.own _,vL _ _ _,U _ _,U _ _,U _ _,U _ _,U _ _,vL _ _ _,vL _ _ _,vL _ _ _,U _ _,vL _ _ _,.own _,vL _ _ _],U _ _]) Z)<|pq 7 (qxX (.agg [.own _,vL _ _ _,U _ _,U _ _,U _ _,U _ _,U _ _,vL _ _ _,vL _ _ _,vL _ _ _,U _ _,vL _ _ _,.own _,vL _ _ _]) Z)<|pq 8 (qxI Z)<|bn 10 Z (zB 2014 NA NB Z) (.inl Z)<|fT [0,4,7,14,30,31,32,66] [0,1,2,83,84,2004,2005,2007,2010,2014] ?_;refine vq 11 (j8 Z)<|fD<|gT ?_;refine⟨(_,_,_),x_149,⟨rfl,rfl,trivial⟩,⟨rfl,rfl,rfl,rfl,trivial⟩,rfl,rfl⟩
      refine v1 9 rfl (zA 2014 Ig rfl) (.inr rfl)<|bn 3 rfl (zS 2062 (ah kt [128,ahC,128,0,128]) iU lY rfl x_31) (.inr rfl) ?_;refine AF.freeze 2062 rfl ?_;refine bn 4 rfl (zC [(1,91),(2,92),(31,1),(32,2)] [91,92] [31,32] func18 (ahP u1 u2 hJ12 [128,ahC,128,0,128] ahv) x_60 rfl rfl) (.inl rfl)<|fT [0,4,7,14,30,31,32,63] [0,1,2,91,92,2004,2005,2007,2010,2014] ?_;refine AF.freeze 91 rfl ?_;refine AF.freeze 92 rfl ?_;refine bn 5 Z (zC [(1,83),(2,84)] [83,84] [] func27 (ahE (crD hJ12 [128,ahC,128,0,128]) (ahF ahv)) (trivial) Z Z) (.inr Z)<|vq 6 (sj (.au [.agg [.own _,vL _ _ _,U _ _,U _ _,U _ _,U _ _,U _ _,vL _ _ _,vL _ _ _,vL _ _ _,U _ _,vL _ _ _,.own _,vL _ _ _],U _ _]) Z)<|pq 7 (qxX (.agg [.own _,vL _ _ _,U _ _,U _ _,U _ _,U _ _,U _ _,vL _ _ _,vL _ _ _,vL _ _ _,U _ _,vL _ _ _,.own _,vL _ _ _]) Z)<|pq 8 (qxI Z)<|bn 10 Z (zB 2014 NA NB Z) (.inl Z)<|fT [0,4,7,14,30,31,32,66] [0,1,2,83,84,2004,2005,2007,2010,2014] ?_;refine vq 11 (j8 Z)<|fD<|gT ?_;refine⟨(_,_,_),x_149,⟨rfl,rfl,trivial⟩,⟨rfl,rfl,rfl,rfl,trivial⟩,rfl,rfl⟩
     refine v1 9 rfl (zA 2014 Ig rfl) (.inr rfl) ?_;refine AF.two (i:=0) (j:=2) x_34 ?_ ?_
     ·refine d9.rd (i:=0) (x:=.agg [.own _,vL _ _ _,U _ _,U _ _,U _ _,U _ _,U _ _,vL _ _ _,vL _ _ _,vL _ _ _,U _ _,vL _ _ _,.own _,vL _ _ _]) rfl (sC rfl EZ rfl rfl rfl rfl) rfl rfl x_3 ?_;refine abx (i:=2) rfl x_34 (Un [(0,0)] [] [0] rfl x_69 rfl func98 rfl rfl (ahp g code _ _ _ hc4) ⟨rfl,rfl,rfl⟩ x_11 (ahn) rfl) (.inl rfl) rfl ?_;rintro _ _ ⟨xz9,oz9,hz9,rfl,rfl⟩;obtain⟨i9,q9,hc9,⟨ahT,⟨na9,nb9⟩,rfl⟩,rfl⟩:=hz9;refine fT [0,4,7,14,30,31,32,59,61] [0,1,2,2004,2005,2007,2010,2014] ?_;refine bn 3 rfl (zS 2062 (ah kt [128,ahT,128,0,128]) iU lY rfl x_31) (.inr rfl) ?_;refine AF.freeze 2062 rfl ?_;refine bn 4 rfl (zC [(1,91),(2,92),(31,1),(32,2)] [91,92] [31,32] func18 (ahP u1 u2 hJ12 [128,ahT,128,0,128] ahv) x_60 rfl rfl) (.inl rfl) ?_;refine AF.freeze 91 rfl ?_;refine AF.freeze 92 rfl ?_;refine bn 5 Z (zC [(1,83),(2,84)] [83,84] [] func27 (ahE (crD hJ12 [128,ahT,128,0,128]) (ahF ahv)) (trivial) Z Z) (.inr Z)<|vq 6 (sj (.au [.agg [.own _,vL _ _ _,U _ _,U _ _,U _ _,U _ _,U _ _,vL _ _ _,vL _ _ _,vL _ _ _,U _ _,vL _ _ _,.own _,vL _ _ _],U _ _]) Z)<|pq 7 (qxX (.agg [.own _,vL _ _ _,U _ _,U _ _,U _ _,U _ _,U _ _,vL _ _ _,vL _ _ _,vL _ _ _,U _ _,vL _ _ _,.own _,vL _ _ _]) Z)<|pq 8 (qxI Z)<|bn 10 Z (zB 2014 NA NB Z) (.inl Z)<|fT [0,4,7,14,30,31,32,66] [0,1,2,83,84,2004,2005,2007,2010,2014] ?_;refine vq 11 (j8 Z)<|fD<|gT ?_;refine⟨(_,_,_),x_149,⟨rfl,rfl,trivial⟩,⟨rfl,rfl,rfl,rfl,trivial⟩,rfl,rfl⟩
     refine abq (i:=2) rfl (Un [(0,0)] [] [0] rfl x_69 rfl func98 rfl rfl (ahp g code _ _ _ hc4) ⟨rfl,rfl,rfl⟩ x_11 (ahn) rfl) (.inl rfl) rfl ?_;rintro _ _ ⟨aiW,aiX,ah0,rfl,rfl⟩;obtain⟨i10,q10,aik,⟨n10,⟨ail,aiY⟩,rfl⟩,rfl⟩:=ah0;refine sq 0 (dw (.agg [.own _,vL _ _ _,U _ _,U _ _,U _ _,U _ _,U _ _,vL _ _ _,vL _ _ _,vL _ _ _,U _ _,vL _ _ _,.own _,vL _ _ _]) EZ rfl)<|bn 3 rfl (zS 2062 (ah kt [128,n10,128,0,128]) iU lY rfl x_31) (.inr rfl)<|fT [0,4,7,14,30,31,32,59,62] [0,1,2,2004,2005,2007,2010,2014,2062] ?_;refine AF.freeze 2062 rfl ?_;refine bn 4 rfl (zC [(1,91),(2,92),(31,1),(32,2)] [91,92] [31,32] func18 (ahP u1 u2 hJ12 [128,n10,128,0,128] ahv) x_60 rfl rfl) (.inl rfl) ?_;refine AF.freeze 91 rfl ?_;refine AF.freeze 92 rfl ?_;refine bn 5 Z (zC [(1,83),(2,84)] [83,84] [] func27 (ahE (crD hJ12 [128,n10,128,0,128]) (ahF ahv)) (trivial) Z Z) (.inr Z)<|vq 6 (sj (.au [.agg [.own _,vL _ _ _,U _ _,U _ _,U _ _,U _ _,U _ _,vL _ _ _,vL _ _ _,vL _ _ _,U _ _,vL _ _ _,.own _,vL _ _ _],U _ _]) Z)<|pq 7 (qxX (.agg [.own _,vL _ _ _,U _ _,U _ _,U _ _,U _ _,U _ _,vL _ _ _,vL _ _ _,vL _ _ _,U _ _,vL _ _ _,.own _,vL _ _ _]) Z)<|pq 8 (qxI Z)<|bn 10 Z (zB 2014 NA NB Z) (.inl Z)<|fT [0,4,7,14,30,31,32,66] [0,1,2,83,84,2004,2005,2007,2010,2014] ?_;refine vq 11 (j8 Z)<|fD<|gT ?_;refine⟨(_,_,_),x_149,⟨rfl,rfl,trivial⟩,⟨rfl,rfl,rfl,rfl,trivial⟩,rfl,rfl⟩
    intro ⟨iW,qW,nW⟩ G8;dsimp only;replace G8:ahk code iW:=G8;refine sL<|ae Z<|ak Z<|Y ?_;refine AW.cond rfl ?_ ?_
    ·intro h5;refine aL<|aP (.agg [.own _,vL _ _ _,U _ _,U _ _,U _ _,U _ _,U _ _,vL _ _ _,vL _ _ _,vL _ _ _,U _ _,vL _ _ _,.own _,vL _ _ _]) EZ Z<|ab (zB 2007 NA NB Z) Z ?_;refine AL.swap 83 1 ?_;refine AL.swap 84 2 ?_;refine lT [0,4,7,30,31,32] [0,1,2,83,84,2004,2005,2007,2010,2014] ?_;refine lN<|gB<|gT<|aL<|bg Z<|ae Z<|Y ?_;skip;refine⟨(_,_,kJ+1,e6 (crD hJ12 [128,nW,128,0,128])),⟨by assumption,hk,W.aiT _ ahY (by have h:=h5;simpa using h)⟩,by show es1.length-(kJ+1)<es1.length-kJ;omega,⟨x_77,trivial⟩,⟨rfl,rfl,rfl,rfl,trivial⟩,rfl,rfl⟩
    intro h5;refine aK<|gB<|gT ?_;refine iQ 1 rfl ?_;refine iQ 2 rfl ?_;refine aL<|bg Z<|ae Z<|Y ?_;skip;refine⟨(_,_,kJ+1,hJ12),⟨by assumption,hk,W.mono ahY⟩,by show es1.length-(kJ+1)<es1.length-kJ;omega,⟨x_77,trivial⟩,⟨rfl,rfl,rfl,rfl,trivial⟩,rfl,rfl⟩
   intro h4;refine aK<|gB<|gT<|aL<|bg Z<|ae Z<|Y ?_;skip;refine⟨(_,_,kJ+1,hJ12),⟨by assumption,hk,W.mono ahY⟩,by show es1.length-(kJ+1)<es1.length-kJ;omega,⟨x_77,trivial⟩,⟨rfl,rfl,rfl,rfl,trivial⟩,rfl,rfl⟩
  intro h3;refine aa Z<|aa Z<|aa Z<|bL Z<|Y<|aN Z<|aK<|gB<|gT<|aL<|bg Z<|lT [0,4,7,30,31,32,70] [0,1,2,2004,2005,2007,2010] ?_;refine ae Z<|Y ?_;skip;refine⟨(_,_,kJ+1,hJ12),⟨by assumption,hk,W.mono ahY⟩,by show es1.length-(kJ+1)<es1.length-kJ;omega,⟨x_77,trivial⟩,⟨rfl,rfl,rfl,rfl,trivial⟩,rfl,rfl⟩
 intro V;refine aE<|eT<|eT<|eB<|gA<|aP (.agg [.own _,vL _ _ _,U _ _,U _ _,U _ _,U _ _,U _ _,vL _ _ _,vL _ _ _,vL _ _ _,U _ _,vL _ _ _,.own _,vL _ _ _]) EZ Z<|ab (zB 2004 NA NB Z) Z<|Y<|aR ?_;refine fN ((ahO hJ)) ((0,ahm g code iJ qJ)::obK hJ) ?_ rfl ⟨rfl,rfl,rfl,trivial⟩;exact⟨_,_,_,hcJ,⟨kJ,hJ,by have:=aiV.2;omega,hgJ,rfl,rfl⟩,rfl⟩

theorem AL.ah7{P:Program}{L O:Nat->Prop}{w0:World}{N:Nat}{Q:AQ}{ops:Array Oper}{l:List Oper}{τ:Nat->AV}{H:Nat->AO}(id:Nat){e:ga}{sz:Nat}{rows rows':List (List PV)}(hH:H id=.ai e sz rows)(hl:rows'.length=rows.length)(hr:∀ {w:World} {xs fr},bI w false sz rows xs fr->bI w false sz rows' xs fr)(hK:AL P L O w0 N ops l τ (aH H id (.ai e sz rows')) Q):AL P L O w0 N ops l τ H Q:=fun ρ fp a w h=>by
 obtain⟨ci,bH,q⟩:=h.ah7 id hH hl hr;exact hK ci bH a w q
theorem aky{e:TypeId}{sz:Nat}{w:World}{xs:List Value}{fr:List Nat}(h:bP w false [PV.v (.slice none 0 0)] xs fr):bP w false [PV.ab e sz []] xs fr:=by
 rw[bP]at *;obtain⟨c0,r0,g1,g2,rfl,rfl,k1,k2⟩:=h;refine⟨c0,r0,g1,g2,rfl,rfl,?_,k2⟩;rw[RW]at *;obtain⟨rfl,rfl,_⟩:=k1;refine⟨[],[],[],by rw[bI];exact⟨rfl,rfl⟩,?_,rfl⟩;unfold iF;simp only[Bool.false_eq_true,if_false];exact⟨none,0,rfl,by simp,by simp[maxLen],.inl ⟨rfl,trivial⟩⟩
theorem ajz{e:TypeId}{sz:Nat}{w:World}:∀(l:List (List PV)) (i:Nat) {xs:List Value} {fr:List Nat},bI w false 1 (l.set i [PV.v (.slice none 0 0)]) xs fr->bI w false 1 (l.set i [PV.ab e sz []]) xs fr
 |[],i,xs,fr,h=>h
 |r::l,0,xs,fr,h=>by
  rw[List.set_cons_zero,bI]at *;obtain⟨V,c,r,f1,f2,rfl,rfl,h2,h3⟩:=h;exact⟨rfl,c,r,f1,f2,rfl,rfl,aky h2,h3⟩
 |r::l,i+1,xs,fr,h=>by
  rw[List.set_cons_succ,bI]at *;obtain⟨V,c,r,f1,f2,rfl,rfl,h2,h3⟩:=h;exact⟨V,c,r,f1,f2,rfl,rfl,h2,ajz l i h3⟩
end Go.Proofs.YtflhgkmhmcfimaaGreat

