/- Texts of the proof of FnFnAgain, joined: EB. -/
import Derived.Test.YtflhgkmhmcfimaaGreatJAgain6
import Derived.Test.YtflhgkmhmcfimaaGreatJAgain4
import Derived.Test.YtflhgkmhmcfimaaGreatJAgain5
import Derived.Test.YtflhgkmhmcfimaaGreatQHasI
namespace Go.Proofs.YtflhgkmhmcfimaaGreat
open Tryz
open Go.RowKit
set_option maxHeartbeats 16000000
set_option maxRecDepth 100000
set_option linter.unusedSimpArgs false
set_option linter.unusedVariables false
def cj(x:aw):AV:=.agg [.p (.v (.int .i64 x.tick)),.p (.v (.int .i64 x.next)),.p (.v (.int .i64 x.aA)),.p (.ab 159 7 (ah aX x.ag)),.p (.ab 218 7 (ah go x.an)),.p (.ab 220 5 (ah iX x.aq))]
structure di(x:aw):Prop where
 ag:∀c∈x.ag,qn c
 an:∀c∈x.an,ue c
 aq:∀c∈x.aq,vo c
 len:x.ag.length<=1048576
theorem ZE{P:Program}{o:Oper}{τ:Nat->AV}{H:Nat->AO}{X:Nat->Bool}{fn:Fn}{c:Operand}{y:AV}(h:(o.op,ev τ c)=(.makeFunc fn #[] #[c],y)):Rd P o τ H X (.fQ fn [] [y]):=by
 simp only[Prod.mk.injEq]at h;rw[<-h.2];exact K0 (f:=[]) (cs:=[c]) h.1
theorem zE(n lo hi:Int):GC prog 92 [int n,int lo,int hi] [] (aD (aI n lo hi)) []:=by
 refine gi 6 func92 rfl ntmps92 rfl ?_;intro L O w0;refine sL<|ar Z<|nA<|ae Z<|ae Z<|ak Z<|aQ Z ?_;refine AL.bool (t:=10) rfl ?_ ?_
 ·intro V;refine ae Z<|ae Z<|ak Z<|bj Z<|bv Z<|Y<|aR ?_;refine az trivial ?_;grind[aI]
 intro V;refine aa Z<|aa Z<|aa Z<|bL Z<|ar Z<|Y<|aR ?_;refine az trivial ?_;grind[aI]
theorem qy(n:Int):GC prog 189 [int n] [] (aD (bb n)) []:=by
 refine gi 2 func189 rfl ntmps189 rfl ?_;intro L O w0;refine sL<|ar Z<|nA<|ae Z<|ab (zC [] [] [] func92 (zE _ _ _) (trivial) Z Z) Z<|bv Z<|Y<|aR ?_;trivial
theorem PJ(n:Int):GC prog 210 [int n] [] (aD (fE n)) []:=by
 refine gi 2 func210 rfl ntmps210 rfl ?_;intro L O w0;refine sL<|ar Z<|nA<|ae Z<|ab (zC [] [] [] func92 (zE _ _ _) (trivial) Z Z) Z<|bv Z<|Y<|aR ?_;trivial
theorem PK(n:Int):GC prog 191 [int n] [] (aD (gf n)) []:=by
 refine gi 2 func191 rfl ntmps191 rfl ?_;intro L O w0;refine sL<|ar Z<|nA<|ae Z<|ab (zC [] [] [] func92 (zE _ _ _) (trivial) Z Z) Z<|bv Z<|Y<|aR ?_;trivial
theorem PL(n:Int):GC prog 192 [int n] [] (aD (xQ n)) []:=by
 refine gi 2 func192 rfl ntmps192 rfl ?_;intro L O w0;refine sL<|ar Z<|nA<|ae Z<|ab (zC [] [] [] func92 (zE _ _ _) (trivial) Z Z) Z<|bv Z<|Y<|aR ?_;trivial
theorem pT(n:Int):GC prog 242 [int n] [] (aD (bb n)) []:=by
 refine gi 2 func242 rfl ntmps242 rfl ?_;intro L O w0;refine sL<|ar Z<|nA<|ae Z<|ak Z<|aQ Z ?_;refine AL.bool (t:=5) rfl ?_ ?_
 ·intro V;refine ae Z<|ak Z<|bj Z<|bv Z<|Y<|aR ?_;refine az trivial ?_;grind[bb,aI]
 intro V;refine aa Z<|aa Z<|bL Z<|ar Z<|Y<|aR ?_;refine az trivial ?_;grind[bb,aI]
theorem PM(n:Int):GC prog 244 [int n] [] (aD (xQ n)) []:=by
 refine gi 2 func244 rfl ntmps244 rfl ?_;intro L O w0;refine sL<|ar Z<|nA<|ae Z<|ak Z<|aQ Z ?_;refine AL.bool (t:=5) rfl ?_ ?_
 ·intro V;refine ae Z<|ak Z<|bj Z<|bv Z<|Y<|aR ?_;refine az trivial ?_;grind[xQ,aI]
 intro V;refine aa Z<|aa Z<|bL Z<|ar Z<|Y<|aR ?_;refine az trivial ?_;grind[xQ,aI]
theorem x_11{p:Prop}(c:p:=by exact ⟨(iq rfl),trivial⟩):p:=c
theorem x_44{p:Prop}(c:p:=by exact ⟨k+1,⟨hk,ko⟩,by omega,x_11,trivial,rfl,rfl⟩):p:=c
theorem PN(x:aw)(ch:Int)(hw:di x):GC prog 125 [cj x,int ch] [] (int (eS x.ag ch)) []:=by
 refine gi 4 func125 rfl ntmps125 rfl ?_;intro L O w0;refine sL<|ab (zX 2002 Z) Z<|ao Z<|Y<|aS<|sL<|lf 3 dr Z<|bo eg Z<|ba kJ Z<|ae Z<|Y<|aB ?_;refine aW [1,4,8,9] [2002] (D:=Nat) (fun k=>[(10,int (k:Int))]) (fun k=>[]) (fun k=>k<=x.ag.length/\∀j (h:j<x.ag.length),j<k->x.ag[j].id≠ch) (fun k=>x.ag.length-k) (0) (⟨Nat.zero_le _,fun j _ h=>absurd h x_2⟩) ⟨rfl,trivial⟩ trivial ?_;intro k hI;obtain⟨eN,bB⟩:=hI;have ZF:k<=1048576:=by have:=hw.len;omega
 refine sL<|ak Z<|Y<|aS<|cE rfl ?_ ?_
 ·intro V;refine aK<|gT<|aS<|aB<|sL ?_;have hk:k<x.ag.length:=by simpa[ap]using V
  refine ae Z<|li k cz Z (bS hk)<|d6 k7 fF Z<|ab (zA 2006 dy Z) Z<|ao Z<|ab (zB 2006 lu lv Z) Z<|nA<|lf 0 kM Z<|aj ac Z<|ae Z<|ak Z<|Y<|cE rfl ?_ ?_
  ·intro h2;refine sL<|ae Z<|ao Z<|Y<|aR<|rB<|rT<|rT<|rB<|rT ?_;refine ax ?_ trivial;refine congrArg (fun b=>some (int b)) ?_;grind[PO]
  intro h2;refine aK<|gB<|gT<|aL<|bg Z<|ae Z<|Y ?_;have ko:∀j (h:j<x.ag.length),j<k+1->x.ag[j].id≠ch:=fun j h hj=>(Nat.lt_or_ge j k).elim (bB j h) (fun q=>by
   grind)
  refine x_44
 intro V;refine aE<|eT<|eT<|eB<|gA<|ao Z<|Y<|aR ?_;refine ax ?_ trivial;refine congrArg (fun b=>some (int b)) ?_;grind[PP,ap]
theorem PQ(x:aw)(ch:Int)(hw:di x):GC prog 200 [cj x,int ch] [] (int (eS x.ag ch)) []:=by
 refine gi 4 func200 rfl ntmps200 rfl ?_;intro L O w0;refine sL<|ab (zX 2002 Z) Z<|ao Z<|Y<|aS<|sL<|lf 3 dr Z<|bo eg Z<|ba kJ Z<|ae Z<|Y<|aB ?_;refine aW [1,2,4,8] [2002] (D:=Nat) (fun k=>[(9,int (k:Int))]) (fun k=>[]) (fun k=>k<=x.ag.length/\∀j (h:j<x.ag.length),j<k->x.ag[j].id≠ch) (fun k=>x.ag.length-k) (0) (⟨Nat.zero_le _,fun j _ h=>absurd h x_2⟩) ⟨rfl,trivial⟩ trivial ?_;intro k hI;obtain⟨eN,bB⟩:=hI;have ZF:k<=1048576:=by have:=hw.len;omega
 refine sL<|ak Z<|Y<|aS<|cE rfl ?_ ?_
 ·intro V;refine aK<|gT<|aS<|aB<|sL ?_;have hk:k<x.ag.length:=by simpa[ap]using V
  refine ae Z<|ao Z<|nA<|lf 3 dr Z<|bo eg Z<|ae Z<|li k cz Z (bS hk)<|lq (rd (x:=.rp _) (nM kM Z) Z)<|oy ac Z<|ae Z<|ak Z<|Y<|cE rfl ?_ ?_
  ·intro h2;refine sL<|ae Z<|ao Z<|Y<|aR<|rB<|rT<|rT<|rB<|rT ?_;refine ax ?_ trivial;refine congrArg (fun b=>some (int b)) ?_;grind[PO]
  intro h2;refine aK<|gB<|gT<|aL<|bg Z<|ae Z<|Y ?_;have ko:∀j (h:j<x.ag.length),j<k+1->x.ag[j].id≠ch:=fun j h hj=>(Nat.lt_or_ge j k).elim (bB j h) (fun q=>by
   grind)
  refine x_44
 intro V;refine aE<|eT<|eT<|eB<|gA<|ao Z<|Y<|aR ?_;refine ax ?_ trivial;refine congrArg (fun b=>some (int b)) ?_;grind[PP,ap]
theorem x_31{p:Prop}(c:p:=by exact ⟨k+1,hk,by omega,⟨(iq rfl),(iq rfl),trivial⟩,trivial,rfl,rfl⟩):p:=c
theorem x_33{p:Prop}(c:p:=by grind[ap]):p:=c
theorem x_107{p:Prop}(c:p:=by exact Eq.trans (b:=int _) rfl (congrArg int (by grind[bG]))):p:=c
theorem x_118{p:Prop}(c:p:=by exact Eq.trans (b:=int _) rfl (congrArg int (by rfl))):p:=c
theorem PR(x:aw)(ch:Int)(hw:di x)(sm:Small x):GC prog 245 [cj x,int ch] [] (int (fB x ch)) []:=by
 refine gi 4 func245 rfl ntmps245 rfl ?_;intro L O w0;refine sL<|ab (zX 2002 Z) Z<|ao Z<|nA<|ao Z<|Y<|aS<|sL<|lf 4 eF Z<|bo fS Z<|ba jb Z<|ae Z<|Y<|aB ?_;refine aW [1,2,4,11,12] [2002] (D:=Nat) (fun k=>[(5,int (bG (dK ch) (x.an.take k))),(13,int (k:Int))]) (fun k=>[]) (fun k=>k<=x.an.length) (fun k=>x.an.length-k) (0) (Nat.zero_le _) ⟨x_118,rfl,trivial⟩ trivial ?_;intro k hI;refine sL<|ak Z<|Y<|aS<|cE rfl ?_ ?_
 ·intro V;refine aK<|gT<|aS<|aB<|sL ?_;have hk:k<x.an.length:=by simpa[ap]using V
  have ZG:=oI 60 x_2 (sm.dK ch) sm.nh k;have ZH:=oJ (dK ch) x.an hk;have hr:=sm.h _ (List.getElem_mem hk);have wv:=sm.nh;refine li k f7 Z (bS hk)<|d6 nG kZ Z<|ab (zA 2007 iu Z) Z<|ab (zB 2007 nJ nL Z) Z<|nA<|lf 2 mJ Z<|aj ac Z<|ae Z<|ak Z<|Y<|cE rfl ?_ ?_
  ·intro h2;refine aL<|ae Z<|lf 4 kw Z<|aj ac Z<|bg Z<|ao Z<|lN<|gB<|gT<|aL<|bg Z<|ae Z<|Y ?_;have C7:dK ch x.an[k]=x.an[k].c9:=by unfold dK;have h:=h2;simp at h;simp[h]
   refine x_31
  intro h2;refine aK<|gB<|gT<|aL<|bg Z<|ae Z<|Y ?_;have C7:dK ch x.an[k]=0:=by unfold dK;have h:=h2;simp at h;simp[h]
  refine x_31
 intro V;refine aE<|eT<|eT<|eB<|gT<|aS<|sL<|lf 5 gn Z<|bo ii Z<|ba j7 Z<|ae Z<|Y<|aB ?_;have dZ:x.an.take k=x.an:=List.take_of_length_le x_33;refine aW [1,4,27,28] [2002] (D:=Nat) (fun k=>[(5,int (bG (dK ch) x.an+bG (eR ch) (x.aq.take k))),(29,int (k:Int))]) (fun k=>[]) (fun k=>k<=x.aq.length) (fun k=>x.aq.length-k) (0) (Nat.zero_le _) ⟨x_107,rfl,trivial⟩ trivial ?_;intro k hI;refine sL<|ak Z<|lT [1,4,5,27,28,29,30] [2002] ?_;refine Y<|aS<|cE rfl ?_ ?_
 ·intro h3;refine aK<|gT<|aS<|aB<|sL ?_;have hk:k<x.aq.length:=by simpa[ap]using h3
  have ZI:=oI 20 x_2 (sm.eR ch) sm.nc k;have ZJ:=oJ (eR ch) x.aq hk;have hr:=sm.c _ (List.getElem_mem hk);have wv:=sm.nc;have ZK:=sd (dK ch) 1125899906842624 x_2 x.an (sm.dK ch);have PS:=sm.nh;refine li k iI Z (bS hk)<|d6 ow l5 Z<|ab (zA 2009 jO Z) Z<|ab (zB 2009 oK oL Z) Z<|nA<|lf 1 nO Z<|aj ac Z<|ae Z<|ak Z<|Y<|cE rfl ?_ ?_
  ·intro h4;refine aL<|ae Z<|lf 3 lO Z<|aj ac Z<|bg Z<|lf 4 pO Z<|aj ac Z<|bg Z<|ao Z<|lN<|gB<|gT<|aL<|bg Z<|ae Z<|Y ?_;have C8:eR ch x.aq[k]=x.aq[k].af+x.aq[k].ay:=by unfold eR;have h:=h4;simp at h;simp[h]
   refine x_31
  intro h4;refine aK<|gB<|gT<|aL<|bg Z<|ae Z<|Y ?_;have C8:eR ch x.aq[k]=0:=by unfold eR;have h:=h4;simp at h;simp[h]
  refine x_31
 intro h3;refine aE<|eT<|eT<|eB<|gA<|ae Z<|ao Z<|Y<|aR ?_;refine ax ?_ trivial;rw[List.take_of_length_le x_33];rfl
theorem PT(x:aw)(ch:Int)(hw:di x)(sm:Small x):GC prog 246 [cj x,int ch] [] (int (jh x ch)) []:=by
 refine gi 4 func246 rfl ntmps246 rfl ?_;intro L O w0;refine sL<|ab (zX 2002 Z) Z<|ao Z<|nA<|ao Z<|Y<|aS<|sL<|lf 4 eF Z<|bo fS Z<|ba jb Z<|ae Z<|Y<|aB ?_;refine aW [1,2,4,11,12] [2002] (D:=Nat) (fun k=>[(5,int (bG (gx ch) (x.an.take k))),(13,int (k:Int))]) (fun k=>[]) (fun k=>k<=x.an.length) (fun k=>x.an.length-k) (0) (Nat.zero_le _) ⟨x_118,rfl,trivial⟩ trivial ?_;intro k hI;refine sL<|ak Z<|Y<|aS<|cE rfl ?_ ?_
 ·intro V;refine aK<|gT<|aS<|aB<|sL ?_;have hk:k<x.an.length:=by simpa[ap]using V
  have ZL:=oI 60 x_2 (sm.gx ch) sm.nh k;have ZM:=oJ (gx ch) x.an hk;have hr:=sm.h _ (List.getElem_mem hk);have wv:=sm.nh;refine li k f7 Z (bS hk)<|d6 nG kZ Z<|ab (zA 2007 iu Z) Z<|ab (zB 2007 nJ nL Z) Z<|nA<|lf 1 oM Z<|aj ac Z<|ae Z<|ak Z<|Y<|cE rfl ?_ ?_
  ·intro h2;refine aL<|ae Z<|lf 3 n3 Z<|aj ac Z<|bg Z<|ao Z<|lN<|gB<|gT<|aL<|bg Z<|ae Z<|Y ?_;have C9:gx ch x.an[k]=x.an[k].cW:=by unfold gx;have h:=h2;simp at h;simp[h]
   refine x_31
  intro h2;refine aK<|gB<|gT<|aL<|bg Z<|ae Z<|Y ?_;have C9:gx ch x.an[k]=0:=by unfold gx;have h:=h2;simp at h;simp[h]
  refine x_31
 intro V;refine aE<|eT<|eT<|eB<|gT<|aS<|sL<|lf 5 gn Z<|bo ii Z<|ba j7 Z<|ae Z<|Y<|aB ?_;have dZ:x.an.take k=x.an:=List.take_of_length_le x_33;refine aW [1,4,27,28] [2002] (D:=Nat) (fun k=>[(5,int (bG (gx ch) x.an+bG (ix ch) (x.aq.take k))),(29,int (k:Int))]) (fun k=>[]) (fun k=>k<=x.aq.length) (fun k=>x.aq.length-k) (0) (Nat.zero_le _) ⟨x_107,rfl,trivial⟩ trivial ?_;intro k hI;refine sL<|ak Z<|lT [1,4,5,27,28,29,30] [2002] ?_;refine Y<|aS<|cE rfl ?_ ?_
 ·intro h3;refine aK<|gT<|aS<|aB<|sL ?_;have hk:k<x.aq.length:=by simpa[ap]using h3
  have ZN:=oI 20 x_2 (sm.ix ch) sm.nc k;have ZO:=oJ (ix ch) x.aq hk;have hr:=sm.c _ (List.getElem_mem hk);have wv:=sm.nc;have ZP:=sd (gx ch) 1125899906842624 x_2 x.an (sm.gx ch);have PS:=sm.nh;refine li k iI Z (bS hk)<|d6 ow l5 Z<|ab (zA 2009 jO Z) Z<|ab (zB 2009 oK oL Z) Z<|nA<|lf 2 py Z<|aj ac Z<|ae Z<|ak Z<|Y<|cE rfl ?_ ?_
  ·intro h4;refine aL<|ae Z<|lf 3 lO Z<|aj ac Z<|bg Z<|ao Z<|lN<|gB<|gT<|aL<|bg Z<|ae Z<|Y ?_;have C':ix ch x.aq[k]=x.aq[k].af:=by unfold ix;have h:=h4;simp at h;simp[h]
   refine x_31
  intro h4;refine aK<|gB<|gT<|aL<|bg Z<|ae Z<|Y ?_;have C':ix ch x.aq[k]=0:=by unfold ix;have h:=h4;simp at h;simp[h]
  refine x_31
 intro h3;refine aE<|eT<|eT<|eB<|gA<|ae Z<|ao Z<|Y<|aR ?_;refine ax ?_ trivial;rw[List.take_of_length_le x_33];rfl
theorem x_27{p:Prop}(c:p:=by exact ⟨k+1,hk,by omega,⟨(iq rfl),(iq rfl),(iq rfl),trivial⟩,trivial,rfl,rfl⟩):p:=c
theorem PU(x:aw)(ch:Int)(hw:di x)(sm:Small x):GC prog 126 [cj x,int ch] [] (.au [int (fB x ch),int (jh x ch)]) []:=by
 refine GC.intro (rs:=[.tmp 4,.tmp 5]) func126 rfl ntmps126 x_8 ⟨rfl,rfl,trivial⟩ ?_;intro L O w0;refine sL<|ab (zX 2002 Z) Z<|ao Z<|ao Z<|nA<|ao Z<|ao Z<|Y<|aS<|sL<|lf 4 eF Z<|bo fS Z<|ba jb Z<|ae Z<|Y<|aB ?_;refine aW [1,2,4,5,13,14] [2002] (D:=Nat) (fun k=>[(6,int (bG (dK ch) (x.an.take k))),(7,int (bG (gx ch) (x.an.take k))),(15,int (k:Int))]) (fun k=>[]) (fun k=>k<=x.an.length) (fun k=>x.an.length-k) (0) (Nat.zero_le _) ⟨x_118,x_118,rfl,trivial⟩ trivial ?_;intro k hI;refine sL<|ak Z<|Y<|aS<|cE rfl ?_ ?_
 ·intro V;refine aK<|gT<|aS<|aB<|sL ?_;have hk:k<x.an.length:=by simpa[ap]using V
  have ZG:=oI 60 x_2 (sm.dK ch) sm.nh k;have ZH:=oJ (dK ch) x.an hk;have ZL:=oI 60 x_2 (sm.gx ch) sm.nh k;have ZM:=oJ (gx ch) x.an hk;have hr:=sm.h _ (List.getElem_mem hk);have wv:=sm.nh;refine li k f7 Z (bS hk)<|d6 nG kZ Z<|ab (zA 2009 iu Z) Z<|ab (zB 2009 nJ nL Z) Z<|lT [1,2,4,5,6,7,9,13,14,15] [2002,2009] ?_;refine Y<|aS<|sL<|lf 2 mJ Z<|aj ac Z<|ae Z<|ak Z<|Y<|cE rfl ?_ ?_
  ·intro h2;refine aL<|ae Z<|lf 4 kw Z<|aj ac Z<|bg Z<|ao Z<|nA<|lf 1 oM Z<|aj ac Z<|ae Z<|ak Z<|Y<|cE rfl ?_ ?_
   ·intro h3;refine aL<|ae Z<|lf 3 n3 Z<|aj ac Z<|bg Z<|ao Z<|lN<|gB<|gT<|aL<|bg Z<|ae Z<|Y ?_;have C7:dK ch x.an[k]=x.an[k].c9:=by unfold dK;have h:=h2;simp at h;simp[h]
    have C9:gx ch x.an[k]=x.an[k].cW:=by unfold gx;have h:=h3;simp at h;simp[h]
    refine x_27
   intro h3;refine aK<|gB<|gT<|aL<|bg Z<|ae Z<|Y ?_;have C7:dK ch x.an[k]=x.an[k].c9:=by unfold dK;have h:=h2;simp at h;simp[h]
   have C9:gx ch x.an[k]=0:=by unfold gx;have h:=h3;simp at h;simp[h]
   refine x_27
  intro h2;refine aK<|gA<|lf 1 oM Z<|aj ac Z<|ae Z<|ak Z<|Y<|cE rfl ?_ ?_
  ·intro h4;refine aL<|ae Z<|lf 3 n3 Z<|aj ac Z<|bg Z<|lT [1,2,4,5,6,7,13,14,15,34] [2002,2009] ?_;refine ao Z<|lN<|gB<|gT<|aL<|bg Z<|ae Z<|Y ?_;have C7:dK ch x.an[k]=0:=by unfold dK;have h:=h2;simp at h;simp[h]
   have C9:gx ch x.an[k]=x.an[k].cW:=by unfold gx;have h:=h4;simp at h;simp[h]
   refine x_27
  intro h4;refine aK<|gB<|gT<|aL<|bg Z<|ae Z<|Y ?_;have C7:dK ch x.an[k]=0:=by unfold dK;have h:=h2;simp at h;simp[h]
  have C9:gx ch x.an[k]=0:=by unfold gx;have h:=h4;simp at h;simp[h]
  refine x_27
 intro V;refine aE<|eT<|eT<|eB<|gT<|aS<|sL<|lf 5 gn Z<|bo ii Z<|ba j7 Z<|ae Z<|Y<|aB ?_;have dZ:x.an.take k=x.an:=List.take_of_length_le x_33;refine aW [1,4,5,37,38] [2002] (D:=Nat) (fun k=>[(6,int (bG (dK ch) x.an+bG (eR ch) (x.aq.take k))),(7,int (bG (gx ch) x.an+bG (ix ch) (x.aq.take k))),(39,int (k:Int))]) (fun k=>[]) (fun k=>k<=x.aq.length) (fun k=>x.aq.length-k) (0) (Nat.zero_le _) ⟨x_107,x_107,rfl,trivial⟩ trivial ?_;intro k hI;refine sL<|ak Z<|Y<|aS<|cE rfl ?_ ?_
 ·intro h5;refine aK<|gT<|aS<|aB<|sL ?_;have hk:k<x.aq.length:=by simpa[ap]using h5
  have ZI:=oI 20 x_2 (sm.eR ch) sm.nc k;have ZJ:=oJ (eR ch) x.aq hk;have ZN:=oI 20 x_2 (sm.ix ch) sm.nc k;have ZO:=oJ (ix ch) x.aq hk;have hr:=sm.c _ (List.getElem_mem hk);have wv:=sm.nc;have ZK:=sd (dK ch) 1125899906842624 x_2 x.an (sm.dK ch);have ZP:=sd (gx ch) 1125899906842624 x_2 x.an (sm.gx ch);have PS:=sm.nh;refine li k iI Z (bS hk)<|d6 ow l5 Z<|ab (zA 2011 jO Z) Z<|ab (zB 2011 oK oL Z) Z<|lT [1,4,5,6,7,11,37,38,39] [2002,2011] ?_;refine Y<|aS<|sL<|lf 1 nO Z<|aj ac Z<|ae Z<|ak Z<|Y<|cE rfl ?_ ?_
  ·intro h6;refine aL<|ae Z<|lf 3 lO Z<|aj ac Z<|lf 4 pO Z<|aj ac Z<|bg Z<|bg Z<|ao Z<|nA<|lf 2 py Z<|aj ac Z<|ae Z<|ak Z<|Y<|cE rfl ?_ ?_
   ·intro h7;refine aL<|ae Z<|lf 3 lO Z<|aj ac Z<|bg Z<|ao Z<|lN<|gB<|gT<|aL<|bg Z<|ae Z<|Y ?_;have C8:eR ch x.aq[k]=x.aq[k].af+x.aq[k].ay:=by unfold eR;have h:=h6;simp at h;simp[h]
    have C':ix ch x.aq[k]=x.aq[k].af:=by unfold ix;have h:=h7;simp at h;simp[h]
    refine x_27
   intro h7;refine aK<|gB<|gT<|aL<|bg Z<|ae Z<|Y ?_;have C8:eR ch x.aq[k]=x.aq[k].af+x.aq[k].ay:=by unfold eR;have h:=h6;simp at h;simp[h]
   have C':ix ch x.aq[k]=0:=by unfold ix;have h:=h7;simp at h;simp[h]
   refine x_27
  intro h6;refine aK<|gA<|lf 2 py Z<|aj ac Z<|ae Z<|ak Z<|Y<|cE rfl ?_ ?_
  ·intro h8;refine aL<|ae Z<|lT [1,4,5,6,7,11,37,38,39,58] [2002,2011] ?_;refine lf 3 lO Z<|aj ac Z<|bg Z<|ao Z<|lN<|gB<|gT<|aL<|bg Z<|ae Z<|Y ?_;have C8:eR ch x.aq[k]=0:=by unfold eR;have h:=h6;simp at h;simp[h]
   have C':ix ch x.aq[k]=x.aq[k].af:=by unfold ix;have h:=h8;simp at h;simp[h]
   refine x_27
  intro h8;refine aK<|gB<|gT<|aL<|bg Z<|ae Z<|Y ?_;have C8:eR ch x.aq[k]=0:=by unfold eR;have h:=h6;simp at h;simp[h]
  have C':ix ch x.aq[k]=0:=by unfold ix;have h:=h8;simp at h;simp[h]
  refine x_27
 intro h5;refine aE<|eT<|eT<|eB<|gA<|ae Z<|ae Z<|ao Z<|ao Z<|Y<|aR ?_;refine ax ?_ trivial;rw[List.take_of_length_le x_33];rfl
theorem ZQ(l:List Int)(n:Int)(hn:l.length<=1048576):GC prog 250 [.p (.ab 3 1 (ah kI l)),int n] [] (aD (wm l n)) []:=by
 refine gi 4 func250 rfl ntmps250 rfl ?_;intro L O w0;refine sL<|ar Z<|Y<|aS<|sL<|bm Z<|ba x4 Z<|ae Z<|Y<|aB ?_;refine aW [1,4,7,8] [] (D:=Nat) (fun k=>[(9,int (k:Int))]) (fun k=>[]) (fun k=>k<=l.length/\∀j (h:j<l.length),j<k->l[j]≠n) (fun k=>l.length-k) (0) (⟨Nat.zero_le _,fun j _ h=>absurd h x_2⟩) ⟨rfl,trivial⟩ trivial ?_;intro k hI;obtain⟨eN,bB⟩:=hI;refine sL<|ak Z<|Y<|aS<|cE rfl ?_ ?_
 ·intro V;refine aK<|gT<|aS<|aB<|sL ?_;have hk:k<l.length:=by simpa[ap]using V
  refine li k iU Z (bS hk)<|oy ac Z<|ao Z<|nA<|ae Z<|ae Z<|ak Z<|Y<|cE rfl ?_ ?_
  ·intro h2;refine sL<|cI Z<|Y<|aR<|rB<|rT<|rT<|rB<|rT ?_;refine az trivial ?_;grind[Jn]
  intro h2;refine aK<|gB<|gT<|aL<|bg Z<|ae Z<|Y ?_;have ko:∀j (h:j<l.length),j<k+1->l[j]≠n:=fun j h hj=>(Nat.lt_or_ge j k).elim (bB j h) (fun q=>by
   grind)
  refine x_44
 intro V;refine aE<|eT<|eT<|eB<|gA<|ar Z<|Y<|aR ?_;refine az trivial ?_;grind[PW,ap]
theorem ZR(l:List Int)(n:Int)(hn:l.length<=1048576):GC prog 253 [.p (.ab 3 1 (ah kI l)),int n] [] (aD (wm l n)) []:=by
 refine gi 4 func253 rfl ntmps253 rfl ?_;intro L O w0;refine sL<|ar Z<|Y<|aS<|sL<|bm Z<|ba x4 Z<|ae Z<|Y<|aB ?_;refine aW [1,4,7,8] [] (D:=Nat) (fun k=>[(9,int (k:Int))]) (fun k=>[]) (fun k=>k<=l.length/\∀j (h:j<l.length),j<k->l[j]≠n) (fun k=>l.length-k) (0) (⟨Nat.zero_le _,fun j _ h=>absurd h x_2⟩) ⟨rfl,trivial⟩ trivial ?_;intro k hI;obtain⟨eN,bB⟩:=hI;refine sL<|ak Z<|Y<|aS<|cE rfl ?_ ?_
 ·intro V;refine aK<|gT<|aS<|aB<|sL ?_;have hk:k<l.length:=by simpa[ap]using V
  refine li k iU Z (bS hk)<|oy ac Z<|ao Z<|nA<|ae Z<|ae Z<|ak Z<|Y<|cE rfl ?_ ?_
  ·intro h2;refine sL<|cI Z<|Y<|aR<|rB<|rT<|rT<|rB<|rT ?_;refine az trivial ?_;grind[Jn]
  intro h2;refine aK<|gB<|gT<|aL<|bg Z<|ae Z<|Y ?_;have ko:∀j (h:j<l.length),j<k+1->l[j]≠n:=fun j h hj=>(Nat.lt_or_ge j k).elim (bB j h) (fun q=>by
   grind)
  refine x_44
 intro V;refine aE<|eT<|eT<|eB<|gA<|ar Z<|Y<|aR ?_;refine az trivial ?_;grind[PW,ap]
theorem PX(x:aw)(a b:Int)(hw:di x):GC prog 255 [cj x,int a,int b] [] (aD (two x.ag a b)) []:=by
 refine gi 6 func255 rfl ntmps255 rfl ?_;intro L O w0;refine sL<|ab (zX 2003 Z) Z<|ar Z<|nA<|ae Z<|ae Z<|ak Z<|aQ Z ?_;refine AL.bool (t:=10) rfl ?_ ?_
 ·intro V;refine aP h1 cu Z<|ae Z<|ab (zC [] [] [] func200 (PQ x _ hw) (trivial) Z Z) Z<|ak Z<|bj Z<|aQ Z ?_;refine AL.bool (t:=16) rfl ?_ ?_
  ·intro h2;refine aP h1 cu Z<|ae Z<|ab (zC [] [] [] func200 (PQ x _ hw) (trivial) Z Z) Z<|lT [6,16,19] [2003] ?_;refine ak Z<|bj Z<|bv Z<|Y<|aR ?_;refine az trivial ?_;grind[two]
  intro h2;refine aa Z<|aa Z<|aa Z<|aa Z<|bL Z<|ar Z<|Y<|aR ?_;refine az trivial ?_;grind[two]
 intro V;refine aa Z<|aa Z<|aa Z<|aa Z<|bL Z<|dm Z<|aa Z<|aa Z<|aa Z<|aa Z<|bL Z<|ar Z<|Y<|aR ?_;refine az trivial ?_;grind[two]
theorem PY(g:Value)(x:aw)(a b:Int)(hw:di x):GC prog 249 [int a,int b,.ptr 0 0 0] [(0,.box 50 (some g) [int x.tick,int x.next,int x.aA,.p (.ab 159 7 (ah aX x.ag)),.p (.ab 218 7 (ah go x.an)),.p (.ab 220 5 (ah iX x.aq))])] (aD (two x.ag a b)) [(0,.box 50 (some g) [int x.tick,int x.next,int x.aA,.p (.ab 159 7 (ah aX x.ag)),.p (.ab 218 7 (ah go x.an)),.p (.ab 220 5 (ah iX x.aq))])]:=by
 refine gi 5 func249 rfl ntmps249 rfl ?_;intro L O w0;refine sL<|ar Z<|nA<|ae Z<|ae Z<|ak Z<|aQ Z ?_;refine AL.bool (t:=9) rfl ?_ ?_
 ·intro V;refine aP h1 cu Z<|ae Z<|ab (zC [] [] [] func125 (PN x _ hw) (trivial) Z Z) Z<|ak Z<|bj Z<|aQ Z ?_;refine AL.bool (t:=15) rfl ?_ ?_
  ·intro h2;refine aP h1 cu Z<|ae Z<|ab (zC [] [] [] func125 (PN x _ hw) (trivial) Z Z) Z<|lT [5,15,18] [0] ?_;refine ak Z<|bj Z<|bv Z<|Y<|aR ?_;refine az ⟨rfl,trivial⟩ ?_;grind[two]
  intro h2;refine aa Z<|aa Z<|aa Z<|aa Z<|bL Z<|ar Z<|Y<|aR ?_;refine az ⟨rfl,trivial⟩ ?_;grind[two]
 intro V;refine aa Z<|aa Z<|aa Z<|aa Z<|bL Z<|dm Z<|aa Z<|aa Z<|aa Z<|aa Z<|bL Z<|ar Z<|Y<|aR ?_;refine az ⟨rfl,trivial⟩ ?_;grind[two]
theorem kH{x:aw}{k:Nat}(hk:k<x.an.length)(hb:qz x.ag x.an[k]=false:=by unfold qz;first|(simp_all;done)|(simp_all<;>(intros;omega))|(unfold bb aI at *;simp_all<;>(intros;omega))):false=kW x:=by
 grind[kW]
theorem kC{x:aw}{k:Nat}(hk:k<x.aq.length)(hb:qA x.ag x.aq[k]=false:=by unfold qA;first|(simp_all;done)|(simp_all<;>(intros;omega))|(unfold bb aI at *;simp_all<;>(intros;omega))):false=kW x:=by
 grind[kW]
theorem Fz{α:Type}{l:List α}{f:α->Int}{k:Nat}(h:k<l.length)(p:List Int):ah kI (p++(l.take k).map f)++ah kI [f l[k]]=ah kI (p++(l.take (k+1)).map f):=by
 rw[List.take_succ_eq_append_getElem h,List.map_append,<-List.append_assoc];exact List.map_append.symm
theorem ZS(x:aw)(V:x.an.length<=1048576)(h2:x.aq.length<=1048576):GC prog 254 [cj x] [] (.own 2008) [(2008,.ai 3 1 (ah kI (dN x)))]:=by
 refine gi 2 func254 rfl ntmps254 rfl ?_;intro L O w0;refine sL<|ab (zX 2001 rfl) Z<|e9 Z<|nA<|ab (zS 2008 [] iU lY rfl x_19) Z<|bD Z<|Y<|aS<|sL<|lf 4 eF Z<|bo fS Z<|ba jb Z<|ae Z<|Y<|aB ?_;refine aW [1,2,10,11] [2001] (D:=Nat) (fun k=>[(3,.own 2008),(12,int (k:Int))]) (fun k=>[(2008,.ai 3 1 (ah kI ([]++(x.an.take k).map (·.key))))]) (fun k=>k<=x.an.length) (fun k=>x.an.length-k) (0) (Nat.zero_le _) ⟨rfl,rfl,trivial⟩ ⟨rfl,trivial⟩ ?_;intro k hI;refine sL<|ak Z<|Y<|aS<|cE rfl ?_ ?_
 ·intro V;refine aK<|gT<|aS<|aB<|sL ?_;have hk:k<x.an.length:=by simpa[ap]using V
  refine li k f7 Z (bS hk)<|d6 nG kZ Z<|ab (zA 2005 iu Z) Z<|ab (zB 2005 nJ nL Z) Z<|Y<|aL<|bW Z<|lf 0 u7 Z<|aj ac Z<|ab (zS 2019 (ah kI [x.an[k].key]) iU lY Z) Z<|lT [1,2,3,10,11,12,16,19] [2001,2005,2008,2019] ?_;refine ab (zP 2008 iU lY uy rfl x_18 x_69) Z<|bD Z<|lN<|gB<|gT<|aL<|bg Z<|ae Z<|Y ?_;refine⟨k+1,hk,by omega,⟨rfl,(iq rfl),trivial⟩,⟨(Eq.trans (b:=AO.ai 3 1 (ah kI ([]++(x.an.take k).map (·.key))++ah kI [x.an[k].key])) rfl (congrArg (AO.ai 3 1) (Fz hk _))),trivial⟩,rfl,rfl⟩
 intro V;refine aE<|eT<|eT<|eB<|gT<|aS<|sL<|lf 5 gn Z<|bo ii Z<|ba j7 Z<|ae Z<|Y<|aB ?_;have dZ:x.an.take k=x.an:=List.take_of_length_le x_33;refine aW [2,23,24] [2001] (D:=Nat) (fun k=>[(3,.own 2008),(25,int (k:Int))]) (fun k=>[(2008,.ai 3 1 (ah kI ((x.an.map (·.key))++(x.aq.take k).map (·.key))))]) (fun k=>k<=x.aq.length) (fun k=>x.aq.length-k) (0) (Nat.zero_le _) ⟨rfl,rfl,trivial⟩ ⟨(congrArg (AO.ai 3 1) x_14),trivial⟩ ?_;intro k hI;refine sL<|ak Z<|Y<|aS<|cE rfl ?_ ?_
 ·intro h2;refine aK<|gT<|aS<|aB<|sL ?_;have hk:k<x.aq.length:=by simpa[ap]using h2
  refine li k iI Z (bS hk)<|d6 ow l5 Z<|ab (zA 2007 jO Z) Z<|ab (zB 2007 oK oL Z) Z<|Y<|aL<|bW Z<|lf 0 u9 Z<|aj ac Z<|ab (zS 2032 (ah kI [x.aq[k].key]) iU lY Z) Z<|lT [2,3,23,24,25,29,32] [2001,2007,2008,2032] ?_;refine ab (zP 2008 iU lY uy rfl x_18 x_69) Z<|bD Z<|lN<|gB<|gT<|aL<|bg Z<|ae Z<|Y ?_;refine⟨k+1,hk,by omega,⟨rfl,(iq rfl),trivial⟩,⟨(Eq.trans (b:=AO.ai 3 1 (ah kI (x.an.map (·.key)++(x.aq.take k).map (·.key))++ah kI [x.aq[k].key])) rfl (congrArg (AO.ai 3 1) (Fz hk _))),trivial⟩,rfl,rfl⟩
 intro h2;refine aE<|eT<|eT<|eB<|gA<|bW Z<|bD Z<|Y<|aR ?_;refine ax ?_ ⟨(congrArg (AO.ai 3 1) (by rw[List.take_of_length_le x_33];rfl)),trivial⟩;rfl
theorem x_16{p:Prop}(c:p:=by exact ⟨stays.box rfl,trivial⟩):p:=c
theorem ZT(x:aw)(hw:di x):GC prog 190 [cj x] [] (aD (kW x)) []:=by
 refine gi 2 func190 rfl ntmps190 rfl ?_;intro L O w0;refine sL<|ab (zX 2001 Z) Z<|ar Z<|Y<|aS<|sL<|lf 4 eF Z<|bo fS Z<|ba jb Z<|ak Z<|aQ Z ?_;refine AL.bool (t:=15) rfl ?_ ?_
 ·intro V;refine aa Z<|aa Z<|aa Z<|aa Z<|aU Z<|Y<|aY Z<|sL<|ar Z<|Y<|aR<|rT ?_;refine az trivial ?_;grind[kW,ap]
 intro V;refine lf 5 gn Z<|bo ii Z<|ba j7 Z<|ak Z<|bj Z<|Y<|cE rfl ?_ ?_
 ·intro h2;refine sL<|ar Z<|Y<|aR<|rT ?_;refine az trivial ?_;grind[kW,ap]
 intro h2;refine aK<|gA ?_;have oa:x.an.length<=60:=by have h:=V;simp[ap]at h;omega
 have oF:x.aq.length<=20:=by have h:=h2;simp[ap]at h;omega
 refine AL.tZ 2001 rfl ?_;intro g;refine lq (rd (x:=.fQ _ _ [.ptr 2001 _ 0]) (ZE Z) Z)<|Vr (.fQ _ _ [.ptr 2001 _ 0]) Z<|nA<|e9 Z<|Y<|aS<|sL<|lf 4 eF Z<|bo fS Z<|ba jb Z<|ae Z<|Y<|aB ?_;refine AW.oP 50 4 3 1 rfl ?_;refine aW [1,2,3,23,24] [2001] (D:=Nat) (fun k=>[(4,.own 50),(25,int (k:Int))]) (fun k=>[(50,.ai 3 1 (ah kI (([])++(x.an.take k).map (·.key))))]) (fun k=>k<=x.an.length/\(x.an.take k).all (qz x.ag)=true) (fun k=>x.an.length-k) (0) (⟨Nat.zero_le _,by simp⟩) ⟨rfl,rfl,trivial⟩ ⟨rfl,trivial⟩ ?_;intro k hI;obtain⟨eN,bB⟩:=hI;refine sL<|ak Z<|Y<|aS<|cE rfl ?_ ?_
 ·intro h3;refine aK<|gT<|aS<|aB<|sL ?_;have hk:k<x.an.length:=by simpa[ap]using h3
  have wv:x.an.length<=60:=oa;refine li k f7 Z (bS hk)<|d6 nG kZ Z<|ab (zA 2006 iu Z) Z<|lT [1,2,3,4,6,23,24,25,28] [50,2001,2006] ?_;refine ab (zB 2006 nJ nL Z) Z<|Y<|aS<|sL<|lf 3 n3 Z<|aj ac Z<|ab (zC [] [] [] func189 (qy _) (trivial) Z Z) Z<|bX Z<|aQ Z ?_;refine AL.bool (t:=33) rfl ?_ ?_
  ·intro h4;refine aa Z<|aa Z<|aa Z<|aU Z<|bM Z<|aa Z<|aa Z<|aa Z<|aa Z<|aa Z<|aU Z<|bM Z<|aa Z<|aa Z<|aa Z<|aa Z<|aU Z<|bM Z<|aa Z<|aa Z<|aa Z<|aa Z<|aa Z<|aa Z<|aa Z<|aU Z<|Y<|aY Z<|aS ?_;refine aL<|ar Z<|Y<|aR<|rT<|rB<|rT<|rT<|rB<|rT ?_;refine az trivial ?_;exact kH hk
  intro h4;refine lf 4 kw Z<|aj ac Z<|ak Z<|bj Z<|aQ Z ?_;refine AL.bool (t:=38) rfl ?_ ?_
  ·intro h5;refine aa Z<|aa Z<|aa Z<|aa Z<|aa Z<|aU Z<|bM Z<|aa Z<|aa Z<|aa Z<|aa Z<|aU Z<|bM Z<|aa Z<|aa Z<|aa Z<|aa Z<|aa Z<|aa Z<|aa Z<|aU Z<|Y<|aY Z<|sL<|ar Z<|Y<|aR ?_;refine rT<|rB<|rT<|rT<|rB<|rT ?_;refine az trivial ?_;exact kH hk
  intro h5;refine lf 3 n3 Z<|aj ac Z<|lf 4 kw Z<|aj ac Z<|ak Z<|lT [1,2,3,4,6,23,24,25,38,43] [50,2001,2006] ?_;refine bj Z<|aQ Z ?_;refine AL.bool (t:=45) rfl ?_ ?_
  ·intro h6;refine aa Z<|aa Z<|aa Z<|aa Z<|aU Z<|bM Z<|aa Z<|aa Z<|aa Z<|aa Z<|aa Z<|aa Z<|aa Z<|aU Z<|Y<|aY Z<|sL<|ar Z<|Y<|aR<|rT<|rB<|rT<|rT<|rB<|rT ?_;refine az trivial ?_;exact kH hk
  intro h6;refine lf 6 tV Z<|aj ac Z<|ab (zC [] [] [] func189 (qy _) (trivial) Z Z) Z<|bX Z<|bj Z<|aQ Z ?_;refine AL.bool (t:=51) rfl ?_ ?_
  ·intro h7;refine aa Z<|aa Z<|aa Z<|aa Z<|aa Z<|aa Z<|aa Z<|aU Z<|Y<|aY Z<|sL<|ar Z<|Y<|aR<|rT<|rB<|rT<|rT<|rB<|rT ?_;refine az trivial ?_;exact kH hk
  intro h7;refine cT (.fQ _ _ [.ptr 2001 _ 0]) Z<|lf 1 oM Z<|aj ac Z<|lf 2 mJ Z<|aj ac Z ?_;refine ab (zC [(0,2001)] [] [0] func249 (PY g x _ _ hw) x_16 rfl rfl) Z<|lT [1,2,3,4,6,23,24,25,51,57] [50,2001,2006] ?_;refine bX Z<|bj Z<|Y<|cE rfl ?_ ?_
  ·intro h8;refine sL<|ar Z<|Y<|aR<|rT<|rB<|rT<|rT<|rB<|rT ?_;refine az trivial ?_;exact kH hk
  intro h8;refine aK<|gT<|aL<|bW Z<|lf 0 u7 Z<|aj ac Z<|ab (zS 2063 (ah kI [x.an[k].key]) iU lY rfl) Z<|ab (zP 50 iU lY uy rfl x_18 x_69) Z<|bD Z<|lN<|gB<|gT<|aL<|bg Z<|ae Z<|Y ?_;have hg:qz x.ag x.an[k]=true:=by rw[xR];simp_all;try omega
  have ko:(x.an.take (k+1)).all (qz x.ag)=true:=by rw[FB hk,bB,hg];rfl
  refine⟨k+1,⟨hk,ko⟩,by omega,⟨rfl,(iq rfl),trivial⟩,⟨(Eq.trans (b:=AO.ai 3 1 (ah kI ([]++(x.an.take k).map (·.key))++ah kI [x.an[k].key])) rfl (congrArg (AO.ai 3 1) (Fz hk _))),trivial⟩,rfl,rfl⟩
 intro h3;refine aE<|eT<|eT<|eB<|gT<|aS<|sL<|lf 5 gn Z<|bo ii Z<|ba j7 Z<|ae Z<|Y<|aB ?_;have FC:x.an.take k=x.an:=List.take_of_length_le x_33;have Jo:x.an.all (qz x.ag)=true:=by rw[FC]at bB;exact bB
 clear bB;refine aW [2,3,67,68] [2001] (D:=Nat) (fun k=>[(4,.own 50),(69,int (k:Int))]) (fun k=>[(50,.ai 3 1 (ah kI ((x.an.map (·.key))++(x.aq.take k).map (·.key))))]) (fun k=>k<=x.aq.length/\(x.aq.take k).all (qA x.ag)=true) (fun k=>x.aq.length-k) (0) (⟨Nat.zero_le _,by simp⟩) ⟨rfl,rfl,trivial⟩ ⟨(congrArg (AO.ai 3 1) x_14),trivial⟩ ?_;intro k hI;obtain⟨eN,bB⟩:=hI;refine sL<|ak Z<|Y<|aS<|cE rfl ?_ ?_
 ·intro h9;refine aK<|gT<|aS<|aB<|sL ?_;have hk:k<x.aq.length:=by simpa[ap]using h9
  have wv:x.aq.length<=20:=oF;refine li k iI Z (bS hk)<|d6 ow l5 Z<|ab (zA 2008 jO Z) Z<|lT [2,3,4,8,67,68,69,72] [50,2001,2008] ?_;refine ab (zB 2008 oK oL Z) Z<|Y<|aS<|sL<|lf 3 lO Z<|aj ac Z<|ab (zC [] [] [] func189 (qy _) (trivial) Z Z) Z<|bX Z<|aQ Z ?_;refine AL.bool (t:=77) rfl ?_ ?_
  ·intro dh;refine aa Z<|aa Z<|aa Z<|aU Z<|bM Z<|aa Z<|aa Z<|aa Z<|aa Z<|aU Z<|bM Z<|aa Z<|aa Z<|aa Z<|aa Z<|aa Z<|aa Z<|aa Z<|aU Z<|Y<|aY Z<|sL<|ar Z<|Y<|aR<|rT<|rB ?_;refine rT<|rT<|rB<|rT ?_;refine az trivial ?_;exact kC hk
  intro dh;refine lf 3 lO Z<|aj ac Z<|ak Z<|bj Z<|aQ Z ?_;refine AL.bool (t:=82) rfl ?_ ?_
  ·intro gp;refine aa Z<|aa Z<|aa Z<|aa Z<|aU Z<|bM Z<|aa Z<|aa Z<|aa Z<|aa Z<|aa Z<|aa Z<|aa Z<|aU Z<|Y<|aY Z<|sL<|ar Z<|Y<|aR<|rT<|rB<|rT<|rT<|rB<|rT ?_;refine az trivial ?_;exact kC hk
  intro gp;refine lf 4 pO Z<|aj ac Z<|ab (zC [] [] [] func189 (qy _) (trivial) Z Z) Z<|lT [2,3,4,8,67,68,69,82,85] [50,2001,2008] ?_;refine bX Z<|bj Z<|aQ Z ?_;refine AL.bool (t:=88) rfl ?_ ?_
  ·intro gM;refine aa Z<|aa Z<|aa Z<|aa Z<|aa Z<|aa Z<|aa Z<|aU Z<|Y<|aY Z<|sL<|ar Z<|Y<|aR<|rT<|rB<|rT<|rT<|rB<|rT ?_;refine az trivial ?_;exact kC hk
  intro gM;refine cT (.fQ _ _ [.ptr 2001 _ 0]) Z<|lf 1 nO Z<|aj ac Z<|lf 2 py Z<|aj ac Z ?_;refine ab (zC [(0,2001)] [] [0] func249 (PY g x _ _ hw) x_16 rfl rfl) Z<|bX Z<|bj Z<|Y<|cE rfl ?_ ?_
  ·intro dO;refine sL<|ar Z<|Y<|aR<|rT<|rB<|rT<|rT<|rB<|rT ?_;refine az trivial ?_;exact kC hk
  intro dO;refine aK<|gT<|aL<|bW Z<|lf 0 u9 Z<|aj ac Z<|ab (zS 2100 (ah kI [x.aq[k].key]) iU lY Z) Z<|lT [2,3,4,67,68,69,97,100] [50,2001,2008,2100] ?_;refine ab (zP 50 iU lY uy rfl x_18 x_69) Z<|bD Z<|lN<|gB<|gT<|aL<|bg Z<|ae Z<|Y ?_;have hg:qA x.ag x.aq[k]=true:=by rw[wn];simp_all;try omega
  have ko:(x.aq.take (k+1)).all (qA x.ag)=true:=by rw[FB hk,bB,hg];rfl
  refine⟨k+1,⟨hk,ko⟩,by omega,⟨rfl,(iq rfl),trivial⟩,⟨(Eq.trans (b:=AO.ai 3 1 (ah kI (x.an.map (·.key)++(x.aq.take k).map (·.key))++ah kI [x.aq[k].key])) rfl (congrArg (AO.ai 3 1) (Fz hk _))),trivial⟩,rfl,rfl⟩
 intro h9;refine aE<|eT<|eT<|eB<|gT<|aS<|sL ?_;have yB:x.aq.take k=x.aq:=List.take_of_length_le x_33;have Jp:x.aq.all (qA x.ag)=true:=by rw[yB]at bB;exact bB
 clear bB;have yF:(dN x).length<=80:=by unfold dN;rw[List.length_append,List.length_map,List.length_map];omega
 rw[yB,show x.an.map (·.key)++x.aq.map (·.key)=dN x from rfl];refine AL.freeze 50 rfl ?_;refine bm Z<|ba x4 Z<|ae Z<|Y<|aB ?_;refine aW [2,4,103,104] [2001] (D:=Nat) (fun k=>[(105,int (k:Int))]) (fun k=>[]) (fun k=>k<=(dN x).length/\∀j,j<k->kV (dN x) j=true) (fun k=>(dN x).length-k) (0) (⟨Nat.zero_le _,fun j h=>absurd h x_2⟩) ⟨rfl,trivial⟩ trivial ?_;intro k hI;obtain⟨eN,bB⟩:=hI;refine sL<|ak Z<|Y<|aS<|cE rfl ?_ ?_
 ·intro ij;refine aK<|gT<|aS<|aB<|sL<|ae Z ?_;have hk:k<(dN x).length:=by simpa[ap]using ij
  have xW:(dN x).getD k 0=(dN x)[k]:=by rw[List.getD_eq_getElem?_getD,List.getElem?_eq_getElem hk];rfl
  refine li k iU Z (bS hk)<|oy ac Z<|ao Z<|ao Z<|nA<|ae Z<|ab (zC [] [] [] func210 (PJ _) (trivial) Z Z) Z<|lT [2,4,9,10,103,104,105,111] [2001] ?_;refine bX Z<|aQ Z ?_;refine AL.bool (t:=113) rfl ?_ ?_
  ·intro lg;refine aa Z<|aa Z<|aa Z<|aa Z<|aa Z<|aU Z<|Y<|aY Z<|sL<|ar Z<|Y<|aR<|rB<|rT<|rT<|rB<|rT ?_;refine az trivial ?_;grind[kV,kW,Da]
  intro lg;refine bm Z<|ae Z ?_;refine lq (rd (x:=c7) (p6 (l:=0) (h:=k) rfl iU rfl rfl ⟨_,rfl⟩ (Nat.zero_le _) x_14) rfl) ?_;refine dC 116 (.p (.ab 3 1 (ah kI ((dN x).take k)))) (Eq.trans (b:=.p (.ab 3 1 ((ah kI (dN x)).take k))) rfl (congrArg (fun r=>AV.p (.ab 3 1 r)) List.map_take.symm)) ?_;refine ae Z<|ab (zC [] [] [] func250 (ZQ ((dN x).take k) _ x_14) (trivial) rfl rfl) Z<|bj Z<|Y<|cE rfl ?_ ?_
  ·intro mn;refine sL<|ar Z<|Y<|aR<|rB<|rT<|rT<|rB<|rT ?_;refine az trivial ?_;grind[kV,kW,Da]
  intro mn;refine aK<|gB<|gT<|aL<|bg Z<|ae Z<|Y ?_;have hg:kV (dN x) k=true:=by unfold kV;rw[xW];first|grind|(unfold fE aI at *;simp_all;done)|(unfold fE aI at *;simp_all<;>(intros;omega))
  have ko:∀j,j<k+1->kV (dN x) j=true:=fun j hj=>(Nat.lt_or_ge j k).elim (bB j) (fun q=>by grind);refine x_44
 intro ij;refine aE<|eT<|eT<|eB<|gA<|cI Z<|Y<|aR ?_;refine az trivial ?_;grind[IY,ap,kW]
theorem ZU(x:aw)(hw:di x)(oa:x.an.length<=60)(oF:x.aq.length<=20):GC prog 243 [cj x] [] (aD (kW x)) []:=by
 refine gi 2 func243 rfl ntmps243 rfl ?_;intro L O w0;refine sL<|ab (zX 2001 Z) Z<|ar Z<|Y<|aS<|sL<|lf 4 eF Z<|bo fS Z<|ba jb Z<|ae Z<|Y<|aB ?_;refine aW [1,2,11,12] [2001] (D:=Nat) (fun k=>[(13,int (k:Int))]) (fun k=>[]) (fun k=>k<=x.an.length/\(x.an.take k).all (qz x.ag)=true) (fun k=>x.an.length-k) (0) (⟨Nat.zero_le _,by simp⟩) ⟨rfl,trivial⟩ trivial ?_;intro k hI;obtain⟨eN,bB⟩:=hI;refine sL<|ak Z<|Y<|aS<|cE rfl ?_ ?_
 ·intro V;refine aK<|gT<|aS<|aB<|sL ?_;have hk:k<x.an.length:=by simpa[ap]using V
  have wv:x.an.length<=60:=oa;refine li k f7 Z (bS hk)<|d6 nG kZ Z<|ab (zA 2004 iu Z) Z<|ab (zB 2004 nJ nL Z) Z<|nA<|aP h1 cu Z<|lf 1 oM Z<|aj ac Z<|lf 2 mJ Z<|aj ac Z<|ab (zC [] [] [] func255 (PX x _ _ hw) (trivial) Z Z) Z<|lT [1,2,4,11,12,13,22] [2001,2004] ?_;refine bX Z<|aQ Z ?_;refine AL.bool (t:=24) rfl ?_ ?_
  ·intro h2;refine aa Z<|aa Z<|aa Z<|aa Z<|aU Z<|bM Z<|aa Z<|aa Z<|aa Z<|aa Z<|aU Z<|bM Z<|aa Z<|aa Z<|aa Z<|aU Z<|bM Z<|aa Z<|aa Z<|aa Z<|aa Z<|aa Z<|aU Z<|bM Z<|aa Z<|aa Z<|aa Z<|aa Z<|aU Z<|lN ?_;refine gT<|aY Z<|sL<|ar Z<|Y<|aR<|rB<|rT<|rT<|rB<|rT ?_;refine az trivial ?_;exact kH hk
  intro h2;refine lf 3 n3 Z<|aj ac Z<|ab (zC [] [] [] func242 (pT _) (trivial) Z Z) Z<|lT [1,2,4,11,12,13,24,27] [2001,2004] ?_;refine bX Z<|bj Z<|aQ Z ?_;refine AL.bool (t:=30) rfl ?_ ?_
  ·intro h3;refine aa Z<|aa Z<|aa Z<|aa Z<|aU Z<|bM Z<|aa Z<|aa Z<|aa Z<|aU Z<|bM Z<|aa Z<|aa Z<|aa Z<|aa Z<|aa Z<|aU Z<|bM Z<|aa Z<|aa Z<|aa Z<|aa Z<|aU Z<|Y<|aY Z<|sL<|ar Z<|lN ?_;refine gT<|aR<|rB<|rT<|rT<|rB<|rT ?_;refine az trivial ?_;exact kH hk
  intro h3;refine lf 4 kw Z<|aj ac Z<|ab (zC [] [] [] func242 (pT _) (trivial) Z Z) Z<|lT [1,2,4,11,12,13,30,33] [2001,2004] ?_;refine bX Z<|bj Z<|aQ Z ?_;refine AL.bool (t:=36) rfl ?_ ?_
  ·intro h4;refine aa Z<|aa Z<|aa Z<|aU Z<|bM Z<|aa Z<|aa Z<|aa Z<|aa Z<|aa Z<|aU Z<|bM Z<|aa Z<|aa Z<|aa Z<|aa Z<|aU Z<|Y<|aY Z<|sL<|ar Z<|Y<|aR<|rB<|rT<|rT<|rB ?_;refine rT ?_;refine az trivial ?_;exact kH hk
  intro h4;refine lf 4 kw Z<|aj ac Z<|ak Z<|bj Z<|aQ Z ?_;refine AL.bool (t:=41) rfl ?_ ?_
  ·intro h5;refine aa Z<|aa Z<|aa Z<|aa Z<|aa Z<|aU Z<|bM Z<|aa Z<|aa Z<|aa Z<|aa Z<|aU Z<|Y<|aY Z<|sL<|ar Z<|Y<|aR<|rB<|rT<|rT<|rB<|rT ?_;refine az trivial ?_;exact kH hk
  intro h5;refine lf 3 n3 Z<|aj ac Z<|lf 4 kw Z<|aj ac Z<|ak Z<|bj Z<|aQ Z ?_;refine AL.bool (t:=48) rfl ?_ ?_
  ·intro h6;refine aa Z<|aa Z<|aa Z<|aa Z<|aU Z<|Y<|aY Z<|sL<|ar Z<|Y<|aR<|rB<|rT<|rT<|rB<|rT ?_;refine az trivial ?_;exact kH hk
  intro h6;refine lf 6 tV Z<|aj ac Z<|ab (zC [] [] [] func242 (pT _) (trivial) Z Z) Z<|lT [1,2,11,12,13,48,51] [2001,2004] ?_;refine bX Z<|bj Z<|Y<|cE rfl ?_ ?_
  ·intro h7;refine sL<|ar Z<|Y<|aR<|rB<|rT<|rT<|rB<|rT ?_;refine az trivial ?_;exact kH hk
  intro h7;refine aK<|gB<|gT<|aL<|bg Z<|ae Z<|Y ?_;have hg:qz x.ag x.an[k]=true:=by rw[xR];simp_all;try omega
  have ko:(x.an.take (k+1)).all (qz x.ag)=true:=by rw[FB hk,bB,hg];rfl
  refine x_44
 intro V;refine aE<|eT<|eT<|eB<|gT<|aS<|sL<|lf 5 gn Z<|bo ii Z<|ba j7 Z<|ae Z<|Y<|aB ?_;have FC:x.an.take k=x.an:=List.take_of_length_le x_33;have Jo:x.an.all (qz x.ag)=true:=by rw[FC]at bB;exact bB
 clear bB;refine aW [1,2,56,57] [2001] (D:=Nat) (fun k=>[(58,int (k:Int))]) (fun k=>[]) (fun k=>k<=x.aq.length/\(x.aq.take k).all (qA x.ag)=true) (fun k=>x.aq.length-k) (0) (⟨Nat.zero_le _,by simp⟩) ⟨rfl,trivial⟩ trivial ?_;intro k hI;obtain⟨eN,bB⟩:=hI;refine sL<|ak Z<|Y<|aS<|cE rfl ?_ ?_
 ·intro h8;refine aK<|gT<|aS<|aB<|sL ?_;have hk:k<x.aq.length:=by simpa[ap]using h8
  have wv:x.aq.length<=20:=oF;refine li k iI Z (bS hk)<|d6 ow l5 Z<|ab (zA 2006 jO Z) Z<|ab (zB 2006 oK oL Z) Z<|lT [1,2,6,56,57,58] [2001,2006] ?_;refine nA<|aP h1 cu Z<|lf 1 nO Z<|aj ac Z<|lf 2 py Z<|aj ac Z<|ab (zC [] [] [] func255 (PX x _ _ hw) (trivial) Z Z) Z<|bX Z<|aQ Z ?_;refine AL.bool (t:=69) rfl ?_ ?_
  ·intro h9;refine aa Z<|aa Z<|aa Z<|aa Z<|aU Z<|bM Z<|aa Z<|aa Z<|aa Z<|aU Z<|bM Z<|aa Z<|aa Z<|aa Z<|aa Z<|aU Z<|Y<|aY Z<|sL<|ar Z<|Y<|aR<|rB<|rT<|rT<|rB<|rT ?_;refine az trivial ?_;exact kC hk
  intro h9;refine lf 3 lO Z<|aj ac Z<|ab (zC [] [] [] func242 (pT _) (trivial) Z Z) Z<|lT [1,2,6,56,57,58,69,72] [2001,2006] ?_;refine bX Z<|bj Z<|aQ Z ?_;refine AL.bool (t:=75) rfl ?_ ?_
  ·intro dh;refine aa Z<|aa Z<|aa Z<|aU Z<|bM Z<|aa Z<|aa Z<|aa Z<|aa Z<|aU Z<|Y<|aY Z<|sL<|ar Z<|Y<|aR<|rB<|rT<|rT<|rB<|rT ?_;refine az trivial ?_;exact kC hk
  intro dh;refine lf 3 lO Z<|aj ac Z<|ak Z<|bj Z<|aQ Z ?_;refine AL.bool (t:=80) rfl ?_ ?_
  ·intro gp;refine aa Z<|aa Z<|aa Z<|aa Z<|aU Z<|Y<|aY Z<|sL<|ar Z<|Y<|aR<|rB<|rT<|rT<|rB<|rT ?_;refine az trivial ?_;exact kC hk
  intro gp;refine lf 4 pO Z<|aj ac Z<|ab (zC [] [] [] func242 (pT _) (trivial) Z Z) Z<|lT [1,2,56,57,58,80,83] [2001,2006] ?_;refine bX Z<|bj Z<|Y<|cE rfl ?_ ?_
  ·intro gM;refine sL<|ar Z<|Y<|aR<|rB<|rT<|rT<|rB<|rT ?_;refine az trivial ?_;exact kC hk
  intro gM;refine aK<|gB<|gT<|aL<|bg Z<|ae Z<|Y ?_;have hg:qA x.ag x.aq[k]=true:=by rw[wn];simp_all;try omega
  have ko:(x.aq.take (k+1)).all (qA x.ag)=true:=by rw[FB hk,bB,hg];rfl
  refine x_44
 intro h8;refine aE<|eT<|eT<|eB<|gA ?_;have yB:x.aq.take k=x.aq:=List.take_of_length_le x_33;have Jp:x.aq.all (qA x.ag)=true:=by rw[yB]at bB;exact bB
 clear bB;have yF:(dN x).length<=80:=by unfold dN;rw[List.length_append,List.length_map,List.length_map];omega
 refine aP h1 cu Z<|ab (zC [(2008,60)] [60] [] func254 (ZS x x_2 x_2) (trivial) rfl rfl) Z<|bD Z<|Y<|aS<|sL ?_;refine AL.freeze 60 rfl ?_;refine bm Z<|ba x4 Z<|ae Z<|Y<|aB ?_;refine aW [2,7,89,90] [2001] (D:=Nat) (fun k=>[(91,int (k:Int))]) (fun k=>[]) (fun k=>k<=(dN x).length/\∀j,j<k->kV (dN x) j=true) (fun k=>(dN x).length-k) (0) (⟨Nat.zero_le _,fun j h=>absurd h x_2⟩) ⟨rfl,trivial⟩ trivial ?_;intro k hI;obtain⟨eN,bB⟩:=hI;refine sL<|ak Z<|Y<|aS<|cE rfl ?_ ?_
 ·intro dO;refine aK<|gT<|aS<|aB<|sL<|ae Z ?_;have hk:k<(dN x).length:=by simpa[ap]using dO
  have xW:(dN x).getD k 0=(dN x)[k]:=by rw[List.getD_eq_getElem?_getD,List.getElem?_eq_getElem hk];rfl
  refine li k iU Z (bS hk)<|oy ac Z<|ao Z<|ao Z<|nA<|ae Z<|ak Z<|aQ Z ?_;refine AL.bool (t:=98) rfl ?_ ?_
  ·intro ij;refine aa Z<|aa Z<|aU Z<|bM Z<|aa Z<|aa Z<|aa Z<|aa Z<|aa Z<|aU Z<|Y<|aY Z<|sL<|ar Z<|Y<|aR<|rB<|rT<|rT<|rB<|rT ?_;refine az trivial ?_;grind[kV,fE,aI,kW,Da]
  intro ij;refine ae Z<|ak Z<|bj Z<|aQ Z ?_;refine AL.bool (t:=102) rfl ?_ ?_
  ·intro lg;refine aa Z<|aa Z<|aa Z<|aa Z<|aa Z<|aU Z<|Y<|aY Z<|sL<|ar Z<|lT [2,7,89,90,91] [2001] ?_;refine Y<|aR<|rB<|rT<|rT<|rB<|rT ?_;refine az trivial ?_;grind[kV,fE,aI,kW,Da]
  intro lg;refine bm Z<|ae Z ?_;refine lq (rd (x:=c7) (p6 (l:=0) (h:=k) rfl iU rfl rfl ⟨_,rfl⟩ (Nat.zero_le _) x_14) rfl) ?_;refine dC 105 (.p (.ab 3 1 (ah kI ((dN x).take k)))) (Eq.trans (b:=.p (.ab 3 1 ((ah kI (dN x)).take k))) rfl (congrArg (fun r=>AV.p (.ab 3 1 r)) List.map_take.symm)) ?_;refine ae Z<|ab (zC [] [] [] func253 (ZR ((dN x).take k) _ x_14) (trivial) rfl rfl) Z<|bj Z<|Y<|cE rfl ?_ ?_
  ·intro mn;refine sL<|ar Z<|Y<|aR<|rB<|rT<|rT<|rB<|rT ?_;refine az trivial ?_;grind[kV,kW,Da]
  intro mn;refine aK<|gB<|gT<|aL<|bg Z<|ae Z<|Y ?_;have hg:kV (dN x) k=true:=by unfold kV;rw[xW];first|(simp_all;done)|grind[fE,aI]|(unfold fE aI at *;simp_all<;>(intros;omega))
  have ko:∀j,j<k+1->kV (dN x) j=true:=fun j hj=>(Nat.lt_or_ge j k).elim (bB j) (fun q=>by grind);refine x_44
 intro dO;refine aE<|eT<|eT<|eB<|gA<|cI Z<|Y<|aR ?_;refine az trivial ?_;grind[IY,ap,kW]
theorem Bc{l:List be}{k:Nat}(h0:0<k)(hk:k<l.length):su l k=decide ((l[k-1]' x_2).id<l[k].id):=by
 obtain⟨j,rfl⟩:∃j,k=j+1:=⟨k-1,by omega⟩;grind[su]
theorem Db{x:aw}{k:Nat}(hk:k<x.ag.length):n5 x k=(pS x.ag[k]&&su x.ag k&&ss x x.ag[k]):=by grind[n5]
theorem kB{x:aw}(hb:false=eG x:=by unfold eG;first|(simp_all[ap];done)|(unfold aI;simp_all[ap];done)|(unfold kW aI;simp_all[ap]<;>(intros;omega))):false=eG x:=hb
theorem kF{x:aw}{k:Nat}(hk:k<x.ag.length)(hb:n5 x k=false:=by rw[Db hk];first|(unfold pS;simp_all;done)|(rw[Bc (by first|assumption|omega) hk];simp_all;done)|(rw[Bc (by first|assumption|omega) hk];simp_all<;>(intros;omega))|(unfold pS ss;simp_all<;>(intros;omega))|(unfold pS gf aI at *;simp_all<;>(intros;omega))):false=eG x:=by
 grind[eG,ZV]
theorem Do(x:aw)(hw:di x):GC prog 101 [cj x] [] (aD (eG x)) []:=by
 refine gi 2 func101 rfl ntmps101 rfl ?_;intro L O w0;refine sL<|ab (zX 2001 Z) Z<|ar Z<|Y<|aS<|sL<|lf 0 mB Z<|aj ac Z<|ab (zC [] [] [] func189 (qy _) (trivial) Z Z) Z<|bX Z<|aQ Z ?_;refine AL.bool (t:=11) rfl ?_ ?_
 ·intro V;refine aa Z<|aa Z<|aa Z<|aa Z<|aU Z<|bM Z<|aa Z<|aa Z<|aa Z<|aa Z<|aU Z<|bM Z<|aa Z<|aa Z<|aa Z<|aa Z<|aU Z<|bM Z<|aa Z<|aa Z<|aa Z<|aU Z<|Y<|aY Z<|sL<|ar Z<|Y ?_;refine aR<|rT ?_;refine az trivial ?_;exact kB
 intro V;refine lf 2 iW Z<|aj ac Z<|ab (zC [] [] [] func189 (qy _) (trivial) Z Z) Z<|lT [1,2,11,14] [2001] ?_;refine bX Z<|bj Z<|aQ Z ?_;refine AL.bool (t:=17) rfl ?_ ?_
 ·intro h2;refine aa Z<|aa Z<|aa Z<|aa Z<|aU Z<|bM Z<|aa Z<|aa Z<|aa Z<|aa Z<|aU Z<|bM Z<|aa Z<|aa Z<|aa Z<|aU Z<|Y<|aY Z<|sL<|ar Z<|Y<|aR<|rT ?_;refine az trivial ?_;exact kB
 intro h2;refine lf 1 mW Z<|aj ac Z<|ab (zC [] [] [] func92 (zE _ _ _) (trivial) Z Z) Z<|bX Z<|bj Z<|aQ Z ?_;refine AL.bool (t:=23) rfl ?_ ?_
 ·intro h3;refine aa Z<|aa Z<|aa Z<|aa Z<|aU Z<|bM Z<|aa Z<|aa Z<|aa Z<|aU Z<|Y<|aY Z<|sL<|ar Z<|Y<|aR<|rT ?_;refine az trivial ?_;exact kB
 intro h3;refine lf 3 dr Z<|bo eg Z<|ba kJ Z<|ak Z<|bj Z<|aQ Z ?_;refine AL.bool (t:=29) rfl ?_ ?_
 ·intro h4;refine aa Z<|aa Z<|aa Z<|aU Z<|Y<|aY Z<|sL<|ar Z<|Y<|aR<|rT ?_;refine az trivial ?_;exact kB
 intro h4;refine aP h1 cu Z<|ab (zC [] [] [] func190 (ZT x hw) (trivial) Z Z) Z<|lT [1,2,29,31] [2001] ?_;refine bX Z<|bj Z<|Y<|cE rfl ?_ ?_
 ·intro h5;refine sL<|ar Z<|Y<|aR<|rT ?_;refine az trivial ?_;exact kB
 intro h5;refine aK<|gT<|aS<|sL<|lf 3 dr Z<|bo eg Z<|ba kJ Z<|ae Z<|Y<|aB ?_;have Jq:kW x=true:=by simpa using h5
 have sm:=Jr Jq;have ZW:x.ag.length<=20:=by have h:=h4;simp[ap]at h;omega
 refine aW [1,2,35,36] [2001] (D:=Nat) (fun k=>[(37,int (k:Int))]) (fun k=>[]) (fun k=>k<=x.ag.length/\∀j,j<k->n5 x j=true) (fun k=>x.ag.length-k) (0) (⟨Nat.zero_le _,fun j h=>absurd h x_2⟩) ⟨rfl,trivial⟩ trivial ?_;intro k hI;obtain⟨eN,bB⟩:=hI;refine sL<|ak Z<|Y<|aS<|cE rfl ?_ ?_
 ·intro h6;refine aK<|gT<|aS<|aB<|sL<|ae Z ?_;have hk:k<x.ag.length:=by simpa[ap]using h6
  refine li k cz Z (bS hk)<|d6 k7 fF Z<|ab (zA 2004 dy Z) Z<|ao Z<|ab (zB 2004 lu lv Z) Z<|lT [1,2,3,4,35,36,37] [2001,2004] ?_;refine Y<|aS<|aS<|aF []<|vq 0 (rf 0 kM Z)<|vq 1 (aZ ac Z)<|bn 2 Z (zC [] [] [] func191 (PK _) (trivial) Z Z) (.inr Z)<|vq 3 (gQ Z)<|vq 4 (dx Z) ?_;refine AF.bool (t:=46) rfl ?_ ?_
  ·intro h7;refine al 5 Z<|al 6 Z<|al 7 Z<|bi 8 Z<|bi 9 Z<|bi 10 Z<|bi 11 Z<|bi 12 Z<|bi 13 Z<|bi 14 Z<|al 15 Z<|al 16 Z<|al 17 Z<|al 18 Z<|vq 19 (bA Z)<|vq 20 (cF Z)<|al 21 Z<|al 22 Z<|al 23 Z<|al 24 Z<|vq 25 (bA Z)<|vq 26 (cF Z)<|al 27 Z<|al 28 Z<|al 29 Z<|al 30 Z<|vq 31 (bA Z)<|vq 32 (cF Z)<|al 33 Z<|al 34 Z ?_;refine al 35 Z<|al 36 Z<|vq 37 (bA Z)<|vq 38 (cF Z)<|al 39 Z<|al 40 Z<|al 41 Z<|al 42 Z<|vq 43 (bA Z)<|vq 44 (cF Z)<|al 45 Z<|al 46 Z<|al 47 Z<|al 48 Z<|vq 49 (bA Z)<|vq 50 (cF Z)<|al 51 Z<|al 52 Z<|al 53 Z<|al 54 Z<|vq 55 (bA Z)<|fD<|gT<|aY Z<|sL<|ar Z<|Y<|aR ?_;refine rT<|rB<|rT<|rT<|rB<|rT ?_;refine az trivial ?_;exact kF hk
  intro h7;refine vq 5 (dW Z)<|vq 6 (dt Z)<|vq 7 (dx Z) ?_;refine AF.bool (t:=49) rfl ?_ ?_
  ·intro h8;refine pq 8 (qf 3 dr rfl)<|sq 9 (jj eg rfl)<|pq 10 (gL c6 rfl)<|sq 11 (qV rfl x_82) ?_;have hp:0<k:=by simpa using h8
   refine sq 12 (rd (x:=.rp _) (yt (i:=k-1) rfl cz rfl rfl ?hn1 (bS (by omega:k-1<x.ag.length))) rfl) ?_;case hn1=>omega
   refine pq 13 (qd (x:=.rp _) (EI kM Z) Z)<|sq 14 (qU ac Z)<|vq 15 (rf 0 kM Z)<|fT [1,2,4,35,36,37,46,49,56,57] [2001,2004] ?_;refine vq 16 (aZ ac Z)<|vq 17 (dt Z)<|vq 18 (cv Z)<|vq 19 (cv Z)<|vq 20 (dx Z) ?_;refine AF.bool (t:=62) rfl ?_ ?_
   ·intro h9;refine al 21 Z<|al 22 Z<|al 23 Z<|al 24 Z<|vq 25 (bA Z)<|vq 26 (cF Z)<|al 27 Z<|al 28 Z<|al 29 Z<|al 30 Z<|vq 31 (bA Z)<|vq 32 (cF Z)<|al 33 Z<|al 34 Z<|al 35 Z<|al 36 Z<|vq 37 (bA Z)<|vq 38 (cF Z)<|al 39 Z<|al 40 Z<|al 41 Z<|al 42 Z<|vq 43 (bA Z)<|vq 44 (cF Z)<|al 45 Z<|al 46 Z<|al 47 Z<|al 48 Z<|vq 49 (bA Z)<|vq 50 (cF Z) ?_;refine al 51 Z<|al 52 Z<|al 53 Z<|al 54 Z<|vq 55 (bA Z)<|fD<|gT<|aY Z<|sL<|ar Z<|Y<|aR<|rT<|rB<|rT<|rT<|rB<|rT ?_;refine az trivial ?_;exact kF hk
   intro h9;refine vq 21 (rf 2 fH Z)<|vq 22 (aZ ac Z)<|bn 23 Z (zC [] [] [] func189 (qy _) (trivial) Z Z) (.inr Z)<|fT [1,2,4,35,36,37,62,65] [2001,2004] ?_;refine vq 24 (gQ Z)<|vq 25 (cv Z)<|vq 26 (dx Z) ?_;refine AF.bool (t:=68) rfl ?_ ?_
   ·intro dh;refine al 27 Z<|al 28 Z<|al 29 Z<|al 30 Z<|vq 31 (bA Z)<|vq 32 (cF Z)<|al 33 Z<|al 34 Z<|al 35 Z<|al 36 Z<|vq 37 (bA Z)<|vq 38 (cF Z)<|al 39 Z<|al 40 Z<|al 41 Z<|al 42 Z<|vq 43 (bA Z)<|vq 44 (cF Z)<|al 45 Z<|al 46 Z<|al 47 Z<|al 48 Z<|vq 49 (bA Z)<|vq 50 (cF Z)<|al 51 Z<|al 52 Z<|al 53 Z<|al 54 Z<|vq 55 (bA Z)<|fD ?_;refine gT<|aY Z<|sL<|ar Z<|Y<|aR<|rT<|rB<|rT<|rT<|rB<|rT ?_;refine az trivial ?_;exact kF hk
   intro dh;refine vq 27 (rf 3 ic Z)<|vq 28 (aZ ac Z)<|bn 29 Z (zC [] [] [] func189 (qy _) (trivial) Z Z) (.inr Z)<|fT [1,2,4,35,36,37,68,71] [2001,2004] ?_;refine vq 30 (gQ Z)<|vq 31 (cv Z)<|vq 32 (dx Z) ?_;refine AF.bool (t:=74) rfl ?_ ?_
   ·intro gp;refine al 33 Z<|al 34 Z<|al 35 Z<|al 36 Z<|vq 37 (bA Z)<|vq 38 (cF Z)<|al 39 Z<|al 40 Z<|al 41 Z<|al 42 Z<|vq 43 (bA Z)<|vq 44 (cF Z)<|al 45 Z<|al 46 Z<|al 47 Z<|al 48 Z<|vq 49 (bA Z)<|vq 50 (cF Z)<|al 51 Z<|al 52 Z<|al 53 Z<|al 54 Z<|vq 55 (bA Z)<|fD<|gT<|aY Z<|sL<|ar Z<|lN ?_;refine gT<|aR<|rT<|rB<|rT<|rT<|rB<|rT ?_;refine az trivial ?_;exact kF hk
   intro gp;refine vq 33 (rf 4 nE Z)<|vq 34 (aZ ac Z)<|bn 35 Z (zC [] [] [] func189 (qy _) (trivial) Z Z) (.inr Z)<|fT [1,2,4,35,36,37,74,77] [2001,2004] ?_;refine vq 36 (gQ Z)<|vq 37 (cv Z)<|vq 38 (dx Z) ?_;refine AF.bool (t:=80) rfl ?_ ?_
   ·intro gM;refine al 39 Z<|al 40 Z<|al 41 Z<|al 42 Z<|vq 43 (bA Z)<|vq 44 (cF Z)<|al 45 Z<|al 46 Z<|al 47 Z<|al 48 Z<|vq 49 (bA Z)<|vq 50 (cF Z)<|al 51 Z<|al 52 Z<|al 53 Z<|al 54 Z<|vq 55 (bA Z)<|fD<|gT<|aY Z<|sL<|ar Z<|Y<|aR<|rT<|rB<|rT<|rT ?_;refine rB<|rT ?_;refine az trivial ?_;exact kF hk
   intro gM;refine vq 39 (rf 5 mH Z)<|vq 40 (aZ ac Z)<|bn 41 Z (zC [] [] [] func92 (zE _ _ _) (trivial) Z Z) (.inr Z)<|vq 42 (gQ Z)<|vq 43 (cv Z)<|vq 44 (dx Z) ?_;refine AF.bool (t:=86) rfl ?_ ?_
   ·intro dO;refine al 45 Z<|al 46 Z<|al 47 Z<|al 48 Z<|vq 49 (bA Z)<|vq 50 (cF Z)<|al 51 Z<|al 52 Z<|al 53 Z<|al 54 Z<|vq 55 (bA Z)<|fD<|gT<|aY Z<|sL<|ar Z<|Y<|aR<|rT<|rB<|rT<|rT<|rB<|rT ?_;refine az trivial ?_;exact kF hk
   intro dO;refine vq 45 (rf 6 ms Z)<|vq 46 (aZ ac Z)<|bn 47 Z (zC [] [] [] func192 (PL _) (trivial) Z Z) (.inr Z)<|fT [1,2,4,35,36,37,86,89] [2001,2004] ?_;refine vq 48 (gQ Z)<|vq 49 (cv Z)<|vq 50 (dx Z) ?_;refine AF.bool (t:=92) rfl ?_ ?_
   ·intro ij;refine al 51 Z<|al 52 Z<|al 53 Z<|al 54 Z<|vq 55 (bA Z)<|fD<|gT<|aY Z<|sL<|ar Z<|Y<|aR<|rT<|rB<|rT<|rT<|rB<|rT ?_;refine az trivial ?_;exact kF hk
   intro ij;refine vq 51 (rf 1 qS Z)<|vq 52 (aZ ac Z)<|bn 53 Z (zC [] [] [] func189 (qy _) (trivial) Z Z) (.inr Z)<|vq 54 (gQ Z)<|vq 55 (cv Z)<|fD<|gT<|cE rfl ?_ ?_
   ·intro lg;refine sL<|ar Z<|Y<|aR<|rT<|rB<|rT<|rT<|rB<|rT ?_;refine az trivial ?_;exact kF hk
   intro lg;refine aK<|gA<|aP h1 cu Z<|lf 0 kM Z<|aj ac Z<|ab (zC [] [] [] func126 (PU x _ hw sm) (trivial) Z Z) Z<|lT [1,2,4,35,36,37,102] [2001,2004] ?_;refine cT (.au [c6,c6]) Z<|dE Z<|dE Z<|ao Z<|ao Z<|nA<|lf 1 qS Z<|aj ac Z<|lf 2 fH Z<|aj ac Z<|lf 3 ic Z<|aj ac Z ?_;have a1:bb x.ag[k].loc=true:=by simpa using dh
   unfold bb at a1;have a1:=cJ.1 a1;have a2:bb x.ag[k].aC=true:=by simpa using gp
   unfold bb at a2;have a2:=cJ.1 a2;obtain⟨s1,s2,s3,s4⟩:=Dc sm x.ag[k].id;refine bg Z<|ae Z<|bg Z<|ae Z<|bg Z<|ak Z<|Y<|cE rfl ?_ ?_
   ·intro mn;refine sL<|ar Z<|Y<|aR<|rB<|rT<|rT<|rB<|rT ?_;refine az trivial ?_;exact kF hk
   intro mn;refine aK<|gB<|gT<|aL<|bg Z<|ae Z<|Y ?_;have has:su x.ag k=true:=by
    rcases Nat.eq_zero_or_pos k with q|q
    ·omega
    grind[Bc]
   have kd:n5 x k=true:=by rw[Db hk,has];unfold pS ss;first|grind|(unfold gf aI at *;simp_all;done)|(unfold gf aI at *;simp_all<;>omega)
   have ko:∀j,j<k+1->n5 x j=true:=fun j hj=>(Nat.lt_or_ge j k).elim (bB j) (fun q=>by grind);refine x_44
  intro h8;refine bi 8 Z<|bi 9 Z<|bi 10 Z<|bi 11 Z<|bi 12 Z<|bi 13 Z<|bi 14 Z<|al 15 Z<|al 16 Z<|al 17 Z<|vq 18 (kK Z)<|vq 19 (kK Z)<|vq 20 (rG Z)<|vq 21 (rf 2 fH Z)<|vq 22 (aZ ac Z)<|bn 23 Z (zC [] [] [] func189 (qy _) (trivial) Z Z) (.inr Z)<|fT [1,2,4,35,36,37,62,65] [2001,2004] ?_;refine vq 24 (gQ Z)<|vq 25 (cv Z)<|vq 26 (dx Z) ?_;refine AF.bool (t:=68) rfl ?_ ?_
  ·intro m7;refine al 27 Z<|al 28 Z<|al 29 Z<|al 30 Z<|vq 31 (bA Z)<|vq 32 (cF Z)<|al 33 Z<|al 34 Z<|al 35 Z<|al 36 Z<|vq 37 (bA Z)<|vq 38 (cF Z)<|al 39 Z<|al 40 Z<|al 41 Z<|al 42 Z<|vq 43 (bA Z)<|vq 44 (cF Z)<|al 45 Z<|al 46 Z<|al 47 Z<|al 48 Z<|vq 49 (bA Z)<|vq 50 (cF Z)<|al 51 Z<|al 52 Z<|al 53 Z<|al 54 Z<|vq 55 (bA Z)<|fD ?_;refine gT<|aY Z<|sL<|ar Z<|Y<|aR<|rT<|rB<|rT<|rT<|rB<|rT ?_;refine az trivial ?_;exact kF hk
  intro m7;refine vq 27 (rf 3 ic Z)<|vq 28 (aZ ac Z)<|bn 29 Z (zC [] [] [] func189 (qy _) (trivial) Z Z) (.inr Z)<|fT [1,2,4,35,36,37,68,71] [2001,2004] ?_;refine vq 30 (gQ Z)<|vq 31 (cv Z)<|vq 32 (dx Z) ?_;refine AF.bool (t:=74) rfl ?_ ?_
  ·intro mF;refine al 33 Z<|al 34 Z<|al 35 Z<|al 36 Z<|vq 37 (bA Z)<|vq 38 (cF Z)<|al 39 Z<|al 40 Z<|al 41 Z<|al 42 Z<|vq 43 (bA Z)<|vq 44 (cF Z)<|al 45 Z<|al 46 Z<|al 47 Z<|al 48 Z<|vq 49 (bA Z)<|vq 50 (cF Z)<|al 51 Z<|al 52 Z<|al 53 Z<|al 54 Z<|vq 55 (bA Z)<|fD<|gT<|aY Z<|sL<|ar Z<|lN ?_;refine gT<|aR<|rT<|rB<|rT<|rT<|rB<|rT ?_;refine az trivial ?_;exact kF hk
  intro mF;refine vq 33 (rf 4 nE Z)<|vq 34 (aZ ac Z)<|bn 35 Z (zC [] [] [] func189 (qy _) (trivial) Z Z) (.inr Z)<|fT [1,2,4,35,36,37,74,77] [2001,2004] ?_;refine vq 36 (gQ Z)<|vq 37 (cv Z)<|vq 38 (dx Z) ?_;refine AF.bool (t:=80) rfl ?_ ?_
  ·intro jn;refine al 39 Z<|al 40 Z<|al 41 Z<|al 42 Z<|vq 43 (bA Z)<|vq 44 (cF Z)<|al 45 Z<|al 46 Z<|al 47 Z<|al 48 Z<|vq 49 (bA Z)<|vq 50 (cF Z)<|al 51 Z<|al 52 Z<|al 53 Z<|al 54 Z<|vq 55 (bA Z)<|fD<|gT<|aY Z<|sL<|ar Z<|Y<|aR<|rT<|rB<|rT<|rT ?_;refine rB<|rT ?_;refine az trivial ?_;exact kF hk
  intro jn;refine vq 39 (rf 5 mH Z)<|vq 40 (aZ ac Z)<|bn 41 Z (zC [] [] [] func92 (zE _ _ _) (trivial) Z Z) (.inr Z)<|vq 42 (gQ Z)<|vq 43 (cv Z)<|vq 44 (dx Z) ?_;refine AF.bool (t:=86) rfl ?_ ?_
  ·intro Dd;refine al 45 Z<|al 46 Z<|al 47 Z<|al 48 Z<|vq 49 (bA Z)<|vq 50 (cF Z)<|al 51 Z<|al 52 Z<|al 53 Z<|al 54 Z<|vq 55 (bA Z)<|fD<|gT<|aY Z<|sL<|ar Z<|Y<|aR<|rT<|rB<|rT<|rT<|rB<|rT ?_;refine az trivial ?_;exact kF hk
  intro Dd;refine vq 45 (rf 6 ms Z)<|vq 46 (aZ ac Z)<|bn 47 Z (zC [] [] [] func192 (PL _) (trivial) Z Z) (.inr Z)<|fT [1,2,4,35,36,37,86,89] [2001,2004] ?_;refine vq 48 (gQ Z)<|vq 49 (cv Z)<|vq 50 (dx Z) ?_;refine AF.bool (t:=92) rfl ?_ ?_
  ·intro wt;refine al 51 Z<|al 52 Z<|al 53 Z<|al 54 Z<|vq 55 (bA Z)<|fD<|gT<|aY Z<|sL<|ar Z<|Y<|aR<|rT<|rB<|rT<|rT<|rB<|rT ?_;refine az trivial ?_;exact kF hk
  intro wt;refine vq 51 (rf 1 qS Z)<|vq 52 (aZ ac Z)<|bn 53 Z (zC [] [] [] func189 (qy _) (trivial) Z Z) (.inr Z)<|vq 54 (gQ Z)<|vq 55 (cv Z)<|fD<|gT<|cE rfl ?_ ?_
  ·intro wq;refine sL<|ar Z<|Y<|aR<|rT<|rB<|rT<|rT<|rB<|rT ?_;refine az trivial ?_;exact kF hk
  intro wq;refine aK<|gA<|aP h1 cu Z<|lf 0 kM Z<|aj ac Z<|ab (zC [] [] [] func126 (PU x _ hw sm) (trivial) Z Z) Z<|lT [1,2,4,35,36,37,102] [2001,2004] ?_;refine cT (.au [c6,c6]) Z<|dE Z<|dE Z<|ao Z<|ao Z<|nA<|lf 1 qS Z<|aj ac Z<|lf 2 fH Z<|aj ac Z<|lf 3 ic Z<|aj ac Z ?_;have a1:bb x.ag[k].loc=true:=by simpa using m7
  unfold bb at a1;have a1:=cJ.1 a1;have a2:bb x.ag[k].aC=true:=by simpa using mF
  unfold bb at a2;have a2:=cJ.1 a2;obtain⟨s1,s2,s3,s4⟩:=Dc sm x.ag[k].id;refine bg Z<|ae Z<|bg Z<|ae Z<|bg Z<|ak Z<|Y<|cE rfl ?_ ?_
  ·intro Bd;refine sL<|ar Z<|Y<|aR<|rB<|rT<|rT<|rB<|rT ?_;refine az trivial ?_;exact kF hk
  intro Bd;refine aK<|gB<|gT<|aL<|bg Z<|ae Z<|Y ?_;have has:su x.ag k=true:=by
   rcases Nat.eq_zero_or_pos k with q|q
   ·subst q;rfl
   grind
  have kd:n5 x k=true:=by rw[Db hk,has];unfold pS ss;first|grind|(unfold gf aI at *;simp_all;done)|(unfold gf aI at *;simp_all<;>omega)
  have ko:∀j,j<k+1->n5 x j=true:=fun j hj=>(Nat.lt_or_ge j k).elim (bB j) (fun q=>by grind);refine x_44
 intro h6;refine aE<|eT<|eT<|eB<|gA<|cI Z<|Y<|aR ?_;refine az trivial ?_;grind[I2,ap,eG]
theorem Dn(x:aw)(hw:di x):GC prog 179 [cj x] [] (aD (eG x)) []:=by
 refine gi 2 func179 rfl ntmps179 rfl ?_;intro L O w0;refine sL<|ab (zX 2001 Z) Z<|ar Z<|Y<|aS<|sL<|lf 0 mB Z<|aj ac Z<|ab (zC [] [] [] func242 (pT _) (trivial) Z Z) Z<|bX Z<|aQ Z ?_;refine AL.bool (t:=9) rfl ?_ ?_
 ·intro V;refine aa Z<|aa Z<|aa Z<|aa Z<|aU Z<|bM Z<|aa Z<|aa Z<|aa Z<|aU Z<|bM Z<|aa Z<|aa Z<|aa Z<|aU Z<|bM Z<|aa Z<|aa Z<|aa Z<|aa Z<|aU Z<|bM Z<|aa Z<|aa Z<|aa Z<|aa Z<|aU Z<|bM Z<|aa Z<|aa Z ?_;refine aa Z<|aa Z<|aU Z<|bM Z<|aa Z<|aa Z<|aa Z<|aU Z<|Y<|aY Z<|sL<|ar Z<|Y<|aR<|rT ?_;refine az trivial ?_;exact kB
 intro V;refine lf 2 iW Z<|aj ac Z<|ab (zC [] [] [] func242 (pT _) (trivial) Z Z) Z<|lT [1,2,9,12] [2001] ?_;refine bX Z<|bj Z<|aQ Z ?_;refine AL.bool (t:=15) rfl ?_ ?_
 ·intro h2;refine aa Z<|aa Z<|aa Z<|aU Z<|bM Z<|aa Z<|aa Z<|aa Z<|aU Z<|bM Z<|aa Z<|aa Z<|aa Z<|aa Z<|aU Z<|bM Z<|aa Z<|aa Z<|aa Z<|aa Z<|aU Z<|bM Z<|aa Z<|aa Z<|aa Z<|aa Z<|aU Z<|bM Z<|aa Z<|aa Z ?_;refine aa Z<|aU Z<|Y<|aY Z<|sL<|ar Z<|Y<|aR<|rT ?_;refine az trivial ?_;exact kB
 intro h2;refine lf 1 mW Z<|aj ac Z<|ak Z<|bj Z<|aQ Z ?_;refine AL.bool (t:=20) rfl ?_ ?_
 ·intro h3;refine aa Z<|aa Z<|aa Z<|aU Z<|bM Z<|aa Z<|aa Z<|aa Z<|aa Z<|aU Z<|bM Z<|aa Z<|aa Z<|aa Z<|aa Z<|aU Z<|bM Z<|aa Z<|aa Z<|aa Z<|aa Z<|aU Z<|bM Z<|aa Z<|aa Z<|aa Z<|aU Z<|Y<|aY Z ?_;refine sL<|ar Z<|lT [1,2] [2001] ?_;refine Y<|aR<|rT ?_;refine az trivial ?_;exact kB
 intro h3;refine lf 1 mW Z<|aj ac Z<|ak Z<|bj Z<|aQ Z ?_;refine AL.bool (t:=25) rfl ?_ ?_
 ·intro h4;refine aa Z<|aa Z<|aa Z<|aa Z<|aU Z<|bM Z<|aa Z<|aa Z<|aa Z<|aa Z<|aU Z<|bM Z<|aa Z<|aa Z<|aa Z<|aa Z<|aU Z<|bM Z<|aa Z<|aa Z<|aa Z<|aU Z<|Y<|aY Z<|sL<|ar Z<|Y ?_;refine aR<|rT ?_;refine az trivial ?_;exact kB
 intro h4;refine lf 3 dr Z<|bo eg Z<|ba kJ Z<|ak Z<|bj Z<|aQ Z ?_;refine AL.bool (t:=31) rfl ?_ ?_
 ·intro h5;refine aa Z<|aa Z<|aa Z<|aa Z<|aU Z<|bM Z<|aa Z<|aa Z<|aa Z<|aa Z<|aU Z<|bM Z<|aa Z<|aa Z<|aa Z<|aU Z<|Y<|aY Z<|sL<|ar Z<|Y<|aR<|rT ?_;refine az trivial ?_;exact kB
 intro h5;refine lf 4 eF Z<|bo fS Z<|ba jb Z<|ak Z<|bj Z<|lT [1,2,36] [2001] ?_;refine aQ rfl ?_;refine AL.bool (t:=37) rfl ?_ ?_
 ·intro h6;refine aa Z<|aa Z<|aa Z<|aa Z<|aU Z<|bM Z<|aa Z<|aa Z<|aa Z<|aU Z<|Y<|aY Z<|sL<|ar Z<|Y<|aR<|rT ?_;refine az trivial ?_;exact kB
 intro h6;refine lf 5 gn Z<|bo ii Z<|ba j7 Z<|ak Z<|bj Z<|aQ Z ?_;refine AL.bool (t:=43) rfl ?_ ?_
 ·intro h7;refine aa Z<|aa Z<|aa Z<|aU Z<|Y<|aY Z<|sL<|ar Z<|Y<|aR<|rT ?_;refine az trivial ?_;exact kB
 intro h7;refine aP h1 cu Z<|ab (zC [] [] [] func243 (ZU x hw x_33 x_33) (trivial) rfl rfl) Z<|lT [1,2,43,45] [2001] ?_;refine bX Z<|bj Z<|Y<|cE rfl ?_ ?_
 ·intro h8;refine sL<|ar Z<|Y<|aR<|rT ?_;refine az trivial ?_;exact kB
 intro h8;refine aK<|gT<|aS<|sL<|lf 3 dr Z<|bo eg Z<|ba kJ Z<|ae Z<|Y<|aB ?_;have Jq:kW x=true:=by simpa using h8
 have sm:=Jr Jq;have ZW:x.ag.length<=20:=by have h:=h5;simp[ap]at h;omega
 refine aW [1,2,49,50] [2001] (D:=Nat) (fun k=>[(51,int (k:Int))]) (fun k=>[]) (fun k=>k<=x.ag.length/\∀j,j<k->n5 x j=true) (fun k=>x.ag.length-k) (0) (⟨Nat.zero_le _,fun j h=>absurd h x_2⟩) ⟨rfl,trivial⟩ trivial ?_;intro k hI;obtain⟨eN,bB⟩:=hI;refine sL<|ak Z<|Y<|aS<|cE rfl ?_ ?_
 ·intro h9;refine aK<|gT<|aS<|aB<|sL<|ae Z ?_;have hk:k<x.ag.length:=by simpa[ap]using h9
  refine li k cz Z (bS hk)<|d6 k7 fF Z<|ab (zA 2004 dy Z) Z<|ao Z<|ab (zB 2004 lu lv Z) Z<|lT [1,2,3,4,49,50,51] [2001,2004] ?_;refine Y<|aS<|aS<|aF []<|vq 0 (rf 0 kM Z)<|vq 1 (aZ ac Z)<|vq 2 (dt Z)<|vq 3 (dx Z) ?_;refine AF.bool (t:=59) rfl ?_ ?_
  ·intro dh;refine al 4 Z<|al 5 Z<|al 6 Z<|vq 7 (bA Z)<|vq 8 (cF Z)<|al 9 Z<|al 10 Z<|al 11 Z<|bi 12 Z<|bi 13 Z<|bi 14 Z<|bi 15 Z<|bi 16 Z<|bi 17 Z<|bi 18 Z<|al 19 Z<|al 20 Z<|al 21 Z<|al 22 Z<|vq 23 (bA Z)<|vq 24 (cF Z)<|al 25 Z<|al 26 Z<|al 27 Z<|al 28 Z<|vq 29 (bA Z)<|vq 30 (cF Z)<|al 31 Z<|al 32 Z<|al 33 Z ?_;refine al 34 Z<|vq 35 (bA Z)<|vq 36 (cF Z)<|al 37 Z<|al 38 Z<|al 39 Z<|al 40 Z<|vq 41 (bA Z)<|vq 42 (cF Z)<|al 43 Z<|al 44 Z<|al 45 Z<|vq 46 (bA Z)<|vq 47 (cF Z)<|al 48 Z<|al 49 Z<|al 50 Z<|vq 51 (bA Z)<|vq 52 (cF Z)<|al 53 Z<|al 54 Z<|al 55 Z<|al 56 Z<|vq 57 (bA Z)<|fD<|gT<|aY Z<|sL<|ar Z ?_;refine Y<|aR<|rT<|rB<|rT<|rT<|rB<|rT ?_;refine az trivial ?_;exact kF hk
  intro dh;refine vq 4 (rf 0 kM Z)<|vq 5 (aZ ac Z)<|vq 6 (dt Z)<|vq 7 (cv Z)<|vq 8 (dx Z) ?_;refine AF.bool (t:=64) rfl ?_ ?_
  ·intro gp;refine al 9 Z<|al 10 Z<|al 11 Z<|bi 12 Z<|bi 13 Z<|bi 14 Z<|bi 15 Z<|bi 16 Z<|bi 17 Z<|bi 18 Z<|al 19 Z<|al 20 Z<|al 21 Z<|al 22 Z<|vq 23 (bA Z)<|vq 24 (cF Z)<|al 25 Z<|al 26 Z<|al 27 Z<|al 28 Z<|vq 29 (bA Z)<|vq 30 (cF Z)<|al 31 Z<|al 32 Z<|al 33 Z<|al 34 Z<|vq 35 (bA Z)<|fT [1,2,4,49,50,51,91] [2001,2004] ?_;refine vq 36 (cF Z)<|al 37 Z<|al 38 Z<|al 39 Z<|al 40 Z<|vq 41 (bA Z)<|vq 42 (cF Z)<|al 43 Z<|al 44 Z<|al 45 Z<|vq 46 (bA Z)<|vq 47 (cF Z)<|al 48 Z<|al 49 Z<|al 50 Z<|vq 51 (bA Z)<|vq 52 (cF Z)<|al 53 Z<|al 54 Z<|al 55 Z<|al 56 Z<|vq 57 (bA Z)<|fD<|gT<|aY Z<|sL<|ar Z<|Y ?_;refine aR<|rT<|rB<|rT<|rT<|rB<|rT ?_;refine az trivial ?_;exact kF hk
  intro gp;refine vq 9 (dW Z)<|vq 10 (dt Z)<|vq 11 (dx Z) ?_;refine AF.bool (t:=67) rfl ?_ ?_
  ·intro gM;refine pq 12 (qf 3 dr rfl)<|sq 13 (jj eg rfl)<|pq 14 (gL c6 rfl)<|sq 15 (qV rfl x_82) ?_;have hp:0<k:=by simpa using gM
   refine sq 16 (rd (x:=.rp _) (yt (i:=k-1) rfl cz rfl rfl ?hn1 (bS (by omega:k-1<x.ag.length))) rfl) ?_;case hn1=>omega
   refine pq 17 (qd (x:=.rp _) (EI kM Z) Z)<|sq 18 (qU ac Z)<|vq 19 (rf 0 kM Z)<|vq 20 (aZ ac Z)<|vq 21 (dt Z)<|vq 22 (cv Z)<|vq 23 (cv Z)<|vq 24 (dx Z) ?_;refine AF.bool (t:=80) rfl ?_ ?_
   ·intro dO;refine al 25 Z<|al 26 Z<|al 27 Z<|al 28 Z<|vq 29 (bA Z)<|vq 30 (cF Z)<|al 31 Z<|al 32 Z<|al 33 Z<|al 34 Z<|vq 35 (bA Z)<|vq 36 (cF Z)<|al 37 Z<|al 38 Z<|al 39 Z<|al 40 Z<|vq 41 (bA Z)<|fT [1,2,4,49,50,51,97] [2001,2004] ?_;refine vq 42 (cF Z)<|al 43 Z<|al 44 Z<|al 45 Z<|vq 46 (bA Z)<|vq 47 (cF Z)<|al 48 Z<|al 49 Z<|al 50 Z<|vq 51 (bA Z)<|vq 52 (cF Z)<|al 53 Z<|al 54 Z<|al 55 Z<|al 56 Z<|vq 57 (bA Z)<|fD<|gT<|aY Z<|sL<|ar Z<|Y<|aR<|rT<|rB<|rT<|rT<|rB ?_;refine rT ?_;refine az trivial ?_;exact kF hk
   intro dO;refine vq 25 (rf 2 fH Z)<|vq 26 (aZ ac Z)<|bn 27 Z (zC [] [] [] func242 (pT _) (trivial) Z Z) (.inr Z)<|vq 28 (gQ Z)<|vq 29 (cv Z)<|vq 30 (dx Z) ?_;refine AF.bool (t:=86) rfl ?_ ?_
   ·intro ij;refine al 31 Z<|al 32 Z<|al 33 Z<|al 34 Z<|vq 35 (bA Z)<|vq 36 (cF Z)<|al 37 Z<|al 38 Z<|al 39 Z<|al 40 Z<|vq 41 (bA Z)<|vq 42 (cF Z)<|al 43 Z<|al 44 Z<|al 45 Z<|vq 46 (bA Z)<|vq 47 (cF Z)<|al 48 Z<|al 49 Z<|al 50 Z<|vq 51 (bA Z)<|vq 52 (cF Z)<|al 53 Z<|al 54 Z<|al 55 Z<|al 56 Z<|vq 57 (bA Z)<|fD<|gT<|aY Z ?_;refine sL<|ar Z<|Y<|aR<|rT<|rB<|rT<|rT<|rB<|rT ?_;refine az trivial ?_;exact kF hk
   intro ij;refine vq 31 (rf 3 ic Z)<|vq 32 (aZ ac Z)<|bn 33 Z (zC [] [] [] func242 (pT _) (trivial) Z Z) (.inr Z)<|fT [1,2,4,49,50,51,86,89] [2001,2004] ?_;refine vq 34 (gQ Z)<|vq 35 (cv Z)<|vq 36 (dx Z) ?_;refine AF.bool (t:=92) rfl ?_ ?_
   ·intro lg;refine al 37 Z<|al 38 Z<|al 39 Z<|al 40 Z<|vq 41 (bA Z)<|vq 42 (cF Z)<|al 43 Z<|al 44 Z<|al 45 Z<|vq 46 (bA Z)<|vq 47 (cF Z)<|al 48 Z<|al 49 Z<|al 50 Z<|vq 51 (bA Z)<|vq 52 (cF Z)<|al 53 Z<|al 54 Z<|al 55 Z<|al 56 Z<|vq 57 (bA Z)<|fD<|gT<|aY Z<|sL<|ar Z<|Y<|aR ?_;refine rT<|rB<|rT<|rT<|rB<|rT ?_;refine az trivial ?_;exact kF hk
   intro lg;refine vq 37 (rf 4 nE Z)<|vq 38 (aZ ac Z)<|bn 39 Z (zC [] [] [] func242 (pT _) (trivial) Z Z) (.inr Z)<|fT [1,2,4,49,50,51,92,95] [2001,2004] ?_;refine vq 40 (gQ Z)<|vq 41 (cv Z)<|vq 42 (dx Z) ?_;refine AF.bool (t:=98) rfl ?_ ?_
   ·intro mn;refine al 43 Z<|al 44 Z<|al 45 Z<|vq 46 (bA Z)<|vq 47 (cF Z)<|al 48 Z<|al 49 Z<|al 50 Z<|vq 51 (bA Z)<|vq 52 (cF Z)<|al 53 Z<|al 54 Z<|al 55 Z<|al 56 Z<|vq 57 (bA Z)<|fD<|gT<|aY Z<|sL<|ar Z<|Y<|aR<|rT<|rB<|rT<|rT<|rB<|rT ?_;refine az trivial ?_;exact kF hk
   intro mn;refine vq 43 (rf 5 mH Z)<|vq 44 (aZ ac Z)<|vq 45 (dt Z)<|vq 46 (cv Z)<|vq 47 (dx Z) ?_;refine AF.bool (t:=103) rfl ?_ ?_
   ·intro m7;refine al 48 Z<|al 49 Z<|al 50 Z<|vq 51 (bA Z)<|vq 52 (cF Z)<|al 53 Z<|al 54 Z<|al 55 Z<|al 56 Z<|vq 57 (bA Z)<|fD<|gT<|aY Z<|sL<|ar Z<|Y<|aR<|rT<|rB<|rT<|rT<|rB<|rT ?_;refine az trivial ?_;exact kF hk
   intro m7;refine vq 48 (rf 5 mH Z)<|vq 49 (aZ ac Z)<|vq 50 (dt Z)<|vq 51 (cv Z)<|vq 52 (dx Z) ?_;refine AF.bool (t:=108) rfl ?_ ?_
   ·intro mF;refine al 53 Z<|al 54 Z<|al 55 Z<|al 56 Z<|vq 57 (bA Z)<|fD<|gT<|aY Z<|sL<|ar Z<|Y<|aR<|rT<|rB<|rT<|rT<|rB<|rT ?_;refine az trivial ?_;exact kF hk
   intro mF;refine vq 53 (rf 6 ms Z)<|vq 54 (aZ ac Z)<|bn 55 Z (zC [] [] [] func244 (PM _) (trivial) Z Z) (.inr Z)<|fT [1,2,4,49,50,51,108,111] [2001,2004] ?_;refine vq 56 (gQ Z)<|vq 57 (cv Z)<|fD<|gT<|cE rfl ?_ ?_
   ·intro jn;refine sL<|ar Z<|Y<|aR<|rT<|rB<|rT<|rT<|rB<|rT ?_;refine az trivial ?_;exact kF hk
   intro jn;refine aK<|gT<|aS<|aF []<|vq 0 (rf 1 qS Z)<|vq 1 (aZ ac Z)<|bn 2 Z (zC [] [] [] func242 (pT _) (trivial) Z Z) (.inr Z)<|vq 3 (gQ Z)<|vq 4 (dx Z) ?_;refine AF.bool (t:=118) rfl ?_ ?_
   ·intro Dd;refine bi 5 Z<|bi 6 Z<|bi 7 Z<|bi 8 Z<|bi 9 Z<|bi 10 Z<|bi 11 Z<|bi 12 Z<|bi 13 Z<|bi 14 Z<|bi 15 Z<|bi 16 Z<|bi 17 Z<|bi 18 Z<|bi 19 Z<|al 20 Z<|al 21 Z<|al 22 Z<|vq 23 (bA Z)<|fD<|gT<|aY Z<|sL<|ar Z<|Y<|aR<|rB<|rT ?_;refine rT<|rB<|rT ?_;refine az trivial ?_;exact kF hk
   intro Dd;refine pq 5 (qf 2 fH Z)<|sq 6 (aZ ac Z)<|pq 7 (qf 3 ic Z)<|sq 8 (aZ ac Z) ?_;have a1:bb x.ag[k].loc=true:=by simpa using ij
   unfold bb at a1;have a1:=cJ.1 a1;have a2:bb x.ag[k].aC=true:=by simpa using lg
   unfold bb at a2;have a2:=cJ.1 a2;obtain⟨s1,s2,s3,s4⟩:=Dc sm x.ag[k].id;refine sq 9 (qV rfl x_82)<|sq 10 (dw h1 cu rfl)<|pq 11 (qf 0 kM rfl)<|sq 12 (aZ ac rfl)<|sq 15 (dw h1 cu rfl)<|pq 16 (qf 0 kM rfl)<|sq 17 (aZ ac rfl)<|pq 20 (qf 1 qS rfl)<|sq 21 (aZ ac rfl)<|bn 13 rfl (zC [] [] [] func245 (PR x _ hw sm) (trivial) rfl rfl) (.inr rfl)<|fT [1,2,49,50,51,118,123,127,129,131,135] [2001,2004] ?_;refine sq 14 (qV rfl x_82)<|bn 18 rfl (zC [] [] [] func246 (PT x _ hw sm) (trivial) rfl rfl) (.inr rfl)<|vq 19 (qV rfl x_82)<|vq 22 (dt rfl)<|vq 23 (cv rfl)<|fD<|gT<|cE rfl ?_ ?_
   ·intro wt;refine sL<|ar Z<|Y<|aR<|rB<|rT<|rT<|rB<|rT ?_;refine az trivial ?_;exact kF hk
   intro wt;refine aK<|gB<|gT<|aL<|bg Z<|ae Z<|Y ?_;have has:su x.ag k=true:=by
    rcases Nat.eq_zero_or_pos k with q|q
    ·omega
    grind[Bc]
   have kd:n5 x k=true:=by rw[Db hk,has];unfold pS ss;first|(simp_all;done)|grind[gf,aI]|(unfold gf aI at *;simp_all<;>omega)
   have ko:∀j,j<k+1->n5 x j=true:=fun j hj=>(Nat.lt_or_ge j k).elim (bB j) (fun q=>by grind);refine x_44
  intro gM;refine bi 12 Z<|bi 13 Z<|bi 14 Z<|bi 15 Z<|bi 16 Z<|bi 17 Z<|bi 18 Z<|al 19 Z<|al 20 Z<|al 21 Z<|vq 22 (kK Z)<|vq 23 (kK Z)<|vq 24 (rG Z)<|vq 25 (rf 2 fH Z)<|vq 26 (aZ ac Z)<|bn 27 Z (zC [] [] [] func242 (pT _) (trivial) Z Z) (.inr Z)<|fT [1,2,4,49,50,51,80,83] [2001,2004] ?_;refine vq 28 (gQ Z)<|vq 29 (cv Z)<|vq 30 (dx Z) ?_;refine AF.bool (t:=86) rfl ?_ ?_
  ·intro wq;refine al 31 Z<|al 32 Z<|al 33 Z<|al 34 Z<|vq 35 (bA Z)<|vq 36 (cF Z)<|al 37 Z<|al 38 Z<|al 39 Z<|al 40 Z<|vq 41 (bA Z)<|vq 42 (cF Z)<|al 43 Z<|al 44 Z<|al 45 Z<|vq 46 (bA Z)<|vq 47 (cF Z)<|al 48 Z<|al 49 Z<|al 50 Z<|vq 51 (bA Z)<|vq 52 (cF Z)<|al 53 Z<|al 54 Z<|al 55 Z<|al 56 Z<|vq 57 (bA Z)<|fD<|gT<|aY Z ?_;refine sL<|ar Z<|Y<|aR<|rT<|rB<|rT<|rT<|rB<|rT ?_;refine az trivial ?_;exact kF hk
  intro wq;refine vq 31 (rf 3 ic Z)<|vq 32 (aZ ac Z)<|bn 33 Z (zC [] [] [] func242 (pT _) (trivial) Z Z) (.inr Z)<|fT [1,2,4,49,50,51,86,89] [2001,2004] ?_;refine vq 34 (gQ Z)<|vq 35 (cv Z)<|vq 36 (dx Z) ?_;refine AF.bool (t:=92) rfl ?_ ?_
  ·intro Bd;refine al 37 Z<|al 38 Z<|al 39 Z<|al 40 Z<|vq 41 (bA Z)<|vq 42 (cF Z)<|al 43 Z<|al 44 Z<|al 45 Z<|vq 46 (bA Z)<|vq 47 (cF Z)<|al 48 Z<|al 49 Z<|al 50 Z<|vq 51 (bA Z)<|vq 52 (cF Z)<|al 53 Z<|al 54 Z<|al 55 Z<|al 56 Z<|vq 57 (bA Z)<|fD<|gT<|aY Z<|sL<|ar Z<|Y<|aR ?_;refine rT<|rB<|rT<|rT<|rB<|rT ?_;refine az trivial ?_;exact kF hk
  intro Bd;refine vq 37 (rf 4 nE Z)<|vq 38 (aZ ac Z)<|bn 39 Z (zC [] [] [] func242 (pT _) (trivial) Z Z) (.inr Z)<|fT [1,2,4,49,50,51,92,95] [2001,2004] ?_;refine vq 40 (gQ Z)<|vq 41 (cv Z)<|vq 42 (dx Z) ?_;refine AF.bool (t:=98) rfl ?_ ?_
  ·intro Js;refine al 43 Z<|al 44 Z<|al 45 Z<|vq 46 (bA Z)<|vq 47 (cF Z)<|al 48 Z<|al 49 Z<|al 50 Z<|vq 51 (bA Z)<|vq 52 (cF Z)<|al 53 Z<|al 54 Z<|al 55 Z<|al 56 Z<|vq 57 (bA Z)<|fD<|gT<|aY Z<|sL<|ar Z<|Y<|aR<|rT<|rB<|rT<|rT<|rB<|rT ?_;refine az trivial ?_;exact kF hk
  intro Js;refine vq 43 (rf 5 mH Z)<|vq 44 (aZ ac Z)<|vq 45 (dt Z)<|vq 46 (cv Z)<|vq 47 (dx Z) ?_;refine AF.bool (t:=103) rfl ?_ ?_
  ·intro pd;refine al 48 Z<|al 49 Z<|al 50 Z<|vq 51 (bA Z)<|vq 52 (cF Z)<|al 53 Z<|al 54 Z<|al 55 Z<|al 56 Z<|vq 57 (bA Z)<|fD<|gT<|aY Z<|sL<|ar Z<|Y<|aR<|rT<|rB<|rT<|rT<|rB<|rT ?_;refine az trivial ?_;exact kF hk
  intro pd;refine vq 48 (rf 5 mH Z)<|vq 49 (aZ ac Z)<|vq 50 (dt Z)<|vq 51 (cv Z)<|vq 52 (dx Z) ?_;refine AF.bool (t:=108) rfl ?_ ?_
  ·intro Jt;refine al 53 Z<|al 54 Z<|al 55 Z<|al 56 Z<|vq 57 (bA Z)<|fD<|gT<|aY Z<|sL<|ar Z<|Y<|aR<|rT<|rB<|rT<|rT<|rB<|rT ?_;refine az trivial ?_;exact kF hk
  intro Jt;refine vq 53 (rf 6 ms Z)<|vq 54 (aZ ac Z)<|bn 55 Z (zC [] [] [] func244 (PM _) (trivial) Z Z) (.inr Z)<|fT [1,2,4,49,50,51,108,111] [2001,2004] ?_;refine vq 56 (gQ Z)<|vq 57 (cv Z)<|fD<|gT<|cE rfl ?_ ?_
  ·intro qB;refine sL<|ar Z<|Y<|aR<|rT<|rB<|rT<|rT<|rB<|rT ?_;refine az trivial ?_;exact kF hk
  intro qB;refine aK<|gT<|aS<|aF []<|vq 0 (rf 1 qS Z)<|vq 1 (aZ ac Z)<|bn 2 Z (zC [] [] [] func242 (pT _) (trivial) Z Z) (.inr Z)<|vq 3 (gQ Z)<|vq 4 (dx Z) ?_;refine AF.bool (t:=118) rfl ?_ ?_
  ·intro Ju;refine bi 5 Z<|bi 6 Z<|bi 7 Z<|bi 8 Z<|bi 9 Z<|bi 10 Z<|bi 11 Z<|bi 12 Z<|bi 13 Z<|bi 14 Z<|bi 15 Z<|bi 16 Z<|bi 17 Z<|bi 18 Z<|bi 19 Z<|al 20 Z<|al 21 Z<|al 22 Z<|vq 23 (bA Z)<|fD<|gT<|aY Z<|sL<|ar Z<|Y<|aR<|rB<|rT ?_;refine rT<|rB<|rT ?_;refine az trivial ?_;exact kF hk
  intro Ju;refine pq 5 (qf 2 fH Z)<|sq 6 (aZ ac Z)<|pq 7 (qf 3 ic Z)<|sq 8 (aZ ac Z) ?_;have a1:bb x.ag[k].loc=true:=by simpa using wq
  unfold bb at a1;have a1:=cJ.1 a1;have a2:bb x.ag[k].aC=true:=by simpa using Bd
  unfold bb at a2;have a2:=cJ.1 a2;obtain⟨s1,s2,s3,s4⟩:=Dc sm x.ag[k].id;refine sq 9 (qV rfl x_82)<|sq 10 (dw h1 cu rfl)<|pq 11 (qf 0 kM rfl)<|sq 12 (aZ ac rfl)<|sq 15 (dw h1 cu rfl)<|pq 16 (qf 0 kM rfl)<|sq 17 (aZ ac rfl)<|pq 20 (qf 1 qS rfl)<|sq 21 (aZ ac rfl)<|bn 13 rfl (zC [] [] [] func245 (PR x _ hw sm) (trivial) rfl rfl) (.inr rfl)<|fT [1,2,49,50,51,118,123,127,129,131,135] [2001,2004] ?_;refine sq 14 (qV rfl x_82)<|bn 18 rfl (zC [] [] [] func246 (PT x _ hw sm) (trivial) rfl rfl) (.inr rfl)<|vq 19 (qV rfl x_82)<|vq 22 (dt rfl)<|vq 23 (cv rfl)<|fD<|gT<|cE rfl ?_ ?_
  ·intro sv;refine sL<|ar Z<|Y<|aR<|rB<|rT<|rT<|rB<|rT ?_;refine az trivial ?_;exact kF hk
  intro sv;refine aK<|gB<|gT<|aL<|bg Z<|ae Z<|Y ?_;have has:su x.ag k=true:=by
   rcases Nat.eq_zero_or_pos k with q|q
   ·subst q;rfl
   grind
  have kd:n5 x k=true:=by rw[Db hk,has];unfold pS ss;first|(simp_all;done)|grind[gf,aI]|(unfold gf aI at *;simp_all<;>omega)
  have ko:∀j,j<k+1->n5 x j=true:=fun j hj=>(Nat.lt_or_ge j k).elim (bB j) (fun q=>by grind);refine x_44
 intro h9;refine aE<|eT<|eT<|eB<|gA<|cI Z<|Y<|aR ?_;refine az trivial ?_;grind[I2,ap,eG,aI]
end Go.Proofs.YtflhgkmhmcfimaaGreat

