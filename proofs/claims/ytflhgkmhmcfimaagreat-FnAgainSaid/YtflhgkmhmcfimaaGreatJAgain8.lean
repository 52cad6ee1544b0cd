/- Texts of the proof of FnFnAgain, joined: EA3, EA4, EA8, LogS, LogN. -/
import Derived.Test.YtflhgkmhmcfimaaGreatJAgain6
import Derived.Test.YtflhgkmhmcfimaaGreatJAgain7
import Derived.Test.YtflhgkmhmcfimaaGreatQAllowS
import Derived.Test.YtflhgkmhmcfimaaGreatQScore1
import Derived.Test.YtflhgkmhmcfimaaGreatJAgain3
import Derived.Test.YtflhgkmhmcfimaaGreatJAgain5
namespace Go.Proofs.YtflhgkmhmcfimaaGreat
open Tryz
open Go.RowKit
set_option maxHeartbeats 16000000
set_option maxRecDepth 100000
set_option linter.unusedSimpArgs false
set_option linter.unusedVariables false
def jw{α:Type}(p:α->Bool)(l:List α):Int:=match l.findIdx? p with|some i=>(i:Int)|none=>-1
theorem DE{α:Type}{p:α->Bool}{l:List α}{k:Nat}(hk:k<l.length)(h:∀j (h:j<l.length),j<k->p l[j]=false)(h2:p l[k]=true):jw p l=(k:Int):=by
 grind[jw,List.findIdx?_eq_some_iff_getElem]
theorem DF{α:Type}{p:α->Bool}{l:List α}(h:∀j (h:j<l.length),p l[j]=false):jw p l=-1:=by
 unfold jw;rw[List.findIdx?_eq_none_iff.2 (fun x hx=>by
  obtain⟨j,hj,rfl⟩:=List.getElem_of_mem hx;grind)]
theorem RX{α:Type}(p:α->Bool)(l:List α):jw p l=-1\/∃k,∃h:k<l.length,jw p l=(k:Int)/\p l[k]=true:=by
 unfold jw;cases h:l.findIdx? p with
 |none=>simp
 |some i=>
  obtain⟨V,h2,_⟩:=List.findIdx?_eq_some_iff_getElem.1 h;grind
theorem all_succ{α:Type}{p:α->Bool}{l:List α}{k:Nat}(hk:k<l.length)(h:∀j (h:j<l.length),j<k->p l[j]=false)(h2:p l[k]=false):∀j (h:j<l.length),j<k+1->p l[j]=false:=fun j hj eI=>by
 grind
theorem BD{α:Type}{p:α->Bool}{l:List α}(h:∀j (h:j<l.length),p l[j]=false):l.any p=false:=by
 rw[List.any_eq_false];intro x hx;obtain⟨j,hj,rfl⟩:=List.getElem_of_mem hx;grind
theorem tS{α:Type}{p:α->Bool}{l:List α}{k:Nat}(hk:k<l.length)(h:p l[k]=true):l.any p=true:=List.any_eq_true.2 ⟨_,List.getElem_mem hk,h⟩
def DG(l:List eV)(key:Int):Int:=jw (fun h=>h.key==key) l
def DH(l:List gz)(key:Int):Int:=jw (fun h=>h.key==key) l
theorem eW(l:List be)(ch:Int):eS l ch=jw (fun c=>c.id==ch) l:=rfl
def nH(ch:Int)(h:eV):Bool:=h.gh==ch||h.out==ch
def nI(ch:Int)(c:gz):Bool:=c.fI==ch||c.to==ch
def oG(x:aw)(ch:Int):Bool:=x.an.any (nH ch)||x.aq.any (nI ch)
def nD(x:aw)(key:Int):Bool:=decide (0<=DG x.an key)||decide (0<=DH x.aq key)
def rJ(ch:Int)(h:eV):Int:=if h.out=ch/\h.kept=false then h.c9 else 0
def rK(ch:Int)(h:eV):Int:=if h.out=ch then 1 else 0
def rL(ch:Int)(h:eV):Int:=if h.out=ch/\h.kept=false then 1 else 0
def yn(n:Int)(g:Bool):Bool:=mr n&&decide (20<=n)&&g
def BE(l:List eV)(fI to:be)(ch af:Int)(yes:Bool):Int:=allow to.size (bG (rJ ch) l) (bG (dK ch) l) (bG (rL ch) l) (bG (rK ch) l) af (yn fI.cM yes)
def u0(n lo hi:Int):Int:=if n<lo then lo else if hi<n then hi else n
def qQ(l:List eV):Prop:=l.length<=60/\∀h∈l,0<=h.c9/\h.c9<=1125899906842624
theorem qQ.at{l:List eV}(s:qQ l){k:Nat}(hk:k<l.length):0<=l[k].c9/\l[k].c9<=1125899906842624:=s.2 _ (List.getElem_mem hk)
theorem qQ.ez{l:List eV}(s:qQ l)(ch:Int)(k:Nat):0<=bG (rJ ch) (l.take k)/\bG (rJ ch) (l.take k)<=60*1125899906842624:=oI 60 x_3 (fun h hh=>by have:=s.2 h hh;grind[rJ]) s.1 k
theorem qQ.all{l:List eV}(s:qQ l)(ch:Int)(k:Nat):0<=bG (dK ch) (l.take k)/\bG (dK ch) (l.take k)<=60*1125899906842624:=oI 60 x_3 (fun h hh=>by have:=s.2 h hh;grind[dK]) s.1 k
theorem qQ.one{l:List eV}(s:qQ l)(ch:Int)(k:Nat):0<=bG (rK ch) (l.take k)/\bG (rK ch) (l.take k)<=60*1:=oI 60 x_3 (fun h hh=>by grind[rK]) s.1 k
theorem qQ.KM{l:List eV}(s:qQ l)(ch:Int)(k:Nat):0<=bG (rL ch) (l.take k)/\bG (rL ch) (l.take k)<=60*1:=oI 60 x_3 (fun h hh=>by grind[rL]) s.1 k
theorem rM{α:Type}{f:α->Int}{l:List α}{k:Nat}(hk:k<l.length)(h:f l[k]=0):bG f (l.take (k+1))=bG f (l.take k):=by grind[oJ]
theorem rN{α:Type}{f:α->Int}{l:List α}{k:Nat}{n:Int}(hk:k<l.length)(h:f l[k]=n):bG f (l.take k)+n=bG f (l.take (k+1)):=by grind[oJ]
theorem z2(x:aw)(ch:Int)(hm:x.ag.length<=1000000000):GC prog 125 [cj x,int ch] [] (int (jw (fun c=>c.id==ch) x.ag)) []:=by
 refine gi 4 func125 rfl ntmps125 rfl ?_;intro L O w0;refine sL<|ab (zX 2002 Z) Z<|ao Z<|Y<|aS<|sL<|lf 3 dr Z<|bo eg Z<|ba kJ Z<|ae Z<|Y<|aB ?_;refine aW [1,4,8,9] [2002] (D:=Nat) (fun k=>[(10,int (k:Int))]) (fun k=>[]) (fun k=>k<=x.ag.length/\∀j (h:j<x.ag.length),j<k->(fun c=>c.id==ch) x.ag[j]=false) (fun k=>x.ag.length-k) (0) (⟨Nat.zero_le _,fun j _ h=>absurd h x_2⟩) ⟨rfl,trivial⟩ trivial ?_;intro k hI;obtain⟨eN,bB⟩:=hI;refine sL<|ak Z<|Y<|aS<|cE rfl ?_ ?_
 ·intro V;refine aK<|gT<|aS<|aB<|sL<|ae Z ?_;have hk:k<x.ag.length:=by simpa[ap]using V
  refine li k cz Z (bS hk)<|d6 k7 fF Z<|ab (zA 2006 dy Z) Z<|ao Z<|ab (zB 2006 lu lv Z) Z<|nA<|lf 0 kM Z<|aj ac Z<|ae Z<|ak Z<|Y<|cE rfl ?_ ?_
  ·intro h2;refine sL<|ae Z<|ao Z<|Y<|aR<|rB<|rT<|rT<|rB<|rT ?_;refine ax ?_ trivial;refine congrArg (fun n=>some (int n)) ?_;grind[DE]
  intro h2;refine aK<|gB<|gT<|aL<|bg Z<|ae Z<|Y ?_;refine⟨k+1,⟨hk,all_succ (p:=(fun c=>c.id==ch)) hk bB x_2⟩,by omega,x_11,trivial,rfl,rfl⟩
 intro V;refine aE<|eT<|eT<|eB<|gA<|ao Z<|Y<|aR ?_;refine ax ?_ trivial;refine congrArg (fun n=>some (int n)) ?_;grind[DF,ap]
theorem F9(x:aw)(key:Int)(hm:x.an.length<=1000000000):GC prog 217 [cj x,int key] [] (int (jw (fun c=>c.key==key) x.an)) []:=by
 refine gi 4 func217 rfl ntmps217 rfl ?_;intro L O w0;refine sL<|ab (zX 2002 Z) Z<|ao Z<|Y<|aS<|sL<|lf 4 eF Z<|bo fS Z<|ba jb Z<|ae Z<|Y<|aB ?_;refine aW [1,4,8,9] [2002] (D:=Nat) (fun k=>[(10,int (k:Int))]) (fun k=>[]) (fun k=>k<=x.an.length/\∀j (h:j<x.an.length),j<k->(fun c=>c.key==key) x.an[j]=false) (fun k=>x.an.length-k) (0) (⟨Nat.zero_le _,fun j _ h=>absurd h x_2⟩) ⟨rfl,trivial⟩ trivial ?_;intro k hI;obtain⟨eN,bB⟩:=hI;refine sL<|ak Z<|Y<|aS<|cE rfl ?_ ?_
 ·intro V;refine aK<|gT<|aS<|aB<|sL<|ae Z ?_;have hk:k<x.an.length:=by simpa[ap]using V
  refine li k f7 Z (bS hk)<|d6 nG kZ Z<|ab (zA 2006 iu Z) Z<|ao Z<|ab (zB 2006 nJ nL Z) Z<|nA<|lf 0 u7 Z<|aj ac Z<|ae Z<|ak Z<|Y<|cE rfl ?_ ?_
  ·intro h2;refine sL<|ae Z<|ao Z<|Y<|aR<|rB<|rT<|rT<|rB<|rT ?_;refine ax ?_ trivial;refine congrArg (fun n=>some (int n)) ?_;grind[DE]
  intro h2;refine aK<|gB<|gT<|aL<|bg Z<|ae Z<|Y ?_;refine⟨k+1,⟨hk,all_succ (p:=(fun c=>c.key==key)) hk bB x_2⟩,by omega,x_11,trivial,rfl,rfl⟩
 intro V;refine aE<|eT<|eT<|eB<|gA<|ao Z<|Y<|aR ?_;refine ax ?_ trivial;refine congrArg (fun n=>some (int n)) ?_;grind[DF,ap]
theorem Ga(x:aw)(key:Int)(hm:x.aq.length<=1000000000):GC prog 221 [cj x,int key] [] (int (jw (fun c=>c.key==key) x.aq)) []:=by
 refine gi 4 func221 rfl ntmps221 rfl ?_;intro L O w0;refine sL<|ab (zX 2002 Z) Z<|ao Z<|Y<|aS<|sL<|lf 5 gn Z<|bo ii Z<|ba j7 Z<|ae Z<|Y<|aB ?_;refine aW [1,4,8,9] [2002] (D:=Nat) (fun k=>[(10,int (k:Int))]) (fun k=>[]) (fun k=>k<=x.aq.length/\∀j (h:j<x.aq.length),j<k->(fun c=>c.key==key) x.aq[j]=false) (fun k=>x.aq.length-k) (0) (⟨Nat.zero_le _,fun j _ h=>absurd h x_2⟩) ⟨rfl,trivial⟩ trivial ?_;intro k hI;obtain⟨eN,bB⟩:=hI;refine sL<|ak Z<|Y<|aS<|cE rfl ?_ ?_
 ·intro V;refine aK<|gT<|aS<|aB<|sL<|ae Z ?_;have hk:k<x.aq.length:=by simpa[ap]using V
  refine li k iI Z (bS hk)<|d6 ow l5 Z<|ab (zA 2006 jO Z) Z<|ao Z<|ab (zB 2006 oK oL Z) Z<|nA<|lf 0 u9 Z<|aj ac Z<|ae Z<|ak Z<|Y<|cE rfl ?_ ?_
  ·intro h2;refine sL<|ae Z<|ao Z<|Y<|aR<|rB<|rT<|rT<|rB<|rT ?_;refine ax ?_ trivial;refine congrArg (fun n=>some (int n)) ?_;grind[DE]
  intro h2;refine aK<|gB<|gT<|aL<|bg Z<|ae Z<|Y ?_;refine⟨k+1,⟨hk,all_succ (p:=(fun c=>c.key==key)) hk bB x_2⟩,by omega,x_11,trivial,rfl,rfl⟩
 intro V;refine aE<|eT<|eT<|eB<|gA<|ao Z<|Y<|aR ?_;refine ax ?_ trivial;refine congrArg (fun n=>some (int n)) ?_;grind[DF,ap]
theorem m9(x:aw)(ch:Int)(hm:x.ag.length<=1000000000):GC prog 200 [cj x,int ch] [] (int (jw (fun c=>c.id==ch) x.ag)) []:=by
 refine gi 4 func200 rfl ntmps200 rfl ?_;intro L O w0;refine sL<|ab (zX 2002 Z) Z<|ao Z<|Y<|aS<|sL<|lf 3 dr Z<|bo eg Z<|ba kJ Z<|ae Z<|Y<|aB ?_;refine aW [1,2,4,8] [2002] (D:=Nat) (fun k=>[(9,int (k:Int))]) (fun k=>[]) (fun k=>k<=x.ag.length/\∀j (h:j<x.ag.length),j<k->(fun c=>c.id==ch) x.ag[j]=false) (fun k=>x.ag.length-k) (0) (⟨Nat.zero_le _,fun j _ h=>absurd h x_2⟩) ⟨rfl,trivial⟩ trivial ?_;intro k hI;obtain⟨eN,bB⟩:=hI;refine sL<|ak Z<|Y<|aS<|cE rfl ?_ ?_
 ·intro V;refine aK<|gT<|aS<|aB<|sL<|ae Z<|ao Z<|nA<|lf 3 dr Z<|bo eg Z<|ae Z ?_;have hk:k<x.ag.length:=by simpa[ap]using V
  refine li k cz Z (bS hk)<|lq (rd (x:=.rp _) (nM kM Z) Z)<|oy ac Z<|ae Z<|ak Z<|Y<|cE rfl ?_ ?_
  ·intro h2;refine sL<|ae Z<|ao Z<|Y<|aR<|rB<|rT<|rT<|rB<|rT ?_;refine ax ?_ trivial;refine congrArg (fun n=>some (int n)) ?_;grind[DE]
  intro h2;refine aK<|gB<|gT<|aL<|bg Z<|ae Z<|Y ?_;refine⟨k+1,⟨hk,all_succ (p:=(fun c=>c.id==ch)) hk bB x_2⟩,by omega,x_11,trivial,rfl,rfl⟩
 intro V;refine aE<|eT<|eT<|eB<|gA<|ao Z<|Y<|aR ?_;refine ax ?_ trivial;refine congrArg (fun n=>some (int n)) ?_;grind[DF,ap]
theorem KN(x:aw)(ch:Int)(mG:x.an.length<=1000000000)(lr:x.aq.length<=1000000000):GC prog 212 [cj x,int ch] [] (aD (oG x ch)) []:=by
 refine gi 4 func212 rfl ntmps212 rfl ?_;intro L O w0;refine sL<|ab (zX 2002 Z) Z<|ar Z<|Y<|aS<|sL<|lf 4 eF Z<|bo fS Z<|ba jb Z<|ae Z<|Y<|aB ?_;refine aW [1,2,4,10,11] [2002] (D:=Nat) (fun k=>[(12,int (k:Int))]) (fun k=>[]) (fun k=>k<=x.an.length/\∀j (h:j<x.an.length),j<k->nH ch x.an[j]=false) (fun k=>x.an.length-k) (0) (⟨Nat.zero_le _,fun j _ h=>absurd h x_2⟩) ⟨rfl,trivial⟩ trivial ?_;intro k hI;obtain⟨eN,bB⟩:=hI;refine sL<|ak Z<|Y<|aS<|cE rfl ?_ ?_
 ·intro V;refine aK<|gT<|aS<|aB<|sL ?_;have hk:k<x.an.length:=by simpa[ap]using V
  refine li k f7 Z (bS hk)<|d6 nG kZ Z<|ab (zA 2006 iu Z) Z<|ab (zB 2006 nJ nL Z) Z<|nA<|lf 1 oM Z<|aj ac Z<|ae Z<|ak Z<|aQ Z ?_;refine AL.bool (t:=20) rfl ?_ ?_
  ·intro h2;refine aa Z<|aa Z<|aa Z<|aa Z<|aU Z<|Y<|aY Z<|sL<|cI Z<|Y<|aR<|rB<|rT<|rT<|rB<|rT ?_;refine az trivial ?_;grind[oG,tS,nH]
  intro h2;refine lf 2 mJ Z<|aj ac Z<|ae Z<|ak Z<|bj Z<|Y<|cE rfl ?_ ?_
  ·intro h3;refine sL<|cI Z<|Y<|aR<|rB<|rT<|rT<|rB<|rT ?_;refine az trivial ?_;grind[oG,tS,nH]
  intro h3;refine aK<|gB<|gT<|aL<|bg Z<|ae Z<|Y ?_;refine⟨k+1,⟨hk,all_succ (p:=nH ch) hk bB (by grind[nH])⟩,by omega,x_11,trivial,rfl,rfl⟩
 intro V;refine aE<|eT<|eT<|eB<|gT<|aS<|sL<|lf 5 gn Z<|bo ii Z<|ba j7 Z<|ae Z<|lT [1,4,28,29,30] [2002] ?_;refine Y<|aB ?_;have iY:x.an.any (nH ch)=false:=BD fun j hj=>bB j hj x_33;clear bB eN;refine aW [1,4,28,29] [2002] (D:=Nat) (fun k=>[(30,int (k:Int))]) (fun k=>[]) (fun k=>k<=x.aq.length/\∀j (h:j<x.aq.length),j<k->nI ch x.aq[j]=false) (fun k=>x.aq.length-k) (0) (⟨Nat.zero_le _,fun j _ h=>absurd h x_2⟩) ⟨rfl,trivial⟩ trivial ?_;intro k hI;obtain⟨eN,bB⟩:=hI;refine sL<|ak Z<|Y<|aS<|cE rfl ?_ ?_
 ·intro h4;refine aK<|gT<|aS<|aB<|sL ?_;have hk:k<x.aq.length:=by simpa[ap]using h4
  refine li k iI Z (bS hk)<|d6 ow l5 Z<|ab (zA 2008 jO Z) Z<|ab (zB 2008 oK oL Z) Z<|nA<|lf 1 nO Z<|aj ac Z<|ae Z<|ak Z<|aQ Z ?_;refine AL.bool (t:=38) rfl ?_ ?_
  ·intro h5;refine aa Z<|aa Z<|aa Z<|aa Z<|aU Z<|Y<|aY Z<|sL<|cI Z<|Y<|aR<|rB<|rT<|rT<|rB<|rT ?_;refine az trivial ?_;unfold oG;rw[tS (p:=nI ch) hk (by grind[nI]),Bool.or_true]
  intro h5;refine lf 2 py Z<|aj ac Z<|ae Z<|ak Z<|bj Z<|Y<|cE rfl ?_ ?_
  ·intro h6;refine sL<|cI Z<|Y<|aR<|rB<|rT<|rT<|rB<|rT ?_;refine az trivial ?_;unfold oG;rw[tS (p:=nI ch) hk (by grind[nI]),Bool.or_true]
  intro h6;refine aK<|gB<|gT<|aL<|bg Z<|ae Z<|Y ?_;refine⟨k+1,⟨hk,all_succ (p:=nI ch) hk bB (by grind[nI])⟩,by omega,x_11,trivial,rfl,rfl⟩
 intro h4;refine aE<|eT<|eT<|eB<|gA<|ar Z<|Y<|aR ?_;refine az trivial ?_;grind[oG,BD,ap]
theorem RP(x:aw)(ch:Int)(mG:x.an.length<=1000000000)(lr:x.aq.length<=1000000000):GC prog 252 [cj x,int ch] [] (aD (oG x ch)) []:=by
 refine gi 4 func252 rfl ntmps252 rfl ?_;intro L O w0;refine sL<|ab (zX 2002 Z) Z<|ar Z<|Y<|aS<|sL<|lf 4 eF Z<|bo fS Z<|ba jb Z<|ae Z<|Y<|aB ?_;refine aW [1,2,4,10,11] [2002] (D:=Nat) (fun k=>[(12,int (k:Int))]) (fun k=>[]) (fun k=>k<=x.an.length/\∀j (h:j<x.an.length),j<k->nH ch x.an[j]=false) (fun k=>x.an.length-k) (0) (⟨Nat.zero_le _,fun j _ h=>absurd h x_2⟩) ⟨rfl,trivial⟩ trivial ?_;intro k hI;obtain⟨eN,bB⟩:=hI;refine sL<|ak Z<|Y<|aS<|cE rfl ?_ ?_
 ·intro V;refine aK<|gT<|aS<|aB<|sL ?_;have hk:k<x.an.length:=by simpa[ap]using V
  refine li k f7 Z (bS hk)<|d6 nG kZ Z<|ab (zA 2006 iu Z) Z<|ab (zB 2006 nJ nL Z) Z<|nA<|lf 1 oM Z<|aj ac Z<|ae Z<|ak Z<|aQ Z ?_;refine AL.bool (t:=20) rfl ?_ ?_
  ·intro h2;refine aa Z<|aa Z<|aa Z<|aa Z<|aU Z<|Y<|aY Z<|sL<|cI Z<|Y<|aR<|rB<|rT<|rT<|rB<|rT ?_;refine az trivial ?_;grind[oG,tS,nH]
  intro h2;refine lf 2 mJ Z<|aj ac Z<|ae Z<|ak Z<|bj Z<|Y<|cE rfl ?_ ?_
  ·intro h3;refine sL<|cI Z<|Y<|aR<|rB<|rT<|rT<|rB<|rT ?_;refine az trivial ?_;grind[oG,tS,nH]
  intro h3;refine aK<|gB<|gT<|aL<|bg Z<|ae Z<|Y ?_;refine⟨k+1,⟨hk,all_succ (p:=nH ch) hk bB (by grind[nH])⟩,by omega,x_11,trivial,rfl,rfl⟩
 intro V;refine aE<|eT<|eT<|eB<|gT<|aS<|sL<|lf 5 gn Z<|bo ii Z<|ba j7 Z<|ae Z<|lT [1,4,28,29,30] [2002] ?_;refine Y<|aB ?_;have iY:x.an.any (nH ch)=false:=BD fun j hj=>bB j hj x_33;clear bB eN;refine aW [1,4,28,29] [2002] (D:=Nat) (fun k=>[(30,int (k:Int))]) (fun k=>[]) (fun k=>k<=x.aq.length/\∀j (h:j<x.aq.length),j<k->nI ch x.aq[j]=false) (fun k=>x.aq.length-k) (0) (⟨Nat.zero_le _,fun j _ h=>absurd h x_2⟩) ⟨rfl,trivial⟩ trivial ?_;intro k hI;obtain⟨eN,bB⟩:=hI;refine sL<|ak Z<|Y<|aS<|cE rfl ?_ ?_
 ·intro h4;refine aK<|gT<|aS<|aB<|sL ?_;have hk:k<x.aq.length:=by simpa[ap]using h4
  refine li k iI Z (bS hk)<|d6 ow l5 Z<|ab (zA 2008 jO Z) Z<|ab (zB 2008 oK oL Z) Z<|nA<|lf 1 nO Z<|aj ac Z<|ae Z<|ak Z<|aQ Z ?_;refine AL.bool (t:=38) rfl ?_ ?_
  ·intro h5;refine aa Z<|aa Z<|aa Z<|aa Z<|aU Z<|Y<|aY Z<|sL<|cI Z<|Y<|aR<|rB<|rT<|rT<|rB<|rT ?_;refine az trivial ?_;unfold oG;rw[tS (p:=nI ch) hk (by grind[nI]),Bool.or_true]
  intro h5;refine lf 2 py Z<|aj ac Z<|ae Z<|ak Z<|bj Z<|Y<|cE rfl ?_ ?_
  ·intro h6;refine sL<|cI Z<|Y<|aR<|rB<|rT<|rT<|rB<|rT ?_;refine az trivial ?_;unfold oG;rw[tS (p:=nI ch) hk (by grind[nI]),Bool.or_true]
  intro h6;refine aK<|gB<|gT<|aL<|bg Z<|ae Z<|Y ?_;refine⟨k+1,⟨hk,all_succ (p:=nI ch) hk bB (by grind[nI])⟩,by omega,x_11,trivial,rfl,rfl⟩
 intro h4;refine aE<|eT<|eT<|eB<|gA<|ar Z<|Y<|aR ?_;refine az trivial ?_;grind[oG,BD,ap]
theorem KP(x:aw)(key:Int)(mG:x.an.length<=1000000000)(lr:x.aq.length<=1000000000):GC prog 213 [cj x,int key] [] (aD (nD x key)) []:=by
 refine gi 4 func213 rfl ntmps213 rfl ?_;intro L O w0;refine sL<|ab (zX 2002 Z) Z<|ar Z<|nA<|aP h1 cu Z<|ae Z<|ab (zL func217 (F9 x _ mG) Z) Z<|ak Z<|aQ Z ?_;refine AL.bool (t:=9) rfl ?_ ?_
 ·intro V;refine aa Z<|aa Z<|aa Z<|aa Z<|aU Z<|cI Z<|Y<|aR ?_;refine az trivial ?_;grind[nD,DG]
 intro V;refine aP h1 cu Z<|ae Z<|ab (zL func221 (Ga x _ lr) Z) Z<|ak Z<|bj Z<|bv Z<|Y<|aR ?_;refine az trivial ?_;grind[nD,DG,DH]
theorem KL(x:aw)(a b:Int)(hm:x.ag.length<=1000000000):GC prog 255 [cj x,int a,int b] [] (aD (two x.ag a b)) []:=by
 refine gi 6 func255 rfl ntmps255 rfl ?_;intro L O w0;refine sL<|ab (zX 2003 Z) Z<|ar Z<|nA<|ae Z<|ae Z<|ak Z<|aQ Z ?_;refine AL.bool (t:=10) rfl ?_ ?_
 ·intro V;refine aP h1 cu Z<|ae Z<|ab (zL func200 (m9 x _ hm) Z) Z<|ak Z<|bj Z<|aQ Z ?_;refine AL.bool (t:=16) rfl ?_ ?_
  ·intro h2;refine aP h1 cu Z<|ae Z<|ab (zL func200 (m9 x _ hm) Z) Z<|lT [6,16,19] [2003] ?_;refine ak Z<|bj Z<|bv Z<|Y<|aR ?_;refine az trivial ?_;grind[two,eW]
  intro h2;refine aa Z<|aa Z<|aa Z<|aa Z<|bL Z<|ar Z<|Y<|aR ?_;refine az trivial ?_;grind[two,eW]
 intro V;refine aa Z<|aa Z<|aa Z<|aa Z<|bL Z<|dm Z<|aa Z<|aa Z<|aa Z<|aa Z<|bL Z<|ar Z<|Y<|aR ?_;refine az trivial ?_;grind[two]
theorem RY(n:Int)(g:Bool):GC prog 267 [int n,aD g] [] (aD (yn n g)) []:=qR (r:=.bool (yn n g)) (fX rfl) rfl fun w=>(RZ n g w).mono fun e w' h=>⟨h.1,h.2▸cZ.refl _⟩
theorem R0(a b c d e f:Int)(g:Bool):GC prog 266 [int a,int b,int c,int d,int e,int f,aD g] [] (int (allow a b c d e f g)) []:=qR (r:=.int .i64 (allow a b c d e f g)) (fX rfl) rfl fun w=>RD a b c d e f g w
theorem R1(a b c d e f:Int)(g:Bool):GC prog 272 [int a,int b,int c,int d,int e,int f,aD g] [] (int (allow a b c d e f g)) []:=qR (r:=.int .i64 (allow a b c d e f g)) (fX rfl) rfl fun w=>R2 a b c d e f g w
theorem R3(n:Int):GC prog 218 [int n] [] (int (lR n)) []:=qR (r:=.int .i64 (lR n)) (fX rfl) rfl fun w=>(R4 n w).mono fun e w' h=>⟨h.1,h.2▸cZ.refl _⟩
theorem R5(n:Int):GC prog 219 [int n] [] (int (lS n)) []:=qR (r:=.int .i64 (lS n)) (fX rfl) rfl fun w=>(R6 n w).mono fun e w' h=>⟨h.1,h.2▸cZ.refl _⟩
theorem R7(n:Int):GC prog 220 [int n] [] (int (lA n)) []:=qR (r:=.int .i64 (lA n)) (fX rfl) rfl fun w=>(R8 n w).mono fun e w' h=>⟨h.1,h.2▸cZ.refl _⟩
theorem DI(n:Int):GC prog 244 [int n] [] (aD (mr n)) []:=qR (r:=.bool (mr n)) (fX rfl) rfl fun w=>(R9 n w).mono fun e w' h=>⟨h.1,h.2▸cZ.refl _⟩
theorem rO{n:Int}:mr n=true↔-100<=n/\n<=100:=cJ
theorem KQ(n lo hi:Int):GC prog 274 [int n,int lo,int hi] [] (int (u0 n lo hi)) []:=by
 refine gi 6 func274 rfl ntmps274 rfl ?_;intro L O w0;refine sL<|ao Z<|Y<|aS<|sL<|ae Z<|ae Z<|ak Z<|Y<|cE rfl ?_ ?_
 ·intro V;refine sL<|ae Z<|ao Z<|Y<|aR<|rT ?_;refine ax ?_ trivial;refine congrArg (fun n=>some (int n)) ?_;simp_all[u0]
 intro V;refine aK<|gT<|aS<|sL<|ae Z<|ae Z<|ak Z<|Y<|cE rfl ?_ ?_
 ·intro h2;refine sL<|ae Z<|ao Z<|Y<|aR<|rT ?_;refine ax ?_ trivial;refine congrArg (fun n=>some (int n)) ?_;unfold u0;grind
 intro h2;refine aK<|gA<|ae Z<|ao Z<|Y<|aR ?_;refine ax ?_ trivial;refine congrArg (fun n=>some (int n)) ?_;unfold u0;grind
theorem Sa(n:Int)(g:Bool):GC prog 273 [int n,aD g] [] (aD (yn n g)) []:=by
 refine gi 4 func273 rfl ntmps273 rfl ?_;intro L O w0;refine sL<|ar Z<|nA<|ae Z<|ab (zL func244 (DI _) Z) Z<|aQ Z ?_;refine AL.bool (t:=7) rfl ?_ ?_
 ·intro V;refine ae Z<|ak Z<|bj Z<|aQ Z ?_;refine AL.bool (t:=11) rfl ?_ ?_
  ·intro h2;refine aQ Z<|bj Z<|bv Z<|Y<|aR ?_;refine az trivial ?_;grind[yn]
  intro h2;refine aa Z<|bL Z<|ar Z<|Y<|aR ?_;refine az trivial ?_;grind[yn]
 intro V;refine aa Z<|aa Z<|bL Z<|dm Z<|aa Z<|bL Z<|ar Z<|Y<|aR ?_;refine az trivial ?_;grind[yn]
theorem x_90{p:Prop}(c:p:=by have hs:=rO.1 (by simpa using V:mr n=true);unfold i64;omega):p:=c
theorem Sb(n:Int):GC prog 259 [int n] [] (int (lR n)) []:=by
 refine gi 2 func259 rfl ntmps259 rfl ?_;intro L O w0;refine sL<|ao Z<|Y<|aS<|sL<|ae Z<|ab (zL func244 (DI _) Z) Z<|bX Z<|Y<|cE rfl ?_ ?_
 ·intro V;refine sL<|ao Z<|Y<|aR<|rT ?_;refine ax ?_ trivial;refine congrArg (fun n=>some (int n)) ?_;unfold lR;have hs:¬(-100<=n/\n<=100):=fun q=>by rw[rO.2 q]at V;cases V
  omega
 intro V;refine aK<|gA<|ae Z ?_;refine eo rfl ⟨rfl,ce x_90⟩<|ab (zL func274 (KQ _ _ _) rfl) Z<|ao Z<|Y<|aR ?_;refine ax ?_ trivial;refine congrArg (fun n=>some (int n)) ?_;unfold lR;try unfold u0
 have hs:=rO.1 (by simpa using V:mr n=true);omega
theorem Sc(n:Int):GC prog 260 [int n] [] (int (lS n)) []:=by
 refine gi 2 func260 rfl ntmps260 rfl ?_;intro L O w0;refine sL<|ao Z<|Y<|aS<|sL<|ae Z<|ab (zL func244 (DI _) Z) Z<|bX Z<|Y<|cE rfl ?_ ?_
 ·intro V;refine sL<|ao Z<|Y<|aR<|rT ?_;refine ax ?_ trivial;refine congrArg (fun n=>some (int n)) ?_;unfold lS;have hs:¬(-100<=n/\n<=100):=fun q=>by rw[rO.2 q]at V;cases V
  omega
 intro V;refine aK<|gA<|ae Z ?_;refine eo rfl ⟨rfl,ce x_90⟩<|ab (zL func274 (KQ _ _ _) rfl) Z<|ao Z<|Y<|aR ?_;refine ax ?_ trivial;refine congrArg (fun n=>some (int n)) ?_;unfold lS;try unfold u0
 have hs:=rO.1 (by simpa using V:mr n=true);omega
theorem Sd(n:Int):GC prog 261 [int n] [] (int (lA n)) []:=by
 refine gi 2 func261 rfl ntmps261 rfl ?_;intro L O w0;refine sL<|ao Z<|Y<|aS<|sL<|ae Z<|ab (zL func244 (DI _) Z) Z<|bX Z<|aQ Z ?_;refine AL.bool (t:=6) rfl ?_ ?_
 ·intro V;refine aa Z<|aa Z<|aU Z<|Y<|aY Z<|sL<|ao Z<|Y<|aR<|rT ?_;refine ax ?_ trivial;refine congrArg (fun n=>some (int n)) ?_;unfold lA;have hs:¬(-100<=n/\n<=100):=fun q=>by rw[rO.2 q]at V;cases V
  omega
 intro V;refine ae Z<|ak Z<|bj Z<|Y<|cE rfl ?_ ?_
 ·intro h2;refine sL<|ao Z<|Y<|aR<|rT ?_;refine ax ?_ trivial;refine congrArg (fun n=>some (int n)) ?_;simp_all[lA]
 intro h2;refine aK<|gT<|aS<|sL<|ae Z<|ak Z<|Y<|cE rfl ?_ ?_
 ·intro h3;refine sL<|ae Z ?_;refine eo rfl ⟨rfl,ce x_90⟩<|ao Z<|Y<|aR<|rT ?_;refine ax ?_ trivial;refine congrArg (fun n=>some (int n)) ?_;unfold lA;try unfold u0
  have hs:=rO.1 (by simpa using V:mr n=true);grind
 intro h3;refine aK<|gA<|ae Z ?_;refine eo rfl ⟨rfl,ce x_90⟩<|ao Z<|Y<|aR ?_;refine ax ?_ trivial;refine congrArg (fun n=>some (int n)) ?_;unfold lA;try unfold u0
 have hs:=rO.1 (by simpa using V:mr n=true);grind
theorem x_94{p:Prop}(c:p:=by exact Eq.trans (b:=int _) rfl (congrArg int (rN hk (by grind[rK])))):p:=c
theorem x_95{p:Prop}(c:p:=by exact Eq.trans (b:=int _) rfl (congrArg int (rN hk (by grind[dK])))):p:=c
theorem DD(x:aw)(fI to:be)(af:Int)(yes:Bool)(sm:qQ x.an):GC prog 257 [cj x,.agg [int fI.id,int fI.size,int fI.loc,int fI.aC,int fI.base,int fI.br,int fI.cM],.agg [int to.id,int to.size,int to.loc,int to.aC,int to.base,int to.br,int to.cM],int af,aD yes] [] (int (BE x.an fI to to.id af yes)) []:=by
 refine gi 10 func257 rfl ntmps257 rfl ?_;intro L O w0;refine sL<|ab (zX 2005 Z) Z<|ab (zX 2006 Z) Z<|ab (zX 2007 Z) Z<|ao Z<|nA<|ao Z<|nA<|ao Z<|nA<|ao Z<|nA<|ao Z<|Y<|aS<|aS ?_;refine aL<|lf 4 eF Z<|bo fS Z<|ba jb Z<|ae Z<|Y<|aB ?_;refine aW [3,4,6,7,10,18,19] [2005,2006,2007] (D:=Nat) (fun k=>[(11,int (bG (rJ to.id) (x.an.take k))),(12,int (bG (dK to.id) (x.an.take k))),(13,int (bG (rL to.id) (x.an.take k))),(14,int (bG (rK to.id) (x.an.take k))),(20,int (k:Int))]) (fun k=>[]) (fun k=>k<=x.an.length) (fun k=>x.an.length-k) (0) (Nat.zero_le _) ⟨rfl,rfl,rfl,rfl,rfl,trivial⟩ trivial ?_;intro k hI;have b0:=sm.1;have b1:=sm.ez to.id k;have b2:=sm.all to.id k;have b3:=sm.KM to.id k;have b4:=sm.one to.id k;refine sL<|ak Z<|Y<|aS<|cE rfl ?_ ?_
 ·intro V;refine aK<|gT<|aS<|aB<|sL ?_;have hk:k<x.an.length:=by simpa[ap]using V
  have b5:=sm.at hk;refine li k f7 Z (bS hk)<|d6 nG kZ Z<|ab (zA 2016 iu Z) Z<|lT [3,4,6,7,10,11,12,13,14,16,18,19,20,23] [2005,2006,2007,2016] ?_;refine ab (zB 2016 nJ nL Z) Z<|Y<|aS<|sL<|lf 2 mJ Z<|aj ac Z<|lf 0 kM Z<|aj ac Z<|ak Z<|Y<|cE rfl ?_ ?_
  ·intro h2;refine aE<|eT<|eB<|gT<|aL<|bg Z<|ae Z<|Y ?_;refine⟨k+1,hk,by omega,⟨(congrArg int (rM hk (by simp_all[rJ])).symm),(congrArg int (rM hk (by simp_all[dK])).symm),(congrArg int (rM hk (by simp_all[rL])).symm),(congrArg int (rM hk (by simp_all[rK])).symm),(iq rfl),trivial⟩,trivial,rfl,rfl⟩
  intro h2;refine aK<|gA<|ae Z<|lf 4 kw Z<|aj ac Z<|bg Z<|ao Z<|nA<|ae Z<|bg Z<|ao Z<|nA<|lf 5 BF Z<|tT jN Z<|bX Z<|Y<|cE rfl ?_ ?_
  ·intro h3;refine sL<|ae Z<|lf 4 kw Z<|aj ac Z<|bg Z<|ao Z<|Y<|aL<|ae Z<|bg Z<|ao Z<|lN<|gB<|gT<|aL<|bg Z<|ae Z<|Y ?_;have he:x.an[k].out=to.id:=by simpa using h2
   have m':x.an[k].kept=false:=by simpa using h3
   refine⟨k+1,hk,by omega,⟨(Eq.trans (b:=int _) rfl (congrArg int (rN hk (by grind[rJ])))),x_95,(Eq.trans (b:=int _) rfl (congrArg int (rN hk (by grind[rL])))),x_94,(iq rfl),trivial⟩,trivial,rfl,rfl⟩
  intro h3;refine aK<|gB<|gT<|aL<|bg Z<|lT [3,4,6,7,10,11,12,13,14,18,19,20,44] [2005,2006,2007,2016] ?_;refine ae Z<|Y ?_;have he:x.an[k].out=to.id:=by simpa using h2
  have m':x.an[k].kept=true:=by simpa using h3
  refine⟨k+1,hk,by omega,⟨(congrArg int (rM hk (by grind[rJ])).symm),x_95,(congrArg int (rM hk (by grind[rL])).symm),x_94,(iq rfl),trivial⟩,trivial,rfl,rfl⟩
 intro V;refine aE<|eT<|eT<|eB<|gT<|aS<|aG 12 []<|tq 0 (rf 1 qS Z)<|tq 1 (aZ ac Z)<|tq 2 (dW Z)<|tq 3 (dW Z)<|tq 4 (dW Z)<|tq 5 (dW Z)<|tq 6 (dW Z)<|tq 7 (rf 6 ms Z)<|tq 8 (aZ ac Z)<|yq 9 (dx Z)<|cm 10 Z (zL func273 (Sa _ _) Z)<|cm 11 Z (zL func272 (R1 _ _ _ _ _ _ _) Z)<|yq 12 (j8 Z)<|gD<|gT<|aR ?_;refine ax ?_ trivial;refine congrArg (fun n=>some (int n)) ?_;grind[ap,BE]

def fV:List aO->aO->List aO
 |[],x=>[x]
 |y::l,x=>if cg y.acc x.acc then y::fV l x else x::y::l
def bR(l:List aO)(k c n:Int):List aO:=if n=0 then l else fV l ⟨⟨k,c⟩,n⟩
theorem BG{y x:aO}:∀ {l:List aO},y∈fV l x->y∈l\/y=x
 |[],h=>by grind[fV]
 |z::l,h=>by
  unfold fV at h;split at h
  ·rcases List.mem_cons.1 h with h|h
   ·exact .inl x_137
   rcases BG h with h|h
   ·exact .inl x_137
   exact .inr h
  rcases List.mem_cons.1 h with h|h
  ·exact .inr h
  exact .inl h
theorem BH(x:aO):∀(l:List aO),(fV l x).length=l.length+1
 |[]=>rfl
 |z::l=>by unfold fV;split<;>simp[BH x l]
theorem Gb{y:aO}{l:List aO}{k c n:Int}(h:y∈bR l k c n):y∈l\/(y.acc.kind=k/\y.acc.ch=c/\y.af=n):=by
 unfold bR at h;split at h
 ·grind
 rcases BG h with h|rfl;all_goals grind
structure LG(l:List aO)(m:Nat):Prop where
 len:l.length<=m
 KR:∀y∈l,dL y.af=true
def cL(l:List aO)(k c:Int):Prop:=∀y∈l,¬(y.acc.kind=k/\y.acc.ch=c)
theorem LG.nil:LG [] 0:=⟨Nat.le_refl _,by simp⟩
theorem LG.add{l:List aO}{m:Nat}{k c n:Int}(h:LG l m)(hn:dL n=true):LG (bR l k c n) (m+1):=by
 refine⟨?_,fun y hy=>?_⟩
 ·unfold bR;split
  ·have:=h.len;omega
  rw[BH];have:=h.len;omega
 rcases Gb hy with q|q
 ·exact h.KR y q
 grind
theorem cL.nil(k c:Int):cL [] k c:=by simp[cL]
theorem cL.add{l:List aO}{k c k' c' n:Int}(h:cL l k c)(hd:k'≠k\/c'≠c):cL (bR l k' c' n) k c:=fun y hy q=>by
 rcases Gb hy with r|r
 ·exact h y r q
 omega
theorem KS{a b:Acc}(h:¬(a.kind=b.kind/\a.ch=b.ch))(h2:cg a b=false):cg b a=true:=by
 unfold cg at *;grind
theorem KT{x:aO}:∀ {l:List aO},cL l x.acc.kind x.acc.ch->fM l [x]=some (fV l x)
 |[],_=>by rw[yo];rfl
 |y::l,h=>by
  have hy:=h y x_19;unfold fV;by_cases q:cg y.acc x.acc=true
  ·rw[BI q,KT (fun z hz=>h z (by simp[hz])),if_pos q];rfl
  have q':cg y.acc x.acc=false:=by simpa using q
  rw[BJ q' (KS hy q'),z6,if_neg q];rfl
abbrev cN(g:Value)(t n w c:Int):AO:=.box 153 (some g) [int t,int n,int w,.own 1,.own 2,.own 3,.own 4,int c]
def bE(is:Bool)(c k:Int):Int:=if is&&(c==0)then k else c
theorem fW{is:Bool}{c k:Int}(h:c≠0):bE is c k=c:=by grind[bE]
abbrev pz(u:Value)(l:List be):AO:=.ai ⟨159,some u⟩ 7 (ah aX l)
abbrev df(l:List eV):AO:=.ai 218 7 (ah go l)
abbrev d7(l:List gz):AO:=.ai 220 5 (ah iX l)
abbrev dc(l:List aO):AO:=.ai 167 3 (ah ct l)
theorem dk{α:Type}{enc:α->List Value}{l:List α}{i:Nat}{c:α}(h:l[i]? = some c):(ah enc l)[i]? = some ((enc c).map PV.v):=by grind[ah]
theorem lB{α:Type}{enc:α->List Value}{l:List α}{i:Nat}{c:α}:(ah enc l).set i ((enc c).map PV.v)=ah enc (l.set i c):=by grind[ah,List.map_set]
theorem KU{α:Type}{enc:α->List Value}{l:List α}{k:Nat}:(ah enc l).take k=ah enc (l.take k):=by grind[ah,List.map_take]
theorem KV{α:Type}{enc:α->List Value}{l:List α}{k:Nat}:(ah enc l).drop k=ah enc (l.drop k):=by grind[ah,List.map_drop]
theorem fJ{g:Value}{t n w c:Int}{p1:ga}{s1:Nat}{r1:List (List PV)}{p2:ga}{s2:Nat}{r2:List (List PV)}{p3:ga}{s3:Nat}{r3:List (List PV)}{p4:ga}{s4:Nat}{r4:List (List PV)}{is:Bool}{k:Int}:GC prog 211 [.ptr 0 0 0,aD is,int k] [(0,cN g t n w c),(1,.ai p1 s1 r1),(2,.ai p2 s2 r2),(3,.ai p3 s3 r3),(4,.ai p4 s4 r4)] (.au []) [(0,cN g t n w (bE is c k)),(1,.ai p1 s1 r1),(2,.ai p2 s2 r2),(3,.ai p3 s3 r3),(4,.ai p4 s4 r4)]:=by
 refine GC.intro (rs:=[]) func211 rfl ntmps211 x_8 trivial ?_;intro L O w0;refine sL<|aQ Z<|aQ Z ?_;refine AL.bool (t:=7) rfl ?_ ?_
 ·intro V;refine aM Z<|lc Z<|lf 7 mK Z<|aj ac Z<|ak Z<|bj Z<|Y<|cE rfl ?_ ?_
  ·intro h2;refine aL<|aM Z<|ae Z<|lc Z<|lf 7 mK Z<|ab (zB 0 ca cb Z) Z<|lN ?_;refine iZ rfl ⟨?_,rfl,rfl,rfl,rfl,trivial⟩;exact Eq.trans (b:=cN g t n w _) rfl (congrArg (cN g t n w) (by grind[bE]))
  intro h2;refine aK ?_;refine iZ rfl ⟨?_,rfl,rfl,rfl,rfl,trivial⟩;exact Eq.trans (b:=cN g t n w _) rfl (congrArg (cN g t n w) (by grind[bE]))
 intro V;refine aa Z<|aa Z<|aa Z<|aa Z<|aa Z<|bL Z<|Y<|aN Z<|aK ?_;refine iZ rfl ⟨?_,rfl,rfl,rfl,rfl,trivial⟩;exact Eq.trans (b:=cN g t n w _) rfl (congrArg (cN g t n w) (by grind[bE]))
theorem Se(l:List aO)(x:aO)(m:Nat)(hl:LG l m)(hm:m<=1000)(hf:cL l x.acc.kind x.acc.ch)(hx:dL x.af=true):GC prog 123 [.p (.ab 167 3 (ah ct l)),.p (.ab 167 3 (ah ct [x]))] [] (.au [.own 50,aD true]) [(50,dc (fV l x))]:=
 (Gc l [x] (by have:=hl.len;grind) hl.KR x_14).gc fun y o h=>by grind[z7,KT]
theorem BK{l:List aO}{k c n:Int}(h:n=0):bR l k c n=l:=if_pos h
theorem BL{l:List aO}{k c n:Int}(h:¬n=0):bR l k c n=fV l ⟨⟨k,c⟩,n⟩:=if_neg h
theorem lU{g:Value}{t n w c:Int}{p1:ga}{s1:Nat}{r1:List (List PV)}{p2:ga}{s2:Nat}{r2:List (List PV)}{p3:ga}{s3:Nat}{r3:List (List PV)}(l:List aO)(m:Nat)(hl:LG l m)(hm:m<=1000)(k cc nn:Int)(hf:cL l k cc)(hn:dL nn=true):GC prog 112 [.ptr 0 0 0,int k,int cc,int nn] [(0,cN g t n w c),(1,.ai p1 s1 r1),(2,.ai p2 s2 r2),(3,.ai p3 s3 r3),(4,dc l)] (.au []) [(0,cN g t n w c),(1,.ai p1 s1 r1),(2,.ai p2 s2 r2),(3,.ai p3 s3 r3),(4,dc (bR l k cc nn))]:=by
 refine GC.intro (rs:=[]) func112 rfl ntmps112 x_8 trivial ?_;intro L O w0;refine sL<|ae Z<|ak Z<|Y<|cE rfl ?_ ?_
 ·intro V;refine aL<|aM Z<|aM Z<|lc Z<|lf 6 DJ Z<|iO gY Z<|ae Z<|ae Z<|lq (rd (x:=pP) (cP Z KW Z Z Z) Z)<|ae Z<|lq (rd (x:=oo) (cP Z DK Z Z Z) Z) ?_;refine ab (zS 2021 (ah ct [⟨⟨k,cc⟩,nn⟩]) cV eP rfl) rfl ?_;refine AL.freeze 4 rfl ?_;refine AL.freeze 2021 rfl ?_;refine ab (zC [(50,4)] [4] [] func123 (Se l ⟨⟨k,cc⟩,nn⟩ m hl hm hf hn) (trivial) rfl rfl) Z<|lT [11,22] [0,1,2,3,4] ?_;refine cT (.au [.own _,vB true]) Z<|qT Z<|iB (vB true) Z<|lc Z<|lf 6 DJ Z<|ab (zB 0 z8 z' Z) Z<|lN ?_;refine iZ ?_ ⟨rfl,rfl,rfl,rfl,(congrArg dc (BL x_14).symm),trivial⟩;rfl
 intro V;refine aK ?_;refine iZ ?_ ⟨rfl,rfl,rfl,rfl,(congrArg dc (BK x_14).symm),trivial⟩;rfl
abbrev sT(g u:Value)(x:aw)(l:List aO)(c:Int):List (Nat×AO):=[(0,cN g x.tick x.next x.aA c),(1,pz u x.ag),(2,df x.an),(3,d7 x.aq),(4,dc l)]
structure WR where
 b:aw
 l:List aO
 c:Int
abbrev yp(g:Value)(r:WR):List (Nat×AO):=[(0,cN g r.b.tick r.b.next r.b.aA r.c),(1,.ai 159 7 (ah aX r.b.ag)),(2,df r.b.an),(3,d7 r.b.aq),(4,dc r.l)]
abbrev ju(e:aV):AV:=.agg [int e.kind,int e.key,int e.ch,int e.to,int e.af,int e.ay,aD e.yes]
abbrev KX(c:be):AV:=.agg [int c.id,int c.size,int c.loc,int c.aC,int c.base,int c.br,int c.cM]
def BM:be:=⟨0,0,0,0,0,0,0⟩
def fz(l:List be)(ch:Int):be:=(l.find? fun c=>c.id==ch).getD BM
theorem jt(l:List be)(ch:Int):(eS l ch=-1/\fz l ch=BM)\/∃(i:Nat) (c:be),eS l ch=(i:Int)/\l[i]? = some c/\fz l ch=c/\c.id=ch:=by
 unfold eS fz;cases h:l.findIdx? (fun c=>c.id==ch)with
 |none=>
  grind
 |some i=>
  obtain⟨V,h2,h3⟩:=List.findIdx?_eq_some_iff_getElem.1 h;refine .inr ⟨i,l[i],rfl,List.getElem?_eq_getElem V,?_,by simpa using h2⟩;have:l.find? (fun c=>c.id==ch)=some l[i]:=by
   rw[List.find?_eq_some_iff_getElem];exact⟨h2,i,V,rfl,fun j hj=>by simpa using h3 j hj⟩
  grind
theorem dI{b:Bool}{c k:Int}(h:c≠0):bE b c k≠0:=by grind[fW]
theorem mp{c k:Int}(h:k≠0):bE true c k≠0:=by
 grind[bE]
theorem rP(g u:Value)(x:aw)(l:List aO)(c id:Int)(hm:x.ag.length<=1000000000)(i:Nat)(cc:be)(hi:eS x.ag id=(i:Int))(hc:x.ag[i]? = some cc):GC prog 115 [.ptr 0 0 0,int id] (sT g u x l c) (.ptr 1 i 0) (sT g u x l c):=by
 refine gi 4 func115 rfl ntmps115 rfl ?_;intro L O w0;refine sL<|e9 Z<|nA<|aM Z<|lc Z<|lf 0 dR Z<|aP jG cu Z<|ae Z<|ab (zL func125 (z2 x _ hm) rfl) Z<|ao Z<|Y<|aS<|sL<|ae Z<|ak Z<|bJ 13 false rfl (by rw[<-eW,hi];simp)<|Y<|aN Z<|aK<|gA<|aM rfl ?_;refine lc Z<|lf 0 dR Z<|lf 3 dr Z<|iO eg Z<|ae Z<|lq (rd (x:=.ptr 1 _ 0) (pu (i:=i) rfl cz rfl rfl rfl ?hn1 (by rw[ap];exact(List.getElem?_eq_some_iff.1 hc).1)) rfl) ?_;case hn1=>rw[<-eW];exact hi
 refine lC Z<|Y<|aR ?_;trivial
theorem x_6{p:Prop}(c:p:=by exact ⟨stays.box rfl,stays.ai rfl,trivial⟩):p:=c
theorem wJ(g u:Value)(x:aw)(l:List aO)(c id:Int)(hm:x.ag.length<=1000000000)(hi:eS x.ag id=-1):GC prog 115 [.ptr 0 0 0,int id] (sT g u x l c) (.ptr 2017 0 0) (sT g u x l (bE true c 6)++[(2017,.box 159 none ((aX BM).map fun c=>.p (.v c)))]):=by
 refine gi 4 func115 rfl ntmps115 rfl ?_;intro L O w0;refine sL<|e9 Z<|nA<|aM Z<|lc Z<|lf 0 dR Z<|aP jG cu Z<|ae Z<|ab (zL func125 (z2 x _ hm) rfl) Z<|ao Z<|Y<|aS<|sL<|ae Z<|ak Z<|bJ 13 true rfl (by rw[<-eW,hi];simp)<|Y<|aY Z<|sL<|aM rfl ?_;refine ab (et func211 (fJ ) x_6 rfl rfl) Z<|nA<|lq (rd (x:=k7) (cP rfl BB rfl rfl rfl) rfl)<|ab (zX 2017 rfl) Z<|lT [0,4,5,17] [0,1,2,3,4,2017] ?_;refine lC Z<|Y<|aR<|rT ?_;trivial
theorem x_140{p:Prop}(c:p:=by simp[ah,maxLen]at *;omega):p:=c
theorem KY(x:aw)(hx:x.ag.length<=1000000/\x.an.length<=1000000/\x.aq.length<=1000000):GC prog 56 [cj x] [] (.agg [int x.tick,int x.next,int x.aA,.own 2005,.own 2009,.own 2013]) [(2005,.ai 159 7 (ah aX x.ag)),(2009,df x.an),(2013,d7 x.aq)]:=by
 refine GC.intro (rs:=[.cell 2 50 (some 6)]) func56 rfl ntmps56 x_8 ⟨rfl,rfl,cu,trivial⟩ ?_;intro L O w0;refine sL<|ab (zX 2001 rfl) Z<|ab (zA 2002 mD rfl) Z<|nA<|lf 3 dr Z<|bo eg Z<|ab (qJ 2005 rfl rfl x_3 cz dy rfl x_3 rfl (Src.p rfl) x_140 (Nat.le_trans (Nat.mul_le_mul_left _ jL) (by simp[ah]at *;omega))) Z<|lf 3 dr Z<|ab (zB 2001 sM sN rfl) Z<|nA<|lf 4 eF Z<|bo fS Z<|ab (qJ 2009 rfl rfl x_3 f7 iu rfl x_3 rfl (Src.p rfl) x_140 (Nat.le_trans (Nat.mul_le_mul_left _ sQ) (by simp[ah]at *;omega))) Z<|lf 4 eF Z<|ab (zB 2001 tQ tR rfl) Z<|nA<|lf 5 gn Z<|bo ii Z<|ab (qJ 2013 rfl rfl x_3 iI jO rfl x_3 rfl (Src.p rfl) x_140 (Nat.le_trans (Nat.mul_le_mul_left _ wI) (by simp[ah]at *;omega))) Z<|lT [1,2,13] [2001,2002,2005,2009,2013] ?_;refine lf 5 gn Z<|ab (zB 2001 yh yk Z) Z<|nA<|aP jG cu Z<|ab (zB 2002 eu ew Z) Z<|Y<|aR ?_;trivial

def kX(b:Bool):List Value:=[.bool b]
def hK(k:Int):Bool:=!decide (k=1\/k=2\/k=3\/k=4\/k=8)
def hC(k:Int):Bool:=decide (k=2\/k=3\/k=4\/k=5\/k=9)
def hT(k:Int):Bool:=decide (k=5\/k=9)
def hA(k:Int):Bool:=decide (k=1\/k=2\/k=4\/k=5\/k=9)
def hF(k:Int):Bool:=decide (k=2\/k=3\/k=4\/k=9)
def hY(k:Int):Bool:=decide (k=5)
def gj(has:Bool)(n lo hi:Int):Bool:=if has then aI n lo hi else n==0
def co(e:aV):Bool:=aI e.kind 1 11&&gj (hK e.kind) e.key 1 1000000&&gj (hC e.kind) e.ch 1 99&&gj (hT e.kind) e.to 1 99&&!(hT e.kind&&e.ch==e.to) &&
 gj (hA e.kind) e.af (if e.kind=4 then 0 else 1) 1125899906842624&&gj (hF e.kind) e.ay 0 (if e.kind=4 then 1000000 else 1125899906842624)&&(hY e.kind||!e.yes)
theorem uu{e:aV}(h:co e=true):bb e.af=true/\bb e.ay=true:=by
 unfold co at h;simp only[Bool.and_eq_true]at h;grind[cY,gj,cJ]
theorem P2{e:aV}(h:¬(1<=e.kind/\e.kind<=11)):co e=false:=by
 grind[co,Kv]
theorem Bf(n:Int):GC prog 210 [int n] [] (aD (fE n)) []:=PJ n
theorem zF(n:Int):GC prog 191 [int n] [] (aD (gf n)) []:=PK n
theorem zG(has:Bool)(n lo hi:Int):GC prog 251 [aD has,int n,int lo,int hi] [] (aD (gj has n lo hi)) []:=by
 refine gi 8 func251 rfl ntmps251 rfl ?_;intro L O w0;refine sL<|ar Z<|Y<|aS<|sL<|aQ Z<|bX Z<|Y<|cE rfl ?_ ?_
 ·intro V;refine sL<|ae Z<|ak Z<|bv Z<|Y<|aR<|rT ?_;refine az trivial ?_;simp_all[gj,vi]
 intro V;refine aK<|gA<|ae Z<|ae Z<|ak Z<|aQ Z ?_;refine AL.bool (t:=16) rfl ?_ ?_
 ·intro h2;refine ae Z<|ae Z<|ak Z<|bj Z<|bv Z<|Y<|aR ?_;refine az trivial ?_;simp_all[gj,aI]
 intro h2;refine aa Z<|aa Z<|aa Z<|bL Z<|ar Z<|Y<|aR ?_;refine az trivial ?_;unfold gj aI;grind
theorem x_25{p:Prop}(c:p:=by exact ⟨(congrArg (fun l=>AO.ai 4 1 (ah kX l)) (by grind[hK,hC,hT,hA,hF,hY])),trivial⟩):p:=c
theorem Z4(k:Int):GC prog 194 [int k] [] (.own 60) [(60,.ai 4 1 (ah kX [hK k,hC k,hT k,hA k,hF k,hY k]))]:=by
 refine gi 2 func194 rfl ntmps194 rfl ?_;intro L O w0;refine sL<|e9 Z<|Y<|aS<|sL<|ae Z<|Y<|aB<|sL<|ak Z<|bv Z<|Y<|cE rfl ?_ ?_
 ·intro V;refine sL<|ab (zS 60 (ah kX [false,false,false,true,false,false]) n4 xD rfl (by trivial)) Z<|bD Z<|Y<|aR<|rB<|rT ?_;refine ax ?_ x_25;rfl
 intro V;refine aS<|sL<|ak Z<|bv Z<|Y<|cE rfl ?_ ?_
 ·intro h2;refine qt 7 true rfl h2<|aK<|gT<|aY Z<|sL<|ab (zS 60 (ah kX [false,true,false,true,true,false]) n4 xD rfl (by trivial)) Z<|bD Z<|Y<|aR<|rB<|rT ?_;refine ax ?_ x_25;rfl
 intro h2;refine qt 7 false Z h2<|aL<|ak Z<|bv Z<|Y<|cE rfl ?_ ?_
 ·intro h3;refine sL<|ab (zS 60 (ah kX [false,true,false,true,true,false]) n4 xD rfl (by trivial)) Z<|bD Z<|Y<|aR<|rB<|rT ?_;refine ax ?_ x_25;rfl
 intro h3;refine sL<|ak Z<|bv Z<|Y<|cE rfl ?_ ?_
 ·intro h4;refine sL<|ab (zS 60 (ah kX [false,true,false,false,true,false]) n4 xD rfl (by trivial)) Z<|lT [2,13] [60] ?_;refine bD Z<|Y<|aR<|rB<|rT ?_;refine ax ?_ x_25;rfl
 intro h4;refine sL<|ak Z<|bv Z<|Y<|cE rfl ?_ ?_
 ·intro h5;refine sL<|ab (zS 60 (ah kX [true,true,true,true,false,true]) n4 xD rfl (by trivial)) Z<|bD Z<|Y<|aR<|rB<|rT ?_;refine ax ?_ x_25;rfl
 intro h5;refine sL<|ak Z<|bv Z<|Y<|cE rfl ?_ ?_
 ·intro h6;refine sL<|ab (zS 60 (ah kX [true,true,true,true,true,false]) n4 xD rfl (by trivial)) Z<|bD Z<|Y<|aR<|rB<|rT ?_;refine ax ?_ x_25;rfl
 intro h6;refine sL<|ak Z<|bv Z<|Y<|cE rfl ?_ ?_
 ·intro h7;refine sL<|ab (zS 60 (ah kX [false,false,false,false,false,false]) n4 xD rfl (by trivial)) Z<|bD Z<|Y<|aR<|rB<|rT ?_;refine ax ?_ x_25;rfl
 intro h7;refine aK<|gB<|gA<|ab (zS 60 (ah kX [true,false,false,false,false,false]) n4 xD rfl (by trivial)) Z<|lT [2,23] [60] ?_;refine bD Z<|Y<|aR ?_;refine ax ?_ x_25;rfl
theorem x_130{p:Prop}(c:p:=by exact Eq.trans (b:=int _) rfl (congrArg int x_14)):p:=c
theorem Px(e:aV):GC prog 195 [ju e] [] (aD (co e)) []:=by
 refine gi 2 func195 rfl ntmps195 rfl ?_;intro L O w0;refine sL<|ab (zX 2001 Z) Z<|ar Z<|Y<|aS<|sL<|lf 0 jz Z<|aj ac Z<|ak Z<|aQ Z ?_;refine AL.bool (t:=9) rfl ?_ ?_
 ·intro V;refine aa Z<|aa Z<|aa Z<|aU Z<|Y<|aY Z<|sL<|ar Z<|Y<|aR<|rT ?_;refine az trivial ?_;grind[co,aI]
 intro V;refine lf 0 jz Z<|aj ac Z<|ak Z<|bj Z<|Y<|cE rfl ?_ ?_
 ·intro h2;refine sL<|ar Z<|Y<|aR<|rT ?_;refine az trivial ?_;grind[co,aI]
 intro h2;refine aK<|gA<|lf 0 jz Z<|aj ac Z<|ab (zC [(60,60)] [60] [] func194 (Z4 _) (trivial) Z Z) Z<|lT [1,2,16] [60,2001] ?_;refine bD Z<|nA<|ao Z<|nA<|ao Z<|Y ?_;refine aJ [1,2,3] [60,2001] (D:=Unit) (fun jd=>[(4,int (if e.kind=4 then 0 else 1)),(5,int (if e.kind=4 then 1000000 else 1125899906842624))]) (fun jd=>[]) (fun jd=>True) ?_ ?_
 ·refine sL<|lf 0 jz Z<|aj ac Z<|ak Z<|Y<|cE rfl ?_ ?_
  ·intro h3;refine sL<|ao Z<|Y<|aL<|ao Z<|Y ?_;refine⟨(),trivial,⟨x_130,x_130,trivial⟩,trivial,rfl,rfl⟩
  intro h3;refine aK<|gT ?_;refine⟨(),trivial,⟨x_130,x_130,trivial⟩,trivial,rfl,rfl⟩
 intro jd hJ;refine aS<|aS<|aG 36 []<|tq 0 (qo rfl)<|tq 1 (rj 0 n4 rfl (by show 0<6;decide))<|tq 2 (rd (x:=fy) (dT rfl jN rfl rfl rfl (rfl) rfl) rfl)<|yq 3 (rf 1 gE rfl)<|yq 4 (aZ ac rfl)<|cm 5 rfl (zL func251 (zG _ _ _ _) rfl)<|yq 6 (gQ rfl)<|yq 7 (dx rfl) ?_;refine AG.bool (t:=27) rfl ?_ ?_
 ·intro h4;refine ep 8 Z<|ep 9 Z<|ep 10 Z<|bt 11 Z<|bt 12 Z<|bt 13 Z<|bt 14 Z<|yq 15 (bA Z)<|yq 16 (cF Z)<|ep 17 Z<|ep 18 Z<|ep 19 Z<|bt 20 Z<|bt 21 Z<|bt 22 Z<|bt 23 Z<|yq 24 (bA Z)<|yq 25 (cF Z)<|bt 26 Z<|bt 27 Z<|bt 28 Z<|bt 29 Z<|ep 30 Z<|ep 31 Z<|bt 32 Z<|bt 33 Z<|bt 34 Z<|bt 35 Z<|yq 36 (bA Z)<|gD ?_;refine gT<|aY Z<|sL<|ar Z<|Y<|aR<|rT ?_;refine az trivial ?_;grind[co]
 intro h4;refine tq 8 (qo rfl)<|tq 9 (rj 1 n4 rfl (by show 1<6;decide))<|tq 10 (rd (x:=fy) (dT rfl jN rfl rfl rfl (rfl) rfl) rfl)<|yq 11 (rf 2 dn rfl)<|yq 12 (aZ ac rfl)<|cm 13 rfl (zL func251 (zG _ _ _ _) rfl)<|gX [1,2,3,4,5,27,33] [60,2001] ?_;refine yq 14 (gQ Z)<|yq 15 (cv Z)<|yq 16 (dx Z) ?_;refine AG.bool (t:=36) rfl ?_ ?_
 ·intro h5;refine ep 17 Z<|ep 18 Z<|ep 19 Z<|bt 20 Z<|bt 21 Z<|bt 22 Z<|bt 23 Z<|yq 24 (bA Z)<|yq 25 (cF Z)<|bt 26 Z<|bt 27 Z<|bt 28 Z<|bt 29 Z<|ep 30 Z<|ep 31 Z<|bt 32 Z<|bt 33 Z<|bt 34 Z<|bt 35 Z<|yq 36 (bA Z)<|gD<|gT<|aY Z<|sL<|ar Z<|Y<|aR<|rT ?_;refine az trivial ?_;grind[co]
 intro h5;refine tq 17 (qo rfl)<|tq 18 (rj 2 n4 rfl (by show 2<6;decide))<|tq 19 (rd (x:=fy) (dT rfl jN rfl rfl rfl (rfl) rfl) rfl)<|yq 20 (rf 3 fK rfl)<|yq 21 (aZ ac rfl)<|cm 22 rfl (zL func251 (zG _ _ _ _) rfl)<|yq 23 (gQ rfl)<|yq 24 (cv rfl)<|yq 25 (dx rfl) ?_;refine AG.bool (t:=45) rfl ?_ ?_
 ·intro h6;refine bt 26 Z<|bt 27 Z<|bt 28 Z<|bt 29 Z<|ep 30 Z<|ep 31 Z<|bt 32 Z<|bt 33 Z<|bt 34 Z<|bt 35 Z<|yq 36 (bA Z)<|gD<|gT<|aY Z<|sL<|ar Z<|Y<|aR<|rT ?_;refine az trivial ?_;grind[co]
 intro h6;refine yq 26 (qo rfl)<|yq 27 (rj 2 n4 rfl (by show 2<6;decide))<|yq 28 (rd (x:=fy) (dT rfl jN rfl rfl rfl (rfl) rfl) rfl)<|yq 29 (dx rfl) ?_;refine AG.bool (t:=49) rfl ?_ ?_
 ·intro h7;refine tq 30 (rf 2 dn Z)<|tq 31 (aZ ac Z)<|yq 32 (rf 3 fK Z)<|yq 33 (aZ ac Z)<|yq 34 (dt Z)<|yq 35 (cv Z)<|yq 36 (cv Z)<|gD<|gT<|cE rfl ?_ ?_
  ·intro h8;refine sL<|ar Z<|lT [1,2,3,4,5] [60,2001] ?_;refine Y<|aR<|rT ?_;refine az trivial ?_;grind[co]
  intro h8;refine aK<|gT<|aS<|aG 26 []<|tq 0 (qo rfl)<|tq 1 (rj 3 n4 rfl (by show 3<6;decide))<|tq 2 (rd (x:=fy) (dT rfl jN rfl rfl rfl (rfl) rfl) rfl)<|tq 3 (rf 4 bN rfl)<|tq 4 (aZ ac rfl)<|yq 5 (dW rfl)<|cm 6 rfl (zL func251 (zG _ _ _ _) rfl)<|yq 7 (dx rfl) ?_;refine AG.bool (t:=64) rfl ?_ ?_
  ·intro h9;refine tq 8 (qo rfl)<|tq 9 (rj 4 n4 rfl (by show 4<6;decide))<|tq 10 (rd (x:=fy) (dT rfl jN rfl rfl rfl (rfl) rfl) rfl)<|tq 11 (rf 5 fC rfl)<|tq 12 (aZ ac rfl)<|yq 13 (dW rfl)<|cm 14 rfl (zL func251 (zG _ _ _ _) rfl)<|gX [1,2,3,64,71] [60,2001] ?_;refine yq 15 (cv Z)<|yq 16 (dx Z) ?_;refine AG.bool (t:=73) rfl ?_ ?_
   ·intro dh;refine yq 17 (qo rfl)<|yq 18 (rj 5 n4 rfl (by show 5<6;decide))<|yq 19 (rd (x:=fy) (dT rfl jN rfl rfl rfl (rfl) rfl) rfl)<|yq 20 (dx rfl) ?_;refine AG.bool (t:=77) rfl ?_ ?_
    ·intro gp;refine bt 21 Z<|bt 22 Z<|bt 23 Z<|yq 24 (bA Z)<|yq 25 (bA Z)<|yq 26 (Av Z)<|gD<|gT<|aR ?_;refine az trivial ?_;grind[co,aI]
    intro gp;refine yq 21 (rf 6 pw Z)<|yq 22 (uY jN Z)<|yq 23 (gQ Z)<|yq 24 (cv Z)<|yq 25 (cv Z)<|yq 26 (fk Z)<|gD<|gT<|aR ?_;refine az trivial ?_;grind[co,aI]
   intro dh;refine bt 17 Z<|bt 18 Z<|bt 19 Z<|bt 20 Z<|bt 21 Z<|bt 22 Z<|bt 23 Z<|bt 24 Z<|yq 25 (kK Z)<|yq 26 (oA Z)<|gD<|gT<|aR ?_;refine az trivial ?_;grind[co]
  intro h9;refine ep 8 Z<|ep 9 Z<|ep 10 Z<|ep 11 Z<|ep 12 Z<|bt 13 Z<|bt 14 Z<|yq 15 (kK Z)<|yq 16 (rG Z)<|bt 17 Z<|bt 18 Z<|bt 19 Z<|bt 20 Z<|bt 21 Z<|bt 22 Z<|bt 23 Z<|bt 24 Z<|yq 25 (kK Z)<|yq 26 (oA Z)<|gD<|gT<|aR ?_;refine az trivial ?_;grind[co]
 intro h7;refine ep 30 Z<|ep 31 Z<|bt 32 Z<|bt 33 Z<|bt 34 Z<|yq 35 (kK rfl)<|yq 36 (kK rfl)<|gD<|gT<|aN Z<|aK<|gT<|aS<|aG 26 []<|tq 0 (qo rfl)<|tq 1 (rj 3 n4 rfl (by show 3<6;decide))<|tq 2 (rd (x:=fy) (dT rfl jN rfl rfl rfl (rfl) rfl) rfl)<|tq 3 (rf 4 bN rfl)<|tq 4 (aZ ac rfl)<|yq 5 (dW rfl)<|cm 6 rfl (zL func251 (zG _ _ _ _) rfl)<|gX [1,2,3,5,63] [60,2001] ?_;refine yq 7 (dx rfl) ?_;refine AG.bool (t:=64) rfl ?_ ?_
 ·intro gM;refine tq 8 (qo rfl)<|tq 9 (rj 4 n4 rfl (by show 4<6;decide))<|tq 10 (rd (x:=fy) (dT rfl jN rfl rfl rfl (rfl) rfl) rfl)<|tq 11 (rf 5 fC rfl)<|tq 12 (aZ ac rfl)<|yq 13 (dW rfl)<|cm 14 rfl (zL func251 (zG _ _ _ _) rfl)<|yq 15 (cv rfl)<|yq 16 (dx rfl) ?_;refine AG.bool (t:=73) rfl ?_ ?_
  ·intro dO;refine yq 17 (qo rfl)<|yq 18 (rj 5 n4 rfl (by show 5<6;decide))<|yq 19 (rd (x:=fy) (dT rfl jN rfl rfl rfl (rfl) rfl) rfl)<|yq 20 (dx rfl) ?_;refine AG.bool (t:=77) rfl ?_ ?_
   ·intro ij;refine bt 21 Z<|bt 22 Z<|bt 23 Z<|yq 24 (bA Z)<|yq 25 (bA Z)<|yq 26 (Av Z)<|gD<|gT<|aR ?_;refine az trivial ?_;grind[co,aI]
   intro ij;refine yq 21 (rf 6 pw Z)<|yq 22 (uY jN Z)<|yq 23 (gQ Z)<|yq 24 (cv Z)<|yq 25 (cv Z)<|yq 26 (fk Z)<|gD<|gT<|aR ?_;refine az trivial ?_;grind[co,aI]
  intro dO;refine bt 17 Z<|bt 18 Z<|bt 19 Z<|bt 20 Z<|bt 21 Z<|bt 22 Z<|bt 23 Z<|bt 24 Z<|yq 25 (kK Z)<|yq 26 (oA Z)<|gD<|gT<|aR ?_;refine az trivial ?_;grind[co]
 intro gM;refine ep 8 Z<|ep 9 Z<|ep 10 Z<|ep 11 Z<|ep 12 Z<|bt 13 Z<|bt 14 Z<|yq 15 (kK Z)<|yq 16 (rG Z)<|bt 17 Z<|bt 18 Z<|bt 19 Z<|bt 20 Z<|bt 21 Z<|bt 22 Z<|bt 23 Z<|bt 24 Z<|yq 25 (kK Z)<|yq 26 (oA Z)<|gD<|gT<|aR ?_;refine az trivial ?_;grind[co]
theorem alY{p:Prop}[h:Decidable p]:(Decidable.rec (motive:=fun _=>Bool) (fun _=>false) (fun _=>true) h)=decide p:=rfl
theorem x_1{p:Prop}(c:p:=by unfold co;rw[bZ];rcases hy:e.yes with _|_<;>apply Bool.eq_iff_iff.2<;>simp_all[alY,fR,gj,hK,hC,hT,hA,hF,hY,aI,dA,bb,fE,gf]<;>first|omega|(split<;>simp_all<;>omega)):p:=c
theorem x_13{p:Prop}(c:p:=by exact ⟨rfl,by decide,rfl,⟨_,underlying3⟩,rfl,by decide,rfl,⟨_,underlying3⟩,rfl,by decide,rfl,⟨_,underlying3⟩,rfl,by decide,rfl,⟨_,underlying3⟩,rfl,by decide,rfl,⟨_,underlying3⟩,rfl,by decide,rfl,⟨_,underlying3⟩,by decide,rfl,underlying4,trivial⟩):p:=c
theorem Ps(e:aV):GC prog 110 [ju e] [] (aD (co e)) []:=by
 refine gi 2 func110 rfl ntmps110 rfl ?_;intro L O w0;refine sL<|ab (zX 2001 Z) Z<|ar Z<|Y<|aS<|sL<|lf 4 bN Z<|aj ac Z<|ab (zL func189 (wM _) Z) Z<|bX Z<|aQ Z ?_;refine AL.bool (t:=9) rfl ?_ ?_
 ·intro V;refine aa Z<|aa Z<|aa Z<|aa Z<|aU Z<|Y<|aY Z<|sL<|ar Z<|Y<|aR<|rT ?_;refine az trivial ?_;rcases hq:co e with _|_
  ·rfl
  have:=uu hq;simp_all
 intro V;refine lf 5 fC Z<|aj ac Z<|ab (zL func189 (wM _) Z) Z<|bX Z<|bj Z<|Y<|cE rfl ?_ ?_
 ·intro h2;refine sL<|ar Z<|Y<|aR<|rT ?_;refine az trivial ?_;rcases hq:co e with _|_
  ·rfl
  have:=uu hq;simp_all
 intro h2;refine aK<|gA<|lf 0 jz Z<|aj ac Z<|lq (rd (x:=.agg [c6,c6,c6,c6,c6,c6,vB false]) (cP Z xF Z Z Z) Z)<|ab (zA 2003 jl Z) Z<|lT [1,2,3,17] [2001,2003] ?_;refine ab (zB 2003 mZ m0 Z) Z<|nA<|cI Z<|Y ?_;refine aJ [1,2,3] [2001] (D:=Bool×Int×Int×Int×Int×Int×Bool) (fun d=>[(4,aD d.1)]) (fun d=>[(2003,.box 81 none [int e.kind,int d.2.1,int d.2.2.1,int d.2.2.2.1,int d.2.2.2.2.1,int d.2.2.2.2.2.1,aD d.2.2.2.2.2.2])]) (fun d=>(d.1&&dA (fR e) (fR ⟨e.kind,d.2.1,d.2.2.1,d.2.2.2.1,d.2.2.2.2.1,d.2.2.2.2.2.1,d.2.2.2.2.2.2⟩))=co e) ?_ ?_
 ·refine sL<|lf 0 jz Z<|aj ac Z<|Y<|aB<|sL<|ak Z<|bv Z<|Y<|cE rfl ?_ ?_
  ·intro h3;refine sL<|lf 4 bN Z<|aj ac Z<|lf 4 bN Z<|ab (zB 2003 ca cb Z) Z<|Y<|aL<|lf 4 bN Z<|aj ac Z<|ak Z<|bv Z<|lN<|gB<|gT ?_;have bZ:e.kind=1:=by simpa using h3
   clear h3;refine⟨(_,_,_,_,_,_,_),x_1,⟨rfl,trivial⟩,⟨rfl,trivial⟩,rfl,rfl⟩
  intro h3;refine sL<|ak Z<|bv Z<|Y<|cE rfl ?_ ?_
  ·intro h4;refine aS<|aG 11 [2003]<|tq 0 (rf 2 dn Z)<|tq 1 (aZ ac Z)<|tq 2 (rf 4 bN Z)<|tq 3 (aZ ac Z)<|tq 4 (rf 5 fC Z)<|tq 5 (aZ ac Z)<|yq 6 (rf 2 dn Z)<|cm 7 Z (zB 2003 ca cb Z)<|gX [1,2,3,4,33,35] [2001,2003] ?_;refine yq 8 (rf 4 bN Z)<|cm 9 Z (zB 2003 ca cb Z)<|yq 10 (rf 5 fC Z)<|yl Z (zB 2003 ca cb Z)<|gT<|aL<|lf 2 dn Z<|aj ac Z<|ab (zL func191 (zF _) Z) Z<|aQ Z ?_;refine AL.bool (t:=42) rfl ?_ ?_
   ·intro h5;refine lf 4 bN Z<|aj ac Z<|ak Z<|bj Z<|bv Z<|lN<|gB<|gT ?_;have bZ:e.kind=2:=by simpa using h4
    clear h3 h4;refine⟨(_,_,_,_,_,_,_),x_1,⟨rfl,trivial⟩,⟨rfl,trivial⟩,rfl,rfl⟩
   intro h5;refine aa Z<|aa Z<|aa Z<|bL Z<|ar Z<|lN<|gB<|gT ?_;have bZ:e.kind=2:=by simpa using h4
   clear h3 h4;refine⟨(_,_,_,_,_,_,_),x_1,⟨rfl,trivial⟩,⟨rfl,trivial⟩,rfl,rfl⟩
  intro h4;refine sL<|ak Z<|bv Z<|Y<|cE rfl ?_ ?_
  ·intro h6;refine aS<|aG 7 [2003]<|tq 0 (rf 2 dn Z)<|tq 1 (aZ ac Z)<|tq 2 (rf 5 fC Z)<|tq 3 (aZ ac Z)<|yq 4 (rf 2 dn Z)<|cm 5 Z (zB 2003 ca cb Z)<|gX [1,2,3,4,52] [2001,2003] ?_;refine yq 6 (rf 5 fC Z)<|yl Z (zB 2003 ca cb Z)<|gT<|aL<|lf 2 dn Z<|aj ac Z<|ab (zL func191 (zF _) Z) Z<|bv Z<|lN<|gB<|gT ?_;have bZ:e.kind=3:=by simpa using h6
   clear h3 h4 h6;refine⟨(_,_,_,_,_,_,_),x_1,⟨rfl,trivial⟩,⟨rfl,trivial⟩,rfl,rfl⟩
  intro h6;refine sL<|ak Z<|bv Z<|Y<|cE rfl ?_ ?_
  ·intro h7;refine aS<|aG 11 [2003]<|tq 0 (rf 2 dn Z)<|tq 1 (aZ ac Z)<|tq 2 (rf 4 bN Z)<|tq 3 (aZ ac Z)<|tq 4 (rf 5 fC Z)<|tq 5 (aZ ac Z)<|yq 6 (rf 2 dn Z)<|cm 7 Z (zB 2003 ca cb Z)<|gX [1,2,3,4,63,65] [2001,2003] ?_;refine yq 8 (rf 4 bN Z)<|cm 9 Z (zB 2003 ca cb Z)<|yq 10 (rf 5 fC Z)<|yl Z (zB 2003 ca cb Z)<|gT<|aL<|lf 2 dn Z<|aj ac Z<|ab (zL func191 (zF _) Z) Z<|aQ Z ?_;refine AL.bool (t:=72) rfl ?_ ?_
   ·intro h8;refine lf 5 fC Z<|aj ac Z<|ak Z<|bj Z<|bv Z<|lN<|gB<|gT ?_;have bZ:e.kind=4:=by simpa using h7
    clear h3 h4 h6 h7;refine⟨(_,_,_,_,_,_,_),x_1,⟨rfl,trivial⟩,⟨rfl,trivial⟩,rfl,rfl⟩
   intro h8;refine aa Z<|aa Z<|aa Z<|bL Z<|ar Z<|lN<|gB<|gT ?_;have bZ:e.kind=4:=by simpa using h7
   clear h3 h4 h6 h7;refine⟨(_,_,_,_,_,_,_),x_1,⟨rfl,trivial⟩,⟨rfl,trivial⟩,rfl,rfl⟩
  intro h7;refine sL<|ak Z<|bv Z<|Y<|cE rfl ?_ ?_
  ·intro h9;refine aS<|aG 19 [2003]<|tq 0 (rf 1 gE Z)<|tq 1 (aZ ac Z)<|tq 2 (rf 2 dn Z)<|tq 3 (aZ ac Z)<|tq 4 (rf 3 fK Z)<|tq 5 (aZ ac Z)<|tq 6 (rf 4 bN Z)<|tq 7 (aZ ac Z)<|tq 8 (rf 6 pw Z)<|tq 9 (uY jN Z)<|yq 10 (rf 1 gE Z)<|cm 11 Z (zB 2003 ca cb Z)<|gX [1,2,3,4,82,84,86,88] [2001,2003] ?_;refine yq 12 (rf 2 dn Z)<|cm 13 Z (zB 2003 ca cb Z)<|yq 14 (rf 3 fK Z)<|cm 15 Z (zB 2003 ca cb Z)<|yq 16 (rf 4 bN Z)<|cm 17 Z (zB 2003 ca cb Z)<|yq 18 (rf 6 pw Z)<|yl Z (zB 2003 ES ET Z)<|gT<|aL<|lf 1 gE Z<|aj ac Z<|ab (zL func210 (Bf _) Z) Z<|aQ Z ?_;refine AL.bool (t:=97) rfl ?_ ?_
   ·intro dh;refine lf 2 dn Z<|aj ac Z<|ab (zL func191 (zF _) Z) Z<|lT [1,2,3,4,97,100] [2001,2003] ?_;refine bj Z<|aQ Z ?_;refine AL.bool (t:=102) rfl ?_ ?_
    ·intro gp;refine lf 3 fK Z<|aj ac Z<|ab (zL func191 (zF _) Z) Z<|bj Z<|aQ Z ?_;refine AL.bool (t:=107) rfl ?_ ?_
     ·intro gM;refine lf 2 dn Z<|aj ac Z<|lf 3 fK Z<|aj ac Z<|ak Z<|bj Z<|aQ Z ?_;refine AL.bool (t:=114) rfl ?_ ?_
      ·intro dO;refine lf 4 bN Z<|aj ac Z<|ak Z<|bj Z<|bv Z<|lN<|gB<|gT ?_;have bZ:e.kind=5:=by simpa using h9
       clear h3 h4 h6 h7 h9;refine⟨(_,_,_,_,_,_,_),x_1,⟨rfl,trivial⟩,⟨rfl,trivial⟩,rfl,rfl⟩
      intro dO;refine aa Z<|aa Z<|aa Z<|bL Z<|ar Z<|lN<|gB<|gT ?_;have bZ:e.kind=5:=by simpa using h9
      clear h3 h4 h6 h7 h9;refine⟨(_,_,_,_,_,_,_),x_1,⟨rfl,trivial⟩,⟨rfl,trivial⟩,rfl,rfl⟩
     intro gM;refine aa Z<|aa Z<|aa Z<|aa Z<|aa Z<|bL Z<|dm Z<|aa Z<|aa Z<|aa Z<|bL Z<|ar Z<|lN<|gB<|gT ?_;have bZ:e.kind=5:=by simpa using h9
     clear h3 h4 h6 h7 h9;refine⟨(_,_,_,_,_,_,_),x_1,⟨rfl,trivial⟩,⟨rfl,trivial⟩,rfl,rfl⟩
    intro gp;refine aa Z<|aa Z<|aa Z<|bL Z<|dm Z<|aa Z<|aa Z<|aa Z<|aa Z<|aa Z<|bL Z<|dm Z<|aa Z<|aa Z<|aa Z<|bL Z<|lT [1,2,3,4,118] [2001,2003] ?_;refine ar Z<|lN<|gB<|gT ?_;have bZ:e.kind=5:=by simpa using h9
    clear h3 h4 h6 h7 h9;refine⟨(_,_,_,_,_,_,_),x_1,⟨rfl,trivial⟩,⟨rfl,trivial⟩,rfl,rfl⟩
   intro dh;refine aa Z<|aa Z<|aa Z<|bL Z<|dm Z<|aa Z<|aa Z<|aa Z<|bL Z<|dm Z<|aa Z<|aa Z<|aa Z<|aa Z<|aa Z<|bL Z<|dm Z<|aa Z<|aa Z<|aa Z<|bL Z<|ar Z<|lN<|gB<|gT ?_;have bZ:e.kind=5:=by simpa using h9
   clear h3 h4 h6 h7 h9;refine⟨(_,_,_,_,_,_,_),x_1,⟨rfl,trivial⟩,⟨rfl,trivial⟩,rfl,rfl⟩
  intro h9;refine sL<|ak Z<|bv Z<|Y<|cE rfl ?_ ?_
  ·intro ij;refine aS<|aG 19 [2003]<|tq 0 (rf 1 gE Z)<|tq 1 (aZ ac Z)<|tq 2 (rf 2 dn Z)<|tq 3 (aZ ac Z)<|tq 4 (rf 3 fK Z)<|tq 5 (aZ ac Z)<|tq 6 (rf 4 bN Z)<|tq 7 (aZ ac Z)<|tq 8 (rf 5 fC Z)<|tq 9 (aZ ac Z)<|yq 10 (rf 1 gE Z)<|cm 11 Z (zB 2003 ca cb Z)<|gX [1,2,3,4,124,126,128,130] [2001,2003] ?_;refine yq 12 (rf 2 dn Z)<|cm 13 Z (zB 2003 ca cb Z)<|yq 14 (rf 3 fK Z)<|cm 15 Z (zB 2003 ca cb Z)<|yq 16 (rf 4 bN Z)<|cm 17 Z (zB 2003 ca cb Z)<|yq 18 (rf 5 fC Z)<|yl Z (zB 2003 ca cb Z)<|gT<|aL<|lf 1 gE Z<|aj ac Z<|ab (zL func210 (Bf _) Z) Z<|aQ Z ?_;refine AL.bool (t:=139) rfl ?_ ?_
   ·intro lg;refine lf 2 dn Z<|aj ac Z<|ab (zL func191 (zF _) Z) Z<|lT [1,2,3,4,139,142] [2001,2003] ?_;refine bj Z<|aQ Z ?_;refine AL.bool (t:=144) rfl ?_ ?_
    ·intro mn;refine lf 3 fK Z<|aj ac Z<|ab (zL func191 (zF _) Z) Z<|bj Z<|aQ Z ?_;refine AL.bool (t:=149) rfl ?_ ?_
     ·intro m7;refine lf 2 dn Z<|aj ac Z<|lf 3 fK Z<|aj ac Z<|ak Z<|bj Z<|aQ Z ?_;refine AL.bool (t:=156) rfl ?_ ?_
      ·intro mF;refine lf 4 bN Z<|aj ac Z<|ak Z<|bj Z<|bv Z<|lN<|gB<|gT ?_;have bZ:e.kind=9:=by simpa using ij
       clear h3 h4 h6 h7 h9 ij;refine⟨(_,_,_,_,_,_,_),x_1,⟨rfl,trivial⟩,⟨rfl,trivial⟩,rfl,rfl⟩
      intro mF;refine aa Z<|aa Z<|aa Z<|bL Z<|ar Z<|lN<|gB<|gT ?_;have bZ:e.kind=9:=by simpa using ij
      clear h3 h4 h6 h7 h9 ij;refine⟨(_,_,_,_,_,_,_),x_1,⟨rfl,trivial⟩,⟨rfl,trivial⟩,rfl,rfl⟩
     intro m7;refine aa Z<|aa Z<|aa Z<|aa Z<|aa Z<|bL Z<|dm Z<|aa Z<|aa Z<|aa Z<|bL Z<|ar Z<|lN<|gB<|gT ?_;have bZ:e.kind=9:=by simpa using ij
     clear h3 h4 h6 h7 h9 ij;refine⟨(_,_,_,_,_,_,_),x_1,⟨rfl,trivial⟩,⟨rfl,trivial⟩,rfl,rfl⟩
    intro mn;refine aa Z<|aa Z<|aa Z<|bL Z<|dm Z<|aa Z<|aa Z<|aa Z<|aa Z<|aa Z<|bL Z<|dm Z<|aa Z<|aa Z<|aa Z<|bL Z<|lT [1,2,3,4,160] [2001,2003] ?_;refine ar Z<|lN<|gB<|gT ?_;have bZ:e.kind=9:=by simpa using ij
    clear h3 h4 h6 h7 h9 ij;refine⟨(_,_,_,_,_,_,_),x_1,⟨rfl,trivial⟩,⟨rfl,trivial⟩,rfl,rfl⟩
   intro lg;refine aa Z<|aa Z<|aa Z<|bL Z<|dm Z<|aa Z<|aa Z<|aa Z<|bL Z<|dm Z<|aa Z<|aa Z<|aa Z<|aa Z<|aa Z<|bL Z<|dm Z<|aa Z<|aa Z<|aa Z<|bL Z<|ar Z<|lN<|gB<|gT ?_;have bZ:e.kind=9:=by simpa using ij
   clear h3 h4 h6 h7 h9 ij;refine⟨(_,_,_,_,_,_,_),x_1,⟨rfl,trivial⟩,⟨rfl,trivial⟩,rfl,rfl⟩
  intro ij;refine aS<|sL<|ak Z<|bv Z<|Y<|cE rfl ?_ ?_
  ·intro jn;refine qt 161 true Z jn<|aK<|gT<|aY Z<|sL<|lf 1 gE Z<|aj ac Z<|lf 1 gE Z<|ab (zB 2003 ca cb Z) Z<|lT [1,2,3,4] [2001,2003] ?_;refine Y<|aL<|lf 1 gE Z<|aj ac Z<|ab (zL func210 (Bf _) Z) Z<|bv Z<|lN<|gB<|gT ?_;have bZ:e.kind=6:=by simpa using jn
   clear h3 h4 h6 h7 h9 ij jn;refine⟨(_,_,_,_,_,_,_),x_1,⟨rfl,trivial⟩,⟨rfl,trivial⟩,rfl,rfl⟩
  intro jn;refine qt 161 false Z jn<|sL<|ak Z<|bv Z<|Y<|cE rfl ?_ ?_
  ·intro Dd;refine qt 161 true Z Dd<|aK<|gT<|aY Z<|sL<|lf 1 gE Z<|aj ac Z<|lf 1 gE Z<|ab (zB 2003 ca cb Z) Z<|Y<|aL<|lf 1 gE Z<|aj ac Z<|ab (zL func210 (Bf _) Z) Z<|bv Z<|lN<|gB<|gT ?_;have bZ:e.kind=7:=by simpa using Dd
   clear h3 h4 h6 h7 h9 ij jn Dd;refine⟨(_,_,_,_,_,_,_),x_1,⟨rfl,trivial⟩,⟨rfl,trivial⟩,rfl,rfl⟩
  intro Dd;refine qt 161 false Z Dd<|sL<|ak Z<|bv Z<|Y<|cE rfl ?_ ?_
  ·intro wt;refine qt 161 true Z wt<|aK<|gT<|aY Z<|sL<|lf 1 gE Z<|aj ac Z<|lf 1 gE Z<|ab (zB 2003 ca cb Z) Z<|lT [1,2,3,4] [2001,2003] ?_;refine Y<|aL<|lf 1 gE Z<|aj ac Z<|ab (zL func210 (Bf _) Z) Z<|bv Z<|lN<|gB<|gT ?_;have bZ:e.kind=10:=by simpa using wt
   clear h3 h4 h6 h7 h9 ij jn Dd wt;refine⟨(_,_,_,_,_,_,_),x_1,⟨rfl,trivial⟩,⟨rfl,trivial⟩,rfl,rfl⟩
  intro wt;refine qt 161 false Z wt<|aL<|ak Z<|bv Z<|Y<|cE rfl ?_ ?_
  ·intro wq;refine sL<|lf 1 gE Z<|aj ac Z<|lf 1 gE Z<|ab (zB 2003 ca cb Z) Z<|Y<|aL<|lf 1 gE Z<|aj ac Z<|ab (zL func210 (Bf _) Z) Z<|bv Z<|lN<|gB<|gT ?_;have bZ:e.kind=11:=by simpa using wq
   clear h3 h4 h6 h7 h9 ij jn Dd wt wq;refine⟨(_,_,_,_,_,_,_),x_1,⟨rfl,trivial⟩,⟨rfl,trivial⟩,rfl,rfl⟩
  intro wq;refine sL<|ak Z<|bv Z<|Y<|cE rfl ?_ ?_
  ·intro Bd;refine aK<|gB<|gT ?_;have bZ:e.kind=8:=by simpa using Bd
   clear h3 h4 h6 h7 h9 ij jn Dd wt wq Bd;refine⟨(_,_,_,_,_,_,_),x_1,⟨rfl,trivial⟩,⟨rfl,trivial⟩,rfl,rfl⟩
  intro Bd;refine sL<|ar Z<|Y<|aR<|rB<|rT ?_;refine az trivial ?_;refine(P2 ?_).symm;have:True:=trivial;simp only[decide_eq_false_iff_not]at *;omega
 intro ⟨b1,b2,b3,b4,b5,b6,b7⟩ hI;dsimp only at hI ⊢;refine sL<|aQ Z<|aQ Z ?_;refine AL.bool (t:=175) rfl ?_ ?_
 ·intro Js;refine aP iK dD Z<|aP iK dD Z<|lq (rd (x:=fy) (j0 rfl (.inl rfl) rfl rfl oz pe pf pg ?hn1) rfl) ?_;case hn1=>exact x_13
  refine bj Z<|bv Z<|Y<|aR ?_;refine az trivial ?_;rw[<-hI];simp_all[fR]
 intro Js;refine aa Z<|aa Z<|aa Z<|bL Z<|ar Z<|Y<|aR ?_;refine az trivial ?_;rw[<-hI];simp_all[fR]

theorem fA.nil:fA []:=fun b hb=>by cases hb
theorem fA.gJ{l m:List Int}(h:fA l)(g:fA m):fA (l++m):=fun b hb=>by
 rcases List.mem_append.1 hb with q|q
 ·exact h b q
 exact g b q
theorem fA.cons{x:Int}{l:List Int}(h0:0<=x)(V:x<=255)(h:fA l):fA (x::l):=fun b hb=>by
 rcases List.mem_cons.1 hb with rfl|q
 ·omega
 exact h b q
theorem fA.zero(n:Nat):fA (List.replicate n 0):=fun b hb=>by grind
theorem fA.take{l:List Int}(h:fA l)(n:Nat):fA (l.take n):=fun b hb=>h b (List.mem_of_mem_take hb)
theorem fA.drop{l:List Int}(h:fA l)(n:Nat):fA (l.drop n):=fun b hb=>h b (List.mem_of_mem_drop hb)
def i8(s:fb):Bool:=aI s.seq 0 599&&aI s.dP 1 16000000&&decide (s.body.length<=100)
def oq(s:fb):List Int:=[74]++cl 3 s.seq++cl 3 s.dP++[(s.body.length:Int)]++s.body++List.replicate (114-s.body.length) 0++cl 3 s.seq++cl 3 s.dP
def gu(b:List Int):fb:=⟨mO ((b.drop 1).take 3),mO ((b.drop 4).take 3),(b.drop 8).take (b.getD 7 0).toNat⟩
def g8(b:List Int):Bool:=decide (b.length=128)&&decide (b.getD 7 0<=100)&&(i8 (gu b)&&decide (oq (gu b)=b))
def kP(b:List Int):fb:=if g8 b then gu b else ⟨0,0,[]⟩
theorem qW{s:fb}:i8 s=true↔(0<=s.seq/\s.seq<=599)/\(1<=s.dP/\s.dP<=16000000)/\s.body.length<=100:=by
 simp[i8,aI,and_assoc]
theorem TB{s:fb}(h:s.body.length<=100):(oq s).length=128:=by
 grind[oq,da]
theorem TC{s:fb}(h:fA s.body)(hl:s.body.length<=100):fA (oq s):=by
 unfold oq;exact(((((((fA.cons x_2 x_2 .nil).gJ (wX _ _)).gJ (wX _ _)).gJ (.cons x_2 x_2 .nil)).gJ h).gJ (.zero _)).gJ (wX _ _)).gJ (wX _ _)
theorem dv{b:List Int}(h:g8 b=true):kP b=gu b:=if_pos h
theorem TD{b:List Int}(h:g8 b=false):kP b=⟨0,0,[]⟩:=if_neg x_137
theorem oN{b:List Int}:g8 b=true↔b.length=128/\b.getD 7 0<=100/\i8 (gu b)=true/\oq (gu b)=b:=by
 simp[g8,and_assoc]
theorem LY{b:List Int}(h:fA b):fA (gu b).body:=(h.drop 8).take _
theorem TE{s:fb}(h:i8 s=true):gu (oq s)=s:=by
 obtain⟨⟨a1,a2⟩,⟨b1,b2⟩,hl⟩:=qW.1 h;have e1:(oq s).drop 1=cl 3 s.seq++(cl 3 s.dP++([(s.body.length:Int)]++(s.body++(List.replicate (114-s.body.length) 0++(cl 3 s.seq++cl 3 s.dP))))):=by
  unfold oq;simp only[List.append_assoc];rfl
 have e4:(oq s).drop 4=cl 3 s.dP++([(s.body.length:Int)]++(s.body++(List.replicate (114-s.body.length) 0++(cl 3 s.seq++cl 3 s.dP)))):=by
  rw[show (4:Nat)=1+3 from rfl,<-List.drop_drop,e1,List.drop_left' (da _ _)]
 have e7:(oq s).drop 7=[(s.body.length:Int)]++(s.body++(List.replicate (114-s.body.length) 0++(cl 3 s.seq++cl 3 s.dP))):=by
  rw[show (7:Nat)=4+3 from rfl,<-List.drop_drop,e4,List.drop_left' (da _ _)]
 have e8:(oq s).drop 8=s.body++(List.replicate (114-s.body.length) 0++(cl 3 s.seq++cl 3 s.dP)):=by
  rw[show (8:Nat)=7+1 from rfl,<-List.drop_drop,e7];rfl
 have g7:(oq s).getD 7 0=(s.body.length:Int):=by
  have:(oq s)[7]? = ((oq s).drop 7)[0]?:=by rw[List.getElem?_drop]
  rw[List.getD_eq_getElem?_getD,this,e7];rfl
 have p3:∀n:Int,(cl 3 n).length=3:=fun n=>da n 3;unfold gu;rw[g7,e1,e4,e8,List.take_left' (p3 _),List.take_left' (p3 _),LX a1 x_2,LX x_2 x_2,Int.toNat_natCast,List.take_left]
theorem ali{s:fb}(h:i8 s=true):g8 (oq s)=true:=by
 obtain⟨_,_,hl⟩:=qW.1 h;rw[oN,TE h];refine⟨TB hl,?_,h,rfl⟩;have e:(gu (oq s)).body=s.body:=by rw[TE h]
 have g7:(oq s).getD 7 0=(s.body.length:Int):=by
  have e1:(oq s).drop 1=cl 3 s.seq++(cl 3 s.dP++([(s.body.length:Int)]++(s.body++(List.replicate (114-s.body.length) 0++(cl 3 s.seq++cl 3 s.dP))))):=by
   unfold oq;simp only[List.append_assoc];rfl
  have e7:(oq s).drop 7=[(s.body.length:Int)]++(s.body++(List.replicate (114-s.body.length) 0++(cl 3 s.seq++cl 3 s.dP))):=by
   rw[show (7:Nat)=1+3+3 from rfl,<-List.drop_drop,<-List.drop_drop,e1,List.drop_left' (da _ _),List.drop_left' (da _ _)]
  have:(oq s)[7]? = ((oq s).drop 7)[0]?:=by rw[List.getElem?_drop]
  rw[List.getD_eq_getElem?_getD,this,e7];rfl
 rw[g7];omega
def rY(e:aV):List Int:=[69,e.kind]++cl 3 e.key++[e.ch,e.to]++cl 7 e.af++cl 7 e.ay++[if e.yes then 1 else 0]
def lJ(b:List Int):aV:=⟨b.getD 1 0,mO ((b.drop 2).take 3),b.getD 5 0,b.getD 6 0,mO ((b.drop 7).take 7),mO ((b.drop 14).take 7),b.getD 21 0==1⟩
def lK(b:List Int):Bool:=decide (b.length=22)&&(co (lJ b)&&decide (rY (lJ b)=b))
theorem TF(e:aV):(rY e).length=22:=by rfl
def yP(b:List Int):List Int:=if b.length=0 then List.replicate 128 0 else b
def lL(c:Cell):Bool:=decide (c.bytes.length=0)||decide (c.bytes.length=128)
def kS(n:Nat)(w:gq):Bool:=aI w.at_ 0 ((n:Int)-1)&&decide (w.bytes.length=128)
def ik(d:du):Bool:=aI (d.cells.length:Int) 1 600&&decide (d.bu.length<=600)&&d.cells.all lL&&d.bu.all (kS d.cells.length)
def kD:List gq->Int->Option (List Int)
 |[],_=>none
 |w::r,at_=>match kD r at_ with|some b=>some b|none=>if w.at_=at_ then some w.bytes else none
def io(d:du)(i:Nat):List Int:=match kD d.bu i with|some b=>b|none=>yP ((d.cells[i]?).getD ⟨[]⟩).bytes
def oh(d:du):List (List Int):=(List.range d.cells.length).map (io d)
def v6(d:du)(i:Nat)(b:List Int):du:=⟨d.cells,d.bu++[⟨i,b⟩]⟩
def abL(old new:List Int)(n:Nat):List Int:=new.take n++(yP old).drop n
def acv(vA:List Int)(k:Nat):Nat:=(min (max ((vA[k]?).getD 0) 0) 128).toNat
def ab8(vA:List Int)(cs:List Cell)(k:Nat)(w:gq):List Cell:=if acv vA k=0 then cs else cs.set w.at_.toNat ⟨abL ((cs[w.at_.toNat]?).getD ⟨[]⟩).bytes w.bytes (acv vA k)⟩
def abP(vA:List Int):List gq->Nat->List Cell->List Cell
 |[],_,cs=>cs
 |w::r,k,cs=>abP vA r (k+1) (ab8 vA cs k w)
def acU(d:du)(vA:List Int):du:=if ik d then ⟨abP vA d.bu 0 d.cells,[]⟩else ⟨[],[]⟩
def abT(cs:List Cell)(w:gq):List Cell:=cs.set w.at_.toNat ⟨w.bytes⟩
def abM(d:du):du:=if ik d then ⟨d.bu.foldl abT d.cells,[]⟩else ⟨[],[]⟩
def pA(acc:List fb)(b:List Int):Bool:=g8 b&&((gu b).seq==(acc.length:Int))&&(match acc.getLast? with|some s=>decide (s.dP<=(gu b).dP)|none=>true)
def og:List (List Int)->List fb->List fb
 |[],acc=>acc
 |b::r,acc=>if pA acc b then og r (acc++[gu b])else acc
def dH(d:du):List fb:=if ik d then og (oh d) []else []
def abF(bs:List (List Int)):Int:=bs.foldl (fun t b=>max t (kP b).dP) 0
def m2(d:du):Int:=if ik d then abF (oh d)else 0
def pj(l:List fb):List aV:=l.filterMap fun s=>if lK s.body then some (lJ s.body)else none
def f8(d:du):List aV:=pj (dH d)
def m1(d:du):Int:=if ik d&&decide (d.bu.length=0)then (if (dH d).length=d.cells.length\/16000000<=m2 d then 2 else 0)else 1
def m4(d:du):uW:=if m1 d=0 then ⟨abM (v6 d (dH d).length (oq ⟨(dH d).length,m2 d+1,[66]⟩)),(dH d).length+1,m2 d+1⟩else ⟨⟨[],[]⟩,0,0⟩
def ab9(d:du):List aV:=if m1 d=0 then f8 d else []
def aho(l:uW)(e:aV):Int:=if ik l.bT&&aI l.next 0 l.bT.cells.length&&aI l.dP 1 16000000&&co e then (if l.next=l.bT.cells.length\/600<=l.bT.bu.length then 2 else 0)else 1
def ahu(l:uW)(e:aV):uW:=if aho l e=0 then ⟨v6 l.bT l.next.toNat (oq ⟨l.next,l.dP,rY e⟩),l.next+1,l.dP⟩else ⟨⟨[],[]⟩,0,0⟩
def afM(l:uW):uW:=if ik l.bT then ⟨abM l.bT,l.next,l.dP⟩else ⟨⟨[],[]⟩,0,0⟩

abbrev gV(l:List Int):AV:=LO 5 l
abbrev nQ(b:List Int):PV:=.ab 5 1 (ah dF b)
def oS(cs:List Cell):List (List PV):=cs.map fun c=>[nQ c.bytes]
def oT(ws:List gq):List (List PV):=ws.map fun w=>[.v (.int .i64 w.at_),nQ w.bytes]
abbrev mt(d:du):AV:=.agg [.p (.ab 195 1 (oS d.cells)),.p (.ab 192 2 (oT d.bu))]
abbrev G9(l:uW):AV:=.agg [.p (.ab 195 1 (oS l.bT.cells)),.p (.ab 192 2 (oT l.bT.bu)),int l.next,int l.dP]
def oR(vs:List Value):List (List PV):=vs.map fun v=>[.v v]
def lW(vs:List Value)(ws:List gq):List (List PV):=List.zipWith (fun v (w:gq)=>[.v (.int .i64 w.at_),.v v]) vs ws
def fY(vs:List Value)(bs:List (List Int)):List AO:=List.zipWith (fun v b=>.ai ⟨5,some v⟩ 1 (ah dF b)) vs bs
abbrev l9(cs:List Cell):List (List Int):=cs.map Cell.bytes
abbrev oQ(ws:List gq):List (List Int):=ws.map gq.bytes
theorem fU(cs:List Cell):(oS cs).length=cs.length:=List.length_map _
theorem pH(ws:List gq):(oT ws).length=ws.length:=List.length_map _
theorem vw{cs:List Cell}{i:Nat}(h:i<cs.length):(oS cs)[i]? = some [nQ cs[i].bytes]:=bS h
theorem td{ws:List gq}{i:Nat}(h:i<ws.length):(oT ws)[i]? = some [.v (.int .i64 ws[i].at_),nQ ws[i].bytes]:=bS h
theorem Ao(vs:List Value):(oR vs).length=vs.length:=List.length_map _
theorem K9{vs:List Value}{ws:List gq}(h:vs.length=ws.length):(lW vs ws).length=ws.length:=by grind[lW]
theorem Aa{vs:List Value}{bs:List (List Int)}(h:vs.length=bs.length):(fY vs bs).length=bs.length:=by grind[fY]
theorem TG{vs:List Value}{u:Value}:oR (vs++[u])=oR vs++[[.v u]]:=List.map_append
theorem SB{vs:List Value}{ws:List gq}{u:Value}{w:gq}(h:vs.length=ws.length):lW (vs++[u]) (ws++[w])=lW vs ws++[[.v (.int .i64 w.at_),.v u]]:=by simp_all[lW,List.zipWith_append]
theorem K8{vs:List Value}{bs:List (List Int)}{u:Value}{b:List Int}(h:vs.length=bs.length):fY (vs++[u]) (bs++[b])=fY vs bs++[.ai ⟨5,some u⟩ 1 (ah dF b)]:=by simp_all[fY,List.zipWith_append]
theorem Ap:∀ {vs:List Value} {bs:List (List Int)},dS (fY vs bs)
 |[],_=>by simp[fY,dS.nil]
 |_::_,[]=>by simp[fY,dS.nil]
 |v::vs,p::bs=>fun o ho=>by
  unfold fY at ho;rw[List.zipWith_cons_cons]at ho;rcases List.mem_cons.1 ho with rfl|ho
  ·rfl
  exact Ap (vs:=vs) (bs:=bs) o ho
theorem TH{vs:List Value}{i:Nat}(hi:i<vs.length):(oR vs)[i]? = some [.v vs[i]]:=bS hi
theorem TI{vs:List Value}{ws:List gq}{i:Nat}(h:vs.length=ws.length)(hi:i<ws.length):(lW vs ws)[i]? = some [.v (.int .i64 ws[i].at_),.v (vs[i]' x_2)]:=by
 grind[lW]
theorem LZ{vs:List Value}{bs:List (List Int)}{i:Nat}(h:vs.length=bs.length)(hi:i<bs.length):(fY vs bs)[i]? = some (.ai ⟨5,some (vs[i]' x_2)⟩ 1 (ah dF bs[i])):=by
 grind[fY]
theorem SF{H:Nat->AO}{F:List AO}(hT:Tl H F){vs:List Value}{cs:List Cell}(h:vs.length=cs.length){s:Nat}(hF:∀i,i<cs.length->F[s+i]? = (fY vs (l9 cs))[i]?):kf (kf (vm H)) (oR vs) (oS cs):=by
 refine Eh (by grind[Ao,fU]) fun i a b ha hb=>?_;have hi:i<cs.length:=by have:=(List.getElem?_eq_some_iff.1 hb).1;rwa [fU]at this
 rw[TH x_2]at ha;rw[vw hi]at hb;injection ha with ha;injection hb with hb;subst ha hb;refine .cons (.inr ⟨_,1000000+(s+i),_,_,_,rfl,?_,rfl⟩) .nil;rw[hT.1,hF i hi,LZ x_14 x_14];simp
theorem SG{H:Nat->AO}{F:List AO}(hT:Tl H F){vs:List Value}{ws:List gq}(h:vs.length=ws.length){s:Nat}(hF:∀i,i<ws.length->F[s+i]? = (fY vs (oQ ws))[i]?):kf (kf (vm H)) (lW vs ws) (oT ws):=by
 refine Eh (by rw[K9 h,pH]) fun i a b ha hb=>?_;have hi:i<ws.length:=by have:=(List.getElem?_eq_some_iff.1 hb).1;rwa [pH]at this
 rw[TI h hi]at ha;rw[td hi]at hb;injection ha with ha;injection hb with hb;subst ha hb;refine .cons (.inl rfl) (.cons (.inr ⟨_,1000000+(s+i),_,_,_,rfl,?_,rfl⟩) .nil);rw[hT.1,hF i hi,LZ x_14 x_14];simp
abbrev Gn:AV:=.agg [.own 1,.own 2]
abbrev DS(vs us:List Value)(d:du):List (Nat×AO):=[(1,.ai 195 1 (oR vs)),(2,.ai 192 2 (lW us d.bu))]
def sY(vs us:List Value)(d:du):List AO:=fY vs (l9 d.cells)++fY us (oQ d.bu)
theorem TJ{vs us:List Value}{d:du}:dS (sY vs us d):=Ap.gJ Ap
def La(d:du):AV->List (Nat×AO)->List AO->Prop:=fun y l1 F1=>∃vs us:List Value,vs.length=d.cells.length/\us.length=d.bu.length/\y=Gn/\l1=DS vs us d/\F1=sY vs us d
end Go.Proofs.YtflhgkmhmcfimaaGreat

