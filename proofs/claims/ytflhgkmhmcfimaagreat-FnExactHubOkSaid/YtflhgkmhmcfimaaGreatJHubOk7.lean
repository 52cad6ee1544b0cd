/- Texts of the proof of FnFnExactHubOk, joined: EA3, EA4, EA5. -/
import Derived.Test.YtflhgkmhmcfimaaGreatJHubOk5
import Derived.Test.YtflhgkmhmcfimaaGreatJHubOk6
import Derived.Test.YtflhgkmhmcfimaaGreatKAllowS
import Derived.Test.YtflhgkmhmcfimaaGreatKScore1
import Derived.Test.YtflhgkmhmcfimaaGreatJHubOk3
namespace Go.Proofs.YtflhgkmhmcfimaaGreat
open Tryz
open Go.RowKit
set_option maxHeartbeats 16000000
set_option maxRecDepth 100000
set_option linter.unusedSimpArgs false
set_option linter.unusedVariables false
def jw{α:Type}(p:α->Bool)(l:List α):Int:=match l.findIdx? p with|some i=>(i:Int)|none=>-1
theorem DE{α:Type}{p:α->Bool}{l:List α}{k:Nat}(hk:k<l.length)(h:∀j (h:j<l.length),j<k->p l[j]=false)(h2:p l[k]=true):jw p l=(k:Int):=by
 unfold jw;rw[List.findIdx?_eq_some_iff_getElem.2 ⟨hk,h2,fun j hj=>by simp[h j (by omega) hj]⟩]
theorem DF{α:Type}{p:α->Bool}{l:List α}(h:∀j (h:j<l.length),p l[j]=false):jw p l=-1:=by
 unfold jw;rw[List.findIdx?_eq_none_iff.2 (fun x hx=>by
  obtain⟨j,hj,rfl⟩:=List.getElem_of_mem hx;exact h j hj)]
theorem RX{α:Type}(p:α->Bool)(l:List α):jw p l=-1\/∃k,∃h:k<l.length,jw p l=(k:Int)/\p l[k]=true:=by
 unfold jw;cases h:l.findIdx? p with
 |none=>exact .inl rfl
 |some i=>
  obtain⟨V,h2,_⟩:=List.findIdx?_eq_some_iff_getElem.1 h;exact .inr ⟨i,V,rfl,by simpa using h2⟩
theorem all_succ{α:Type}{p:α->Bool}{l:List α}{k:Nat}(hk:k<l.length)(h:∀j (h:j<l.length),j<k->p l[j]=false)(h2:p l[k]=false):∀j (h:j<l.length),j<k+1->p l[j]=false:=fun j hj eI=>by
 rcases Nat.lt_or_ge j k with q|q
 ·exact h j hj q
 have:j=k:=by omega
 subst this;exact h2
theorem BD{α:Type}{p:α->Bool}{l:List α}(h:∀j (h:j<l.length),p l[j]=false):l.any p=false:=by
 rw[List.any_eq_false];intro x hx;obtain⟨j,hj,rfl⟩:=List.getElem_of_mem hx;simp[h j hj]
theorem tS{α:Type}{p:α->Bool}{l:List α}{k:Nat}(hk:k<l.length)(h:p l[k]=true):l.any p=true:=List.any_eq_true.2 ⟨_,List.getElem_mem hk,h⟩
def DG(l:List eV)(key:Int):Int:=jw (fun h=>h.key==key) l
def DH(l:List gz)(key:Int):Int:=jw (fun h=>h.key==key) l
theorem eW(l:List be)(ch:Int):eS l ch=jw (fun c=>c.id==ch) l:=rfl
def nH(ch:Int)(h:eV):Bool:=h.gh==ch||h.out==ch
def nI(ch:Int)(c:gz):Bool:=c.fI==ch||c.to==ch
def oG(x:aw)(ch:Int):Bool:=x.an.any (nH ch)||x.aq.any (nI ch)
def nD(x:aw)(key:Int):Bool:=decide (0<=DG x.an key)||decide (0<=DH x.aq key)
def rJ(ch:Int)(h:eV):Int:=if h.out=ch/\h.kept=false then h.c9 else 0
def rK(ch:Int)(h:eV):Int:=if h.out=ch then 1 else 0
def rL(ch:Int)(h:eV):Int:=if h.out=ch/\h.kept=false then 1 else 0
def yn(n:Int)(g:Bool):Bool:=mr n&&decide (20<=n)&&g
def BE(l:List eV)(fI to:be)(ch af:Int)(yes:Bool):Int:=allow to.size (bG (rJ ch) l) (bG (dK ch) l) (bG (rL ch) l) (bG (rK ch) l) af (yn fI.cM yes)
def u0(n lo hi:Int):Int:=if n<lo then lo else if hi<n then hi else n
def qQ(l:List eV):Prop:=l.length<=60/\∀h∈l,0<=h.c9/\h.c9<=1125899906842624
theorem qQ.at{l:List eV}(s:qQ l){k:Nat}(hk:k<l.length):0<=l[k].c9/\l[k].c9<=1125899906842624:=s.2 _ (List.getElem_mem hk)
theorem qQ.ez{l:List eV}(s:qQ l)(ch:Int)(k:Nat):0<=bG (rJ ch) (l.take k)/\bG (rJ ch) (l.take k)<=60*1125899906842624:=oI 60 (by decide) (fun h hh=>by have:=s.2 h hh;unfold rJ;split<;>omega) s.1 k
theorem qQ.all{l:List eV}(s:qQ l)(ch:Int)(k:Nat):0<=bG (dK ch) (l.take k)/\bG (dK ch) (l.take k)<=60*1125899906842624:=oI 60 (by decide) (fun h hh=>by have:=s.2 h hh;unfold dK;split<;>omega) s.1 k
theorem qQ.one{l:List eV}(s:qQ l)(ch:Int)(k:Nat):0<=bG (rK ch) (l.take k)/\bG (rK ch) (l.take k)<=60*1:=oI 60 (by decide) (fun h hh=>by unfold rK;split<;>omega) s.1 k
theorem qQ.KM{l:List eV}(s:qQ l)(ch:Int)(k:Nat):0<=bG (rL ch) (l.take k)/\bG (rL ch) (l.take k)<=60*1:=oI 60 (by decide) (fun h hh=>by unfold rL;split<;>omega) s.1 k
theorem rM{α:Type}{f:α->Int}{l:List α}{k:Nat}(hk:k<l.length)(h:f l[k]=0):bG f (l.take (k+1))=bG f (l.take k):=by rw[oJ f l hk,h];omega
theorem rN{α:Type}{f:α->Int}{l:List α}{k:Nat}{n:Int}(hk:k<l.length)(h:f l[k]=n):bG f (l.take k)+n=bG f (l.take (k+1)):=by rw[oJ f l hk,h]
theorem z2(x:aw)(ch:Int)(hm:x.ag.length<=1000000000):GC prog 125 [cj x,int ch] [] (int (jw (fun c=>c.id==ch) x.ag)) []:=by
 refine gi 4 func125 rfl ntmps125 rfl ?_;intro L O w0;refine sL<|ab (zX 2002 Z) Z<|ao Z<|Y<|aS<|sL<|lf 3 dr Z<|bo eg Z<|ba kJ Z<|ae Z<|Y<|aB ?_;refine aW [1,4,8,9] [2002] (D:=Nat) (fun k=>[(10,int (k:Int))]) (fun k=>[]) (fun k=>k<=x.ag.length/\∀j (h:j<x.ag.length),j<k->(fun c=>c.id==ch) x.ag[j]=false) (fun k=>x.ag.length-k) (0) (⟨Nat.zero_le _,fun j _ h=>absurd h (by omega)⟩) ⟨rfl,trivial⟩ trivial ?_;intro k hI;obtain⟨eN,bB⟩:=hI;refine sL<|ak Z<|Y<|aS ?_;refine AW.cond rfl ?_ ?_
 ·intro V;refine aK<|gT<|aS<|aB<|sL<|ae Z ?_;have hk:k<x.ag.length:=by simpa[ap]using V
  refine li k cz Z (bS hk)<|d6 (.agg [U _ _,U _ _,U _ _,U _ _,U _ _,U _ _,U _ _]) fF Z<|ab (zA 2006 dy Z) Z<|ao Z<|ab (zB 2006 lu lv Z) Z<|nA<|lf 0 kM Z<|aj ac Z<|ae Z<|ak Z<|Y ?_;refine AW.cond rfl ?_ ?_
  ·intro h2;refine sL<|ae Z<|ao Z<|Y<|aR<|rB<|rT<|rT<|rB<|rT ?_;refine ax ?_ trivial;refine congrArg (fun n=>some (int n)) ?_;exact(DE hk bB (by simpa using h2)).symm
  intro h2;refine aK<|gB<|gT<|aL<|bg Z<|ae Z<|Y ?_;refine⟨k+1,⟨hk,all_succ (p:=(fun c=>c.id==ch)) hk bB (by simpa using h2)⟩,by omega,⟨(iq rfl),trivial⟩,trivial,rfl,rfl⟩
 intro V;refine aE<|eT<|eT<|eB<|gA<|ao Z<|Y<|aR ?_;refine ax ?_ trivial;refine congrArg (fun n=>some (int n)) ?_;exact(DF fun j hj=>bB j hj (by have h:=V;simp only[ap,decide_eq_false_iff_not]at h;omega)).symm
theorem F9(x:aw)(key:Int)(hm:x.an.length<=1000000000):GC prog 217 [cj x,int key] [] (int (jw (fun c=>c.key==key) x.an)) []:=by
 refine gi 4 func217 rfl ntmps217 rfl ?_;intro L O w0;refine sL<|ab (zX 2002 Z) Z<|ao Z<|Y<|aS<|sL<|lf 4 eF Z<|bo fS Z<|ba jb Z<|ae Z<|Y<|aB ?_;refine aW [1,4,8,9] [2002] (D:=Nat) (fun k=>[(10,int (k:Int))]) (fun k=>[]) (fun k=>k<=x.an.length/\∀j (h:j<x.an.length),j<k->(fun c=>c.key==key) x.an[j]=false) (fun k=>x.an.length-k) (0) (⟨Nat.zero_le _,fun j _ h=>absurd h (by omega)⟩) ⟨rfl,trivial⟩ trivial ?_;intro k hI;obtain⟨eN,bB⟩:=hI;refine sL<|ak Z<|Y<|aS ?_;refine AW.cond rfl ?_ ?_
 ·intro V;refine aK<|gT<|aS<|aB<|sL<|ae Z ?_;have hk:k<x.an.length:=by simpa[ap]using V
  refine li k f7 Z (bS hk)<|d6 (.agg [U _ _,U _ _,U _ _,U _ _,U _ _,vB _,U _ _]) kZ Z<|ab (zA 2006 iu Z) Z<|ao Z<|ab (zB 2006 nJ nL Z) Z<|nA<|lf 0 u7 Z<|aj ac Z<|ae Z<|ak Z<|Y ?_;refine AW.cond rfl ?_ ?_
  ·intro h2;refine sL<|ae Z<|ao Z<|Y<|aR<|rB<|rT<|rT<|rB<|rT ?_;refine ax ?_ trivial;refine congrArg (fun n=>some (int n)) ?_;exact(DE hk bB (by simpa using h2)).symm
  intro h2;refine aK<|gB<|gT<|aL<|bg Z<|ae Z<|Y ?_;refine⟨k+1,⟨hk,all_succ (p:=(fun c=>c.key==key)) hk bB (by simpa using h2)⟩,by omega,⟨(iq rfl),trivial⟩,trivial,rfl,rfl⟩
 intro V;refine aE<|eT<|eT<|eB<|gA<|ao Z<|Y<|aR ?_;refine ax ?_ trivial;refine congrArg (fun n=>some (int n)) ?_;exact(DF fun j hj=>bB j hj (by have h:=V;simp only[ap,decide_eq_false_iff_not]at h;omega)).symm
theorem Ga(x:aw)(key:Int)(hm:x.aq.length<=1000000000):GC prog 221 [cj x,int key] [] (int (jw (fun c=>c.key==key) x.aq)) []:=by
 refine gi 4 func221 rfl ntmps221 rfl ?_;intro L O w0;refine sL<|ab (zX 2002 Z) Z<|ao Z<|Y<|aS<|sL<|lf 5 gn Z<|bo ii Z<|ba j7 Z<|ae Z<|Y<|aB ?_;refine aW [1,4,8,9] [2002] (D:=Nat) (fun k=>[(10,int (k:Int))]) (fun k=>[]) (fun k=>k<=x.aq.length/\∀j (h:j<x.aq.length),j<k->(fun c=>c.key==key) x.aq[j]=false) (fun k=>x.aq.length-k) (0) (⟨Nat.zero_le _,fun j _ h=>absurd h (by omega)⟩) ⟨rfl,trivial⟩ trivial ?_;intro k hI;obtain⟨eN,bB⟩:=hI;refine sL<|ak Z<|Y<|aS ?_;refine AW.cond rfl ?_ ?_
 ·intro V;refine aK<|gT<|aS<|aB<|sL<|ae Z ?_;have hk:k<x.aq.length:=by simpa[ap]using V
  refine li k iI Z (bS hk)<|d6 (.agg [U _ _,U _ _,U _ _,U _ _,U _ _]) l5 Z<|ab (zA 2006 jO Z) Z<|ao Z<|ab (zB 2006 oK oL Z) Z<|nA<|lf 0 u9 Z<|aj ac Z<|ae Z<|ak Z<|Y ?_;refine AW.cond rfl ?_ ?_
  ·intro h2;refine sL<|ae Z<|ao Z<|Y<|aR<|rB<|rT<|rT<|rB<|rT ?_;refine ax ?_ trivial;refine congrArg (fun n=>some (int n)) ?_;exact(DE hk bB (by simpa using h2)).symm
  intro h2;refine aK<|gB<|gT<|aL<|bg Z<|ae Z<|Y ?_;refine⟨k+1,⟨hk,all_succ (p:=(fun c=>c.key==key)) hk bB (by simpa using h2)⟩,by omega,⟨(iq rfl),trivial⟩,trivial,rfl,rfl⟩
 intro V;refine aE<|eT<|eT<|eB<|gA<|ao Z<|Y<|aR ?_;refine ax ?_ trivial;refine congrArg (fun n=>some (int n)) ?_;exact(DF fun j hj=>bB j hj (by have h:=V;simp only[ap,decide_eq_false_iff_not]at h;omega)).symm
theorem m9(x:aw)(ch:Int)(hm:x.ag.length<=1000000000):GC prog 200 [cj x,int ch] [] (int (jw (fun c=>c.id==ch) x.ag)) []:=by
 refine gi 4 func200 rfl ntmps200 rfl ?_;intro L O w0;refine sL<|ab (zX 2002 Z) Z<|ao Z<|Y<|aS<|sL<|lf 3 dr Z<|bo eg Z<|ba kJ Z<|ae Z<|Y<|aB ?_;refine aW [1,2,4,8] [2002] (D:=Nat) (fun k=>[(9,int (k:Int))]) (fun k=>[]) (fun k=>k<=x.ag.length/\∀j (h:j<x.ag.length),j<k->(fun c=>c.id==ch) x.ag[j]=false) (fun k=>x.ag.length-k) (0) (⟨Nat.zero_le _,fun j _ h=>absurd h (by omega)⟩) ⟨rfl,trivial⟩ trivial ?_;intro k hI;obtain⟨eN,bB⟩:=hI;refine sL<|ak Z<|Y<|aS ?_;refine AW.cond rfl ?_ ?_
 ·intro V;refine aK<|gT<|aS<|aB<|sL<|ae Z<|ao Z<|nA<|lf 3 dr Z<|bo eg Z<|ae Z ?_;have hk:k<x.ag.length:=by simpa[ap]using V
  refine li k cz Z (bS hk)<|lq (rd (x:=.rp _) (nM kM Z) Z)<|oy ac Z<|ae Z<|ak Z<|Y ?_;refine AW.cond rfl ?_ ?_
  ·intro h2;refine sL<|ae Z<|ao Z<|Y<|aR<|rB<|rT<|rT<|rB<|rT ?_;refine ax ?_ trivial;refine congrArg (fun n=>some (int n)) ?_;exact(DE hk bB (by simpa using h2)).symm
  intro h2;refine aK<|gB<|gT<|aL<|bg Z<|ae Z<|Y ?_;refine⟨k+1,⟨hk,all_succ (p:=(fun c=>c.id==ch)) hk bB (by simpa using h2)⟩,by omega,⟨(iq rfl),trivial⟩,trivial,rfl,rfl⟩
 intro V;refine aE<|eT<|eT<|eB<|gA<|ao Z<|Y<|aR ?_;refine ax ?_ trivial;refine congrArg (fun n=>some (int n)) ?_;exact(DF fun j hj=>bB j hj (by have h:=V;simp only[ap,decide_eq_false_iff_not]at h;omega)).symm
theorem KN(x:aw)(ch:Int)(mG:x.an.length<=1000000000)(lr:x.aq.length<=1000000000):GC prog 212 [cj x,int ch] [] (aD (oG x ch)) []:=by
 refine gi 4 func212 rfl ntmps212 rfl ?_;intro L O w0;refine sL<|ab (zX 2002 Z) Z<|ar Z<|Y<|aS<|sL<|lf 4 eF Z<|bo fS Z<|ba jb Z<|ae Z<|Y<|aB ?_;refine aW [1,2,4,10,11] [2002] (D:=Nat) (fun k=>[(12,int (k:Int))]) (fun k=>[]) (fun k=>k<=x.an.length/\∀j (h:j<x.an.length),j<k->nH ch x.an[j]=false) (fun k=>x.an.length-k) (0) (⟨Nat.zero_le _,fun j _ h=>absurd h (by omega)⟩) ⟨rfl,trivial⟩ trivial ?_;intro k hI;obtain⟨eN,bB⟩:=hI;refine sL<|ak Z<|Y<|aS ?_;refine AW.cond rfl ?_ ?_
 ·intro V;refine aK<|gT<|aS<|aB<|sL ?_;have hk:k<x.an.length:=by simpa[ap]using V
  refine li k f7 Z (bS hk)<|d6 (.agg [U _ _,U _ _,U _ _,U _ _,U _ _,vB _,U _ _]) kZ Z<|ab (zA 2006 iu Z) Z<|ab (zB 2006 nJ nL Z) Z<|nA<|lf 1 oM Z<|aj ac Z<|ae Z<|ak Z<|aQ Z ?_;refine AL.bool (t:=20) rfl ?_ ?_
  ·intro h2;refine aa Z<|aa Z<|aa Z<|aa Z<|aU Z<|Y<|aY Z<|sL<|cI Z<|Y<|aR<|rB<|rT<|rT<|rB<|rT ?_;refine az trivial ?_;unfold oG;rw[tS (p:=nH ch) hk (by unfold nH;simp_all)];rfl
  intro h2;refine lf 2 mJ Z<|aj ac Z<|ae Z<|ak Z<|bj Z<|Y ?_;refine AW.cond rfl ?_ ?_
  ·intro h3;refine sL<|cI Z<|Y<|aR<|rB<|rT<|rT<|rB<|rT ?_;refine az trivial ?_;unfold oG;rw[tS (p:=nH ch) hk (by unfold nH;simp_all)];rfl
  intro h3;refine aK<|gB<|gT<|aL<|bg Z<|ae Z<|Y ?_;refine⟨k+1,⟨hk,all_succ (p:=nH ch) hk bB (by unfold nH;simp_all)⟩,by omega,⟨(iq rfl),trivial⟩,trivial,rfl,rfl⟩
 intro V;refine aE<|eT<|eT<|eB<|gT<|aS<|sL<|lf 5 gn Z<|bo ii Z<|ba j7 Z<|ae Z<|lT [1,4,28,29,30] [2002] ?_;refine Y<|aB ?_;have iY:x.an.any (nH ch)=false:=BD fun j hj=>bB j hj (by have h:=V;simp only[ap,decide_eq_false_iff_not]at h;omega);clear bB eN;refine aW [1,4,28,29] [2002] (D:=Nat) (fun k=>[(30,int (k:Int))]) (fun k=>[]) (fun k=>k<=x.aq.length/\∀j (h:j<x.aq.length),j<k->nI ch x.aq[j]=false) (fun k=>x.aq.length-k) (0) (⟨Nat.zero_le _,fun j _ h=>absurd h (by omega)⟩) ⟨rfl,trivial⟩ trivial ?_;intro k hI;obtain⟨eN,bB⟩:=hI;refine sL<|ak Z<|Y<|aS ?_;refine AW.cond rfl ?_ ?_
 ·intro h4;refine aK<|gT<|aS<|aB<|sL ?_;have hk:k<x.aq.length:=by simpa[ap]using h4
  refine li k iI Z (bS hk)<|d6 (.agg [U _ _,U _ _,U _ _,U _ _,U _ _]) l5 Z<|ab (zA 2008 jO Z) Z<|ab (zB 2008 oK oL Z) Z<|nA<|lf 1 nO Z<|aj ac Z<|ae Z<|ak Z<|aQ Z ?_;refine AL.bool (t:=38) rfl ?_ ?_
  ·intro h5;refine aa Z<|aa Z<|aa Z<|aa Z<|aU Z<|Y<|aY Z<|sL<|cI Z<|Y<|aR<|rB<|rT<|rT<|rB<|rT ?_;refine az trivial ?_;unfold oG;rw[tS (p:=nI ch) hk (by unfold nI;simp_all),Bool.or_true]
  intro h5;refine lf 2 py Z<|aj ac Z<|ae Z<|ak Z<|bj Z<|Y ?_;refine AW.cond rfl ?_ ?_
  ·intro h6;refine sL<|cI Z<|Y<|aR<|rB<|rT<|rT<|rB<|rT ?_;refine az trivial ?_;unfold oG;rw[tS (p:=nI ch) hk (by unfold nI;simp_all),Bool.or_true]
  intro h6;refine aK<|gB<|gT<|aL<|bg Z<|ae Z<|Y ?_;refine⟨k+1,⟨hk,all_succ (p:=nI ch) hk bB (by unfold nI;simp_all)⟩,by omega,⟨(iq rfl),trivial⟩,trivial,rfl,rfl⟩
 intro h4;refine aE<|eT<|eT<|eB<|gA<|ar Z<|Y<|aR ?_;refine az trivial ?_;unfold oG;rw[iY,BD (p:=nI ch) fun j hj=>bB j hj (by have h:=h4;simp only[ap,decide_eq_false_iff_not]at h;omega)];rfl
theorem RP(x:aw)(ch:Int)(mG:x.an.length<=1000000000)(lr:x.aq.length<=1000000000):GC prog 252 [cj x,int ch] [] (aD (oG x ch)) []:=by
 refine gi 4 func252 rfl ntmps252 rfl ?_;intro L O w0;refine sL<|ab (zX 2002 Z) Z<|ar Z<|Y<|aS<|sL<|lf 4 eF Z<|bo fS Z<|ba jb Z<|ae Z<|Y<|aB ?_;refine aW [1,2,4,10,11] [2002] (D:=Nat) (fun k=>[(12,int (k:Int))]) (fun k=>[]) (fun k=>k<=x.an.length/\∀j (h:j<x.an.length),j<k->nH ch x.an[j]=false) (fun k=>x.an.length-k) (0) (⟨Nat.zero_le _,fun j _ h=>absurd h (by omega)⟩) ⟨rfl,trivial⟩ trivial ?_;intro k hI;obtain⟨eN,bB⟩:=hI;refine sL<|ak Z<|Y<|aS ?_;refine AW.cond rfl ?_ ?_
 ·intro V;refine aK<|gT<|aS<|aB<|sL ?_;have hk:k<x.an.length:=by simpa[ap]using V
  refine li k f7 Z (bS hk)<|d6 (.agg [U _ _,U _ _,U _ _,U _ _,U _ _,vB _,U _ _]) kZ Z<|ab (zA 2006 iu Z) Z<|ab (zB 2006 nJ nL Z) Z<|nA<|lf 1 oM Z<|aj ac Z<|ae Z<|ak Z<|aQ Z ?_;refine AL.bool (t:=20) rfl ?_ ?_
  ·intro h2;refine aa Z<|aa Z<|aa Z<|aa Z<|aU Z<|Y<|aY Z<|sL<|cI Z<|Y<|aR<|rB<|rT<|rT<|rB<|rT ?_;refine az trivial ?_;unfold oG;rw[tS (p:=nH ch) hk (by unfold nH;simp_all)];rfl
  intro h2;refine lf 2 mJ Z<|aj ac Z<|ae Z<|ak Z<|bj Z<|Y ?_;refine AW.cond rfl ?_ ?_
  ·intro h3;refine sL<|cI Z<|Y<|aR<|rB<|rT<|rT<|rB<|rT ?_;refine az trivial ?_;unfold oG;rw[tS (p:=nH ch) hk (by unfold nH;simp_all)];rfl
  intro h3;refine aK<|gB<|gT<|aL<|bg Z<|ae Z<|Y ?_;refine⟨k+1,⟨hk,all_succ (p:=nH ch) hk bB (by unfold nH;simp_all)⟩,by omega,⟨(iq rfl),trivial⟩,trivial,rfl,rfl⟩
 intro V;refine aE<|eT<|eT<|eB<|gT<|aS<|sL<|lf 5 gn Z<|bo ii Z<|ba j7 Z<|ae Z<|lT [1,4,28,29,30] [2002] ?_;refine Y<|aB ?_;have iY:x.an.any (nH ch)=false:=BD fun j hj=>bB j hj (by have h:=V;simp only[ap,decide_eq_false_iff_not]at h;omega);clear bB eN;refine aW [1,4,28,29] [2002] (D:=Nat) (fun k=>[(30,int (k:Int))]) (fun k=>[]) (fun k=>k<=x.aq.length/\∀j (h:j<x.aq.length),j<k->nI ch x.aq[j]=false) (fun k=>x.aq.length-k) (0) (⟨Nat.zero_le _,fun j _ h=>absurd h (by omega)⟩) ⟨rfl,trivial⟩ trivial ?_;intro k hI;obtain⟨eN,bB⟩:=hI;refine sL<|ak Z<|Y<|aS ?_;refine AW.cond rfl ?_ ?_
 ·intro h4;refine aK<|gT<|aS<|aB<|sL ?_;have hk:k<x.aq.length:=by simpa[ap]using h4
  refine li k iI Z (bS hk)<|d6 (.agg [U _ _,U _ _,U _ _,U _ _,U _ _]) l5 Z<|ab (zA 2008 jO Z) Z<|ab (zB 2008 oK oL Z) Z<|nA<|lf 1 nO Z<|aj ac Z<|ae Z<|ak Z<|aQ Z ?_;refine AL.bool (t:=38) rfl ?_ ?_
  ·intro h5;refine aa Z<|aa Z<|aa Z<|aa Z<|aU Z<|Y<|aY Z<|sL<|cI Z<|Y<|aR<|rB<|rT<|rT<|rB<|rT ?_;refine az trivial ?_;unfold oG;rw[tS (p:=nI ch) hk (by unfold nI;simp_all),Bool.or_true]
  intro h5;refine lf 2 py Z<|aj ac Z<|ae Z<|ak Z<|bj Z<|Y ?_;refine AW.cond rfl ?_ ?_
  ·intro h6;refine sL<|cI Z<|Y<|aR<|rB<|rT<|rT<|rB<|rT ?_;refine az trivial ?_;unfold oG;rw[tS (p:=nI ch) hk (by unfold nI;simp_all),Bool.or_true]
  intro h6;refine aK<|gB<|gT<|aL<|bg Z<|ae Z<|Y ?_;refine⟨k+1,⟨hk,all_succ (p:=nI ch) hk bB (by unfold nI;simp_all)⟩,by omega,⟨(iq rfl),trivial⟩,trivial,rfl,rfl⟩
 intro h4;refine aE<|eT<|eT<|eB<|gA<|ar Z<|Y<|aR ?_;refine az trivial ?_;unfold oG;rw[iY,BD (p:=nI ch) fun j hj=>bB j hj (by have h:=h4;simp only[ap,decide_eq_false_iff_not]at h;omega)];rfl
theorem KP(x:aw)(key:Int)(mG:x.an.length<=1000000000)(lr:x.aq.length<=1000000000):GC prog 213 [cj x,int key] [] (aD (nD x key)) []:=by
 refine gi 4 func213 rfl ntmps213 rfl ?_;intro L O w0;refine sL<|ab (zX 2002 Z) Z<|ar Z<|nA<|aP (.agg [U _ _,U _ _,U _ _,vL _ _ _,vL _ _ _,vL _ _ _]) cu Z<|ae Z<|ab (zL func217 (F9 x _ mG) Z) Z<|ak Z<|aQ Z ?_;refine AL.bool (t:=9) rfl ?_ ?_
 ·intro V;refine aa Z<|aa Z<|aa Z<|aa Z<|aU Z<|cI Z<|Y<|aR ?_;refine az trivial ?_;unfold nD DG DH;first|(simp_all;done)|(simp_all;intros;omega)
 intro V;refine aP (.agg [U _ _,U _ _,U _ _,vL _ _ _,vL _ _ _,vL _ _ _]) cu Z<|ae Z<|ab (zL func221 (Ga x _ lr) Z) Z<|ak Z<|bj Z<|bv Z<|Y<|aR ?_;refine az trivial ?_;unfold nD DG DH;first|(simp_all;done)|(simp_all;intros;omega)
theorem KL(x:aw)(a b:Int)(hm:x.ag.length<=1000000000):GC prog 255 [cj x,int a,int b] [] (aD (two x.ag a b)) []:=by
 refine gi 6 func255 rfl ntmps255 rfl ?_;intro L O w0;refine sL<|ab (zX 2003 Z) Z<|ar Z<|nA<|ae Z<|ae Z<|ak Z<|aQ Z ?_;refine AL.bool (t:=10) rfl ?_ ?_
 ·intro V;refine aP (.agg [U _ _,U _ _,U _ _,vL _ _ _,vL _ _ _,vL _ _ _]) cu Z<|ae Z<|ab (zL func200 (m9 x _ hm) Z) Z<|ak Z<|bj Z<|aQ Z ?_;refine AL.bool (t:=16) rfl ?_ ?_
  ·intro h2;refine aP (.agg [U _ _,U _ _,U _ _,vL _ _ _,vL _ _ _,vL _ _ _]) cu Z<|ae Z<|ab (zL func200 (m9 x _ hm) Z) Z<|lT [6,16,19] [2003] ?_;refine ak Z<|bj Z<|bv Z<|Y<|aR ?_;refine az trivial ?_;unfold two;rw[eW,eW];first|(simp_all;done)|(simp_all;intros;omega)
  intro h2;refine aa Z<|aa Z<|aa Z<|aa Z<|bL Z<|ar Z<|Y<|aR ?_;refine az trivial ?_;unfold two;rw[eW,eW];first|(simp_all;done)|(simp_all;intros;omega)
 intro V;refine aa Z<|aa Z<|aa Z<|aa Z<|bL Z<|dm Z<|aa Z<|aa Z<|aa Z<|aa Z<|bL Z<|ar Z<|Y<|aR ?_;refine az trivial ?_;unfold two;rw[eW,eW];first|(simp_all;done)|(simp_all;intros;omega)
theorem RY(n:Int)(g:Bool):GC prog 267 [int n,aD g] [] (aD (yn n g)) []:=qR (r:=.bool (yn n g)) (fX rfl) rfl fun w=>(RZ n g w).mono fun e w' h=>⟨h.1,h.2▸cZ.refl _⟩
theorem R0(a b c d e f:Int)(g:Bool):GC prog 266 [int a,int b,int c,int d,int e,int f,aD g] [] (int (allow a b c d e f g)) []:=qR (r:=.int .i64 (allow a b c d e f g)) (fX rfl) rfl fun w=>RD a b c d e f g w
theorem R1(a b c d e f:Int)(g:Bool):GC prog 272 [int a,int b,int c,int d,int e,int f,aD g] [] (int (allow a b c d e f g)) []:=qR (r:=.int .i64 (allow a b c d e f g)) (fX rfl) rfl fun w=>R2 a b c d e f g w
theorem R3(n:Int):GC prog 218 [int n] [] (int (lR n)) []:=qR (r:=.int .i64 (lR n)) (fX rfl) rfl fun w=>(R4 n w).mono fun e w' h=>⟨h.1,h.2▸cZ.refl _⟩
theorem R5(n:Int):GC prog 219 [int n] [] (int (lS n)) []:=qR (r:=.int .i64 (lS n)) (fX rfl) rfl fun w=>(R6 n w).mono fun e w' h=>⟨h.1,h.2▸cZ.refl _⟩
theorem R7(n:Int):GC prog 220 [int n] [] (int (lA n)) []:=qR (r:=.int .i64 (lA n)) (fX rfl) rfl fun w=>(R8 n w).mono fun e w' h=>⟨h.1,h.2▸cZ.refl _⟩
theorem DI(n:Int):GC prog 244 [int n] [] (aD (mr n)) []:=qR (r:=.bool (mr n)) (fX rfl) rfl fun w=>(R9 n w).mono fun e w' h=>⟨h.1,h.2▸cZ.refl _⟩
theorem rO{n:Int}:mr n=true↔-100<=n/\n<=100:=cJ
theorem KQ(n lo hi:Int):GC prog 274 [int n,int lo,int hi] [] (int (u0 n lo hi)) []:=by
 refine gi 6 func274 rfl ntmps274 rfl ?_;intro L O w0;refine sL<|ao Z<|Y<|aS<|sL<|ae Z<|ae Z<|ak Z<|Y ?_;refine AW.cond rfl ?_ ?_
 ·intro V;refine sL<|ae Z<|ao Z<|Y<|aR<|rT ?_;refine ax ?_ trivial;refine congrArg (fun n=>some (int n)) ?_;unfold u0;simp only[decide_eq_true_eq,decide_eq_false_iff_not]at *;(repeat' split)<;>omega
 intro V;refine aK<|gT<|aS<|sL<|ae Z<|ae Z<|ak Z<|Y ?_;refine AW.cond rfl ?_ ?_
 ·intro h2;refine sL<|ae Z<|ao Z<|Y<|aR<|rT ?_;refine ax ?_ trivial;refine congrArg (fun n=>some (int n)) ?_;unfold u0;simp only[decide_eq_true_eq,decide_eq_false_iff_not]at *;(repeat' split)<;>omega
 intro h2;refine aK<|gA<|ae Z<|ao Z<|Y<|aR ?_;refine ax ?_ trivial;refine congrArg (fun n=>some (int n)) ?_;unfold u0;simp only[decide_eq_true_eq,decide_eq_false_iff_not]at *;(repeat' split)<;>omega
theorem Sa(n:Int)(g:Bool):GC prog 273 [int n,aD g] [] (aD (yn n g)) []:=by
 refine gi 4 func273 rfl ntmps273 rfl ?_;intro L O w0;refine sL<|ar Z<|nA<|ae Z<|ab (zL func244 (DI _) Z) Z<|aQ Z ?_;refine AL.bool (t:=7) rfl ?_ ?_
 ·intro V;refine ae Z<|ak Z<|bj Z<|aQ Z ?_;refine AL.bool (t:=11) rfl ?_ ?_
  ·intro h2;refine aQ Z<|bj Z<|bv Z<|Y<|aR ?_;refine az trivial ?_;unfold yn;first|(simp_all;done)|(simp_all;intros;omega)
  intro h2;refine aa Z<|bL Z<|ar Z<|Y<|aR ?_;refine az trivial ?_;unfold yn;first|(simp_all;done)|(simp_all;intros;omega)
 intro V;refine aa Z<|aa Z<|bL Z<|dm Z<|aa Z<|bL Z<|ar Z<|Y<|aR ?_;refine az trivial ?_;unfold yn;first|(simp_all;done)|(simp_all;intros;omega)
theorem Sb(n:Int):GC prog 259 [int n] [] (int (lR n)) []:=by
 refine gi 2 func259 rfl ntmps259 rfl ?_;intro L O w0;refine sL<|ao Z<|Y<|aS<|sL<|ae Z<|ab (zL func244 (DI _) Z) Z<|bX Z<|Y ?_;refine AW.cond rfl ?_ ?_
 ·intro V;refine sL<|ao Z<|Y<|aR<|rT ?_;refine ax ?_ trivial;refine congrArg (fun n=>some (int n)) ?_;unfold lR;have hs:¬(-100<=n/\n<=100):=fun q=>by rw[rO.2 q]at V;cases V
  rw[if_neg hs]
 intro V;refine aK<|gA<|ae Z ?_;refine eo rfl ⟨rfl,ce (by have hs:=rO.1 (by simpa using V:mr n=true);unfold i64;omega)⟩<|ab (zL func274 (KQ _ _ _) rfl) Z<|ao Z<|Y<|aR ?_;refine ax ?_ trivial;refine congrArg (fun n=>some (int n)) ?_;unfold lR;try unfold u0
 have hs:=rO.1 (by simpa using V:mr n=true);rw[if_pos hs];try simp only[decide_eq_true_eq,decide_eq_false_iff_not]at *
 (repeat' split)<;>omega
theorem Sc(n:Int):GC prog 260 [int n] [] (int (lS n)) []:=by
 refine gi 2 func260 rfl ntmps260 rfl ?_;intro L O w0;refine sL<|ao Z<|Y<|aS<|sL<|ae Z<|ab (zL func244 (DI _) Z) Z<|bX Z<|Y ?_;refine AW.cond rfl ?_ ?_
 ·intro V;refine sL<|ao Z<|Y<|aR<|rT ?_;refine ax ?_ trivial;refine congrArg (fun n=>some (int n)) ?_;unfold lS;have hs:¬(-100<=n/\n<=100):=fun q=>by rw[rO.2 q]at V;cases V
  rw[if_neg hs]
 intro V;refine aK<|gA<|ae Z ?_;refine eo rfl ⟨rfl,ce (by have hs:=rO.1 (by simpa using V:mr n=true);unfold i64;omega)⟩<|ab (zL func274 (KQ _ _ _) rfl) Z<|ao Z<|Y<|aR ?_;refine ax ?_ trivial;refine congrArg (fun n=>some (int n)) ?_;unfold lS;try unfold u0
 have hs:=rO.1 (by simpa using V:mr n=true);rw[if_pos hs];try simp only[decide_eq_true_eq,decide_eq_false_iff_not]at *
 (repeat' split)<;>omega
theorem Sd(n:Int):GC prog 261 [int n] [] (int (lA n)) []:=by
 refine gi 2 func261 rfl ntmps261 rfl ?_;intro L O w0;refine sL<|ao Z<|Y<|aS<|sL<|ae Z<|ab (zL func244 (DI _) Z) Z<|bX Z<|aQ Z ?_;refine AL.bool (t:=6) rfl ?_ ?_
 ·intro V;refine aa Z<|aa Z<|aU Z<|Y<|aY Z<|sL<|ao Z<|Y<|aR<|rT ?_;refine ax ?_ trivial;refine congrArg (fun n=>some (int n)) ?_;unfold lA;have hs:¬(-100<=n/\n<=100):=fun q=>by rw[rO.2 q]at V;cases V
  rw[if_neg hs]
 intro V;refine ae Z<|ak Z<|bj Z<|Y ?_;refine AW.cond rfl ?_ ?_
 ·intro h2;refine sL<|ao Z<|Y<|aR<|rT ?_;refine ax ?_ trivial;refine congrArg (fun n=>some (int n)) ?_;unfold lA;try unfold u0
  have hs:=rO.1 (by simpa using V:mr n=true);rw[if_pos hs];try simp only[decide_eq_true_eq,decide_eq_false_iff_not]at *
  (repeat' split)<;>omega
 intro h2;refine aK<|gT<|aS<|sL<|ae Z<|ak Z<|Y ?_;refine AW.cond rfl ?_ ?_
 ·intro h3;refine sL<|ae Z ?_;refine eo rfl ⟨rfl,ce (by have hs:=rO.1 (by simpa using V:mr n=true);unfold i64;omega)⟩<|ao Z<|Y<|aR<|rT ?_;refine ax ?_ trivial;refine congrArg (fun n=>some (int n)) ?_;unfold lA;try unfold u0
  have hs:=rO.1 (by simpa using V:mr n=true);rw[if_pos hs];try simp only[decide_eq_true_eq,decide_eq_false_iff_not]at *
  (repeat' split)<;>omega
 intro h3;refine aK<|gA<|ae Z ?_;refine eo rfl ⟨rfl,ce (by have hs:=rO.1 (by simpa using V:mr n=true);unfold i64;omega)⟩<|ao Z<|Y<|aR ?_;refine ax ?_ trivial;refine congrArg (fun n=>some (int n)) ?_;unfold lA;try unfold u0
 have hs:=rO.1 (by simpa using V:mr n=true);rw[if_pos hs];try simp only[decide_eq_true_eq,decide_eq_false_iff_not]at *
 (repeat' split)<;>omega
theorem DD(x:aw)(fI to:be)(af:Int)(yes:Bool)(sm:qQ x.an):GC prog 257 [cj x,.agg [int fI.id,int fI.size,int fI.loc,int fI.aC,int fI.base,int fI.br,int fI.cM],.agg [int to.id,int to.size,int to.loc,int to.aC,int to.base,int to.br,int to.cM],int af,aD yes] [] (int (BE x.an fI to to.id af yes)) []:=by
 refine gi 10 func257 rfl ntmps257 rfl ?_;intro L O w0;refine sL<|ab (zX 2005 Z) Z<|ab (zX 2006 Z) Z<|ab (zX 2007 Z) Z<|ao Z<|nA<|ao Z<|nA<|ao Z<|nA<|ao Z<|nA<|ao Z<|Y<|aS<|aS ?_;refine aL<|lf 4 eF Z<|bo fS Z<|ba jb Z<|ae Z<|Y<|aB ?_;refine aW [3,4,6,7,10,18,19] [2005,2006,2007] (D:=Nat) (fun k=>[(11,int (bG (rJ to.id) (x.an.take k))),(12,int (bG (dK to.id) (x.an.take k))),(13,int (bG (rL to.id) (x.an.take k))),(14,int (bG (rK to.id) (x.an.take k))),(20,int (k:Int))]) (fun k=>[]) (fun k=>k<=x.an.length) (fun k=>x.an.length-k) (0) (Nat.zero_le _) ⟨rfl,rfl,rfl,rfl,rfl,trivial⟩ trivial ?_;intro k hI;have b0:=sm.1;have b1:=sm.ez to.id k;have b2:=sm.all to.id k;have b3:=sm.KM to.id k;have b4:=sm.one to.id k;refine sL<|ak Z<|Y<|aS ?_;refine AW.cond rfl ?_ ?_
 ·intro V;refine aK<|gT<|aS<|aB<|sL ?_;have hk:k<x.an.length:=by simpa[ap]using V
  have b5:=sm.at hk;refine li k f7 Z (bS hk)<|d6 (.agg [U _ _,U _ _,U _ _,U _ _,U _ _,vB _,U _ _]) kZ Z<|ab (zA 2016 iu Z) Z<|lT [3,4,6,7,10,11,12,13,14,16,18,19,20,23] [2005,2006,2007,2016] ?_;refine ab (zB 2016 nJ nL Z) Z<|Y<|aS<|sL<|lf 2 mJ Z<|aj ac Z<|lf 0 kM Z<|aj ac Z<|ak Z<|Y ?_;refine AW.cond rfl ?_ ?_
  ·intro h2;refine aE<|eT<|eB<|gT<|aL<|bg Z<|ae Z<|Y ?_;refine⟨k+1,hk,by omega,⟨(congrArg int (rM hk (by have h:=h2;simp only[Bool.not_eq_true',decide_eq_false_iff_not,decide_eq_true_eq]at h;unfold rJ;simp[h])).symm),(congrArg int (rM hk (by have h:=h2;simp only[Bool.not_eq_true',decide_eq_false_iff_not,decide_eq_true_eq]at h;unfold dK;simp[h])).symm),(congrArg int (rM hk (by have h:=h2;simp only[Bool.not_eq_true',decide_eq_false_iff_not,decide_eq_true_eq]at h;unfold rL;simp[h])).symm),(congrArg int (rM hk (by have h:=h2;simp only[Bool.not_eq_true',decide_eq_false_iff_not,decide_eq_true_eq]at h;unfold rK;simp[h])).symm),(iq rfl),trivial⟩,trivial,rfl,rfl⟩
  intro h2;refine aK<|gA<|ae Z<|lf 4 kw Z<|aj ac Z<|bg Z<|ao Z<|nA<|ae Z<|bg Z<|ao Z<|nA<|lf 5 BF Z<|tT jN Z<|bX Z<|Y ?_;refine AW.cond rfl ?_ ?_
  ·intro h3;refine sL<|ae Z<|lf 4 kw Z<|aj ac Z<|bg Z<|ao Z<|Y<|aL<|ae Z<|bg Z<|ao Z<|lN<|gB<|gT<|aL<|bg Z<|ae Z<|Y ?_;have he:x.an[k].out=to.id:=by simpa using h2
   have m':x.an[k].kept=false:=by simpa using h3
   refine⟨k+1,hk,by omega,⟨(Eq.trans (b:=int _) rfl (congrArg int (rN hk (by unfold rJ;simp[he,m'])))),(Eq.trans (b:=int _) rfl (congrArg int (rN hk (by unfold dK;simp[he,m'])))),(Eq.trans (b:=int _) rfl (congrArg int (rN hk (by unfold rL;simp[he,m'])))),(Eq.trans (b:=int _) rfl (congrArg int (rN hk (by unfold rK;simp[he,m'])))),(iq rfl),trivial⟩,trivial,rfl,rfl⟩
  intro h3;refine aK<|gB<|gT<|aL<|bg Z<|lT [3,4,6,7,10,11,12,13,14,18,19,20,44] [2005,2006,2007,2016] ?_;refine ae Z<|Y ?_;have he:x.an[k].out=to.id:=by simpa using h2
  have m':x.an[k].kept=true:=by simpa using h3
  refine⟨k+1,hk,by omega,⟨(congrArg int (rM hk (by unfold rJ;simp[he,m'])).symm),(Eq.trans (b:=int _) rfl (congrArg int (rN hk (by unfold dK;simp[he,m'])))),(congrArg int (rM hk (by unfold rL;simp[he,m'])).symm),(Eq.trans (b:=int _) rfl (congrArg int (rN hk (by unfold rK;simp[he,m'])))),(iq rfl),trivial⟩,trivial,rfl,rfl⟩
 intro V;refine aE<|eT<|eT<|eB<|gT<|aS<|aG 12 []<|tq 0 (rf 1 qS Z)<|tq 1 (aZ ac Z)<|tq 2 (dW Z)<|tq 3 (dW Z)<|tq 4 (dW Z)<|tq 5 (dW Z)<|tq 6 (dW Z)<|tq 7 (rf 6 ms Z)<|tq 8 (aZ ac Z)<|yq 9 (dx Z)<|cm 10 Z (zL func273 (Sa _ _) Z)<|cm 11 Z (zL func272 (R1 _ _ _ _ _ _ _) Z)<|yq 12 (j8 Z)<|gD<|gT<|aR ?_;refine ax ?_ trivial;refine congrArg (fun n=>some (int n)) ?_;have dZ:k=x.an.length:=by have h:=V;simp only[ap,decide_eq_false_iff_not]at h;omega
 subst dZ;unfold BE;rw[List.take_length]

def fV:List aO->aO->List aO
 |[],x=>[x]
 |y::l,x=>if cg y.acc x.acc then y::fV l x else x::y::l
def bR(l:List aO)(k c n:Int):List aO:=if n=0 then l else fV l ⟨⟨k,c⟩,n⟩
theorem BG{y x:aO}:∀ {l:List aO},y∈fV l x->y∈l\/y=x
 |[],h=>by simp[fV]at h;exact .inr h
 |z::l,h=>by
  unfold fV at h;split at h
  ·rcases List.mem_cons.1 h with h|h
   ·exact .inl (by simp[h])
   rcases BG h with h|h
   ·exact .inl (by simp[h])
   exact .inr h
  rcases List.mem_cons.1 h with h|h
  ·exact .inr h
  exact .inl h
theorem BH(x:aO):∀(l:List aO),(fV l x).length=l.length+1
 |[]=>rfl
 |z::l=>by unfold fV;split<;>simp[BH x l]
theorem Gb{y:aO}{l:List aO}{k c n:Int}(h:y∈bR l k c n):y∈l\/(y.acc.kind=k/\y.acc.ch=c/\y.af=n):=by
 unfold bR at h;split at h
 ·exact .inl h
 rcases BG h with h|rfl
 ·exact .inl h
 exact .inr ⟨rfl,rfl,rfl⟩
structure LG(l:List aO)(m:Nat):Prop where
 len:l.length<=m
 KR:∀y∈l,dL y.af=true
def cL(l:List aO)(k c:Int):Prop:=∀y∈l,¬(y.acc.kind=k/\y.acc.ch=c)
theorem LG.nil:LG [] 0:=⟨Nat.le_refl _,by simp⟩
theorem LG.add{l:List aO}{m:Nat}{k c n:Int}(h:LG l m)(hn:dL n=true):LG (bR l k c n) (m+1):=by
 refine⟨?_,fun y hy=>?_⟩
 ·unfold bR;split
  ·have:=h.len;omega
  rw[BH];have:=h.len;omega
 rcases Gb hy with q|q
 ·exact h.KR y q
 rw[q.2.2];exact hn
theorem cL.nil(k c:Int):cL [] k c:=by simp[cL]
theorem cL.add{l:List aO}{k c k' c' n:Int}(h:cL l k c)(hd:k'≠k\/c'≠c):cL (bR l k' c' n) k c:=fun y hy q=>by
 rcases Gb hy with r|r
 ·exact h y r q
 omega
theorem KS{a b:Acc}(h:¬(a.kind=b.kind/\a.ch=b.ch))(h2:cg a b=false):cg b a=true:=by
 unfold cg at *;simp only[Bool.or_eq_false_iff,Bool.and_eq_false_iff,decide_eq_false_iff_not,beq_eq_false_iff_ne,Bool.or_eq_true,Bool.and_eq_true,decide_eq_true_eq,beq_iff_eq]at *;omega
theorem KT{x:aO}:∀ {l:List aO},cL l x.acc.kind x.acc.ch->fM l [x]=some (fV l x)
 |[],_=>by rw[yo];rfl
 |y::l,h=>by
  have hy:=h y (by simp);unfold fV;by_cases q:cg y.acc x.acc=true
  ·rw[BI q,KT (fun z hz=>h z (by simp[hz])),if_pos q];rfl
  have q':cg y.acc x.acc=false:=by simpa using q
  rw[BJ q' (KS hy q'),z6,if_neg q];rfl
abbrev cN(g:Value)(t n w c:Int):AO:=.box 153 (some g) [int t,int n,int w,.own 1,.own 2,.own 3,.own 4,int c]
def bE(is:Bool)(c k:Int):Int:=if is&&(c==0)then k else c
theorem fW{is:Bool}{c k:Int}(h:c≠0):bE is c k=c:=by unfold bE;simp[h]
abbrev pz(u:Value)(l:List be):AO:=.ai ⟨159,some u⟩ 7 (ah aX l)
abbrev df(l:List eV):AO:=.ai 218 7 (ah go l)
abbrev d7(l:List gz):AO:=.ai 220 5 (ah iX l)
abbrev dc(l:List aO):AO:=.ai 167 3 (ah ct l)
theorem dk{α:Type}{enc:α->List Value}{l:List α}{i:Nat}{c:α}(h:l[i]? = some c):(ah enc l)[i]? = some ((enc c).map PV.v):=by unfold ah;rw[List.getElem?_map,h];rfl
theorem lB{α:Type}{enc:α->List Value}{l:List α}{i:Nat}{c:α}:(ah enc l).set i ((enc c).map PV.v)=ah enc (l.set i c):=by unfold ah;rw[List.map_set]
theorem KU{α:Type}{enc:α->List Value}{l:List α}{k:Nat}:(ah enc l).take k=ah enc (l.take k):=by unfold ah;rw[List.map_take]
theorem KV{α:Type}{enc:α->List Value}{l:List α}{k:Nat}:(ah enc l).drop k=ah enc (l.drop k):=by unfold ah;rw[List.map_drop]
theorem fJ(g:Value)(t n w c:Int)(p1:ga)(s1:Nat)(r1:List (List PV))(p2:ga)(s2:Nat)(r2:List (List PV))(p3:ga)(s3:Nat)(r3:List (List PV))(p4:ga)(s4:Nat)(r4:List (List PV))(is:Bool)(k:Int):GC prog 211 [.ptr 0 0 0,aD is,int k] [(0,cN g t n w c),(1,.ai p1 s1 r1),(2,.ai p2 s2 r2),(3,.ai p3 s3 r3),(4,.ai p4 s4 r4)] (.au []) [(0,cN g t n w (bE is c k)),(1,.ai p1 s1 r1),(2,.ai p2 s2 r2),(3,.ai p3 s3 r3),(4,.ai p4 s4 r4)]:=by
 refine GC.intro (rs:=[]) func211 rfl ntmps211 (Nat.le_of_ble_eq_true rfl) trivial ?_;intro L O w0;refine sL<|aQ Z<|aQ Z ?_;refine AL.bool (t:=7) rfl ?_ ?_
 ·intro V;refine aM Z<|lc Z<|lf 7 mK Z<|aj ac Z<|ak Z<|bj Z<|Y ?_;refine AW.cond rfl ?_ ?_
  ·intro h2;refine aL<|aM Z<|ae Z<|lc Z<|lf 7 mK Z<|ab (zB 0 ca cb Z) Z<|lN ?_;refine iZ rfl ⟨?_,rfl,rfl,rfl,rfl,trivial⟩;exact Eq.trans (b:=cN g t n w _) rfl (congrArg (cN g t n w) (by unfold bE;simp_all))
  intro h2;refine aK ?_;refine iZ rfl ⟨?_,rfl,rfl,rfl,rfl,trivial⟩;exact Eq.trans (b:=cN g t n w _) rfl (congrArg (cN g t n w) (by unfold bE;simp_all))
 intro V;refine aa Z<|aa Z<|aa Z<|aa Z<|aa Z<|bL Z<|Y<|aN Z<|aK ?_;refine iZ rfl ⟨?_,rfl,rfl,rfl,rfl,trivial⟩;exact Eq.trans (b:=cN g t n w _) rfl (congrArg (cN g t n w) (by unfold bE;simp_all))
theorem Se(l:List aO)(x:aO)(m:Nat)(hl:LG l m)(hm:m<=1000)(hf:cL l x.acc.kind x.acc.ch)(hx:dL x.af=true):GC prog 123 [.p (.ab 167 3 (ah ct l)),.p (.ab 167 3 (ah ct [x]))] [] (.au [.own 50,aD true]) [(50,dc (fV l x))]:=
 (Gc l [x] (by have:=hl.len;simp;omega) hl.KR (by simpa using hx)).gc fun y o h=>by unfold z7 at h;rw[KT hf]at h;exact h
theorem BK{l:List aO}{k c n:Int}(h:n=0):bR l k c n=l:=if_pos h
theorem BL{l:List aO}{k c n:Int}(h:¬n=0):bR l k c n=fV l ⟨⟨k,c⟩,n⟩:=if_neg h
theorem lU(g:Value)(t n w c:Int)(p1:ga)(s1:Nat)(r1:List (List PV))(p2:ga)(s2:Nat)(r2:List (List PV))(p3:ga)(s3:Nat)(r3:List (List PV))(l:List aO)(m:Nat)(hl:LG l m)(hm:m<=1000)(k cc nn:Int)(hf:cL l k cc)(hn:dL nn=true):GC prog 112 [.ptr 0 0 0,int k,int cc,int nn] [(0,cN g t n w c),(1,.ai p1 s1 r1),(2,.ai p2 s2 r2),(3,.ai p3 s3 r3),(4,dc l)] (.au []) [(0,cN g t n w c),(1,.ai p1 s1 r1),(2,.ai p2 s2 r2),(3,.ai p3 s3 r3),(4,dc (bR l k cc nn))]:=by
 refine GC.intro (rs:=[]) func112 rfl ntmps112 (Nat.le_of_ble_eq_true rfl) trivial ?_;intro L O w0;refine sL<|ae Z<|ak Z<|Y ?_;refine AW.cond rfl ?_ ?_
 ·intro V;refine aL<|aM Z<|aM Z<|lc Z<|lf 6 DJ Z<|iO gY Z<|ae Z<|ae Z<|lq (rd (x:=.agg [U _ _,U _ _]) (cP Z KW Z Z Z) Z)<|ae Z<|lq (rd (x:=.agg [U _ _,U _ _,U _ _]) (cP Z DK Z Z Z) Z) ?_;refine ab (zS 2021 (ah ct [⟨⟨k,cc⟩,nn⟩]) cV eP rfl) rfl ?_;refine AL.freeze 4 rfl ?_;refine AL.freeze 2021 rfl ?_;refine ab (zC [(50,4)] [4] [] func123 (Se l ⟨⟨k,cc⟩,nn⟩ m hl hm hf hn) (trivial) rfl rfl) Z<|lT [11,22] [0,1,2,3,4] ?_;refine cT (.au [.own _,vB true]) Z<|qT Z<|iB (vB true) Z<|lc Z<|lf 6 DJ Z<|ab (zB 0 z8 z' Z) Z<|lN ?_;refine iZ ?_ ⟨rfl,rfl,rfl,rfl,(congrArg dc (BL (by simpa using V)).symm),trivial⟩;rfl
 intro V;refine aK ?_;refine iZ ?_ ⟨rfl,rfl,rfl,rfl,(congrArg dc (BK (by simpa using V)).symm),trivial⟩;rfl
abbrev sT(g u:Value)(x:aw)(l:List aO)(c:Int):List (Nat×AO):=[(0,cN g x.tick x.next x.aA c),(1,pz u x.ag),(2,df x.an),(3,d7 x.aq),(4,dc l)]
structure WR where
 b:aw
 l:List aO
 c:Int
abbrev yp(g:Value)(r:WR):List (Nat×AO):=[(0,cN g r.b.tick r.b.next r.b.aA r.c),(1,.ai 159 7 (ah aX r.b.ag)),(2,df r.b.an),(3,d7 r.b.aq),(4,dc r.l)]
abbrev ju(e:aV):AV:=.agg [int e.kind,int e.key,int e.ch,int e.to,int e.af,int e.ay,aD e.yes]
abbrev KX(c:be):AV:=.agg [int c.id,int c.size,int c.loc,int c.aC,int c.base,int c.br,int c.cM]
def BM:be:=⟨0,0,0,0,0,0,0⟩
def fz(l:List be)(ch:Int):be:=(l.find? fun c=>c.id==ch).getD BM
theorem jt(l:List be)(ch:Int):(eS l ch=-1/\fz l ch=BM)\/∃(i:Nat) (c:be),eS l ch=(i:Int)/\l[i]? = some c/\fz l ch=c/\c.id=ch:=by
 unfold eS fz;cases h:l.findIdx? (fun c=>c.id==ch)with
 |none=>
  refine .inl ⟨rfl,?_⟩;have:l.find? (fun c=>c.id==ch)=none:=by
   rw[List.find?_eq_none];intro x hx;have:=List.findIdx?_eq_none_iff.1 h x hx;simpa using this
  rw[this];rfl
 |some i=>
  obtain⟨V,h2,h3⟩:=List.findIdx?_eq_some_iff_getElem.1 h;refine .inr ⟨i,l[i],rfl,List.getElem?_eq_getElem V,?_,by simpa using h2⟩;have:l.find? (fun c=>c.id==ch)=some l[i]:=by
   rw[List.find?_eq_some_iff_getElem];exact⟨h2,i,V,rfl,fun j hj=>by simpa using h3 j hj⟩
  rw[this];rfl
theorem dI{b:Bool}{c k:Int}(h:c≠0):bE b c k≠0:=by rw[fW h];exact h
theorem mp{c k:Int}(h:k≠0):bE true c k≠0:=by
 unfold bE;by_cases q:c=0
 ·simp[q,h]
 simp[q]
theorem rP(g u:Value)(x:aw)(l:List aO)(c id:Int)(hm:x.ag.length<=1000000000)(i:Nat)(cc:be)(hi:eS x.ag id=(i:Int))(hc:x.ag[i]? = some cc):GC prog 115 [.ptr 0 0 0,int id] (sT g u x l c) (.ptr 1 i 0) (sT g u x l c):=by
 refine gi 4 func115 rfl ntmps115 rfl ?_;intro L O w0;refine sL<|e9 Z<|nA<|aM Z<|lc Z<|lf 0 dR Z<|aP (.agg [U _ _,U _ _,U _ _,.own _,.own _,.own _]) cu Z<|ae Z<|ab (zL func125 (z2 x _ hm) rfl) Z<|ao Z<|Y<|aS<|sL<|ae Z<|ak Z<|bJ 13 false rfl (by rw[<-eW,hi];simp)<|Y<|aN Z<|aK<|gA<|aM rfl ?_;refine lc Z<|lf 0 dR Z<|lf 3 dr Z<|iO eg Z<|ae Z<|lq (rd (x:=.ptr 1 _ 0) (pu (i:=i) rfl cz rfl rfl rfl ?hn1 (by rw[ap];exact(List.getElem?_eq_some_iff.1 hc).1)) rfl) ?_;case hn1=>rw[<-eW];exact hi
 refine lC Z<|Y<|aR ?_;refine ax ?_ ⟨rfl,rfl,rfl,rfl,rfl,trivial⟩;rfl
theorem wJ(g u:Value)(x:aw)(l:List aO)(c id:Int)(hm:x.ag.length<=1000000000)(hi:eS x.ag id=-1):GC prog 115 [.ptr 0 0 0,int id] (sT g u x l c) (.ptr 2017 0 0) (sT g u x l (bE true c 6)++[(2017,.box 159 none ((aX BM).map fun c=>.p (.v c)))]):=by
 refine gi 4 func115 rfl ntmps115 rfl ?_;intro L O w0;refine sL<|e9 Z<|nA<|aM Z<|lc Z<|lf 0 dR Z<|aP (.agg [U _ _,U _ _,U _ _,.own _,.own _,.own _]) cu Z<|ae Z<|ab (zL func125 (z2 x _ hm) rfl) Z<|ao Z<|Y<|aS<|sL<|ae Z<|ak Z<|bJ 13 true rfl (by rw[<-eW,hi];simp)<|Y<|aY Z<|sL<|aM rfl ?_;refine ab (et func211 (fJ _ _ _ _ _ _ _ _ _ _ _ _ _ _ _ _ _ _ _ ) (⟨stays.box rfl,stays.ai rfl,trivial⟩) rfl rfl) Z<|nA<|lq (rd (x:=.agg [U _ _,U _ _,U _ _,U _ _,U _ _,U _ _,U _ _]) (cP rfl BB rfl rfl rfl) rfl)<|ab (zX 2017 rfl) Z<|lT [0,4,5,17] [0,1,2,3,4,2017] ?_;refine lC Z<|Y<|aR<|rT ?_;refine ax ?_ ⟨rfl,rfl,rfl,rfl,rfl,rfl,trivial⟩;rfl
theorem KY(x:aw)(hx:x.ag.length<=1000000/\x.an.length<=1000000/\x.aq.length<=1000000):GC prog 56 [cj x] [] (.agg [int x.tick,int x.next,int x.aA,.own 2005,.own 2009,.own 2013]) [(2005,.ai 159 7 (ah aX x.ag)),(2009,df x.an),(2013,d7 x.aq)]:=by
 refine GC.intro (rs:=[.cell 2 50 (some 6)]) func56 rfl ntmps56 (Nat.le_of_ble_eq_true rfl) ⟨rfl,rfl,cu,trivial⟩ ?_;intro L O w0;refine sL<|ab (zX 2001 rfl) Z<|ab (zA 2002 mD rfl) Z<|nA<|lf 3 dr Z<|bo eg Z<|ab (qJ 2005 rfl rfl (by decide) cz dy rfl (by decide) rfl (Src.p rfl) (by simp[ah,maxLen]at *;omega) (Nat.le_trans (Nat.mul_le_mul_left _ jL) (by simp[ah]at *;omega))) Z<|lf 3 dr Z<|ab (zB 2001 sM sN rfl) Z<|nA<|lf 4 eF Z<|bo fS Z<|ab (qJ 2009 rfl rfl (by decide) f7 iu rfl (by decide) rfl (Src.p rfl) (by simp[ah,maxLen]at *;omega) (Nat.le_trans (Nat.mul_le_mul_left _ sQ) (by simp[ah]at *;omega))) Z<|lf 4 eF Z<|ab (zB 2001 tQ tR rfl) Z<|nA<|lf 5 gn Z<|bo ii Z<|ab (qJ 2013 rfl rfl (by decide) iI jO rfl (by decide) rfl (Src.p rfl) (by simp[ah,maxLen]at *;omega) (Nat.le_trans (Nat.mul_le_mul_left _ wI) (by simp[ah]at *;omega))) Z<|lT [1,2,13] [2001,2002,2005,2009,2013] ?_;refine lf 5 gn Z<|ab (zB 2001 yh yk Z) Z<|nA<|aP (.agg [U _ _,U _ _,U _ _,.own _,.own _,.own _]) cu Z<|ab (zB 2002 eu ew Z) Z<|Y<|aR ?_;refine ax ?_ ⟨rfl,rfl,rfl,trivial⟩;rfl

abbrev Sf(x:aw)(l:List aO)(c:Int):AV:=.rp [.v (.int .i64 x.tick),.v (.int .i64 x.next),.v (.int .i64 x.aA),.ab 159 7 (ah aX x.ag),.ab 218 7 (ah go x.an),.ab 220 5 (ah iX x.aq),.ab 167 3 (ah ct l),.v (.int .i64 c)]
def d8(x:aw)(e:aV):Bool:=
 if x.next=1125899906842624 then true
 else if e.kind=1 then decide (1125899906842624<x.aA+e.af)
 else if e.kind=2 then decide (1125899906842624<e.af+e.ay)
 else if e.kind=3/\0<=eS x.ag e.ch then decide (1125899906842624<x.aA+(fz x.ag e.ch).loc-e.ay)
 else if e.kind=8 then decide (x.tick=1125899906842624)
 else false
def bk(n:Int):Prop:=-1125899906842624<=n/\n<=1125899906842624
structure kL(x:aw):Prop where
 tick:bk x.tick
 next:bk x.next
 aA:bk x.aA
 ag:∀c∈x.ag,bk c.loc/\bk c.aC/\bk c.cM/\bk c.base/\bk c.br
 an:∀h∈x.an,bk h.cW/\bk h.c9/\0<=h.jP/\h.jP<=1125899906842624/\0<=h.c9
 aq:∀c∈x.aq,bk c.af/\bk c.ay
 lc:x.ag.length<=20
 lh:x.an.length<=60
 li:x.aq.length<=20
structure m8(e:aV):Prop where
 af:bk e.af
 ay:bk e.ay
theorem dB{α:Type}{l:List α}{i:Nat}{c:α}(h:l[i]? = some c):c∈l:=List.mem_of_getElem? h
theorem kL.hs{x:aw}(h:kL x):qQ x.an:=⟨h.lh,fun y hy=>⟨(h.an y hy).2.2.2.2,(h.an y hy).2.1.2⟩⟩
def kO{α:Type}(f:α->α)(k:Nat)(l:List α):List α:=(l.take k).map f++l.drop k
theorem DL{α:Type}(f:α->α)(l:List α):kO f 0 l=l:=by simp[kO]
theorem DM{α:Type}(f:α->α)(l:List α):kO f l.length l=l.map f:=by simp[kO]
theorem yr{α:Type}(f:α->α)(k:Nat)(l:List α)(h:k<=l.length):(kO f k l).length=l.length:=by simp[kO];omega
theorem tU{α:Type}(f:α->α){k:Nat}{l:List α}(h:k<l.length):(kO f k l)[k]? = some l[k]:=by
 unfold kO;rw[List.getElem?_append_right (by simp;omega)];simp only[List.length_map,List.length_take,Nat.min_eq_left (Nat.le_of_lt h),Nat.sub_self,List.getElem?_drop,Nat.add_zero];exact List.getElem?_eq_getElem h
theorem BN{α:Type}(f:α->α){k:Nat}{l:List α}(h:k<l.length):(kO f k l).set k (f l[k])=kO f (k+1) l:=by
 unfold kO;rw[List.set_append_right _ _ (by simp;omega)];simp only[List.length_map,List.length_take,Nat.min_eq_left (Nat.le_of_lt h),Nat.sub_self];rw[List.drop_eq_getElem_cons h,List.set_cons_zero,List.take_succ_eq_append_getElem h,List.map_append,List.append_assoc];rfl
theorem Gd{α:Type}(f:α->α){k:Nat}{l:List α}(h:k<l.length)(hf:f l[k]=l[k]):kO f k l=kO f (k+1) l:=by
 rw[<-BN f h,hf];obtain⟨h',e⟩:=List.getElem?_eq_some_iff.1 (tU f h);conv=>rhs;rw[<-e]
 exact(List.set_getElem_self h').symm
theorem DN{α:Type}{enc:α->List Value}{l:List α}{c:α}{k:Nat}:((((ah enc l).drop 0).take (k-0))++ah enc [c])++(((ah enc l).drop k).take ((ah enc l).length-k))=ah enc (l.take k++[c]++l.drop k):=by
 rw[List.drop_zero,Nat.sub_zero,List.take_of_length_le (l:=(ah enc l).drop k) (by rw[List.length_drop];exact Nat.le_refl _),KU,KV,fx,fx]
theorem Ge{α:Type}{enc:α->List Value}{l:List α}{k:Nat}:(((ah enc l).drop 0).take (k-0))++(((ah enc l).drop (k+1)).take ((ah enc l).length-(k+1)))=ah enc (l.take k++l.drop (k+1)):=by
 rw[List.drop_zero,Nat.sub_zero,List.take_of_length_le (l:=(ah enc l).drop (k+1)) (by rw[List.length_drop];exact Nat.le_refl _),KU,KV,fx]
def kx(h:eV):eV:={ h with jP:=min (h.jP+1) 1125899906842624 }
def l8(t:Int)(c:be):be:=if (t+1).tmod 5=0 then { c with cM:=lA c.cM } else c
def p'(x:aw):WR:=⟨{ x with tick:=x.tick+1,an:=x.an.map kx,ag:=x.ag.map (l8 x.tick) },[],0⟩
def lV(l:List be)(ch:Int):Nat:=l.findIdx fun d=>!decide (d.id<ch)
def ly(l:List be)(c:be):List be:=l.take (lV l c.id)++[c]++l.drop (lV l c.id)
theorem KZ{l:List be}{ch:Int}{k:Nat}(hk:k<=l.length)(h:∀j (h:j<l.length),j<k->l[j].id<ch)(h2:∀h:k<l.length,¬l[k].id<ch):lV l ch=k:=by
 unfold lV;rcases Nat.lt_or_ge k l.length with q|q
 ·rw[List.findIdx_eq q];refine⟨by simpa using h2 q,fun j hj=>by have:=h j (by omega) hj;simpa using this⟩
 have e:k=l.length:=by omega
 subst e;rw[List.findIdx_eq_length];intro x hx;obtain⟨j,hj,rfl⟩:=List.getElem_of_mem hx;simpa using h j hj hj
theorem Sg{l:List be}{ch:Int}{k:Nat}(hk:k<l.length)(bB:∀j (h:j<l.length),j<k->l[j].id<ch)(h2:l[k].id<ch):∀j (h:j<l.length),j<k+1->l[j].id<ch:=fun j hj eI=>by
 rcases Nat.lt_or_ge j k with q|q
 ·exact bB j hj q
 have e1:j=k:=by omega
 subst e1;exact h2
def gO(x:aw)(e:aV):Int:=bE (decide (x.aA<e.af)) (bE (decide (0<=eS x.ag e.ch)||decide ((20:Int)<=(x.ag.length:Int))) 0 3) 4
def sJ(x:aw)(e:aV):WR:=if gO x e=0 then ⟨{ x with ag:=ly x.ag ⟨e.ch,e.af+e.ay,e.af,e.ay,0,0,0⟩,aA:=x.aA-e.af },bR (bR [] 6 e.ch e.af) 1 0 (-e.af),0⟩else ⟨x,[],gO x e⟩
theorem sK{x:aw}{e:aV}(h:gO x e≠0):sJ x e=⟨x,[],gO x e⟩:=if_neg h
theorem tK{x:aw}{e:aV}(h:gO x e=0):sJ x e=⟨{ x with ag:=ly x.ag ⟨e.ch,e.af+e.ay,e.af,e.ay,0,0,0⟩,aA:=x.aA-e.af },bR (bR [] 6 e.ch e.af) 1 0 (-e.af),0⟩:=if_pos h
theorem gP{n:Int}(h:bk n):dL n=true:=cJ.2 h
theorem jM{n:Int}(h:bk n):dL (-n)=true:=cJ.2 (by unfold bk at h;omega)
theorem Sh(x:aw)(e:aV)(sm:kL x)(es:m8 e):GC prog 111 [cj x,ju e] [] (aD (d8 x e)) []:=by
 have hm:x.ag.length<=1000000000:=by have:=sm.lc;omega
 have mG:x.an.length<=1000000000:=by have:=sm.lh;omega
 have lr:x.aq.length<=1000000000:=by have:=sm.li;omega
 refine gi 4 func111 rfl ntmps111 rfl ?_;intro L O w0;refine sL<|ab (zX 2002 Z) Z<|ab (zX 2003 Z) Z<|ar Z<|nA<|aP (.agg [U _ _,U _ _,U _ _,vL _ _ _,vL _ _ _,vL _ _ _]) cu Z<|lf 2 dn Z<|aj ac Z ?_;rcases jt x.ag e.ch with⟨hi,ho⟩|⟨i,c,hi,hc,ho,hid⟩
 ·skip;refine ab (zL func125 (z2 x _ hm) Z) Z<|ao Z<|Y<|aS<|aB<|sL<|lf 1 mW Z<|aj ac Z<|ak Z<|bv Z<|Y ?_;refine AW.cond rfl ?_ ?_
  ·intro V;refine sL<|cI Z<|Y<|aR<|rB<|rT ?_;refine az trivial ?_;unfold d8;first
   |(simp_all[<-eW];done)
   |(simp_all[<-eW];intros;omega)
  intro V;refine sL<|lf 0 jz Z<|aj ac Z<|ak Z<|bv Z<|Y ?_;refine AW.cond rfl ?_ ?_
  ·intro h2;refine sL<|lf 2 iW Z<|aj ac Z<|lf 4 bN Z<|aj ac Z ?_;refine eo rfl ⟨rfl,ce (by have:=sm.aA;have:=es.af;have:=es.ay;unfold bk at *;unfold i64;omega)⟩<|ak Z<|bv Z<|Y<|aR<|rB<|rT ?_;refine az trivial ?_;unfold d8;first
   |(simp_all[<-eW];done)
   |(simp_all[<-eW];intros;omega)
  intro h2;refine sL<|lf 0 jz Z<|aj ac Z<|ak Z<|bv Z<|Y ?_;refine AW.cond rfl ?_ ?_
  ·intro h3;refine sL<|lf 4 bN Z<|aj ac Z<|lT [3,4,29] [2002,2003] ?_;refine lf 5 fC Z<|aj ac Z ?_;refine eo rfl ⟨rfl,ce (by have:=sm.aA;have:=es.af;have:=es.ay;unfold bk at *;unfold i64;omega)⟩<|ak Z<|bv Z<|Y<|aR<|rB<|rT ?_;refine az trivial ?_;unfold d8;first
   |(simp_all[<-eW];done)
   |(simp_all[<-eW];intros;omega)
  intro h3;refine sL<|lf 0 jz Z<|aj ac Z<|ak Z<|aQ Z ?_;refine AL.bool (t:=38) rfl ?_ ?_
  ·intro h4;refine ae Z<|ak Z<|bJ 40 false rfl (by rw[<-eW,hi];simp)<|bL Z<|ar Z<|Y<|aN Z<|sL<|lf 0 jz Z<|aj ac Z<|ak Z<|bv Z<|Y ?_;refine AW.cond rfl ?_ ?_
   ·intro h5;refine sL<|lf 0 mB Z<|aj ac Z<|ak Z<|bv Z<|Y<|aR<|rB<|rT ?_;refine az trivial ?_;unfold d8;first
    |(simp_all[<-eW];done)
    |(simp_all[<-eW];intros;omega)
   intro h5;refine aK<|gB<|gA<|ar Z<|Y<|aR ?_;refine az trivial ?_;unfold d8;first
   |(simp_all[<-eW];done)
   |(simp_all[<-eW];intros;omega)
  intro h4;refine aa Z<|aa Z<|bL Z<|ar Z<|Y<|aN Z<|sL<|lf 0 jz Z<|aj ac Z<|ak Z<|bv Z<|Y ?_;refine AW.cond rfl ?_ ?_
  ·intro h6;refine sL<|lf 0 mB Z<|aj ac Z<|lT [4,60] [2002,2003] ?_;refine ak Z<|bv Z<|Y<|aR<|rB<|rT ?_;refine az trivial ?_;unfold d8;first
   |(simp_all[<-eW];done)
   |(simp_all[<-eW];intros;omega)
  intro h6;refine aK<|gB<|gA<|ar Z<|Y<|aR ?_;refine az trivial ?_;unfold d8;first
  |(simp_all[<-eW];done)
  |(simp_all[<-eW];intros;omega)
 have bC:=sm.ag c (dB hc);refine ab (zL func125 (z2 x _ hm) Z) Z<|ao Z<|Y<|aS<|aB<|sL<|lf 1 mW Z<|aj ac Z<|ak Z<|bv Z<|Y ?_;refine AW.cond rfl ?_ ?_
 ·intro h7;refine sL<|cI Z<|Y<|aR<|rB<|rT ?_;refine az trivial ?_;unfold d8;first
  |(simp_all[<-eW];done)
  |(simp_all[<-eW];intros;omega)
 intro h7;refine sL<|lf 0 jz Z<|aj ac Z<|ak Z<|bv Z<|Y ?_;refine AW.cond rfl ?_ ?_
 ·intro h8;refine sL<|lf 2 iW Z<|aj ac Z<|lf 4 bN Z<|aj ac Z ?_;refine eo rfl ⟨rfl,ce (by have:=sm.aA;have:=es.af;have:=es.ay;unfold bk at *;unfold i64;omega)⟩<|ak Z<|bv Z<|Y<|aR<|rB<|rT ?_;refine az trivial ?_;unfold d8;first
  |(simp_all[<-eW];done)
  |(simp_all[<-eW];intros;omega)
 intro h8;refine sL<|lf 0 jz Z<|aj ac Z<|ak Z<|bv Z<|Y ?_;refine AW.cond rfl ?_ ?_
 ·intro h9;refine sL<|lf 4 bN Z<|aj ac Z<|lf 5 fC Z<|aj ac Z ?_;refine eo rfl ⟨rfl,ce (by have:=sm.aA;have:=es.af;have:=es.ay;unfold bk at *;unfold i64;omega)⟩<|lT [4,32] [2002,2003] ?_;refine ak Z<|bv Z<|Y<|aR<|rB<|rT ?_;refine az trivial ?_;unfold d8;first
  |(simp_all[<-eW];done)
  |(simp_all[<-eW];intros;omega)
 intro h9;refine sL<|lf 0 jz Z<|aj ac Z<|ak Z<|aQ Z ?_;refine AL.bool (t:=38) rfl ?_ ?_
 ·intro dh;refine ae Z<|ak Z<|bJ 40 true rfl (by rw[<-eW,hi];simp)<|aU Z<|cI Z<|Y<|aY Z<|aS<|aG 13 []<|tq 0 (rf 2 iW rfl)<|tq 1 (aZ ac rfl)<|tq 2 (rf 3 dr rfl)<|tq 3 (jj eg rfl)<|tq 4 (dW rfl)<|tq 5 (rd (x:=.rp _) (yt (i:=i) rfl cz rfl rfl ?hn1 (dk hc)) rfl) ?_;case hn1=>rw[<-eW];exact hi
  refine tq 6 (rd (x:=.rp _) (nM fH Z) Z)<|tq 7 (qU ac Z) ?_;refine tq 8 (iC rfl ⟨rfl,ce (by have:=bC.1;have:=sm.aA;have:=es.af;have:=es.ay;unfold bk at *;unfold i64;omega)⟩)<|yq 9 (rf 5 fC rfl)<|yq 10 (aZ ac rfl) ?_;refine yq 11 (iC rfl ⟨rfl,ce (by have:=bC.1;have:=sm.aA;have:=es.af;have:=es.ay;unfold bk at *;unfold i64;omega)⟩)<|yq 12 (dt rfl)<|yq 13 (fk rfl)<|gD<|gT<|aR<|rB<|rT ?_;refine az trivial ?_;unfold d8;first
  |(simp_all[<-eW];done)
  |(simp_all[<-eW];intros;omega)
 intro dh;refine aa Z<|aa Z<|bL Z<|ar Z<|Y<|aN Z<|sL<|lf 0 jz Z<|aj ac Z<|ak Z<|bv Z<|lT [2,4,55] [2002,2003] ?_;refine Y ?_;refine AW.cond rfl ?_ ?_
 ·intro gp;refine sL<|lf 0 mB Z<|aj ac Z<|ak Z<|bv Z<|Y<|aR<|rB<|rT ?_;refine az trivial ?_;unfold d8;first
  |(simp_all[<-eW];done)
  |(simp_all[<-eW];intros;omega)
 intro gp;refine aK<|gB<|gA<|ar Z<|Y<|aR ?_;refine az trivial ?_;unfold d8;first
 |(simp_all[<-eW];done)
 |(simp_all[<-eW];intros;omega)
theorem Si(x:aw)(l:List aO)(c:Int)(fI to:be)(e:aV)(sm:qQ x.an):GC prog 216 [Sf x l c,KX fI,KX to,ju e] [] (int (BE x.an fI to e.to e.af e.yes)) []:=by
 refine gi 8 func216 rfl ntmps216 rfl ?_;intro L O w0;refine sL<|ab (zX 2005 Z) Z<|ab (zX 2006 Z) Z<|ab (zX 2007 Z) Z<|ao Z<|nA<|ao Z<|ao Z<|ao Z<|ao Z<|Y<|aS<|sL<|cT (.rp _) Z<|lq (rd (x:=.rp _) (Sj Z Z) Z)<|lq (rd (x:=.rp _) (nM dR Z) Z)<|lq (rd (x:=.rp _) (nM eF Z) Z)<|DO fS Z<|ba jb Z<|ae Z<|Y<|aB ?_;refine aW [5,6,7,8,19,20] [2005,2006,2007] (D:=Nat) (fun k=>[(9,int (bG (rJ e.to) (x.an.take k))),(10,int (bG (dK e.to) (x.an.take k))),(11,int (bG (rL e.to) (x.an.take k))),(12,int (bG (rK e.to) (x.an.take k))),(21,int (k:Int))]) (fun k=>[]) (fun k=>k<=x.an.length) (fun k=>x.an.length-k) (0) (Nat.zero_le _) ⟨rfl,rfl,rfl,rfl,rfl,trivial⟩ trivial ?_;intro k hI;have b0:=sm.1;have b1:=sm.ez e.to k;have b2:=sm.all e.to k;have b3:=sm.KM e.to k;have b4:=sm.one e.to k;refine sL<|ak Z<|Y<|aS ?_;refine AW.cond rfl ?_ ?_
 ·intro V;refine aK<|gT<|aS<|aB<|sL ?_;have hk:k<x.an.length:=by simpa[ap]using V
  have b5:=sm.at hk;refine li k f7 Z (bS hk)<|d6 (.agg [U _ _,U _ _,U _ _,U _ _,U _ _,vB _,U _ _]) kZ Z<|ab (zA 2014 iu Z) Z<|lT [5,6,7,8,9,10,11,12,14,19,20,21,24] [2005,2006,2007,2014] ?_;refine ab (zB 2014 nJ nL Z) Z<|Y<|aS<|sL<|lf 2 mJ Z<|aj ac Z<|lf 3 fK Z<|aj ac Z<|ak Z<|Y ?_;refine AW.cond rfl ?_ ?_
  ·intro h2;refine aE<|eT<|eB<|gT<|aL<|bg Z<|ae Z<|Y ?_;refine⟨k+1,hk,by omega,⟨(congrArg int (rM hk (by have h:=h2;simp only[Bool.not_eq_true',decide_eq_false_iff_not,decide_eq_true_eq]at h;unfold rJ;simp[h])).symm),(congrArg int (rM hk (by have h:=h2;simp only[Bool.not_eq_true',decide_eq_false_iff_not,decide_eq_true_eq]at h;unfold dK;simp[h])).symm),(congrArg int (rM hk (by have h:=h2;simp only[Bool.not_eq_true',decide_eq_false_iff_not,decide_eq_true_eq]at h;unfold rL;simp[h])).symm),(congrArg int (rM hk (by have h:=h2;simp only[Bool.not_eq_true',decide_eq_false_iff_not,decide_eq_true_eq]at h;unfold rK;simp[h])).symm),(iq rfl),trivial⟩,trivial,rfl,rfl⟩
  intro h2;refine aK<|gA<|ae Z<|lf 4 kw Z<|aj ac Z<|bg Z<|ao Z<|nA<|ae Z<|bg Z<|ao Z<|nA<|lf 5 BF Z<|tT jN Z<|bX Z<|Y ?_;refine AW.cond rfl ?_ ?_
  ·intro h3;refine sL<|ae Z<|lf 4 kw Z<|aj ac Z<|bg Z<|ao Z<|Y<|aL<|ae Z<|bg Z<|ao Z<|lN<|gB<|gT<|aL<|bg Z<|ae Z<|Y ?_;have he:x.an[k].out=e.to:=by simpa using h2
   have m':x.an[k].kept=false:=by simpa using h3
   refine⟨k+1,hk,by omega,⟨(Eq.trans (b:=int _) rfl (congrArg int (rN hk (by unfold rJ;simp[he,m'])))),(Eq.trans (b:=int _) rfl (congrArg int (rN hk (by unfold dK;simp[he,m'])))),(Eq.trans (b:=int _) rfl (congrArg int (rN hk (by unfold rL;simp[he,m'])))),(Eq.trans (b:=int _) rfl (congrArg int (rN hk (by unfold rK;simp[he,m'])))),(iq rfl),trivial⟩,trivial,rfl,rfl⟩
  intro h3;refine aK<|gB<|gT<|aL<|bg Z<|lT [5,6,7,8,9,10,11,12,19,20,21,45] [2005,2006,2007,2014] ?_;refine ae Z<|Y ?_;have he:x.an[k].out=e.to:=by simpa using h2
  have m':x.an[k].kept=true:=by simpa using h3
  refine⟨k+1,hk,by omega,⟨(congrArg int (rM hk (by unfold rJ;simp[he,m'])).symm),(Eq.trans (b:=int _) rfl (congrArg int (rN hk (by unfold dK;simp[he,m'])))),(congrArg int (rM hk (by unfold rL;simp[he,m'])).symm),(Eq.trans (b:=int _) rfl (congrArg int (rN hk (by unfold rK;simp[he,m'])))),(iq rfl),trivial⟩,trivial,rfl,rfl⟩
 intro V;refine aE<|eT<|eT<|eB<|gT<|aS<|aG 14 []<|tq 0 (rf 1 qS Z)<|tq 1 (aZ ac Z)<|tq 2 (dW Z)<|tq 3 (dW Z)<|tq 4 (dW Z)<|tq 5 (dW Z)<|tq 6 (rf 4 bN Z)<|tq 7 (aZ ac Z)<|tq 8 (rf 6 ms Z)<|tq 9 (aZ ac Z)<|yq 10 (rf 6 pw Z)<|yq 11 (uY jN Z)<|cm 12 Z (zL func267 (RY _ _) Z)<|gX [8,47,48,49,50,51,53,58] [2005,2006,2007] ?_;refine cm 13 Z (zL func266 (R0 _ _ _ _ _ _ _) Z)<|yq 14 (j8 Z)<|gD<|gT<|aR ?_;have dZ:k=x.an.length:=by have h:=V;simp only[ap,decide_eq_false_iff_not]at h;omega
 subst dZ;refine ax ?_ trivial;refine congrArg (fun n=>some (int n)) ?_;unfold BE;rw[List.take_length]
theorem Sk(g u:Value)(x:aw)(sm:kL x):GC prog 118 [.ptr 0 0 0] (sT g u x [] 0) (.au []) (yp g (p' x)):=by
 have bh:=sm.lh;have bc:=sm.lc;refine GC.intro (rs:=[]) func118 rfl ntmps118 (Nat.le_of_ble_eq_true rfl) trivial ?_;intro L O w0;refine iQ 1 rfl ?_;refine sL<|aM Z<|lc Z<|lf 0 dR Z<|lf 0 mB Z<|aj ac Z ?_;refine eo rfl ⟨rfl,ce (by have:=sm.tick;unfold bk at this;unfold i64;omega)⟩<|lc Z<|lf 0 dR Z<|lf 0 mB Z<|ab (zB 0 ca cb rfl) Z<|Y<|aS<|sL<|aM Z<|lc Z<|lf 0 dR Z<|lf 4 eF Z<|iO fS Z<|ba jb Z<|ae Z<|Y<|aB ?_;refine aW [0,20] [0,1,3,4] (D:=Nat) (fun k=>[(21,int (k:Int))]) (fun k=>[(2,df (kO kx k x.an))]) (fun k=>k<=x.an.length) (fun k=>x.an.length-k) (0) (Nat.zero_le _) ⟨rfl,trivial⟩ ⟨(congrArg df (DL kx x.an).symm),trivial⟩ ?_;intro k hI;refine sL<|ak Z<|Y<|aS ?_;refine AW.cond rfl ?_ ?_
 ·intro V;refine aK<|gT<|aS<|aB<|sL<|ae Z<|ao Z<|nA<|aM Z<|lc Z<|lf 0 dR Z<|lf 4 eF Z<|iO fS Z<|ae Z ?_;have hk:k<x.an.length:=by simpa[ap]using V
  have bQ:=sm.an _ (List.getElem_mem hk);refine lq (rj k f7 rfl (by rw[ap,yr _ _ _ (Nat.le_of_lt hk)];exact hk))<|lC Z<|Y<|aL<|aM Z<|aM Z<|lT [0,20,21,31,32] [0,1,2,3,4] ?_;refine lc Z<|lf 6 tV Z<|lq (rd (x:=U _ _) (dT Z ac Z Z Z (dk (tU kx hk)) Z) Z) ?_;refine eo rfl ⟨rfl,ce (by have:=bQ.2.2.1;have:=bQ.2.2.2.1;unfold i64;omega)⟩<|lq (rd (x:=U _ _) (Sl rfl rfl) rfl)<|lc Z<|lf 6 tV Z<|ab (zQ 2 [.v (.int .i64 (min (x.an[k].jP+1) 1125899906842624))] ca cb rfl (dk (tU kx hk))) Z<|lN<|gB<|gT ?_;refine AW.obj 2 (df (kO kx (k+1) x.an)) (Eq.trans (b:=AO.ai 218 7 ((ah go (kO kx k x.an)).set k ((go (kx x.an[k])).map PV.v))) rfl (congrArg (AO.ai 218 7) (lB.trans (congrArg (ah go) (BN kx hk))))) ?_;refine aL<|bg Z<|ae Z<|Y ?_;refine⟨k+1,hk,by omega,⟨(iq rfl),trivial⟩,⟨rfl,trivial⟩,rfl,rfl⟩
 intro V;refine aE<|eT<|eT<|eB<|gA<|aM Z<|lc Z<|lf 0 dR Z<|lf 3 dr Z<|iO eg Z<|ba kJ Z<|ae Z<|Y<|aB ?_;have Gf:k=x.an.length:=by have h:=V;simp only[ap,decide_eq_false_iff_not]at h;omega
 refine AW.obj 2 (df (x.an.map kx)) (congrArg df (by rw[Gf,DM])) ?_;refine aW [0,46] [0,2,3,4] (D:=Nat) (fun j=>[(47,int (j:Int))]) (fun j=>[(1,.ai 159 7 (ah aX (kO (l8 x.tick) j x.ag)))]) (fun j=>j<=x.ag.length) (fun j=>x.ag.length-j) (0) (Nat.zero_le _) ⟨rfl,trivial⟩ ⟨(congrArg (fun l=>AO.ai 159 7 (ah aX l)) (DL (l8 x.tick) x.ag).symm),trivial⟩ ?_;intro j hI;refine sL<|ak Z<|Y<|aS ?_;refine AW.cond rfl ?_ ?_
 ·intro h2;refine aK<|gT<|aS<|aB<|sL<|ae Z<|ao Z<|nA<|aM Z<|lc Z<|lf 0 dR Z<|lf 3 dr Z<|iO eg Z<|ae Z ?_;have hj:j<x.ag.length:=by simpa[ap]using h2
  have bC:=sm.ag _ (List.getElem_mem hj);refine lq (rj j cz rfl (by rw[ap,yr _ _ _ (Nat.le_of_lt hj)];exact hj))<|lC Z<|nA<|aM Z<|lc Z<|lT [0,5,46,47,58] [0,1,2,3,4] ?_;refine lf 0 dR Z<|lf 0 mB Z<|aj ac Z ?_;refine eo rfl ⟨rfl,by decide⟩<|ak Z<|Y ?_;refine AW.cond rfl ?_ ?_
  ·intro h3;refine aL<|aM Z<|aM Z<|lc Z<|lf 6 ms Z<|lq (rd (x:=U _ _) (dT Z ac Z Z Z (dk (tU _ hj)) Z) Z)<|ab (zL func220 (R7 _) Z) Z<|lc Z<|lf 6 ms Z<|ab (zQ 1 [.v (.int .i64 (lA x.ag[j].cM))] ca cb Z (dk (tU _ hj))) Z<|lT [0,46,47] [0,1,2,3,4] ?_;refine lN<|gB<|gT ?_;refine AW.obj 1 (.ai 159 7 (ah aX (kO (l8 x.tick) (j+1) x.ag))) (Eq.trans (b:=AO.ai 159 7 ((ah aX (kO (l8 x.tick) j x.ag)).set j ((aX { x.ag[j]with cM:=lA x.ag[j].cM }).map PV.v))) rfl (congrArg (AO.ai 159 7) (lB.trans (congrArg (ah aX) (by rw[<-BN _ hj];unfold l8;rw[if_pos (by simpa using h3)]))))) ?_;refine aL<|bg Z<|ae Z<|Y ?_;refine⟨j+1,hj,by omega,⟨(iq rfl),trivial⟩,⟨rfl,trivial⟩,rfl,rfl⟩
  intro h3;refine aK<|gB<|gT<|aL<|bg Z<|ae Z<|Y ?_;refine⟨j+1,hj,by omega,⟨(iq rfl),trivial⟩,⟨(congrArg (fun l=>AO.ai 159 7 (ah aX l)) (Gd (l8 x.tick) hj (if_neg (by simpa using h3)))),trivial⟩,rfl,rfl⟩
 intro h2;refine aE<|eT<|eT<|eB ?_;refine iZ ?_ ⟨rfl,(congrArg (fun l=>AO.ai 159 7 (ah aX l)) (by rw[show j=x.ag.length by have h:=h2;simp only[ap,decide_eq_false_iff_not]at h;omega,DM];rfl)),rfl,rfl,rfl,trivial⟩;rfl
theorem Sm(g u:Value)(x:aw)(e:aV)(sm:kL x)(es:m8 e):GC prog 113 [.ptr 0 0 0,ju e] (sT g u x [] 0) (.au []) (yp g (sJ x e)):=by
 have hm:x.ag.length<=1000000000:=by have:=sm.lc;omega
 have mG:x.an.length<=1000000000:=by have:=sm.lh;omega
 have lr:x.aq.length<=1000000000:=by have:=sm.li;omega
 refine GC.intro (rs:=[]) func113 rfl ntmps113 (Nat.le_of_ble_eq_true rfl) trivial ?_;intro L O w0;refine iQ 1 rfl ?_;refine sL<|ab (zX 2003 Z) Z<|Y ?_;refine aJ [0,3] [1,2,3,4,2003] (D:=Unit) (fun jd=>[]) (fun jd=>[(0,cN g x.tick x.next x.aA (bE (decide (0<=eS x.ag e.ch)||decide ((20:Int)<=(x.ag.length:Int))) 0 3))]) (fun jd=>True) ?_ ?_
 ·refine aG 18 []<|tq 0 (cG Z)<|tq 1 (cG Z)<|tq 2 (rc Z)<|tq 3 (rf 0 dR Z)<|tq 4 (dw (.agg [U _ _,U _ _,U _ _,.own _,.own _,.own _]) cu Z)<|yq 5 (rf 2 dn Z)<|yq 6 (aZ ac Z)<|cm 7 Z (zL func125 (z2 x _ hm) Z)<|yq 8 (dt Z)<|yq 9 (dx Z) ?_;refine AG.bool (t:=15) rfl ?_ ?_
  ·intro V;refine bt 10 Z<|bt 11 Z<|bt 12 Z<|bt 13 Z<|bt 14 Z<|bt 15 Z<|bt 16 Z<|yq 17 (bA Z) ?_;refine yl rfl (bF func211 (fJ _ _ _ _ _ _ _ _ _ _ _ _ _ _ _ _ _ _ _ ) (⟨stays.box rfl,trivial⟩) rfl rfl)<|gT ?_;refine⟨(),trivial,trivial,⟨(Eq.trans (b:=cN g x.tick x.next x.aA _) rfl (congrArg (cN g x.tick x.next x.aA) (by rw[show decide (0<=eS x.ag e.ch)=true from V];simp[ap]))),trivial⟩,rfl,rfl⟩
  intro V;refine yq 10 (cG Z)<|yq 11 (rc Z)<|yq 12 (rf 0 dR Z)<|yq 13 (rf 3 dr Z)<|yq 14 (gC eg Z)<|yq 15 (le kJ Z)<|yq 16 (dt Z)<|yq 17 (cv Z) ?_;refine yl rfl (bF func211 (fJ _ _ _ _ _ _ _ _ _ _ _ _ _ _ _ _ _ _ _ ) (⟨stays.box rfl,trivial⟩) rfl rfl)<|gT ?_;refine⟨(),trivial,trivial,⟨(Eq.trans (b:=cN g x.tick x.next x.aA _) rfl (congrArg (cN g x.tick x.next x.aA) (by rw[show decide (0<=eS x.ag e.ch)=false from V];simp[ap]))),trivial⟩,rfl,rfl⟩
 intro jd hJ;refine aS<|aG 9 []<|tq 0 (cG Z)<|tq 1 (cG Z)<|tq 2 (rc Z)<|tq 3 (rf 0 dR Z)<|tq 4 (rf 2 iW Z)<|tq 5 (aZ ac Z)<|yq 6 (rf 4 bN Z)<|yq 7 (aZ ac Z)<|yq 8 (dt Z) ?_;refine yl rfl (bF func211 (fJ _ _ _ _ _ _ _ _ _ _ _ _ _ _ _ _ _ _ _ ) (⟨stays.box rfl,trivial⟩) rfl rfl)<|gT<|aS<|sL<|aM Z<|lc Z<|lf 7 mK Z<|aj ac Z<|ak Z<|Y ?_;refine AW.cond rfl ?_ ?_
 ·intro h2;refine aR<|rT ?_;have cQ:gO x e≠0:=by
   unfold gO;simpa[ap,<-eW]using h2
  rw[sK cQ];refine ax ?_ ⟨rfl,rfl,rfl,rfl,rfl,trivial⟩;rfl
 intro h2;refine aK<|gT<|aS ?_;have cQ:gO x e=0:=by
  unfold gO;simpa[ap,<-eW]using h2
 refine aL<|ao Z<|Y<|aS<|aB ?_;refine aW [0,3] [0,1,2,3,4,2003] (D:=Nat) (fun k=>[(4,int (k:Int))]) (fun k=>[]) (fun k=>k<=x.ag.length/\∀j (h:j<x.ag.length),j<k->x.ag[j].id<e.ch) (fun k=>x.ag.length-k) (0) (⟨Nat.zero_le _,fun j _ h=>absurd h (by omega)⟩) ⟨rfl,trivial⟩ trivial ?_;intro k hI;obtain⟨eN,bB⟩:=hI;refine aS<|aS<|aG 21 []<|tq 0 (dW Z)<|yq 1 (cG Z)<|yq 2 (rc Z)<|yq 3 (rf 0 dR Z)<|yq 4 (rf 3 dr Z)<|yq 5 (gC eg Z)<|yq 6 (le kJ Z)<|yq 7 (dt Z)<|yq 8 (dx Z) ?_;refine AG.bool (t:=48) rfl ?_ ?_
 ·intro h3;refine tq 9 (cG Z)<|tq 10 (rc Z)<|tq 11 (rf 0 dR Z)<|tq 12 (rf 3 dr Z)<|tq 13 (gC eg Z)<|gX [0,3,4,48,53] [0,1,2,3,4,2003] ?_;refine tq 14 (dW rfl) ?_;have hk:k<x.ag.length:=by simpa[ap]using h3
  refine tq 15 (rj k cz rfl (by rw[ap];exact hk))<|tq 16 (rf 0 kM rfl)<|tq 17 (rd (x:=U _ _) (dT rfl ac rfl rfl rfl (bS hk) rfl) rfl)<|yq 18 (rf 2 dn rfl)<|yq 19 (aZ ac rfl)<|yq 20 (dt rfl)<|yq 21 (cv rfl)<|gD<|gT ?_;refine AW.cond rfl ?_ ?_
  ·intro h4;refine aK<|gT<|aB<|aL<|ae Z<|bg Z<|ao Z<|lN<|gB<|gT ?_;refine⟨k+1,⟨hk,Sg hk bB (by simpa using h4)⟩,by omega,⟨(iq rfl),trivial⟩,trivial,rfl,rfl⟩
  intro h4;refine aE<|eT<|eT<|eB<|gT<|aS ?_;have wK:lV x.ag e.ch=k:=KZ eN bB (fun eI=>by first|(simp_all[ap];done)|(simp_all[ap];omega));refine aL<|lf 2 dn Z<|aj ac Z<|lf 4 bN Z<|aj ac Z<|lf 5 fC Z<|aj ac Z ?_;refine eo rfl ⟨rfl,ce (by have:=es.af;have:=es.ay;have:=sm.aA;unfold bk at *;unfold i64;omega)⟩<|lf 4 bN Z<|aj ac Z<|lf 5 fC Z<|aj ac Z<|lq (rd (x:=.agg [U _ _,U _ _,U _ _,U _ _,U _ _,U _ _,U _ _]) (cP rfl BB rfl rfl rfl) rfl)<|ab (zA 2005 dy rfl) Z<|lT [0,3,4,5,75] [0,1,2,3,4,2003,2005] ?_;refine ab (zB 2005 lu lv Z) Z<|Y ?_;refine aJ [0,3] [2,3,4,2003,2005] (D:=Unit) (fun jd=>[]) (fun jd=>[(2084,.ai 159 7 (ah aX (ly x.ag ⟨e.ch,e.af+e.ay,e.af,e.ay,0,0,0⟩))),(0,.box 153 (some g) [int x.tick,int x.next,int x.aA,.own 2084,.own 2,.own 3,.own 4,int (gO x e)])]) (fun jd=>True) ?_ ?_
  ·refine aG 23 [2084]<|tq 0 (cG Z)<|tq 1 (cG Z)<|tq 2 (rc Z)<|tq 3 (rf 0 dR Z)<|tq 4 (rf 3 dr Z)<|tq 5 (gC eg Z)<|tq 6 (dW Z) ?_;refine tq 7 (rd (x:=.sub _ _ _) (tW (l:=0) (h:=k) rfl cz rfl rfl rfl ⟨_,rfl⟩ (by omega) (by rw[ap];exact eN)) rfl)<|tq 9 (dw (.agg [U _ _,U _ _,U _ _,U _ _,U _ _,U _ _,U _ _]) fF rfl)<|tq 12 (cG rfl)<|tq 13 (rc rfl)<|tq 14 (rf 0 dR rfl)<|tq 15 (rf 3 dr rfl)<|tq 16 (gC eg rfl)<|tq 17 (dW rfl) ?_;refine tq 18 (rd (x:=.sub _ _ _) (tW (l:=k) (h:=_) rfl cz rfl rfl ⟨_,rfl⟩ rfl (by rw[ap];exact eN) (Nat.le_refl _)) rfl) ?_;refine AG.two (i:=8) (j:=10) (by kernel_rfl) ?_ ?_
   ·refine oe.st (i:=8) rfl (qJ 2084 rfl rfl (by decide) cz dy rfl (by decide) rfl (Src.sub rfl rfl) (by simp[ah,maxLen]at *;omega) (Nat.le_trans (Nat.mul_le_mul_left _ jL) (by simp[ah]at *;omega))) (by decide) rfl ?_;refine gX [0,3,76,84,85,94] [0,1,2,3,4,2003,2005,2084] ?_;refine cm 10 rfl (zS 2086 (ah aX [⟨e.ch,e.af+e.ay,e.af,e.ay,0,0,0⟩]) cz dy rfl)<|cm 11 rfl (zP 2084 cz dy jL rfl (Src.own rfl rfl))<|cm 19 rfl (zP 2084 cz dy jL rfl (Src.sub rfl rfl))<|yq 20 (rc rfl)<|yq 21 (rf 0 dR rfl)<|yq 22 (rf 3 dr rfl)<|yl rfl (zB 0 sM sN rfl)<|gT ?_;refine⟨(),trivial,trivial,⟨(congrArg (AO.ai 159 7) (DN.trans (congrArg (ah aX) (by unfold ly;rw[wK])))),rfl,trivial⟩,rfl,rfl⟩
   refine oe.st (i:=10) rfl (BO 2086 (rows:=ah aX [⟨e.ch,e.af+e.ay,e.af,e.ay,0,0,0⟩]) rfl rfl (by decide) cz dy rfl rfl rfl rfl (by intro r hr;simp[ah]at hr;subst hr;rfl) rfl (by decide) (by decide)) (by decide) rfl ?_;refine cm 8 rfl (qJ 2084 rfl rfl (by decide) cz dy rfl (by decide) rfl (Src.sub rfl rfl) (by simp[ah,maxLen]at *;omega) (Nat.le_trans (Nat.mul_le_mul_left _ jL) (by simp[ah]at *;omega)))<|cm 11 rfl (zP 2084 cz dy jL rfl (Src.own rfl rfl))<|cm 19 rfl (zP 2084 cz dy jL rfl (Src.sub rfl rfl))<|yq 20 (rc rfl)<|yq 21 (rf 0 dR rfl)<|yq 22 (rf 3 dr rfl)<|yl rfl (zB 0 sM sN rfl)<|gT ?_;refine⟨(),trivial,trivial,⟨(congrArg (AO.ai 159 7) (DN.trans (congrArg (ah aX) (by unfold ly;rw[wK])))),rfl,trivial⟩,rfl,rfl⟩
  intro jd hJ;refine aS ?_;refine AW.swap 2084 1 ?_;refine aT [0,3] [0,1,2,3,4,2003,2005] ?_;refine aG 11 []<|tq 0 (cG Z)<|tq 1 (rc Z)<|tq 2 (rf 0 dR Z)<|tq 3 (rf 2 iW Z)<|tq 4 (aZ ac Z)<|yq 5 (rf 4 bN Z)<|yq 6 (aZ ac Z) ?_;refine yq 7 (iC rfl ⟨rfl,ce (by have:=es.af;have:=es.ay;have:=sm.aA;unfold bk at *;unfold i64;omega)⟩)<|yq 8 (rc rfl)<|yq 9 (rf 0 dR rfl)<|yq 10 (rf 2 iW rfl)<|yl rfl (zB 0 ca cb rfl)<|gA<|aM Z<|lf 2 dn Z<|aj ac Z<|lf 4 bN Z<|aj ac rfl ?_;refine ab (bF func112 (lU _ _ _ _ _ _ _ _ _ _ _ _ _ _ ([]) 0 (LG.nil) (by decide) _ _ _ (cL.nil _ _) (gP es.af)) (⟨stays.box rfl,trivial⟩) rfl rfl) Z<|lT [0,3] [0,1,2,3,4,2003,2005] ?_;refine Y<|aL<|aM Z<|lf 4 bN Z<|aj ac Z<|lq (rd (x:=U _ _) (il rfl rfl (ce (by have:=es.af;have:=es.ay;have:=sm.aA;unfold bk at *;unfold i64;omega))) rfl) ?_;refine ab (bF func112 (lU _ _ _ _ _ _ _ _ _ _ _ _ _ _ (bR [] 6 e.ch e.af) 1 (LG.nil.add (gP es.af)) (by decide) _ _ _ ((cL.nil _ _).add (.inl (by decide))) (jM es.af)) (⟨stays.box rfl,trivial⟩) rfl rfl) Z<|lN ?_;rw[tK cQ];refine iZ ?_ ⟨(Eq.trans (b:=cN g x.tick x.next (x.aA-e.af) _) rfl (congrArg (cN g x.tick x.next (x.aA-e.af)) cQ)),rfl,rfl,rfl,rfl,trivial⟩;rfl
 intro h3;refine ep 9 Z<|ep 10 Z<|ep 11 Z<|ep 12 Z<|ep 13 Z<|ep 14 Z<|ep 15 Z<|ep 16 Z<|ep 17 Z<|bt 18 Z<|bt 19 Z<|bt 20 Z<|yq 21 (kK Z)<|gD<|gT<|aN Z<|aE<|eT<|eT<|eB<|gT<|aS ?_;have wK:lV x.ag e.ch=k:=KZ eN bB (fun eI=>by first|(simp_all[ap];done)|(simp_all[ap];omega));refine aL<|lf 2 dn Z<|aj ac Z<|lf 4 bN Z<|aj ac Z<|lf 5 fC Z<|aj ac Z ?_;refine eo rfl ⟨rfl,ce (by have:=es.af;have:=es.ay;have:=sm.aA;unfold bk at *;unfold i64;omega)⟩<|lf 4 bN Z<|aj ac Z<|lf 5 fC Z<|aj ac Z<|lq (rd (x:=.agg [U _ _,U _ _,U _ _,U _ _,U _ _,U _ _,U _ _]) (cP rfl BB rfl rfl rfl) rfl)<|ab (zA 2005 dy rfl) Z<|lT [0,3,4,5,75] [0,1,2,3,4,2003,2005] ?_;refine ab (zB 2005 lu lv Z) Z<|Y ?_;refine aJ [0,3] [2,3,4,2003,2005] (D:=Unit) (fun jd=>[]) (fun jd=>[(2084,.ai 159 7 (ah aX (ly x.ag ⟨e.ch,e.af+e.ay,e.af,e.ay,0,0,0⟩))),(0,.box 153 (some g) [int x.tick,int x.next,int x.aA,.own 2084,.own 2,.own 3,.own 4,int (gO x e)])]) (fun jd=>True) ?_ ?_
 ·refine aG 23 [2084]<|tq 0 (cG Z)<|tq 1 (cG Z)<|tq 2 (rc Z)<|tq 3 (rf 0 dR Z)<|tq 4 (rf 3 dr Z)<|tq 5 (gC eg Z)<|tq 6 (dW Z) ?_;refine tq 7 (rd (x:=.sub _ _ _) (tW (l:=0) (h:=k) rfl cz rfl rfl rfl ⟨_,rfl⟩ (by omega) (by rw[ap];exact eN)) rfl)<|tq 9 (dw (.agg [U _ _,U _ _,U _ _,U _ _,U _ _,U _ _,U _ _]) fF rfl)<|tq 12 (cG rfl)<|tq 13 (rc rfl)<|tq 14 (rf 0 dR rfl)<|tq 15 (rf 3 dr rfl)<|tq 16 (gC eg rfl)<|tq 17 (dW rfl) ?_;refine tq 18 (rd (x:=.sub _ _ _) (tW (l:=k) (h:=_) rfl cz rfl rfl ⟨_,rfl⟩ rfl (by rw[ap];exact eN) (Nat.le_refl _)) rfl) ?_;refine AG.two (i:=8) (j:=10) (by kernel_rfl) ?_ ?_
  ·refine oe.st (i:=8) rfl (qJ 2084 rfl rfl (by decide) cz dy rfl (by decide) rfl (Src.sub rfl rfl) (by simp[ah,maxLen]at *;omega) (Nat.le_trans (Nat.mul_le_mul_left _ jL) (by simp[ah]at *;omega))) (by decide) rfl ?_;refine gX [0,3,76,84,85,94] [0,1,2,3,4,2003,2005,2084] ?_;refine cm 10 rfl (zS 2086 (ah aX [⟨e.ch,e.af+e.ay,e.af,e.ay,0,0,0⟩]) cz dy rfl)<|cm 11 rfl (zP 2084 cz dy jL rfl (Src.own rfl rfl))<|cm 19 rfl (zP 2084 cz dy jL rfl (Src.sub rfl rfl))<|yq 20 (rc rfl)<|yq 21 (rf 0 dR rfl)<|yq 22 (rf 3 dr rfl)<|yl rfl (zB 0 sM sN rfl)<|gT ?_;refine⟨(),trivial,trivial,⟨(congrArg (AO.ai 159 7) (DN.trans (congrArg (ah aX) (by unfold ly;rw[wK])))),rfl,trivial⟩,rfl,rfl⟩
  refine oe.st (i:=10) rfl (BO 2086 (rows:=ah aX [⟨e.ch,e.af+e.ay,e.af,e.ay,0,0,0⟩]) rfl rfl (by decide) cz dy rfl rfl rfl rfl (by intro r hr;simp[ah]at hr;subst hr;rfl) rfl (by decide) (by decide)) (by decide) rfl ?_;refine cm 8 rfl (qJ 2084 rfl rfl (by decide) cz dy rfl (by decide) rfl (Src.sub rfl rfl) (by simp[ah,maxLen]at *;omega) (Nat.le_trans (Nat.mul_le_mul_left _ jL) (by simp[ah]at *;omega)))<|cm 11 rfl (zP 2084 cz dy jL rfl (Src.own rfl rfl))<|cm 19 rfl (zP 2084 cz dy jL rfl (Src.sub rfl rfl))<|yq 20 (rc rfl)<|yq 21 (rf 0 dR rfl)<|yq 22 (rf 3 dr rfl)<|yl rfl (zB 0 sM sN rfl)<|gT ?_;refine⟨(),trivial,trivial,⟨(congrArg (AO.ai 159 7) (DN.trans (congrArg (ah aX) (by unfold ly;rw[wK])))),rfl,trivial⟩,rfl,rfl⟩
 intro jd hJ;refine aS ?_;refine AW.swap 2084 1 ?_;refine aT [0,3] [0,1,2,3,4,2003,2005] ?_;refine aG 11 []<|tq 0 (cG Z)<|tq 1 (rc Z)<|tq 2 (rf 0 dR Z)<|tq 3 (rf 2 iW Z)<|tq 4 (aZ ac Z)<|yq 5 (rf 4 bN Z)<|yq 6 (aZ ac Z) ?_;refine yq 7 (iC rfl ⟨rfl,ce (by have:=es.af;have:=es.ay;have:=sm.aA;unfold bk at *;unfold i64;omega)⟩)<|yq 8 (rc rfl)<|yq 9 (rf 0 dR rfl)<|yq 10 (rf 2 iW rfl)<|yl rfl (zB 0 ca cb rfl)<|gA<|aM Z<|lf 2 dn Z<|aj ac Z<|lf 4 bN Z<|aj ac rfl ?_;refine ab (bF func112 (lU _ _ _ _ _ _ _ _ _ _ _ _ _ _ ([]) 0 (LG.nil) (by decide) _ _ _ (cL.nil _ _) (gP es.af)) (⟨stays.box rfl,trivial⟩) rfl rfl) Z<|lT [0,3] [0,1,2,3,4,2003,2005] ?_;refine Y<|aL<|aM Z<|lf 4 bN Z<|aj ac Z<|lq (rd (x:=U _ _) (il rfl rfl (ce (by have:=es.af;have:=es.ay;have:=sm.aA;unfold bk at *;unfold i64;omega))) rfl) ?_;refine ab (bF func112 (lU _ _ _ _ _ _ _ _ _ _ _ _ _ _ (bR [] 6 e.ch e.af) 1 (LG.nil.add (gP es.af)) (by decide) _ _ _ ((cL.nil _ _).add (.inl (by decide))) (jM es.af)) (⟨stays.box rfl,trivial⟩) rfl rfl) Z<|lN ?_;rw[tK cQ];refine iZ ?_ ⟨(Eq.trans (b:=cN g x.tick x.next (x.aA-e.af) _) rfl (congrArg (cN g x.tick x.next (x.aA-e.af)) cQ)),rfl,rfl,rfl,rfl,trivial⟩;rfl
end Go.Proofs.YtflhgkmhmcfimaaGreat

