/- Texts of the proof of FnFnExactHubOpen, joined: EH1, EG2, EH2, EU1, E35, E37, EU2, EV1, E36, EW1. -/
import Derived.Test.YtflhgkmhmcfimaaGreatJHubOpen19
import Derived.Test.YtflhgkmhmcfimaaGreatJHubOpen5
import Derived.Test.YtflhgkmhmcfimaaGreatJHubOpen13
import Derived.Test.YtflhgkmhmcfimaaGreatJHubOpen4
import Derived.Test.YtflhgkmhmcfimaaGreatJHubOpen3
import Derived.Test.YtflhgkmhmcfimaaGreatJHubOpen15
namespace Go.Proofs.YtflhgkmhmcfimaaGreat
open Tryz
open Go.RowKit
set_option maxHeartbeats 16000000
set_option maxRecDepth 100000
set_option linter.unusedSimpArgs false
set_option linter.unusedVariables false
def jQ(x:aO)(s:Bool×List aO)(y:aO):Bool×List aO:=
 if s.1=true then (true,s.2++[y])else if cg y.acc x.acc=true then (false,s.2++[y])else
 if y.acc.kind=x.acc.kind/\y.acc.ch=x.acc.ch then (true,if y.af+x.af=0 then s.2 else s.2++[⟨y.acc,y.af+x.af⟩])else (true,s.2++[x]++[y])
def iE(x:aO)(l:List aO):Bool×List aO:=l.foldl (jQ x) (false,[])
theorem BU{x:aO}{l:List aO}{k:Nat}(h:k<l.length):iE x (l.take (k+1))=jQ x (iE x (l.take k)) l[k]:=by
 grind[iE,List.take_succ_eq_append_getElem]
theorem GD{x y:aO}{s:Bool×List aO}(h:s.1=true):jQ x s y=(true,s.2++[y]):=if_pos h
theorem GE{x y:aO}{s:Bool×List aO}(h:s.1=false)(h2:cg y.acc x.acc=true):jQ x s y=(false,s.2++[y]):=by simp_all[jQ]
theorem GF{x y:aO}{s:Bool×List aO}(h:s.1=false)(h2:cg y.acc x.acc=false)(h3:¬(y.acc.kind=x.acc.kind/\y.acc.ch=x.acc.ch)):jQ x s y=(true,s.2++[x]++[y]):=by simp_all[jQ]
theorem GG{x y:aO}{s:Bool×List aO}(h:s.1=false)(h2:cg y.acc x.acc=false)(h3:y.acc.kind=x.acc.kind/\y.acc.ch=x.acc.ch)(h4:¬y.af+x.af=0):jQ x s y=(true,s.2++[⟨y.acc,y.af+x.af⟩]):=by simp_all[jQ]
theorem GH{x y:aO}{s:Bool×List aO}(h:s.1=false)(h2:cg y.acc x.acc=false)(h3:y.acc.kind=x.acc.kind/\y.acc.ch=x.acc.ch)(h4:y.af+x.af=0):jQ x s y=(true,s.2):=by simp_all[jQ]
theorem D0{x:aO}:∀(l o:List aO),l.foldl (jQ x) (true,o)=(true,o++l)
 |[],o=>by simp
 |y::l,o=>by rw[List.foldl_cons,GD rfl,D0 l];simp
theorem GI{x:aO}:∀(l o:List aO),(if (l.foldl (jQ x) (false,o)).1=true then (l.foldl (jQ x) (false,o)).2 else (l.foldl (jQ x) (false,o)).2++[x])=o++kc l x
 |[],o=>by rfl
 |y::l,o=>by
  rw[List.foldl_cons];unfold kc;by_cases V:cg y.acc x.acc=true
  ·rw[GE rfl V,GI l,if_pos V];simp
  have pD:cg y.acc x.acc=false:=by simpa using V
  rw[if_neg V];by_cases h2:y.acc.kind=x.acc.kind/\y.acc.ch=x.acc.ch
  ·rw[if_pos h2];by_cases h3:y.af+x.af=0
   ·rw[GH rfl pD h2 h3,D0,if_pos h3];simp
   rw[GG rfl pD h2 h3,D0,if_neg h3];simp
  simp_all[GF,D0]
theorem Lp{x:aO}{l:List aO}(h:(iE x l).1=true):(iE x l).2=kc l x:=by
 have:=GI (x:=x) l [];rw[if_pos (show (l.foldl (jQ x) (false,[])).1=true from h)]at this;exact this
theorem Lq{x:aO}{l:List aO}(h:(iE x l).1=false):(iE x l).2++[x]=kc l x:=by
 have:=GI (x:=x) l [];rw[if_neg (show ¬(l.foldl (jQ x) (false,[])).1=true from by rw[show (l.foldl (jQ x) (false,[])).1=false from h];simp)]at this;exact this
theorem S6(x:aO)(s:Bool×List aO)(y:aO):(jQ x s y).2.length+(if (jQ x s y).1=true then 0 else 1)<=s.2.length+1+(if s.1=true then 0 else 1):=by
 grind[GD,cg,GE,GH,GG,GF]
theorem yC{x:aO}(l:List aO):(iE x l).2.length<=l.length+1:=by
 have key:∀(l:List aO) (s:Bool×List aO),(l.foldl (jQ x) s).2.length+(if (l.foldl (jQ x) s).1=true then 0 else 1)<=s.2.length+l.length+(if s.1=true then 0 else 1):=by
  intro l;induction l with
  |nil=>intro s;exact Nat.le_refl _
  |cons y l ih=>
   intro s;rw[List.foldl_cons];have V:=ih (jQ x s y);have h2:=S6 x s y;simp only[List.length_cons];omega
 grind[iE]
def wP(b:Int)(l:List aO):Prop:=∀z∈l,-b<=z.af/\z.af<=b
theorem Lr{b c:Int}{x:aO}(hc:0<=c)(hb:0<=b)(hx:-c<=x.af/\x.af<=c):∀ {l:List aO},wP b l->wP (b+c) (kc l x)
 |[],_=>fun z hz=>by grind[kc]
 |y::l,h=>by
  have hy:=h y (by simp);have hl:wP b l:=fun z hz=>h z (by simp[hz]);have ih:=Lr hc hb hx hl;intro z hz;unfold kc at hz;split at hz
  ·rcases List.mem_cons.1 hz with rfl|hz
   ·omega
   exact ih z hz
  split at hz
  ·split at hz
   ·have:=hl z hz;omega
   rcases List.mem_cons.1 hz with rfl|hz
   ·grind
   have:=hl z hz;omega
  rcases List.mem_cons.1 hz with rfl|hz
  ·omega
  have:=h z hz;omega
theorem S7{x:aO}(l:List aO):(kc l x).length<=l.length+1:=by
 have:=yC (x:=x) l;by_cases q:(iE x l).1=true
 ·grind[Lp]
 have e:=Lq (x:=x) (l:=l) (by simpa using q);have key:∀(l:List aO),(kc l x).length<=l.length+1:=by
  intro l;induction l with
  |nil=>unfold kc;simp
  |cons y l ih=>
   unfold kc;split
   ·simp;omega
   split
   ·split
    ·simp;omega
    simp
   simp
 grind
theorem S8(a:Acc):GC prog 275 [.agg [int a.kind,int a.ch]] [] (aD (nd a)) []:=by
 refine gi 2 func275 rfl ntmps275 rfl ?_;intro L O w0;refine sL<|ab (zX 2001 Z) Z<|ar Z<|Y<|aS<|sL<|lf 0 oW Z<|aj ac Z<|ak Z<|aQ Z ?_;refine AL.bool (t:=6) rfl ?_ ?_
 ·intro V;refine aa Z<|aa Z<|aa Z<|aU Z<|Y<|aY Z<|sL<|ar Z<|Y<|aR<|rT ?_;refine az trivial ?_;refine Bool.eq_iff_iff.2 ?_;rw[ve];grind
 intro V;refine lf 0 oW Z<|aj ac Z<|ak Z<|bj Z<|Y ?_;refine AW.cond rfl ?_ ?_
 ·intro h2;refine sL<|ar Z<|Y<|aR<|rT ?_;refine az trivial ?_;refine Bool.eq_iff_iff.2 ?_;rw[ve];grind
 intro h2;refine aK<|gT<|aS<|sL<|lf 0 oW Z<|aj ac Z<|ak Z<|Y ?_;refine AW.cond rfl ?_ ?_
 ·intro h3;refine sL<|lf 1 rV Z<|aj ac Z<|ak Z<|bv Z<|Y<|aR<|rT ?_;refine az trivial ?_;refine Bool.eq_iff_iff.2 ?_;rw[ve];grind
 intro h3;refine aK<|gA<|lf 1 rV Z<|aj ac Z<|ak Z<|aQ Z ?_;refine AL.bool (t:=20) rfl ?_ ?_
 ·intro h4;refine lf 1 rV Z<|aj ac Z<|ak Z<|bj Z<|bv Z<|Y<|aR ?_;refine az trivial ?_;refine Bool.eq_iff_iff.2 ?_;simp_all[ve]
 intro h4;refine aa Z<|aa Z<|aa Z<|bL Z<|lT [2,24] [2001] ?_;refine ar Z<|Y<|aR ?_;refine az trivial ?_;refine Bool.eq_iff_iff.2 ?_;rw[ve];grind
theorem Ls(n:Int):GC prog 276 [int n] [] (aD (dL n)) []:=by
 refine gi 2 func276 rfl ntmps276 rfl ?_;intro L O w0;refine sL<|ar Z<|nA<|ae Z<|ak Z<|aQ Z ?_;refine AL.bool (t:=5) rfl ?_ ?_
 ·intro V;refine ae Z<|ak Z<|bj Z<|bv Z<|Y<|aR ?_;refine az trivial ?_;grind[dL,aI]
 intro V;refine aa Z<|aa Z<|bL Z<|ar Z<|Y<|aR ?_;refine az trivial ?_;grind[dL,aI]
theorem Lt(l:List aO)(hn:l.length<=320):GC prog 262 [.p (.ab 167 3 (ah ct l))] [] (aD (rW l)) []:=by
 refine gi 2 func262 rfl ntmps262 rfl ?_;intro L O w0;refine sL<|ar Z<|nA<|ao Z<|Y<|aS<|sL<|bm Z<|ba hZ Z<|ae Z<|Y<|aB ?_;refine aW [0,2,6,7] [] (D:=Nat) (fun k=>[(3,int (bG qh (l.take k))),(8,int (k:Int))]) (fun k=>[]) (fun k=>k<=l.length/\∀j,j<k->oX l j=true) (fun k=>l.length-k) (0) (⟨Nat.zero_le _,fun j h=>absurd h (by omega)⟩) ⟨rfl,rfl,trivial⟩ trivial ?_;intro k hI;obtain⟨eN,bB⟩:=hI;refine sL<|ak Z<|Y<|aS ?_;refine AW.cond rfl ?_ ?_
 ·intro V;refine aK<|gT<|aS<|aB<|sL<|ae Z ?_;have hk:k<l.length:=by simpa[ap]using V
  refine li k cV Z (bS hk)<|d6 (.agg [U _ _,U _ _,U _ _]) iV Z<|ab (zA 2005 eP Z) Z<|ao Z<|ab (zB 2005 vf vg Z) Z<|Y<|aS<|aS<|aG 34 []<|yq 0 (rf 0 jf Z)<|yq 1 (dw (.agg [U _ _,U _ _]) i0 Z)<|cm 2 Z (zC [] [] [] func275 (S8 l[k].acc) (trivial) Z Z)<|gX [0,2,3,4,5,6,7,8,15] [2005] ?_;refine yq 3 (gQ Z)<|yq 4 (dx Z) ?_;refine AG.bool (t:=17) rfl ?_ ?_
  ·intro h2;refine bt 5 Z<|bt 6 Z<|bt 7 Z<|ep 8 Z<|ep 9 Z<|ep 10 Z<|ep 11 Z<|ep 12 Z<|ep 13 Z<|bt 14 Z<|bt 15 Z<|bt 16 Z<|bt 17 Z<|bt 18 Z<|yq 19 (bA Z)<|yq 20 (cF Z)<|bt 21 Z<|bt 22 Z<|bt 23 Z<|bt 24 Z<|yq 25 (bA Z)<|yq 26 (cF Z)<|bt 27 Z<|bt 28 Z<|bt 29 Z<|yq 30 (bA Z)<|yq 31 (cF Z)<|bt 32 Z<|bt 33 Z<|yq 34 (bA Z) ?_;refine gD<|gT<|aY Z<|sL<|ar Z<|Y<|aR<|rT<|rB<|rT<|rT<|rB<|rT ?_;refine az trivial ?_;first|(exfalso;simp only[decide_eq_true_eq]at *;omega)|grind[rX,lX]
  intro h2;refine yq 5 (dW Z)<|yq 6 (dt Z)<|yq 7 (dx Z) ?_;refine AG.bool (t:=20) rfl ?_ ?_
  ·intro h3;refine tq 8 (ng Z)<|tq 9 (dW Z) ?_;have hp:0<k:=by simpa using h3
   refine tq 10 (qV rfl (by grind[i64]))<|tq 11 (rd (x:=.rp _) (yt (i:=k-1) rfl cV rfl rfl ?hn1 (bS (by omega:k-1<l.length))) rfl) ?_;case hn1=>omega
   refine tq 12 (rd (x:=.rp _) (nM jf rfl) rfl)<|tq 13 (gm (.agg [U _ _,U _ _]) i0 rfl)<|yq 14 (rf 0 jf rfl)<|yq 15 (dw (.agg [U _ _,U _ _]) i0 rfl)<|cm 16 rfl (zC [] [] [] func263 (GJ (l[k-1]'(by omega)).acc l[k].acc) (trivial) rfl rfl)<|gX [0,2,3,4,5,6,7,8,17,20,29] [2005] ?_;refine yq 17 (gQ Z)<|yq 18 (cv Z)<|yq 19 (cv Z)<|yq 20 (dx Z) ?_;refine AG.bool (t:=33) rfl ?_ ?_
   ·intro h4;refine bt 21 Z<|bt 22 Z<|bt 23 Z<|bt 24 Z<|yq 25 (bA Z)<|yq 26 (cF Z)<|bt 27 Z<|bt 28 Z<|bt 29 Z<|yq 30 (bA Z)<|yq 31 (cF Z)<|bt 32 Z<|bt 33 Z<|yq 34 (bA Z)<|gD<|gT<|aY Z<|sL<|ar Z<|Y<|aR<|rT<|rB<|rT<|rT<|rB<|rT ?_;refine az trivial ?_;first|(exfalso;simp only[decide_eq_true_eq]at *;omega)|grind[rX,lX,nV]
   intro h4;refine yq 21 (rf 2 ni Z)<|yq 22 (aZ ac Z)<|cm 23 Z (zC [] [] [] func276 (Ls l[k].af) (trivial) Z Z)<|yq 24 (gQ Z)<|yq 25 (cv Z)<|yq 26 (dx Z) ?_;refine AG.bool (t:=39) rfl ?_ ?_
   ·intro h5;refine bt 27 Z<|bt 28 Z<|bt 29 Z<|yq 30 (bA Z)<|yq 31 (cF Z)<|bt 32 Z<|bt 33 Z<|yq 34 (bA Z)<|gD<|gT<|aY Z<|sL<|ar Z<|Y<|aR<|rT<|rB<|rT<|rT<|rB<|rT ?_;refine az trivial ?_;first|(exfalso;simp only[decide_eq_true_eq]at *;omega)|grind[rX,lX]
   intro h5;refine yq 27 (rf 2 ni Z)<|yq 28 (aZ ac Z)<|yq 29 (dt Z)<|yq 30 (cv Z)<|yq 31 (dx Z) ?_;refine AG.bool (t:=44) rfl ?_ ?_
   ·intro h6;refine bt 32 Z<|bt 33 Z<|yq 34 (bA Z)<|gD<|gT<|aY Z<|sL<|ar Z<|Y<|aR<|rT<|rB<|rT<|rT<|rB<|rT ?_;refine az trivial ?_;first|(exfalso;simp only[decide_eq_true_eq]at *;omega)|grind[rX,lX]
   intro h6;refine yq 32 (dW Z)<|yq 33 (dt Z)<|yq 34 (cv Z)<|gX [0,2,3,5,6,7,8,47] [2005] ?_;refine gD<|gT ?_;refine AW.cond rfl ?_ ?_
   ·intro h7;refine sL<|ar Z<|Y<|aR<|rT<|rB<|rT<|rT<|rB<|rT ?_;grind
   intro h7;refine aK<|gT<|aL<|ae Z<|lf 2 ni Z<|aj ac Z ?_;have yD:vh l k l[k]=true:=by
    rcases Nat.eq_zero_or_pos k with q|q
    ·omega
    grind[nV]
   have kd:oX l k=true:=by rw[lX hk,yD];simp_all[dL]
   have yE:dL l[k].af=true:=by rw[lX hk]at kd;simp only[Bool.and_eq_true]at kd;exact kd.1.2
   refine eo rfl ⟨rfl,D1 (by omega) hk bB yE⟩<|ao Z<|lN<|gB<|gT<|aL<|bg Z<|ae Z<|Y ?_;refine⟨k+1,⟨hk,fun j hj=>(Nat.lt_or_ge j k).elim (bB j) (fun q=>by grind)⟩,by omega,⟨(Eq.trans (b:=int _) rfl (congrArg int (oJ qh l hk).symm)),(iq rfl),trivial⟩,trivial,rfl,rfl⟩
  intro h3;refine ep 8 Z<|ep 9 Z<|ep 10 Z<|ep 11 Z<|ep 12 Z<|ep 13 Z<|bt 14 Z<|bt 15 Z<|bt 16 Z<|bt 17 Z<|yq 18 (kK Z)<|yq 19 (kK Z)<|yq 20 (rG Z)<|yq 21 (rf 2 ni Z)<|yq 22 (aZ ac Z)<|cm 23 Z (zC [] [] [] func276 (Ls l[k].af) (trivial) Z Z)<|gX [0,2,3,4,5,6,7,8,33,36] [2005] ?_;refine yq 24 (gQ Z)<|yq 25 (cv Z)<|yq 26 (dx Z) ?_;refine AG.bool (t:=39) rfl ?_ ?_
  ·intro h8;refine bt 27 Z<|bt 28 Z<|bt 29 Z<|yq 30 (bA Z)<|yq 31 (cF Z)<|bt 32 Z<|bt 33 Z<|yq 34 (bA Z)<|gD<|gT<|aY Z<|sL<|ar Z<|Y<|aR<|rT<|rB<|rT<|rT<|rB<|rT ?_;refine az trivial ?_;first|(exfalso;simp only[decide_eq_true_eq]at *;omega)|grind[rX,lX]
  intro h8;refine yq 27 (rf 2 ni Z)<|yq 28 (aZ ac Z)<|yq 29 (dt Z)<|yq 30 (cv Z)<|yq 31 (dx Z) ?_;refine AG.bool (t:=44) rfl ?_ ?_
  ·intro h9;refine bt 32 Z<|bt 33 Z<|yq 34 (bA Z)<|gD<|gT<|aY Z<|sL<|ar Z<|Y<|aR<|rT<|rB<|rT<|rT<|rB<|rT ?_;refine az trivial ?_;first|(exfalso;simp only[decide_eq_true_eq]at *;omega)|grind[rX,lX]
  intro h9;refine yq 32 (dW Z)<|yq 33 (dt Z)<|yq 34 (cv Z)<|gD<|gT ?_;refine AW.cond rfl ?_ ?_
  ·intro dh;refine sL<|ar Z<|Y<|aR<|rT<|rB<|rT<|rT<|rB<|rT ?_;grind
  intro dh;refine aK<|gT<|aL<|ae Z<|lf 2 ni Z<|aj ac Z ?_;have yD:vh l k l[k]=true:=by
   rcases Nat.eq_zero_or_pos k with q|q
   ·subst q;rfl
   grind
  have kd:oX l k=true:=by rw[lX hk,yD];simp_all[dL]
  have yE:dL l[k].af=true:=by rw[lX hk]at kd;simp only[Bool.and_eq_true]at kd;exact kd.1.2
  refine eo rfl ⟨rfl,D1 (by omega) hk bB yE⟩<|ao Z<|lN<|gB<|gT<|aL<|bg Z<|ae Z<|Y ?_;refine⟨k+1,⟨hk,fun j hj=>(Nat.lt_or_ge j k).elim (bB j) (fun q=>by grind)⟩,by omega,⟨(Eq.trans (b:=int _) rfl (congrArg int (oJ qh l hk).symm)),(iq rfl),trivial⟩,trivial,rfl,rfl⟩
 intro V;refine aE<|eT<|eT<|eB<|gA<|ae Z<|ak Z<|bv Z<|Y<|aR ?_;refine az trivial ?_;have yF:¬k<l.length:=by simpa[ap]using V
 obtain rfl:k=l.length:=by omega
 simp_all[D2,vi]
theorem BV(x:cH):GC prog 207 [cR x] [] (aD (eQ x)) []:=by
 refine gi 2 func207 rfl ntmps207 rfl ?_;intro L O w0;refine sL<|ab (zX 2001 Z) Z<|ar Z<|nA<|lf 0 pW Z<|aj ac Z<|ak Z<|aQ Z ?_;refine AL.bool (t:=6) rfl ?_ ?_
 ·intro V;refine lf 0 pW Z<|aj ac Z<|ak Z<|bj Z<|aQ Z ?_;refine AL.bool (t:=11) rfl ?_ ?_
  ·intro h2;refine lf 1 jY Z<|bo gY Z<|ba hZ Z<|ak Z<|bj Z<|aQ Z ?_;refine AL.bool (t:=17) rfl ?_ ?_
   ·intro h3;refine lf 1 jY Z<|bo gY Z<|ab (zC [] [] [] func262 (Lt x.lines (by have h:=h3;simp only[ap,decide_eq_true_eq]at h;omega)) (trivial) rfl rfl) Z<|lT [2,17,20] [2001] ?_;refine bj Z<|bv Z<|Y<|aR ?_;refine az trivial ?_;grind[eQ,ap,aI]
   intro h3;refine aa Z<|aa Z<|aa Z<|bL Z<|ar Z<|Y<|aR ?_;refine az trivial ?_;grind[eQ,ap]
  intro h2;refine aa Z<|aa Z<|aa Z<|aa Z<|bL Z<|dm Z<|aa Z<|aa Z<|aa Z<|bL Z<|ar Z<|Y<|aR ?_;refine az trivial ?_;grind[eQ,aI]
 intro V;refine aa Z<|aa Z<|aa Z<|bL Z<|dm Z<|aa Z<|aa Z<|aa Z<|aa Z<|bL Z<|dm Z<|aa Z<|aa Z<|aa Z<|bL Z<|ar Z<|Y<|aR ?_;refine az trivial ?_;grind[eQ,aI]
theorem S9(n:Int)(l:List aO):GC prog 208 [.agg [int n,.p (.ab 167 3 (ah ct l))]] [] (aD (iL n l)) []:=by
 refine gi 2 func208 rfl ntmps208 rfl ?_;intro L O w0;refine sL<|ab (zX 2001 Z) Z<|ar Z<|nA<|lf 0 wN Z<|aj ac Z<|ak Z<|aQ Z ?_;refine AL.bool (t:=6) rfl ?_ ?_
 ·intro V;refine lf 0 wN Z<|aj ac Z<|ak Z<|bj Z<|aQ Z ?_;refine AL.bool (t:=11) rfl ?_ ?_
  ·intro h2;refine lf 1 t7 Z<|bo gY Z<|ba hZ Z<|ak Z<|bj Z<|aQ Z ?_;refine AL.bool (t:=17) rfl ?_ ?_
   ·intro h3;refine lf 1 t7 Z<|bo gY Z<|ba hZ Z<|ak Z<|bj Z<|aQ Z ?_;refine AL.bool (t:=23) rfl ?_ ?_
    ·intro h4;refine lf 1 t7 Z<|bo gY Z<|ab (zC [] [] [] func262 (Lt l (by have h:=h4;simp only[ap,decide_eq_true_eq]at h;omega)) (trivial) rfl rfl) Z<|lT [2,23,26] [2001] ?_;refine bj Z<|bv Z<|Y<|aR ?_;refine az trivial ?_;grind[iL,ap,aI]
    intro h4;refine aa Z<|aa Z<|aa Z<|bL Z<|ar Z<|Y<|aR ?_;refine az trivial ?_;grind[iL,ap,aI]
   intro h3;refine aa Z<|aa Z<|aa Z<|aa Z<|bL Z<|dm Z<|aa Z<|aa Z<|aa Z<|bL Z<|ar Z<|Y<|aR ?_;refine az trivial ?_;grind[iL,ap,aI]
  intro h2;refine aa Z<|aa Z<|aa Z<|aa Z<|bL Z<|dm Z<|aa Z<|aa Z<|aa Z<|aa Z<|bL Z<|dm Z<|aa Z<|aa Z<|aa Z<|bL Z<|ar Z<|Y<|aR ?_;refine az trivial ?_;grind[iL,aI]
 intro V;refine aa Z<|aa Z<|aa Z<|bL Z<|dm Z<|aa Z<|aa Z<|aa Z<|aa Z<|bL Z<|dm Z<|aa Z<|aa Z<|aa Z<|aa Z<|bL Z<|dm Z<|aa Z<|aa Z<|aa Z<|bL Z<|ar Z<|Y<|aR ?_;refine az trivial ?_;grind[iL,aI]
theorem GK(l:List aO)(x:aO)(hn:l.length<=1000)(hb:wP 1152921504606846976 l)(hx:-1152921504606846976<=x.af/\x.af<=1152921504606846976):GC prog 209 [.p (.ab 167 3 (ah ct l)),.agg [int x.acc.kind,int x.acc.ch,int x.af]] [] (.own 2009) [(2009,dc (kc l x))]:=by
 refine gi 4 func209 rfl ntmps209 rfl ?_;intro L O w0;refine sL<|ab (zX 2003 rfl) Z<|e9 Z<|nA<|ab (zS 2009 [] cV eP rfl (by simp)) Z<|bD Z<|nA<|ar Z<|Y<|aS<|sL<|bm Z<|ba hZ Z<|ae Z<|Y<|aB ?_;refine aW [3,4,5,10,11] [2003] (D:=Nat) (fun k=>[(6,aD (iE x (l.take k)).1),(12,int (k:Int))]) (fun k=>[(2009,dc (iE x (l.take k)).2)]) (fun k=>k<=l.length) (fun k=>l.length-k) (0) (Nat.zero_le _) ⟨rfl,rfl,trivial⟩ ⟨rfl,trivial⟩ ?_;intro k hI;refine sL<|ak Z<|Y<|aS ?_;refine AW.cond rfl ?_ ?_
 ·intro V;refine aK<|gT<|aS<|aB<|sL ?_;have hk:k<l.length:=by simpa[ap]using V
  have hyb:=hb _ (List.getElem_mem hk);refine li k cV Z (bS hk)<|d6 (.agg [U _ _,U _ _,U _ _]) iV Z<|ab (zA 2008 eP Z) Z<|ab (zB 2008 vf vg Z) Z<|Y<|aS<|sL<|aQ Z<|bX Z<|aQ Z ?_;refine AL.bool (t:=18) rfl ?_ ?_
  ·intro h2;refine lf 0 jf Z<|aP (.agg [U _ _,U _ _]) i0 Z<|lf 0 jf Z<|aP (.agg [U _ _,U _ _]) i0 Z<|ab (zC [] [] [] func263 (GJ l[k].acc x.acc) (trivial) Z Z) Z<|lT [3,4,5,6,8,10,11,12,18,23] [2003,2008,2009] ?_;refine bX Z<|bj Z<|Y ?_;refine AW.cond rfl ?_ ?_
   ·intro h3;refine aS<|sL<|lf 0 jf Z<|aP (.agg [U _ _,U _ _]) i0 Z<|lf 0 jf Z<|aP (.agg [U _ _,U _ _]) i0 Z<|lq (rd (x:=vB _) (j0 rfl (.inr rfl) rfl rfl uR wA wB Ad ?hn1) rfl) ?_;case hn1=>exact⟨rfl,by decide,rfl,⟨_,underlying3⟩,rfl,by decide,rfl,⟨_,underlying3⟩,trivial⟩
    refine Y ?_;refine AW.cond rfl ?_ ?_
    ·intro h4;refine aL<|bW Z<|aP (.agg [U _ _,U _ _,U _ _]) iV Z<|ab (zS 2033 (ah ct [x]) cV eP rfl) Z<|ab (zP 2009 cV eP lE rfl (Src.own rfl rfl) (by grind[yC,ah])) Z<|bD Z<|nA<|cI Z<|nA<|lf 0 jf Z<|aP (.agg [U _ _,U _ _]) i0 Z<|lf 0 jf Z<|aP (.agg [U _ _,U _ _]) i0 Z<|lq (rd (x:=vB _) (j0 rfl (.inl rfl) rfl rfl uR wA wB Ad ?hn2) rfl) ?_;case hn2=>exact⟨rfl,by decide,rfl,⟨_,underlying3⟩,rfl,by decide,rfl,⟨_,underlying3⟩,trivial⟩
     refine bJ 56 false rfl (by grind)<|Y<|aN Z<|aK<|gT<|aL<|bW Z<|aP (.agg [U _ _,U _ _,U _ _]) iV Z<|ab (zS 2059 (ah ct [l[k]]) cV eP rfl) Z<|lT [3,4,5,6,10,11,12,57,59] [2003,2008,2009,2033,2059] ?_;refine ab (zP 2009 cV eP lE rfl (Src.own rfl rfl) (by grind[yC,ah])) Z<|bD Z<|lN<|gB<|gT<|aL<|bg Z<|ae Z<|Y ?_;have dM:iE x (l.take (k+1))=jQ x (iE x (l.take k)) l[k]:=BU hk;have sZ:(iE x (l.take k)).1=false:=by simpa using h2
     have dY:cg l[k].acc x.acc=false:=by simpa using h3
     have BW:¬(l[k].acc.kind=x.acc.kind/\l[k].acc.ch=x.acc.ch):=by have h:=h4;simp only[dA,Bool.and_true,Bool.and_eq_true,Bool.not_eq_true',Bool.and_eq_false_iff,Bool.not_eq_false',beq_iff_eq,beq_eq_false_iff_ne]at h;omega
     rw[GF sZ dY BW]at dM;refine⟨k+1,hk,by omega,⟨(Eq.trans (b:=aD true) rfl (congrArg aD (by rw[dM]))),(iq rfl),trivial⟩,⟨(Eq.trans (b:=dc ((iE x (l.take k)).2++[x]++[l[k]])) (congrArg (AO.ai 167 3) (by grind[fx])) (congrArg dc (by rw[dM]))),trivial⟩,rfl,rfl⟩
    intro h4;refine sL<|lf 2 ni Z<|aj ac Z<|lf 2 ni Z<|aj ac Z<|bg Z<|ak Z<|Y ?_;refine AW.cond rfl ?_ ?_
    ·intro h5;refine aL<|bW Z<|lf 0 jf Z<|aP (.agg [U _ _,U _ _]) i0 Z<|lf 2 ni Z<|aj ac Z<|lf 2 ni Z<|aj ac Z<|bg Z<|lq (rd (x:=.agg [U _ _,U _ _,U _ _]) (cP Z DK Z Z Z) Z) ?_;refine ab (zS 2050 (ah ct [⟨l[k].acc,l[k].af+x.af⟩]) cV eP rfl) Z<|lT [3,4,5,6,8,10,11,12,41,50] [2003,2008,2009,2050] ?_;refine ab (zP 2009 cV eP lE rfl (Src.own rfl rfl) (by grind[yC,ah])) Z<|bD Z<|nA<|cI Z<|nA<|lf 0 jf Z<|aP (.agg [U _ _,U _ _]) i0 Z<|lf 0 jf Z<|aP (.agg [U _ _,U _ _]) i0 Z<|lq (rd (x:=vB _) (j0 rfl (.inl rfl) rfl rfl uR wA wB Ad ?hn3) rfl) ?_;case hn3=>exact⟨rfl,by decide,rfl,⟨_,underlying3⟩,rfl,by decide,rfl,⟨_,underlying3⟩,trivial⟩
     refine bJ 56 true rfl (by grind)<|Y<|aY Z<|aE<|eT<|eB<|gT<|aL<|bg Z<|ae Z<|Y ?_;have dM:iE x (l.take (k+1))=jQ x (iE x (l.take k)) l[k]:=BU hk;have sZ:(iE x (l.take k)).1=false:=by simpa using h2
     have dY:cg l[k].acc x.acc=false:=by simpa using h3
     have BW:(l[k].acc.kind=x.acc.kind/\l[k].acc.ch=x.acc.ch):=by have h:=h4;simp only[dA,Bool.and_true,Bool.and_eq_true,Bool.not_eq_true',Bool.and_eq_false_iff,Bool.not_eq_false',beq_iff_eq,beq_eq_false_iff_ne]at h;omega
     have wQ:¬l[k].af+x.af=0:=by simpa using h5
     rw[GG sZ dY BW wQ]at dM;refine⟨k+1,hk,by omega,⟨(Eq.trans (b:=aD true) rfl (congrArg aD (by rw[dM]))),(iq rfl),trivial⟩,⟨(Eq.trans (b:=dc ((iE x (l.take k)).2++[⟨l[k].acc,l[k].af+x.af⟩])) (congrArg (AO.ai 167 3) (fx ct _ [_]).symm) (congrArg dc (by rw[dM]))),trivial⟩,rfl,rfl⟩
    intro h5;refine aK<|gA<|cI Z<|nA<|lf 0 jf Z<|aP (.agg [U _ _,U _ _]) i0 Z<|lf 0 jf Z<|aP (.agg [U _ _,U _ _]) i0 Z<|lq (rd (x:=vB _) (j0 rfl (.inl rfl) rfl rfl uR wA wB Ad ?hn4) rfl) ?_;case hn4=>exact⟨rfl,by decide,rfl,⟨_,underlying3⟩,rfl,by decide,rfl,⟨_,underlying3⟩,trivial⟩
    refine bJ 56 true rfl (by grind)<|Y<|aY Z<|aE<|eT<|eB<|gT<|aL<|bg Z<|ae Z<|Y ?_;have dM:iE x (l.take (k+1))=jQ x (iE x (l.take k)) l[k]:=BU hk;have sZ:(iE x (l.take k)).1=false:=by simpa using h2
    have dY:cg l[k].acc x.acc=false:=by simpa using h3
    have BW:(l[k].acc.kind=x.acc.kind/\l[k].acc.ch=x.acc.ch):=by have h:=h4;simp only[dA,Bool.and_true,Bool.and_eq_true,Bool.not_eq_true',Bool.and_eq_false_iff,Bool.not_eq_false',beq_iff_eq,beq_eq_false_iff_ne]at h;omega
    have wQ:l[k].af+x.af=0:=by simpa using h5
    rw[GH sZ dY BW wQ]at dM;refine⟨k+1,hk,by omega,⟨(Eq.trans (b:=aD true) rfl (congrArg aD (by rw[dM]))),(iq rfl),trivial⟩,⟨(Eq.trans (b:=dc ((iE x (l.take k)).2)) rfl (congrArg dc (by rw[dM]))),trivial⟩,rfl,rfl⟩
   intro h3;refine aK<|gT<|aL<|bW Z<|aP (.agg [U _ _,U _ _,U _ _]) iV Z<|ab (zS 2059 (ah ct [l[k]]) cV eP Z) Z<|lT [3,4,5,6,10,11,12,57,59] [2003,2008,2009,2059] ?_;refine ab (zP 2009 cV eP lE rfl (Src.own rfl rfl) (by grind[yC,ah])) Z<|bD Z<|lN<|gB<|gT<|aL<|bg Z<|ae Z<|Y ?_;have dM:iE x (l.take (k+1))=jQ x (iE x (l.take k)) l[k]:=BU hk;have sZ:(iE x (l.take k)).1=false:=by simpa using h2
   have dY:cg l[k].acc x.acc=true:=by simpa using h3
   rw[GE sZ dY]at dM;refine⟨k+1,hk,by omega,⟨(Eq.trans (b:=aD (iE x (l.take k)).1) rfl (congrArg aD (by grind))),(iq rfl),trivial⟩,⟨(Eq.trans (b:=dc ((iE x (l.take k)).2++[l[k]])) (congrArg (AO.ai 167 3) (fx ct _ [_]).symm) (congrArg dc (by rw[dM]))),trivial⟩,rfl,rfl⟩
  intro h2;refine aa Z<|aa Z<|aa Z<|aa Z<|aa Z<|aa Z<|bL Z<|Y<|aN Z<|aK<|gT<|aL<|bW Z<|aP (.agg [U _ _,U _ _,U _ _]) iV Z<|ab (zS 2059 (ah ct [l[k]]) cV eP rfl) Z<|ab (zP 2009 cV eP lE rfl (Src.own rfl rfl) (by grind[yC,ah])) Z<|bD Z<|lN<|gB<|gT<|aL<|bg Z<|ae Z<|Y ?_;have dM:iE x (l.take (k+1))=jQ x (iE x (l.take k)) l[k]:=BU hk;have sZ:(iE x (l.take k)).1=true:=by simpa using h2
  rw[GD sZ]at dM;refine⟨k+1,hk,by omega,⟨(Eq.trans (b:=aD (iE x (l.take k)).1) rfl (congrArg aD (by grind))),(iq rfl),trivial⟩,⟨(Eq.trans (b:=dc ((iE x (l.take k)).2++[l[k]])) (congrArg (AO.ai 167 3) (fx ct _ [_]).symm) (congrArg dc (by rw[dM]))),trivial⟩,rfl,rfl⟩
 intro V;refine aE<|eT<|eT<|eB<|gT<|aS<|sL<|aQ Z<|bX Z<|Y ?_;refine AW.cond rfl ?_ ?_
 ·intro h6;refine aL<|bW Z<|aP (.agg [U _ _,U _ _,U _ _]) iV Z<|ab (zS 2066 (ah ct [x]) cV eP Z) Z<|lT [4,5,64,66] [2003,2009,2066] ?_;refine ab (zP 2009 cV eP lE rfl (Src.own rfl rfl) (by grind[yC,ah])) Z<|bD Z<|nA<|bW Z<|bD Z<|Y<|aR ?_;have dZ:k=l.length:=by have h:=V;simp only[ap,decide_eq_false_iff_not]at h;omega
  subst dZ;refine ax ?_ ⟨(Eq.trans (b:=dc ((iE x (l.take l.length)).2++[x])) (congrArg (AO.ai 167 3) (fx ct _ [_]).symm) (congrArg dc (by grind[Lq]))),trivial⟩;rfl
 intro h6;refine aK<|gA<|bW Z<|bD Z<|Y<|aR ?_;have dZ:k=l.length:=by have h:=V;simp only[ap,decide_eq_false_iff_not]at h;omega
 subst dZ;refine ax ?_ ⟨(congrArg dc (by grind[Lp])),trivial⟩;rfl

def yG{α:Type}(l m:List α)(k:Nat):Prop:=∀j (V:j<l.length) (h2:j<m.length),j<k->l[j]=m[j]
theorem yG.zero{α:Type}(l m:List α):yG l m 0:=fun j _ _ h=>absurd h (by omega)
theorem yG.next{α:Type}{l m:List α}{k:Nat}(h:yG l m k)(V:k<l.length)(h2:k<m.length)(e:l[k]=m[k]):yG l m (k+1):=fun j q1 q2 q3=>by
 by_cases r:j=k
 ·grind
 exact h j q1 q2 (by omega)
theorem yG.all{α:Type}{l m:List α}{k:Nat}(h:yG l m k)(hl:l.length=m.length)(hk:¬k<l.length):l=m:=List.ext_getElem hl fun j q1 q2=>h j q1 q2 (by omega)
theorem Ta:GC prog 36 [] [] (.agg [int 0,int 1,int 0,.p (.v (.slice none 0 0)),.p (.v (.slice none 0 0)),.p (.v (.slice none 0 0))]) []:=by
 refine GC.intro (rs:=[.cell 0 50 (some 6)]) func36 rfl ntmps36 (Nat.le_of_ble_eq_true rfl) ⟨rfl,rfl,cu,trivial⟩ ?_;intro L O w0;refine sL<|ab (zA 2000 mD Z) Z<|nA<|lq (rd (x:=.agg [U _ _,U _ _,U _ _,vV _,vV _,vV _]) (cP Z s6 Z Z Z) Z)<|ab (zB 2000 eu ew Z) Z<|Y<|aR ?_;trivial
theorem QH:GC prog 36 [] [] (cj pm) []:=GX.imp Ta (fun x bd ⟨e1,e2⟩=>by
 subst e1 e2;exact⟨cj pm,fe.agg (ff.cons (fe.refl _) (ff.cons (fe.refl _) (ff.cons (fe.refl _) (ff.cons (fe.nil _ _) (ff.cons (fe.nil _ _) (ff.cons (fe.nil _ _) ff.nil)))))),rfl,rfl⟩)
theorem J7{x:aw}{es:List aV}:∀k,k<=es.length->∀p∈(bK x (es.take k)).ps,p.lines.length<=1000
 |0,_=>by grind[Tb]
 |k+1,h=>by
  rw[fl (by omega)];have ih:=J7 (x:=x) (es:=es) k (by omega);unfold kz;dsimp only;split
  ·rename_i q;intro p hp;rcases List.mem_append.1 hp with r|r
   ·exact ih p r
   rw[List.mem_singleton.1 r];by_cases z:(bz (bK x (es.take k)).now es[k]).l=[]
   ·rw[(ub q.1 z).2];simp
   rw[(rU q.1 z).2];have:=(Ab q.1).len;show (bz _ _).l.length<=1000;omega
  exact ih
theorem QB:eG pm=true:=by rfl

theorem D3{l p:List aO}{k:Nat}(h:k<p.length):iM l (p.take (k+1))=kc (iM l (p.take k)) p[k]:=by
 grind[iM,List.take_succ_eq_append_getElem]
theorem D4{l p:List aO}(hl:∀z∈l,dL z.af=true)(hp:∀z∈p,dL z.af=true):∀k,k<=p.length->(iM l (p.take k)).length<=l.length+k/\wP (1125899906842624+k*1125899906842624) (iM l (p.take k))
 |0,_=>by
  rw[List.take_zero];exact⟨Nat.le_refl _,fun z hz=>by have:=cJ.1 (hl z hz);omega⟩
 |k+1,h=>by
  obtain⟨V,h2⟩:=D4 hl hp k (by omega);rw[D3 (by omega)];have h3:=S7 (x:=p[k]) (iM l (p.take k));have h4:=cJ.1 (hp _ (List.getElem_mem (show k<p.length by omega)));refine⟨by omega,?_⟩;have:=Lr (c:=1125899906842624) (by omega) (by omega) (x:=p[k]) ⟨by omega,by omega⟩ h2;intro z hz;have:=this z hz;push_cast at *;omega
theorem Lv{l:cH}{p:dX}(h:(eQ l&&iL p.id p.lines)=false):iR l p=1:=by simp_all[iR]
theorem Tc{l:cH}{p:dX}(h:eQ l=true)(h2:iL p.id p.lines=true)(h3:p.id<=l.last):iR l p=2:=by simp_all[iR]
theorem GL{l:cH}{p:dX}(h:eQ l=true)(h2:iL p.id p.lines=true)(h3:¬p.id<=l.last)(h4:eQ ⟨p.id,iM l.lines p.lines⟩=true):iR l p=0:=by simp_all[iR]
theorem GM{l:cH}{p:dX}(h:eQ l=true)(h2:iL p.id p.lines=true)(h3:¬p.id<=l.last)(h4:eQ ⟨p.id,iM l.lines p.lines⟩=false):iR l p=3:=by simp_all[iR]
def Td(l:cH)(p:dX):AV->List (Nat×AO)->Prop:=fun y ob=>ob=[]/\((iR l p≠0/\y=.au [.agg [int 0,.p (.v (.slice none 0 0))],int (iR l p)])\/(iR l p=0/\y=.au [.agg [int p.id,.p (.ab 167 3 (ah ct (iM l.lines p.lines)))],int 0]))
theorem Te(l:cH)(p:dX)(hp:p.lines.length<=1000):GX prog 109 [cR l,DT p] [] (Td l p):=by
 refine GX.intro (rs:=[.cell 4 53 (some 2),.tmp 5]) func109 rfl ntmps109 (Nat.le_of_ble_eq_true rfl) ⟨rfl,rfl,eZ,rfl,trivial⟩ ?_;intro L O w0;refine sL<|ab (zX 2002 Z) Z<|ab (zX 2003 Z) Z<|ab (zA 2004 ld Z) Z<|ao Z<|Y<|aS<|sL<|aP (.agg [U _ _,vL _ _ _]) eZ Z<|ab (zC [] [] [] func207 (BV l) (trivial) Z Z) Z<|bX Z<|aQ Z ?_;refine AL.bool (t:=12) rfl ?_ ?_
 ·intro V;refine aa Z<|aa Z<|aa Z<|aU Z<|Y<|aY Z<|sL<|lq (rd (x:=.agg [U _ _,vV _]) (cP Z lP Z Z Z) Z)<|ab (zB 2004 cA cB Z) Z<|ao Z<|Y<|aR<|rT ?_;refine fN ((.au [.agg [int 0,.p (.v (.slice none 0 0))],int 1])) [] ?_ rfl trivial;have hc:iR l p=1:=Lv (by simp_all);exact⟨rfl,.inl ⟨by omega,by rw[hc]⟩⟩
 intro V;refine aP (.agg [U _ _,vL _ _ _]) ol Z<|ab (zC [] [] [] func208 (S9 p.id p.lines) (trivial) Z Z) Z<|lT [2,3,4,5,12,14] [2002,2003,2004] ?_;refine bX Z<|bj Z<|Y ?_;refine AW.cond rfl ?_ ?_
 ·intro h2;refine sL<|lq (rd (x:=.agg [U _ _,vV _]) (cP Z lP Z Z Z) Z)<|ab (zB 2004 cA cB Z) Z<|ao Z<|Y<|aR<|rT ?_;refine fN ((.au [.agg [int 0,.p (.v (.slice none 0 0))],int 1])) [] ?_ rfl trivial;have hc:iR l p=1:=Lv (by simp_all);exact⟨rfl,.inl ⟨by omega,by rw[hc]⟩⟩
 intro h2;refine aK<|gT<|aS<|sL<|lf 0 wN Z<|aj ac Z<|lf 0 pW Z<|aj ac Z<|ak Z<|Y ?_;refine AW.cond rfl ?_ ?_
 ·intro h3;refine sL<|lq (rd (x:=.agg [U _ _,vV _]) (cP Z lP Z Z Z) Z)<|ab (zB 2004 cA cB Z) Z<|ao Z<|Y<|aR<|rT ?_;refine fN ((.au [.agg [int 0,.p (.v (.slice none 0 0))],int 2])) [] ?_ rfl trivial;have hc:iR l p=2:=Tc (by grind) (by grind) (by grind);exact⟨rfl,.inl ⟨by omega,by rw[hc]⟩⟩
 intro h3;refine aK<|gT<|aS<|aG 8 [2026]<|tq 0 (rf 0 wN Z)<|tq 1 (aZ ac Z)<|tq 3 (rf 1 jY Z)<|tq 4 (jj gY Z) ?_;refine AG.two (i:=2) (j:=7) (by kernel_rfl) ?_ ?_
 ·refine oe.st (i:=2) rfl (BO 2026 (rows:=[]) rfl rfl (by decide) cV eP rfl rfl rfl rfl (by simp) rfl (by decide) (by decide)) (by decide) rfl ?_;refine gX [3,4,5,25,26,28] [2002,2003,2004,2026] ?_;refine AG.two (i:=5) (j:=7) (by kernel_rfl) ?_ ?_
  ·have gH:eQ l=true:=by simpa using V
   have oU:iL p.id p.lines=true:=by simpa using h2
   obtain⟨qY,lD,-,-⟩:=va gH;obtain⟨BT,nS,-,-⟩:=DU oU;have hold:¬p.id<=l.last:=by simpa using h3
   refine oe.st (i:=5) rfl (St.gJ 2026 rfl rfl (by decide) cV eP rfl (by decide) rfl rfl (Src.p rfl) (by grind[ah,maxLen]) (Nat.le_trans (Nat.mul_le_mul_left _ lE) (by grind[ah]))) (by decide) rfl ?_;refine AG.freeze 2026 rfl ?_;refine tq 6 (rd (x:=.agg [U _ _,vL _ _ _]) (cP Z lP Z Z Z) Z)<|cm 7 Z (zA 2006 ld Z)<|yl Z (zB 2006 cA cB Z)<|gT<|aS<|sL<|lf 1 t7 Z<|bo gY Z<|ba hZ Z<|ae Z<|Y<|aB ?_;refine aW [4,5,6,32,33] [2002,2003,2004] (D:=Nat) (fun k=>[(34,int (k:Int))]) (fun k=>[(2006,.box 53 none [int p.id,.p (.ab 167 3 (ah ct (iM l.lines (p.lines.take k))))])]) (fun k=>k<=p.lines.length) (fun k=>p.lines.length-k) (0) (Nat.zero_le _) ⟨rfl,trivial⟩ ⟨rfl,trivial⟩ ?_;intro k hI;refine sL<|ak Z<|Y<|aS ?_;refine AW.cond rfl ?_ ?_
   ·intro h4;refine aK<|gT<|aS<|aB<|sL ?_;have hk:k<p.lines.length:=by simpa[ap]using h4
    have nj:=D4 lD nS k (by omega);have Lw:(k:Int)<=8:=by omega
    have ml:=nj.1;have pE:wP 1152921504606846976 (iM l.lines (p.lines.take k)):=fun z hz=>by have V:=nj.2 z hz;omega
    have Lx:=cJ.1 (nS _ (List.getElem_mem hk));have uc:-1152921504606846976<=p.lines[k].af/\p.lines[k].af<=1152921504606846976:=by omega
    refine li k cV rfl (bS hk)<|d6 (.agg [U _ _,U _ _,U _ _]) iV Z<|ab (zA 2008 eP rfl) Z<|ab (zB 2008 vf vg rfl) Z<|Y<|aL<|lf 1 jY Z<|bo gY Z<|aP (.agg [U _ _,U _ _,U _ _]) iV Z<|ab (zC [(2009,60)] [60] [] func209 (GK (iM l.lines (p.lines.take k)) p.lines[k] (by omega) pE uc) (trivial) rfl rfl) Z<|lT [4,5,6,32,33,34,41] [60,2002,2003,2004,2006,2008] ?_;refine AL.freeze 60 rfl ?_;refine lf 1 jY Z<|ab (zB 2006 z8 z' Z) Z<|lN<|gB<|gT<|aL<|bg Z<|ae Z<|Y ?_;refine⟨k+1,hk,by omega,⟨(iq rfl),trivial⟩,⟨(by rw[D3 hk];rfl),trivial⟩,rfl,rfl⟩
   intro h4;refine aE<|eT<|eT<|eB<|gT<|aS<|sL ?_;have dZ:p.lines.take k=p.lines:=List.take_of_length_le (by grind[ap]);rw[dZ];refine aP (.agg [U _ _,vL _ _ _]) eZ rfl ?_;refine ab (zC [] [] [] func207 (BV ⟨p.id,iM l.lines p.lines⟩) (trivial) rfl rfl) Z<|bX Z<|Y ?_;refine AW.cond rfl ?_ ?_
   ·intro h5;refine sL<|lq (rd (x:=.agg [U _ _,vV _]) (cP Z lP Z Z Z) Z)<|ab (zB 2004 cA cB Z) Z<|ao Z<|Y<|aR<|rT ?_;refine fN ((.au [.agg [int 0,.p (.v (.slice none 0 0))],int 3])) [] ?_ rfl trivial;have hc:iR l p=3:=GM gH oU hold (by grind);exact⟨rfl,.inl ⟨by omega,by rw[hc]⟩⟩
   intro h5;refine aK<|gA<|aP (.agg [U _ _,vL _ _ _]) eZ Z<|ab (zB 2004 cA cB Z) Z<|ao Z<|Y<|aR ?_;refine fN ((.au [.agg [int p.id,.p (.ab 167 3 (ah ct (iM l.lines p.lines)))],int 0])) [] ?_ rfl trivial;exact⟨rfl,.inr ⟨GL gH oU hold (by grind),rfl⟩⟩
  refine oe.st (i:=7) rfl (St.alloc 2006 rfl rfl (by decide) ld) (by decide) rfl ?_;refine gX [3,4,5,6,25,26,28] [2002,2003,2004,2006,2026] ?_;have gH:eQ l=true:=by simpa using V
  have oU:iL p.id p.lines=true:=by simpa using h2
  obtain⟨qY,lD,-,-⟩:=va gH;obtain⟨BT,nS,-,-⟩:=DU oU;have hold:¬p.id<=l.last:=by simpa using h3
  refine cm 5 rfl (zP 2026 cV eP lE rfl (Src.p rfl)) ?_;refine AG.freeze 2026 rfl ?_;refine yq 6 (rd (x:=.agg [U _ _,vL _ _ _]) (cP Z lP Z Z Z) Z)<|yl Z (zB 2006 cA cB Z)<|gT<|aS<|sL<|lf 1 t7 Z<|bo gY Z<|ba hZ Z<|ae Z<|Y<|aB ?_;refine aW [4,5,6,32,33] [2002,2003,2004] (D:=Nat) (fun k=>[(34,int (k:Int))]) (fun k=>[(2006,.box 53 none [int p.id,.p (.ab 167 3 (ah ct (iM l.lines (p.lines.take k))))])]) (fun k=>k<=p.lines.length) (fun k=>p.lines.length-k) (0) (Nat.zero_le _) ⟨rfl,trivial⟩ ⟨rfl,trivial⟩ ?_;intro k hI;refine sL<|ak Z<|Y<|aS ?_;refine AW.cond rfl ?_ ?_
  ·intro h6;refine aK<|gT<|aS<|aB<|sL ?_;have hk:k<p.lines.length:=by simpa[ap]using h6
   have nj:=D4 lD nS k (by omega);have Lw:(k:Int)<=8:=by omega
   have ml:=nj.1;have pE:wP 1152921504606846976 (iM l.lines (p.lines.take k)):=fun z hz=>by have V:=nj.2 z hz;omega
   have Lx:=cJ.1 (nS _ (List.getElem_mem hk));have uc:-1152921504606846976<=p.lines[k].af/\p.lines[k].af<=1152921504606846976:=by omega
   refine li k cV rfl (bS hk)<|d6 (.agg [U _ _,U _ _,U _ _]) iV Z<|ab (zA 2008 eP rfl) Z<|ab (zB 2008 vf vg rfl) Z<|Y<|aL<|lf 1 jY Z<|bo gY Z<|aP (.agg [U _ _,U _ _,U _ _]) iV Z<|ab (zC [(2009,60)] [60] [] func209 (GK (iM l.lines (p.lines.take k)) p.lines[k] (by omega) pE uc) (trivial) rfl rfl) Z<|lT [4,5,6,32,33,34,41] [60,2002,2003,2004,2006,2008] ?_;refine AL.freeze 60 rfl ?_;refine lf 1 jY Z<|ab (zB 2006 z8 z' Z) Z<|lN<|gB<|gT<|aL<|bg Z<|ae Z<|Y ?_;refine⟨k+1,hk,by omega,⟨(iq rfl),trivial⟩,⟨(by rw[D3 hk];rfl),trivial⟩,rfl,rfl⟩
  intro h6;refine aE<|eT<|eT<|eB<|gT<|aS<|sL ?_;have dZ:p.lines.take k=p.lines:=List.take_of_length_le (by grind[ap]);rw[dZ];refine aP (.agg [U _ _,vL _ _ _]) eZ rfl ?_;refine ab (zC [] [] [] func207 (BV ⟨p.id,iM l.lines p.lines⟩) (trivial) rfl rfl) Z<|bX Z<|Y ?_;refine AW.cond rfl ?_ ?_
  ·intro h7;refine sL<|lq (rd (x:=.agg [U _ _,vV _]) (cP Z lP Z Z Z) Z)<|ab (zB 2004 cA cB Z) Z<|ao Z<|Y<|aR<|rT ?_;refine fN ((.au [.agg [int 0,.p (.v (.slice none 0 0))],int 3])) [] ?_ rfl trivial;have hc:iR l p=3:=GM gH oU hold (by grind);exact⟨rfl,.inl ⟨by omega,by rw[hc]⟩⟩
  intro h7;refine aK<|gA<|aP (.agg [U _ _,vL _ _ _]) eZ Z<|ab (zB 2004 cA cB Z) Z<|ao Z<|Y<|aR ?_;refine fN ((.au [.agg [int p.id,.p (.ab 167 3 (ah ct (iM l.lines p.lines)))],int 0])) [] ?_ rfl trivial;exact⟨rfl,.inr ⟨GL gH oU hold (by grind),rfl⟩⟩
 refine oe.st (i:=7) rfl (St.alloc 2006 rfl rfl (by decide) ld) (by decide) rfl ?_;refine gX [3,4,5,6,25,28] [2002,2003,2004,2006] ?_;refine cm 2 rfl (zS 2026 [] cV eP rfl (by simp)) ?_;have gH:eQ l=true:=by simpa using V
 have oU:iL p.id p.lines=true:=by simpa using h2
 obtain⟨qY,lD,-,-⟩:=va gH;obtain⟨BT,nS,-,-⟩:=DU oU;have hold:¬p.id<=l.last:=by simpa using h3
 refine cm 5 rfl (zP 2026 cV eP lE rfl (Src.p rfl)) ?_;refine AG.freeze 2026 rfl ?_;refine yq 6 (rd (x:=.agg [U _ _,vL _ _ _]) (cP Z lP Z Z Z) Z)<|yl Z (zB 2006 cA cB Z)<|gT<|aS<|sL<|lf 1 t7 Z<|bo gY Z<|ba hZ Z<|ae Z<|Y<|aB ?_;refine aW [4,5,6,32,33] [2002,2003,2004] (D:=Nat) (fun k=>[(34,int (k:Int))]) (fun k=>[(2006,.box 53 none [int p.id,.p (.ab 167 3 (ah ct (iM l.lines (p.lines.take k))))])]) (fun k=>k<=p.lines.length) (fun k=>p.lines.length-k) (0) (Nat.zero_le _) ⟨rfl,trivial⟩ ⟨rfl,trivial⟩ ?_;intro k hI;refine sL<|ak Z<|Y<|aS ?_;refine AW.cond rfl ?_ ?_
 ·intro h8;refine aK<|gT<|aS<|aB<|sL ?_;have hk:k<p.lines.length:=by simpa[ap]using h8
  have nj:=D4 lD nS k (by omega);have Lw:(k:Int)<=8:=by omega
  have ml:=nj.1;have pE:wP 1152921504606846976 (iM l.lines (p.lines.take k)):=fun z hz=>by have V:=nj.2 z hz;omega
  have Lx:=cJ.1 (nS _ (List.getElem_mem hk));have uc:-1152921504606846976<=p.lines[k].af/\p.lines[k].af<=1152921504606846976:=by omega
  refine li k cV rfl (bS hk)<|d6 (.agg [U _ _,U _ _,U _ _]) iV Z<|ab (zA 2008 eP rfl) Z<|ab (zB 2008 vf vg rfl) Z<|Y<|aL<|lf 1 jY Z<|bo gY Z<|aP (.agg [U _ _,U _ _,U _ _]) iV Z<|ab (zC [(2009,60)] [60] [] func209 (GK (iM l.lines (p.lines.take k)) p.lines[k] (by omega) pE uc) (trivial) rfl rfl) Z<|lT [4,5,6,32,33,34,41] [60,2002,2003,2004,2006,2008] ?_;refine AL.freeze 60 rfl ?_;refine lf 1 jY Z<|ab (zB 2006 z8 z' Z) Z<|lN<|gB<|gT<|aL<|bg Z<|ae Z<|Y ?_;refine⟨k+1,hk,by omega,⟨(iq rfl),trivial⟩,⟨(by rw[D3 hk];rfl),trivial⟩,rfl,rfl⟩
 intro h8;refine aE<|eT<|eT<|eB<|gT<|aS<|sL ?_;have dZ:p.lines.take k=p.lines:=List.take_of_length_le (by grind[ap]);rw[dZ];refine aP (.agg [U _ _,vL _ _ _]) eZ rfl ?_;refine ab (zC [] [] [] func207 (BV ⟨p.id,iM l.lines p.lines⟩) (trivial) rfl rfl) Z<|bX Z<|Y ?_;refine AW.cond rfl ?_ ?_
 ·intro h9;refine sL<|lq (rd (x:=.agg [U _ _,vV _]) (cP Z lP Z Z Z) Z)<|ab (zB 2004 cA cB Z) Z<|ao Z<|Y<|aR<|rT ?_;refine fN ((.au [.agg [int 0,.p (.v (.slice none 0 0))],int 3])) [] ?_ rfl trivial;have hc:iR l p=3:=GM gH oU hold (by grind);exact⟨rfl,.inl ⟨by omega,by rw[hc]⟩⟩
 intro h9;refine aK<|gA<|aP (.agg [U _ _,vL _ _ _]) eZ Z<|ab (zB 2004 cA cB Z) Z<|ao Z<|Y<|aR ?_;refine fN ((.au [.agg [int p.id,.p (.ab 167 3 (ah ct (iM l.lines p.lines)))],int 0])) [] ?_ rfl trivial;exact⟨rfl,.inr ⟨GL gH oU hold (by grind),rfl⟩⟩
theorem GO(l:cH)(p:dX)(hp:p.lines.length<=1000):GC prog 109 [cR l,DT p] [] (.au [cR (qi l p),int (iR l p)]) []:=GX.imp (Te l p hp) (fun x bd ⟨e1,e2⟩=>by
 subst e1;rcases e2 with⟨h,rfl⟩|⟨h,rfl⟩
 ·rw[show qi l p=⟨0,[]⟩from if_neg h];exact⟨_,fe.au (ff.cons (fe.agg (ff.cons (fe.refl _) (ff.cons (fe.nil _ _) ff.nil))) (ff.cons (fe.refl _) ff.nil)),rfl,rfl⟩
 simp_all[qi,fe.refl])
theorem yH{l:cH}{ps:List dX}{k:Nat}(h:k<ps.length):fP l (ps.take (k+1))=BX (fP l (ps.take k)) ps[k]:=by
 grind[fP,List.take_succ_eq_append_getElem]
theorem D5{l:cH}{ps:List dX}(hl:l.lines.length<=320):∀k,k<=ps.length->(fP l (ps.take k)).1.lines.length<=320/\0<=(fP l (ps.take k)).2/\(fP l (ps.take k)).2<=k
 |0,_=>by rw[List.take_zero];exact⟨hl,Int.le_refl _,Int.le_refl _⟩
 |k+1,h=>by
  rw[yH (by omega)];obtain⟨V,h2,h3⟩:=D5 (ps:=ps) hl k (by omega);unfold BX;split
  ·rename_i q;refine⟨?_,by dsimp only;omega,by dsimp only;omega⟩;have:=(va (Tf q).2.2.2).1;unfold qi;rw[if_pos q];exact this
  omega
def Tg(l:cH)(ps:List dX):AV->List (Nat×AO)->Prop:=fun y ob=>ob=[]/\((eQ l=false/\y=.au [.agg [int 0,.p (.v (.slice none 0 0))],int (-1)])\/(eQ l=true/\y=.au [cR (fP l ps).1,int (fP l ps).2]))
theorem Th(l:cH)(ps:List dX)(nu:∀p∈ps,p.lines.length<=1000)(hn:ps.length<=1000000):GX prog 169 [cR l,.p (.ab 92 2 (qI ps))] [] (Tg l ps):=by
 refine GX.intro (rs:=[.cell 4 53 (some 2),.tmp 5]) func169 rfl ntmps169 (Nat.le_of_ble_eq_true rfl) ⟨rfl,rfl,eZ,rfl,trivial⟩ ?_;intro L O w0;refine sL<|ab (zX 2002 Z) Z<|ab (zA 2004 ld Z) Z<|ao Z<|Y<|aS<|sL<|aP (.agg [U _ _,vL _ _ _]) eZ Z<|ab (zC [] [] [] func207 (BV l) (trivial) Z Z) Z<|bX Z<|Y ?_;refine AW.cond rfl ?_ ?_
 ·intro V;refine sL<|lq (rd (x:=.agg [U _ _,vV _]) (cP Z lP Z Z Z) Z)<|ab (zB 2004 cA cB Z) Z<|ao Z<|Y<|aR<|rT ?_;refine fN ((.au [.agg [int 0,.p (.v (.slice none 0 0))],int (-1)])) [] ?_ rfl trivial;exact⟨rfl,.inl ⟨by grind,rfl⟩⟩
 intro V;refine aK<|gT<|aS<|aG 8 [2018]<|tq 0 (rf 0 pW Z)<|tq 1 (aZ ac Z)<|tq 3 (rf 1 jY Z)<|tq 4 (jj gY Z) ?_;refine AG.two (i:=2) (j:=7) (by kernel_rfl) ?_ ?_
 ·refine oe.st (i:=2) rfl (BO 2018 (rows:=[]) rfl rfl (by decide) cV eP rfl rfl rfl rfl (by simp) rfl (by decide) (by decide)) (by decide) rfl ?_;refine gX [1,4,5,17,18,20] [2002,2004,2018] ?_;refine AG.two (i:=5) (j:=7) (by kernel_rfl) ?_ ?_
  ·have gH:eQ l=true:=by simpa using V
   obtain⟨qY,lD,-,-⟩:=va gH;refine oe.st (i:=5) rfl (St.gJ 2018 rfl rfl (by decide) cV eP rfl (by decide) rfl rfl (Src.p rfl) (by grind[ah,maxLen]) (Nat.le_trans (Nat.mul_le_mul_left _ lE) (by grind[ah]))) (by decide) rfl ?_;refine AG.freeze 2018 rfl ?_;refine tq 6 (rd (x:=.agg [U _ _,vL _ _ _]) (cP Z lP Z Z Z) Z)<|cm 7 Z (zA 2006 ld Z)<|yl Z (zB 2006 cA cB Z)<|gA<|ao Z<|Y<|aS<|sL<|bm Z<|ba pX Z<|ae Z<|Y<|aB ?_;refine aW [4,5,6,23,24] [2002,2004] (D:=Nat) (fun k=>[(7,int (fP l (ps.take k)).2),(25,int (k:Int))]) (fun k=>[(2006,.box 53 none [int (fP l (ps.take k)).1.last,.p (.ab 167 3 (ah ct (fP l (ps.take k)).1.lines))])]) (fun k=>k<=ps.length) (fun k=>ps.length-k) (0) (Nat.zero_le _) ⟨rfl,rfl,trivial⟩ ⟨rfl,trivial⟩ ?_;intro k hI;refine sL<|ak Z<|Y<|aS ?_;refine AW.cond rfl ?_ ?_
   ·intro h2;refine aK<|gT<|aS<|aB<|sL ?_;have hk:k<ps.length:=by simpa[fw]using h2
    have hs:=D5 (ps:=ps) qY k (by omega);refine li k vb Z (DV hk)<|d6 (.agg [U _ _,vL _ _ _]) ol Z<|ab (zA 2009 pC Z) Z<|ab (zB 2009 na nb Z) Z<|nA<|aP (.agg [U _ _,vL _ _ _]) eZ Z<|aP (.agg [U _ _,vL _ _ _]) ol Z<|ab (zC [] [] [] func109 (GO (fP l (ps.take k)).1 ps[k] (nu _ (List.getElem_mem hk))) (trivial) Z Z) Z<|lT [4,5,6,7,23,24,25,32] [2002,2004,2006,2009] ?_;refine cT (.au [.agg [U _ _,vL _ _ _],U _ _]) Z<|iB (.agg [U _ _,vL _ _ _]) Z<|dE Z<|ab (zA 2010 ld Z) Z<|ab (zB 2010 cA cB Z) Z<|ao Z<|nA<|ae Z<|ak Z<|Y ?_;refine AW.cond rfl ?_ ?_
    ·intro h3;refine sL<|aP (.agg [U _ _,vL _ _ _]) eZ Z<|ab (zB 2006 cA cB Z) Z<|Y<|aL<|ae Z<|bg Z<|ao Z<|lN<|gB<|gT<|aL<|bg Z<|ae Z<|Y ?_;have dM:fP l (ps.take (k+1))=(qi (fP l (ps.take k)).1 ps[k],(fP l (ps.take k)).2+1):=by
      rw[yH hk];exact if_pos (by grind)
     refine⟨k+1,hk,by omega,⟨(Eq.trans (b:=int _) rfl (congrArg int (by rw[dM]))),(iq rfl),trivial⟩,⟨(by rw[dM];rfl),trivial⟩,rfl,rfl⟩
    intro h3;refine aK<|gB<|gT<|aL<|bg Z<|ae Z<|Y ?_;have dM:fP l (ps.take (k+1))=fP l (ps.take k):=by
     rw[yH hk];exact if_neg (by grind)
    refine⟨k+1,hk,by omega,⟨(Eq.trans (b:=int _) rfl (congrArg int (by rw[dM]))),(iq rfl),trivial⟩,⟨(by rw[dM];rfl),trivial⟩,rfl,rfl⟩
   intro h2;refine aE<|eT<|eT<|eB<|gA<|aP (.agg [U _ _,vL _ _ _]) eZ Z<|ae Z<|ab (zB 2004 cA cB Z) Z<|lT [4,5,42] [2002,2004,2006] ?_;refine ao Z<|Y<|aR ?_;have dZ:ps.take k=ps:=List.take_of_length_le (by grind[fw]);rw[dZ];refine fN ((.au [cR (fP l ps).1,int (fP l ps).2])) [] ?_ rfl trivial;exact⟨rfl,.inr ⟨gH,rfl⟩⟩
  refine oe.st (i:=7) rfl (St.alloc 2006 rfl rfl (by decide) ld) (by decide) rfl ?_;have gH:eQ l=true:=by simpa using V
  obtain⟨qY,lD,-,-⟩:=va gH;refine cm 5 rfl (zP 2018 cV eP lE rfl (Src.p rfl)) ?_;refine AG.freeze 2018 rfl ?_;refine yq 6 (rd (x:=.agg [U _ _,vL _ _ _]) (cP Z lP Z Z Z) Z)<|yl Z (zB 2006 cA cB Z)<|gA<|ao Z<|Y<|aS<|sL<|bm Z<|ba pX Z<|ae Z<|Y<|aB ?_;refine aW [4,5,6,23,24] [2002,2004] (D:=Nat) (fun k=>[(7,int (fP l (ps.take k)).2),(25,int (k:Int))]) (fun k=>[(2006,.box 53 none [int (fP l (ps.take k)).1.last,.p (.ab 167 3 (ah ct (fP l (ps.take k)).1.lines))])]) (fun k=>k<=ps.length) (fun k=>ps.length-k) (0) (Nat.zero_le _) ⟨rfl,rfl,trivial⟩ ⟨rfl,trivial⟩ ?_;intro k hI;refine sL<|ak Z<|Y<|aS ?_;refine AW.cond rfl ?_ ?_
  ·intro h4;refine aK<|gT<|aS<|aB<|sL ?_;have hk:k<ps.length:=by simpa[fw]using h4
   have hs:=D5 (ps:=ps) qY k (by omega);refine li k vb Z (DV hk)<|d6 (.agg [U _ _,vL _ _ _]) ol Z<|ab (zA 2009 pC Z) Z<|ab (zB 2009 na nb Z) Z<|lT [4,5,6,7,9,23,24,25] [2002,2004,2006,2009] ?_;refine nA<|aP (.agg [U _ _,vL _ _ _]) eZ Z<|aP (.agg [U _ _,vL _ _ _]) ol Z<|ab (zC [] [] [] func109 (GO (fP l (ps.take k)).1 ps[k] (nu _ (List.getElem_mem hk))) (trivial) Z Z) Z<|cT (.au [.agg [U _ _,vL _ _ _],U _ _]) Z<|iB (.agg [U _ _,vL _ _ _]) Z<|dE Z<|ab (zA 2010 ld Z) Z<|ab (zB 2010 cA cB Z) Z<|ao Z<|nA<|ae Z<|ak Z<|Y ?_;refine AW.cond rfl ?_ ?_
   ·intro h5;refine sL<|aP (.agg [U _ _,vL _ _ _]) eZ Z<|ab (zB 2006 cA cB Z) Z<|Y<|aL<|ae Z<|bg Z<|ao Z<|lN<|gB<|gT<|aL<|bg Z<|ae Z<|Y ?_;have dM:fP l (ps.take (k+1))=(qi (fP l (ps.take k)).1 ps[k],(fP l (ps.take k)).2+1):=by
     rw[yH hk];exact if_pos (by grind)
    refine⟨k+1,hk,by omega,⟨(Eq.trans (b:=int _) rfl (congrArg int (by rw[dM]))),(iq rfl),trivial⟩,⟨(by rw[dM];rfl),trivial⟩,rfl,rfl⟩
   intro h5;refine aK<|gB<|gT<|aL<|bg Z<|ae Z<|Y ?_;have dM:fP l (ps.take (k+1))=fP l (ps.take k):=by
    rw[yH hk];exact if_neg (by grind)
   refine⟨k+1,hk,by omega,⟨(Eq.trans (b:=int _) rfl (congrArg int (by rw[dM]))),(iq rfl),trivial⟩,⟨(by rw[dM];rfl),trivial⟩,rfl,rfl⟩
  intro h4;refine aE<|eT<|eT<|eB<|gA<|aP (.agg [U _ _,vL _ _ _]) eZ Z<|ae Z<|ab (zB 2004 cA cB Z) Z<|lT [4,5,42] [2002,2004,2006] ?_;refine ao Z<|Y<|aR ?_;have dZ:ps.take k=ps:=List.take_of_length_le (by grind[fw]);rw[dZ];refine fN ((.au [cR (fP l ps).1,int (fP l ps).2])) [] ?_ rfl trivial;exact⟨rfl,.inr ⟨gH,rfl⟩⟩
 refine oe.st (i:=7) rfl (St.alloc 2006 rfl rfl (by decide) ld) (by decide) rfl ?_;refine cm 2 rfl (zS 2018 [] cV eP rfl (by simp)) ?_;have gH:eQ l=true:=by simpa using V
 obtain⟨qY,lD,-,-⟩:=va gH;refine cm 5 rfl (zP 2018 cV eP lE rfl (Src.p rfl)) ?_;refine AG.freeze 2018 rfl ?_;refine yq 6 (rd (x:=.agg [U _ _,vL _ _ _]) (cP Z lP Z Z Z) Z)<|yl Z (zB 2006 cA cB Z)<|gA<|ao Z<|Y<|aS<|sL<|bm Z<|ba pX Z<|ae Z<|Y<|aB ?_;refine aW [4,5,6,23,24] [2002,2004] (D:=Nat) (fun k=>[(7,int (fP l (ps.take k)).2),(25,int (k:Int))]) (fun k=>[(2006,.box 53 none [int (fP l (ps.take k)).1.last,.p (.ab 167 3 (ah ct (fP l (ps.take k)).1.lines))])]) (fun k=>k<=ps.length) (fun k=>ps.length-k) (0) (Nat.zero_le _) ⟨rfl,rfl,trivial⟩ ⟨rfl,trivial⟩ ?_;intro k hI;refine sL<|ak Z<|Y<|aS ?_;refine AW.cond rfl ?_ ?_
 ·intro h6;refine aK<|gT<|aS<|aB<|sL ?_;have hk:k<ps.length:=by simpa[fw]using h6
  have hs:=D5 (ps:=ps) qY k (by omega);refine li k vb Z (DV hk)<|d6 (.agg [U _ _,vL _ _ _]) ol Z<|ab (zA 2009 pC Z) Z<|lT [4,5,6,7,9,23,24,25,28] [2002,2004,2006,2009] ?_;refine ab (zB 2009 na nb Z) Z<|nA<|aP (.agg [U _ _,vL _ _ _]) eZ Z<|aP (.agg [U _ _,vL _ _ _]) ol Z<|ab (zC [] [] [] func109 (GO (fP l (ps.take k)).1 ps[k] (nu _ (List.getElem_mem hk))) (trivial) Z Z) Z<|cT (.au [.agg [U _ _,vL _ _ _],U _ _]) Z<|iB (.agg [U _ _,vL _ _ _]) Z<|dE Z<|ab (zA 2010 ld Z) Z<|ab (zB 2010 cA cB Z) Z<|ao Z<|nA<|ae Z<|ak Z<|Y ?_;refine AW.cond rfl ?_ ?_
  ·intro h7;refine sL<|aP (.agg [U _ _,vL _ _ _]) eZ Z<|ab (zB 2006 cA cB Z) Z<|lT [4,5,6,7,23,24,25] [2002,2004,2006,2009,2010] ?_;refine Y<|aL<|ae Z<|bg Z<|ao Z<|lN<|gB<|gT<|aL<|bg Z<|ae Z<|Y ?_;have dM:fP l (ps.take (k+1))=(qi (fP l (ps.take k)).1 ps[k],(fP l (ps.take k)).2+1):=by
    rw[yH hk];exact if_pos (by grind)
   refine⟨k+1,hk,by omega,⟨(Eq.trans (b:=int _) rfl (congrArg int (by rw[dM]))),(iq rfl),trivial⟩,⟨(by rw[dM];rfl),trivial⟩,rfl,rfl⟩
  intro h7;refine aK<|gB<|gT<|aL<|bg Z<|ae Z<|Y ?_;have dM:fP l (ps.take (k+1))=fP l (ps.take k):=by
   rw[yH hk];exact if_neg (by grind)
  refine⟨k+1,hk,by omega,⟨(Eq.trans (b:=int _) rfl (congrArg int (by rw[dM]))),(iq rfl),trivial⟩,⟨(by rw[dM];rfl),trivial⟩,rfl,rfl⟩
 intro h6;refine aE<|eT<|eT<|eB<|gA<|aP (.agg [U _ _,vL _ _ _]) eZ Z<|ae Z<|ab (zB 2004 cA cB Z) Z<|ao Z<|Y<|aR ?_;have dZ:ps.take k=ps:=List.take_of_length_le (by grind[fw]);rw[dZ];refine fN ((.au [cR (fP l ps).1,int (fP l ps).2])) [] ?_ rfl trivial;exact⟨rfl,.inr ⟨gH,rfl⟩⟩
theorem Ti(l:cH)(ps:List dX)(hl:eQ l=true)(nu:∀p∈ps,p.lines.length<=1000)(hn:ps.length<=1000000):GC prog 169 [cR l,.p (.ab 92 2 (qI ps))] [] (.au [cR (fP l ps).1,int (fP l ps).2]) []:=(Th l ps nu hn).gc fun y o ⟨e1,e2⟩=>by
 grind
theorem QF(ps:List dX)(nu:∀p∈ps,p.lines.length<=1000)(hn:ps.length<=1000000):GC prog 169 [.agg [int 0,.p (.v (.slice none 0 0))],.p (.ab 92 2 (qI ps))] [] (.au [cR (fP ⟨0,[]⟩ ps).1,int (fP ⟨0,[]⟩ ps).2]) []:=Lu (Ti ⟨0,[]⟩ ps rfl nu hn) (ff.cons (fe.agg (ff.cons (fe.refl _) (ff.cons (fe.nil _ _) ff.nil))) (ff.cons (fe.refl _) ff.nil))

def ja{α:Type}(enc:α->List Value)(l m:List α)(k:Nat):Prop:=∀j (V:j<l.length) (h2:j<m.length),j<k->dA (enc l[j]) (enc m[j])=true
theorem ja.zero{α:Type}(enc:α->List Value)(l m:List α):ja enc l m 0:=fun j _ _ h=>absurd h (by omega)
theorem ja.next{α:Type}{enc:α->List Value}{l m:List α}{k:Nat}(h:ja enc l m k)(V:k<l.length)(h2:k<m.length)(e:dA (enc l[k]) (enc m[k])=true):ja enc l m (k+1):=fun j q1 q2 q3=>by
 by_cases r:j=k
 ·grind
 exact h j q1 q2 (by omega)
theorem ja.all{α:Type}{enc:α->List Value}{l m:List α}{k:Nat}(h:ja enc l m k)(hl:l.length=m.length)(hk:¬k<l.length):lZ enc l m=true:=JR hl fun j q1 q2=>h j q1 q2 (by omega)
theorem JV(l:List Int)(hn:l.length<=9007199254740992):GC prog 176 [.p (.ab 3 1 (ah kt l))] [] (aD (eK l)) []:=by
 refine gi 2 func176 rfl ntmps176 rfl ?_;intro L O w0;refine sL<|ar Z<|Y<|aS<|sL<|bm Z<|ba x4 Z<|ae Z<|Y<|aB ?_;refine aW [2,5,6] [] (D:=Nat) (fun k=>[(7,int (k:Int))]) (fun k=>[]) (fun k=>∀j (h:j<l.length),j<k->l[j]=0) (fun k=>l.length-k) (0) (fun _ _ h=>absurd h (by omega)) ⟨rfl,trivial⟩ trivial ?_;intro k hI;refine sL<|ak Z<|Y<|aS ?_;refine AW.cond rfl ?_ ?_
 ·intro V;refine aK<|gT<|aS<|aB<|sL ?_;have hk:k<l.length:=by simpa[ap]using V
  refine li k iU Z (bS hk)<|oy ac Z<|ao Z<|nA<|ae Z<|ak Z<|Y ?_;refine AW.cond rfl ?_ ?_
  ·intro h2;refine sL<|ar Z<|Y<|aR<|rB<|rT<|rT<|rB<|rT ?_;refine az trivial ?_;exact(Bool.eq_false_iff.2 fun q=>by have h:=h2;have:=List.all_eq_true.1 q _ (List.getElem_mem hk);grind).symm
  intro h2;refine aK<|gB<|gT<|aL<|bg Z<|ae Z<|Y ?_;refine⟨k+1,fun j q1 q2=>by
   grind,by omega,⟨(iq rfl),trivial⟩,trivial,rfl,rfl⟩
 intro V;refine aE<|eT<|eT<|eB<|gA<|cI Z<|Y<|aR ?_;refine az trivial ?_;exact(List.all_eq_true.2 fun z hz=>by obtain⟨j,hj,rfl⟩:=List.getElem_of_mem hz;grind[ap]).symm

section
variable {P:Program}{L O:Nat->Prop}{w0:World}{N:Nat}{τ τ':Nat->AV}{H H':Nat->AO}{Q:AQ}{ops:Array Oper}{o:Oper}{F:List Nat}{n:Nat}{av:Array Bool}
theorem d9.rd{i:Nat}{x:AV}{t:Nat}(ho:ops[i]? = some o)(sA:Rd P o τ H (fun _=>false) x)(hg:gv τ ops o=some true)(hd:o.dst=some t)(ht:t<N)
 (h:AF P L O w0 N ops F n (av.setIfInBounds i true) (aH τ t x) H Q):d9 P L O w0 N ops F n av i τ H Q:=fun ρ fp a w bV=>
 wpOp_step ho fun K hK=>by
  rw[bV.wanted hg,if_pos rfl];obtain⟨c,V,h2⟩:=sA.run bV;unfold Oper.wp;rw[h2 w (l6.refl _ _ _ _)];refine hK _ _ ⟨fun _=>lb.refl _,h ρ fp _ w ?_⟩;rw[hd];exact bV.put V ht
theorem AL.pi{l:List Oper}(id b k:Nat)(e:TypeId)(sz:Nat){T:TypeId}{p:Option Value}{cells:List AV}(hb:H b=.box T p cells)(zT:b≠id)(hk:cells[k]? = some (.p (.v (.slice none 0 0))))(h:AL P L O w0 N ops l (fun s=>bq (cK id) (τ s)) (aH (aH (fun j=>(H j).bq (cK id)) id (.ai e sz [])) b (.box T p ((iA (cK id) cells).set k (.own id)))) Q):AL P L O w0 N ops l τ H Q:=
 fun ρ fp a w hr=>h _ _ a w (hr.pi id b k e sz hb zT hk)
end

section
variable {P:Program}{o:Oper}{τ:Nat->AV}{H:Nat->AO}
theorem ac'{op:BinOp}{T yT:TypeId}{x y:Operand}{pre:Prop}{r:AV}(ho:o.op=.binOp op T x y yT)(h:AU op (ev τ x) (ev τ y)=some (pre,r))(hp:pre):Pd P o τ H r:=by
 apply Pd.pure;intro L ρ a w he;obtain⟨c,V,h2⟩:=aan (P:=P) (T:=T) (x:=x) (y:=y) h hp (he x) (he y);refine⟨c,V,fun W=>?_⟩;have:execOp a.eval o=(do let v <-(do eqGuard op T x y (a.eval x) (a.eval y);binOp op T (a.eval x) (a.eval y));pure (.value v)):=by simp only[execOp,ho]
 rw[this,Sem.run_bind,h2];rfl
theorem acy{c x y:Operand}{r:AV}(ho:o.op=.pick c x y)(h:H7 (ev τ c) (ev τ x) (ev τ y)=some r):Pd P o τ H r:=by
 apply Pd.pure;intro L ρ a w he;have hc:=he c;generalize ev τ c=vc at *;unfold H7 at h;split at h
 ·rename_i t;injection h with h;subst h;have e:=hc.gd;cases t
  ·exact⟨a.eval y,he y,fun W=>by simp[execOp,ho,e,asBool]⟩
  exact⟨a.eval x,he x,fun W=>by simp[execOp,ho,e,asBool]⟩
 cases h
theorem ada{x:Operand}{t e:TypeId}{sz:Nat}{rows:List (List PV)}(ho:o.op=.call { callee:=.builtin .len,args:=#[x],argTypes:=#[t] })(ht:isSlice P t=true)(hx:ev τ x=.p (.ab e sz rows)):Pd P o τ H (int rows.length):=by
 have hse:P.underlying t=some (.slice (P.elem t)):=by
  unfold isSlice at ht;split at ht
  ·rename_i e q;simp[Program.elem,q]
  cases ht
 apply Pd.pure;intro L ρ a w he;have h:=he x;rw[hx,RV]at h;obtain⟨fp,V,_⟩:=h;rw[RW]at V;obtain⟨xs,f1,f2,V,h2,_⟩:=V;unfold iF at h2;simp only[Bool.false_eq_true,if_false]at h2;obtain⟨b,cap,e2,_⟩:=h2;exact⟨.int .i64 rows.length,fX rfl,fun W=>by
  have:=run_len_slice W t o.type b rows.length cap hse;simp[execOp,ho,resolve,invoke,builtin,e2,this,goInt]⟩
end

theorem Dp(d:du):∀e∈f8 d,l7 e:=fun e he=>by
 unfold f8 pj at he;obtain⟨q,_,hq⟩:=List.mem_filterMap.1 he;split at hq
 ·rename_i hf;cases hq;have h:=Dq (uS.1 hf).2.1;unfold l7 i64;omega
 grind
structure QA(es:List aV):Prop where
 wf:di (de es).now
 lp:(de es).ps.length<=es.length
 lk:(de es).jD.length<=es.length
 pl:∀p∈(de es).ps,p.lines.length<=1000
 ll:(d5 es).1.lines.length<=320
 n0:0<=(d5 es).2
 n1:(d5 es).2<=((de es).ps.length:Int)
theorem Dr{es:List aV}(we:∀e∈es,l7 e):QA es:=by
 have pk:sB pm es=bK pm es:=if_pos QB;have J6:=J7 (x:=pm) (es:=es) es.length (Nat.le_refl _);have nu:=zU (x:=pm) (es:=es) es.length (Nat.le_refl _);have qH:=Ds (x:=pm) (es:=es) es.length (Nat.le_refl _);rw[List.take_length,<-pk]at J6 nu qH;have ml:=FS (l:=⟨0,[]⟩) (ps:=(sB pm es).ps) (by simp) _ (Nat.le_refl _);rw[List.take_length]at ml;exact⟨QC FT we,nu,Nat.le_of_eq qH,J6,ml.1,ml.2.1,ml.2.2⟩
theorem QD(ps:List dX)(nu:∀p∈ps,p.lines.length<=1000)(hn:ps.length<=1000000):GC prog 169 [.agg [int 0,.p (.v (.slice none 0 0))],.p (.ab 92 2 (qI ps))] [] (.au [cR (jJ ⟨0,[]⟩ ps).1,int (jJ ⟨0,[]⟩ ps).2]) []:=by
 rw[<-QE];exact QF ps nu hn
abbrev J8(es:List aV):AV:=.au [cj (de es).now,cR (d5 es).1,aD (eL es)]
theorem J9{l:List Int}{k:Nat}(h:k<l.length):eK (l.take (k+1))=(eK (l.take k)&&decide (l[k]=0)):=by
 grind[eK,List.take_succ_eq_append_getElem]
theorem QK(es:List aV)(we:∀e∈es,l7 e)(hm:es.length<=1000000):GC prog 82 [.p (.ab 81 7 (ah fR es))] [] (J8 es) []:=by
 refine GC.intro (rs:=[.cell 2 50 (some 6),.cell 3 53 (some 2),.tmp 4]) func82 rfl ntmps82 (Nat.le_of_ble_eq_true rfl) ⟨rfl,rfl,cu,rfl,rfl,eZ,rfl,trivial⟩ ?_;intro L O w0;refine sL<|ab (zA 2002 mD Z) Z<|ab (zA 2003 ld Z) Z<|ar Z<|nA ?_;have hB:=Dr we;refine ab (zC [] [] [] func168 (QL) (trivial) rfl rfl) Z<|bm Z<|ab (zC [] [] [] func167 (QM pm es FT we (by omega)) (trivial) rfl rfl) Z<|cT (.au [.agg [U _ _,U _ _,U _ _,vL _ _ _,vL _ _ _,vL _ _ _],vL _ _ _,vL _ _ _]) Z<|iB (.agg [U _ _,U _ _,U _ _,vL _ _ _,vL _ _ _,vL _ _ _]) Z<|rF Z<|rF Z<|ab (zA 2005 mD rfl) Z<|ab (zB 2005 eu ew rfl) Z<|nv Z<|nv Z<|nA<|lq (rd (x:=.agg [U _ _,vV _]) (cP rfl lP rfl rfl rfl) rfl)<|bm Z<|ab (zC [] [] [] func169 (QD (de es).ps hB.pl (by have:=hB.lp;omega)) (trivial) rfl rfl) Z<|lT [2,3,4,5,6,7,23] [2002,2003,2005] ?_;refine cT (.au [.agg [U _ _,vL _ _ _],U _ _]) Z<|iB (.agg [U _ _,vL _ _ _]) Z<|dE Z<|ab (zA 2008 ld Z) Z<|ab (zB 2008 cA cB Z) Z<|ao Z<|nA<|ae Z<|bm Z<|ba pX Z<|ak Z<|bv Z<|Y<|aS<|sL<|bm Z<|ba x4 Z<|ae Z<|Y<|aB ?_;refine aW [2,3,4,5,8,30,31] [2002,2003,2005,2008] (D:=Nat) (fun k=>[(10,aD (decide ((d5 es).2=((de es).ps.length:Int))&&eK ((de es).jD.take k))),(32,int (k:Int))]) (fun k=>[]) (fun k=>k<=(de es).jD.length) (fun k=>(de es).jD.length-k) (0) (Nat.zero_le _) ⟨(congrArg aD (by rw[fw,List.take_zero];exact(Bool.and_true _).symm)),rfl,trivial⟩ trivial ?_;intro k hI;refine sL<|ak Z<|Y<|aS ?_;refine AW.cond rfl ?_ ?_
 ·intro V;refine aK<|gT<|aS<|aB<|sL ?_;have hk:k<(de es).jD.length:=by simpa[ap]using V
  have QN:=hB.lk;refine li k iU Z (bS hk)<|oy ac Z<|ao Z<|nA<|ae Z<|ak Z<|Y ?_;refine AW.cond rfl ?_ ?_
  ·intro h2;refine aL<|ar Z<|lN<|gB<|gT<|aL<|bg Z<|ae Z<|Y ?_;refine⟨k+1,hk,by omega,⟨(congrArg aD (by simp_all[J9])),(iq rfl),trivial⟩,trivial,rfl,rfl⟩
  intro h2;refine aK<|gB<|gT<|aL<|bg Z<|ae Z<|Y ?_;refine⟨k+1,hk,by omega,⟨(congrArg aD (by simp_all[J9])),(iq rfl),trivial⟩,trivial,rfl,rfl⟩
 intro V;refine aE<|eT<|eT<|eB<|gT<|aS<|aF [3,4]<|sq 0 (dw (.agg [U _ _,U _ _,U _ _,vL _ _ _,vL _ _ _,vL _ _ _]) cu Z)<|pq 2 (gL (vB _) Z) ?_;refine AF.two (i:=1) (j:=3) (by kernel_rfl) ?_ ?_
 ·refine d9.rd (i:=1) (x:=.agg [U _ _,vL _ _ _]) rfl (sC rfl eZ rfl rfl rfl rfl) rfl rfl (by decide) ?_;refine bn 3 Z (zB 2002 eu ew Z) (.inl Z)<|fT [2,3,4,40,41] [2002,2003,2005,2008] ?_;refine bn 4 Z (zB 2003 cA cB Z) (.inl Z)<|vq 5 (fk Z)<|fD<|gT<|aR ?_;refine ax ?_ trivial;refine congrArg (fun b=>some (AV.au [cj (de es).now,cR (d5 es).1,aD b])) ?_;grind[eL,ap]
 refine v1 3 Z (zB 2002 eu ew Z) (.inl Z)<|vq 1 (dw (.agg [U _ _,vL _ _ _]) eZ Z)<|bn 4 Z (zB 2003 cA cB Z) (.inl Z)<|vq 5 (fk Z)<|fD<|gT<|aR ?_;refine ax ?_ trivial;refine congrArg (fun b=>some (AV.au [cj (de es).now,cR (d5 es).1,aD b])) ?_;grind[eL,ap]

structure E9(h:mm):Prop where
 d:vU h.log.bT
 lc:h.book.ag.length<=1048576
 lh:h.book.an.length<=1048576
 li:h.book.aq.length<=1048576
 ll:h.ia.lines.length<=1048576
 lw:h.wait.length<=1048576
 ls:h.f9.length<=1048576
structure It(h:mm):Prop where
 mc:h.log.bT.cells.length<=9223372036854775807
 bc:∀c∈h.log.bT.cells,c.bytes.length<=9223372036854775807
 mw:h.log.bT.bu.length<=9223372036854775807
 bw:∀c∈h.log.bT.bu,c.bytes.length<=9223372036854775807
 lc:h.book.ag.length<=9223372036854775807
 lh:h.book.an.length<=9223372036854775807
 li:h.book.aq.length<=9223372036854775807
 ll:h.ia.lines.length<=9223372036854775807
 lw:h.wait.length<=9223372036854775807
 ls:h.f9.length<=9223372036854775807
 db:qK h.log.bT
 wc:∀c∈h.book.ag,qn c
 wh:∀c∈h.book.an,ue c
 wi:∀c∈h.book.aq,vo c
theorem Xo(x:aw)(hc:x.ag.length<=1048576)(hh:x.an.length<=1048576)(hi:x.aq.length<=1048576):GC prog 60 [cj x,cj x] [] (aD true) []:=by
 refine gi 4 func60 rfl ntmps60 rfl ?_;intro L O w0;refine sL<|ab (zX 2002 rfl) Z<|ab (zX 2003 rfl) Z<|ar Z<|Y<|aS<|sL<|lf 0 mB Z<|aj ac Z<|lf 0 mB Z<|aj ac Z<|ak Z<|bJ 9 false rfl (by simp)<|Y<|aN Z<|aK<|gT<|aS<|sL<|lf 1 mW Z<|aj ac Z<|lf 1 mW Z<|aj ac Z<|ak Z<|bJ 14 false rfl (by simp) ?_;refine Y<|aN Z<|aK<|gT<|aS<|sL<|lf 2 iW Z<|aj ac Z<|lf 2 iW Z<|aj ac Z<|ak Z<|bJ 19 false rfl (by simp)<|Y<|aN Z<|aK<|gT<|aS<|sL<|lf 3 dr Z<|bo eg Z<|lf 3 dr Z<|bo eg Z<|ab (zL func141 (WI _ (by omega)) rfl) Z<|lT [2,3,4,24] [2002,2003] ?_;refine ma Z<|bJ 25 false rfl (by simp)<|Y<|aN Z<|aK<|gT<|aS<|sL<|lf 4 eF Z<|bo fS Z<|lf 4 eF Z<|bo fS Z<|ab (zL func142 (WJ _ (by omega)) rfl) Z<|ma Z<|bJ 31 false rfl (by simp)<|Y<|aN Z<|aK<|gT<|aS<|sL<|lf 5 gn Z<|bo ii Z<|lf 5 gn Z<|bo ii Z<|ab (zL func143 (WK _ (by omega)) rfl) rfl ?_;refine ma Z<|bJ 37 false rfl (by simp)<|Y<|aN Z<|aK<|gA<|cI Z<|Y<|aR ?_;trivial
theorem Xp(x:cH)(hc:x.lines.length<=1048576):GC prog 61 [cR x,cR x] [] (aD true) []:=by
 refine gi 4 func61 rfl ntmps61 rfl ?_;intro L O w0;refine sL<|ab (zX 2002 rfl) Z<|ab (zX 2003 rfl) Z<|ar Z<|Y<|aS<|sL<|lf 0 pW Z<|aj ac Z<|lf 0 pW Z<|aj ac Z<|ak Z<|bJ 9 false rfl (by simp)<|Y<|aN Z<|aK<|gT<|aS<|sL<|lf 1 jY Z<|bo gY Z<|lf 1 jY Z<|bo gY Z<|ab (zL func144 (WH _ (by omega)) rfl) Z<|ma rfl ?_;refine bJ 15 false rfl (by simp)<|Y<|aN Z<|aK<|gA<|cI Z<|Y<|aR ?_;trivial
theorem Xq(h:mm)(hz:E9 h):GC prog 15 [Bu h,Bu h] [] (aD true) []:=by
 refine gi 4 func15 rfl ntmps15 rfl ?_;intro L O w0;refine sL<|ab (zX 2002 rfl) Z<|ab (zX 2003 rfl) Z<|ar Z<|Y<|aS<|sL<|lf 0 qL Z<|aP (.agg [vL _ _ _,vL _ _ _,U _ _,U _ _]) EY Z<|lf 0 qL Z<|aP (.agg [vL _ _ _,vL _ _ _,U _ _,U _ _]) EY Z<|ab (zL func59 (Xa h.log hz.d.e) rfl) Z<|ma Z<|bJ 10 false rfl (by simp)<|Y<|aN Z<|aK<|gT<|aS<|sL<|lf 4 Bw Z<|aP (.agg [U _ _,U _ _,U _ _,vL _ _ _,vL _ _ _,vL _ _ _]) cu Z<|lf 4 Bw Z<|aP (.agg [U _ _,U _ _,U _ _,vL _ _ _,vL _ _ _,vL _ _ _]) cu Z<|ab (zL func60 (Xo h.book hz.lc hz.lh hz.li) rfl) rfl ?_;refine lT [2,3,4,15] [2002,2003] ?_;refine ma Z<|bJ 16 false rfl (by simp)<|Y<|aN Z<|aK<|gT<|aS<|sL<|lf 10 Bx Z<|aP (.agg [U _ _,vL _ _ _]) eZ Z<|lf 10 Bx Z<|aP (.agg [U _ _,vL _ _ _]) eZ Z<|ab (zL func61 (Xp h.ia hz.ll) rfl) Z<|ma Z<|bJ 22 false rfl (by simp)<|Y<|aN Z<|aK<|gT<|aS<|sL<|lf 12 Bz Z<|bo tE Z<|lf 12 Bz Z<|bo tE Z<|ab (zL func62 (NO h.wait (by have:=hz.lw;have:=hz.ls;omega)) rfl) rfl ?_;refine ma Z<|bJ 28 false rfl (by simp)<|Y<|aN Z<|aK<|gT<|aS<|sL<|lf 13 By Z<|bo tE Z<|lf 13 By Z<|bo tE Z<|ab (zL func62 (NO h.f9 (by have:=hz.lw;have:=hz.ls;omega)) rfl) Z<|lT [4,33] [2002,2003] ?_;refine ma Z<|bJ 34 false rfl (by simp)<|Y<|aN Z<|aK<|gA<|cI Z<|Y<|aR ?_;trivial

def abO(H K:Nat->AO):Nat->AO:=fun i=>if (K i).here=true then .gone else H i
structure ab3(H K:Nat->AO):Prop where
 ai:∀i,H i=.gone\/∃e sz rows,H i=.ai e sz rows
 sub:∀i,K i=.gone\/K i=H i
section
variable {L:Nat->Prop}{ρ:Nat->Value}{H K:Nat->AO}{w:World}
theorem ab3.lv(h:ab3 H K){b:Nat}(q:live L ρ K b):live L ρ H b:=by
 rcases q with q|⟨i,q1,q2⟩
 ·exact .inl q
 rcases h.sub i with e|e
 ·rw[e]at q1;cases q1
 rw[e]at q1;exact .inr ⟨i,q1,q2⟩
theorem ab3.drop(h:ab3 H K){b:Nat}(q:live (live L ρ K) ρ (abO H K) b):live L ρ H b:=by
 rcases q with q|⟨i,q1,q2⟩
 ·exact h.lv q
 unfold abO at q1;split at q1
 ·cases q1
 exact .inr ⟨i,q1,q2⟩
theorem ab3.lie(h:ab3 H K){fp:Nat->List Nat}(V:∀i,OB L ρ H w (ρ i) (fp i) (H i))(h2:∀i j,i≠j->∀b∈fp i,b ∉ fp j)(h3:∀i,∀b∈fp i,¬L b):vk (live L ρ K) ρ (abO H K) w (fun b=>¬live L ρ K b):=by
 refine⟨fun id=>?_,fun b hb q=>hb (.inl q)⟩;by_cases hk:(K id).here=true
 ·exact⟨[],by unfold abO;rw[if_pos hk];rfl,fun b hb=>by cases hb⟩
 refine⟨fp id,?_,fun b hb q=>?_⟩
 ·have e:abO H K id=H id:=if_neg hk;have ho:=V id;rw[e];rcases h.ai id with q|⟨e',sz,rows,q⟩
  ·rw[q]at ho ⊢;exact ho
  rw[q]at ho ⊢;obtain⟨xs,fr,b1,b2,b3,b4,b5⟩:=ho;exact⟨xs,fr,b1,fun b hb z=>b2 b hb (h.drop z),b3,b4,b5⟩
 rcases q with q|⟨j,q1,q2⟩
 ·exact h3 id b hb q
 have ne:id≠j:=fun z=>hk (z▸q1);rcases h.sub j with z|z
 ·rw[z]at q1;cases q1
 have ho:=V j;rcases h.ai j with y|⟨e',sz,rows,y⟩
 ·rw[z,y]at q1;cases q1
 rw[y]at ho;obtain⟨_,_,_,_,_,b4,_⟩:=ho;exact h2 id j ne b hb (by rw[b4,q2];simp)
end
structure abG(H K:Nat->AO)(x y:AV):Prop where
 to:∀ {L:Nat->Prop} {ρ:Nat->Value} {w:World} {c:Value},vk (live L ρ K) ρ (abO H K) w (fun b=>¬live L ρ K b)->(∀b,¬live L ρ H b->¬live L ρ K b)->RV L ρ H w x c->RV L ρ K w y c
section
variable {H K:Nat->AO}
theorem abG.p(x:PV):abG H K (.p x) (.p x):=.mk fun hl hn h=>by
 rw[RV]at *;obtain⟨fp,V,h2⟩:=h;exact⟨fp,V,fun b hb=>hn b (h2 b hb)⟩
theorem abG.own{id:Nat}(h:K id=H id):abG H K (.own id) (.own id):=.mk fun hl hn hx=>by
 rw[RV]at *;rw[h];exact hx
theorem adb{id:Nat}{y:PV}(h:(K id).here=false)(hs:Still (abO H K) (.own id) (.p y)):abG H K (.own id) (.p y):=.mk fun{L ρ w c} hl hn hx=>by
 have e:abO H K id=H id:=if_neg (by rw[h];simp);have V:RV (live L ρ K) ρ (abO H K) w (.own id) c:=by rw[RV]at *;rw[e];exact hx
 have h2:=hs.to hl V;rw[RV]at *;obtain⟨fp,k1,k2⟩:=h2;exact⟨fp,k1,fun b hb q=>k2 b hb (.inl q)⟩
theorem bf.vA{L:Nat->Prop}{ρ:Nat->Value}{w:World}(hl:vk (live L ρ K) ρ (abO H K) w (fun b=>¬live L ρ K b))(hn:∀b,¬live L ρ H b->¬live L ρ K b):∀ {l m:List AV} {cs:List Value},kf (abG H K) l m->bf L ρ H w l cs->bf L ρ K w m cs
 |_,_,cs,.nil,h=>by rw[bf]at *;exact h
 |_,_,cs,.cons V h2,h=>by
  rw[bf]at *;obtain⟨c,r,rfl,k1,k2⟩:=h;exact⟨c,r,rfl,V.to hl hn k1,bf.vA hl hn h2 k2⟩
theorem abG.agg{l m:List AV}(h:kf (abG H K) l m):abG H K (.agg l) (.agg m):=.mk fun hl hn hx=>by
 rw[RV]at *;obtain⟨cs,rfl,V⟩:=hx;exact⟨cs,rfl,bf.vA hl hn h V⟩
theorem abG.au{l m:List AV}(h:kf (abG H K) l m):abG H K (.au l) (.au m):=.mk fun hl hn hx=>by
 rw[RV]at *;obtain⟨cs,rfl,V⟩:=hx;exact⟨cs,rfl,bf.vA hl hn h V⟩
end
theorem GX.vA{P:Program}{f:FuncId}{args:List AV}{R Z:AV->List (Nat×AO)->Prop}(h:GX P f args [] R)(hR:∀x bd,R x bd->∃y ob2,abG (bx bd) (bx ob2) x y/\ab3 (bx bd) (bx ob2)/\Z y ob2):GX P f args [] Z:=fun L w cs ρ fp V h2 h3 h4 h5=>
 Calls.mono (h L w cs ρ fp V h2 h3 h4 h5) fun e w' ⟨x,bd,q,v,ci,bH,q1,q2,q3,q4,q5,q6⟩=>by
  obtain⟨y,ob2,hy,hs,hz⟩:=hR x bd q;have hn:∀b,¬live L ci (bx bd) b->¬live L ci (bx ob2) b:=fun b k z=>k (hs.lv z);refine⟨y,ob2,hz,v,ci,fun i=>if (bx ob2 i).here=true then bH i else [],q1,q2,hy.to (hs.lie q4 q5 (fun i b hb=>(q6 i b hb).2)) hn q3,fun i=>?_,fun i j ne b hb=>?_,fun i b hb=>?_⟩
  ·by_cases hk:(bx ob2 i).here=true
   ·simp only[hk,if_true];rcases hs.sub i with z|z
    ·rw[z]at hk;cases hk
    rw[z];have ho:=q4 i;rcases hs.ai i with y|⟨e',sz,rows,y⟩
    ·rw[y]at ho ⊢;exact ho
    rw[y]at ho ⊢;obtain⟨xs,fr,b1,b2,b3⟩:=ho;exact⟨xs,fr,b1,fun b hb=>hn b (b2 b hb),b3⟩
   simp only[hk,if_false];rcases hs.sub i with z|z
   ·rw[z];rfl
   rcases hs.ai i with y|⟨e',sz,rows,y⟩
   ·rw[z,y];rfl
   rw[z,y]at hk;exact absurd rfl hk
  ·intro kA;dsimp only at hb kA;split at hb
   ·split at kA
    ·exact q5 i j ne b hb kA
    cases kA
   cases hb
  dsimp only at hb;split at hb
  ·exact q6 i b hb
  cases hb

def poO(l:cH)(p:dX):AV->List (Nat×AO)->Prop:=fun y ob=>(iv l p≠0/\y=.au [.agg [int 0,.p (.v (.slice none 0 0))],int (iv l p)]/\ob=[])\/(iv l p=0/\y=.au [.agg [int p.id,.own 50],int 0]/\ob=[(50,dc ((fM l.lines p.lines).getD []))])
theorem adc(l:cH)(p:dX)(hp:p.lines.length<=1000):GX prog 42 [cR l,DT p] [] (poO l p):=by
 refine GX.intro (rs:=[.cell 4 53 (some 2),.tmp 5]) func42 rfl ntmps42 (Nat.le_of_ble_eq_true rfl) ⟨rfl,rfl,eZ,rfl,trivial⟩ ?_;intro L O w0;refine sL<|ab (zX 2002 Z) Z<|ab (zX 2003 Z) Z<|ab (zA 2004 ld Z) Z<|ao Z<|Y<|aS<|sL<|aP (.agg [U _ _,vL _ _ _]) eZ Z<|ab (zC [] [] [] func121 (Lb l) (trivial) Z Z) Z<|bX Z<|aQ Z ?_;refine AL.bool (t:=11) rfl ?_ ?_
 ·intro V;refine aa Z<|aa Z<|aa Z<|aU Z<|Y<|aY Z<|sL<|lq (rd (x:=.agg [U _ _,vV _]) (cP Z lP Z Z Z) Z)<|ab (zB 2004 cA cB Z) Z<|ao Z<|Y<|aR<|rT ?_;refine fN ((.au [.agg [int 0,.p (.v (.slice none 0 0))],int 1])) [] ?_ rfl trivial;have hc:iv l p=1:=Gp (by simp_all);exact .inl ⟨by omega,by rw[hc],rfl⟩
 intro V;refine aP (.agg [U _ _,vL _ _ _]) ol Z<|ab (zC [] [] [] func122 (SM p.id p.lines hp) (trivial) Z Z) Z<|lT [2,3,4,5,11,13] [2002,2003,2004] ?_;refine bX Z<|bj Z<|Y ?_;refine AW.cond rfl ?_ ?_
 ·intro h2;refine sL<|lq (rd (x:=.agg [U _ _,vV _]) (cP Z lP Z Z Z) Z)<|ab (zB 2004 cA cB Z) Z<|ao Z<|Y<|aR<|rT ?_;refine fN ((.au [.agg [int 0,.p (.v (.slice none 0 0))],int 1])) [] ?_ rfl trivial;have hc:iv l p=1:=Gp (by simp_all);exact .inl ⟨by omega,by rw[hc],rfl⟩
 intro h2;refine aK<|gT<|aS<|sL<|lf 0 wN Z<|aj ac Z<|lf 0 pW Z<|aj ac Z<|ak Z<|Y ?_;refine AW.cond rfl ?_ ?_
 ·intro h3;refine sL<|lq (rd (x:=.agg [U _ _,vV _]) (cP Z lP Z Z Z) Z)<|ab (zB 2004 cA cB Z) Z<|ao Z<|Y<|aR<|rT ?_;refine fN ((.au [.agg [int 0,.p (.v (.slice none 0 0))],int 2])) [] ?_ rfl trivial;have hc:iv l p=2:=Le (by simpa using V) (by simpa using h2) (by simpa using h3);exact .inl ⟨by omega,by rw[hc],rfl⟩
 intro h3;refine aK<|gA<|lf 1 jY Z<|bo gY Z<|lf 1 t7 Z<|bo gY Z ?_;have gH:eQ l=true:=by simpa using V
 have oU:iL p.id p.lines=true:=by simpa using h2
 obtain⟨qY,lD,-,-⟩:=va gH;obtain⟨BT,nS,-,-⟩:=DU oU;have hold:¬p.id<=l.last:=by simpa using h3
 rcases hmg:fM l.lines p.lines with _|r
 ·skip;refine ab (zC [] [] [] func123 (SK (by omega) lD nS hmg) (trivial) rfl rfl) Z<|lT [3,4,5,28] [2002,2003,2004] ?_;refine cT (.au [vV _,vB false]) Z<|SN Z<|iB (vB false) Z<|e9 Z<|ar Z<|Y<|aS<|sL<|dm Z<|Gq Z<|bM Z<|aa Z<|aa Z<|aa Z<|aU Z<|Y<|aY Z<|sL<|lq (rd (x:=.agg [U _ _,vV _]) (cP Z lP Z Z Z) Z)<|ab (zB 2004 cA cB Z) Z<|ao Z<|Y<|aR<|rT ?_;refine fN ((.au [.agg [int 0,.p (.v (.slice none 0 0))],int 3])) [] ?_ rfl trivial;have hc:iv l p=3:=Lf gH oU hold hmg;exact .inl ⟨by omega,by rw[hc],rfl⟩
 skip;refine ab (zC [(50,50)] [50] [] func123 (SJ (by omega) lD nS hmg) (trivial) rfl rfl) Z<|cT (.au [.own _,vB true]) Z<|qT Z<|iB (vB true) Z<|bD Z<|cI Z<|Y<|aS<|sL<|bM Z<|ma Z<|dm Z<|bW Z<|ba hZ Z<|ak Z<|bj Z<|Y ?_;refine AW.cond rfl ?_ ?_
 ·intro h4;refine sL<|lq (rd (x:=.agg [U _ _,vV _]) (cP Z lP Z Z Z) Z)<|ab (zB 2004 cA cB Z) Z<|lT [3,4,5,6] [50,2002,2003,2004] ?_;refine ao Z<|Y<|aR<|rT ?_;refine fN ((.au [.agg [int 0,.p (.v (.slice none 0 0))],int 3])) [] ?_ rfl trivial;have hc:iv l p=3:=Lg gH oU hold hmg (by have h:=h4;simp[ap]at h;omega);exact .inl ⟨by omega,by rw[hc],rfl⟩
 intro h4;refine aK<|gA<|lf 0 wN Z<|aj ac Z<|bW Z<|lq (rd (x:=.agg [U _ _,.own _]) (cP Z lP Z Z Z) Z)<|ab (zB 2004 cA cB Z) Z<|ao Z<|Y<|aR ?_;refine fN ((.au [.agg [int p.id,.own 50],int 0])) [(50,dc r)] ?_ rfl ⟨rfl,trivial⟩;exact .inr ⟨Gr gH oU hold hmg (by have h:=h4;simp[ap]at h;omega),rfl,by rw[hmg];rfl⟩
theorem adV(l:cH)(p:dX)(hp:p.lines.length<=1000)(h:iv l p=0):GC prog 42 [cR l,DT p] [] (.au [.agg [int (iD l p).last,.own 50],int 0]) [(50,dc (iD l p).lines)]:=(adc l p hp).gc fun y o q=>by
 have e:iD l p=⟨p.id,(fM l.lines p.lines).getD []⟩:=if_pos h;rcases q with⟨q,_⟩|⟨_,q1,q2⟩
 ·exact absurd h q
 rw[e];exact⟨q1,q2⟩
theorem adW(l:cH)(p:dX)(hp:p.lines.length<=1000)(h:iv l p≠0):GC prog 42 [cR l,DT p] [] (.au [.agg [int 0,.p (.v (.slice none 0 0))],int (iv l p)]) []:=(adc l p hp).gc fun y o q=>by
 rcases q with⟨_,q1,q2⟩|⟨q,_⟩
 ·exact⟨q1,q2⟩
 exact absurd q h
abbrev ab4(u:Value)(l:cH):List (Nat×AO):=[(61,.ai ⟨167,some u⟩ 3 (ah ct l.lines))]
theorem adX{u:Value}{l:cH}{p:dX}(hp:p.lines.length<=1000)(h:iv l p=0):GC prog 42 [.agg [int l.last,.own 61],DT p] (ab4 u l) (.au [.agg [int (iD l p).last,.own 50],int 0]) ((50,dc (iD l p).lines)::ab4 u l):=
 (adV l p hp h).Ae rfl rfl (by intro id hid;simp[s7,vN]at hid;subst hid;rfl) (by intro p hp;simp[ab4]at hp;subst hp;rfl) (by intro p hp;rw[List.mem_singleton.1 hp];exact⟨rfl,yg⟩) (by intro p hp;simp[ab4]at hp;subst hp;rfl)
theorem adY{u:Value}{l:cH}{p:dX}(hp:p.lines.length<=1000)(h:iv l p≠0):GC prog 42 [.agg [int l.last,.own 61],DT p] (ab4 u l) (.au [.agg [int 0,.p (.v (.slice none 0 0))],int (iv l p)]) (ab4 u l):=
 (adW l p hp h).Ae rfl rfl (by intro id hid;simp[s7,vN]at hid) (by intro p hp;simp[ab4]at hp;subst hp;rfl) (by intro p hp;cases hp) (by intro p hp;rfl)
theorem adZ(l:cH)(hl:l.lines.length<=1000):GC prog 57 [cR l] [] (.agg [int l.last,.own 51]) [(51,dc l.lines)]:=by
 refine GC.intro (rs:=[.cell 2 53 (some 2)]) func57 rfl ntmps57 (Nat.le_of_ble_eq_true rfl) ⟨rfl,rfl,eZ,trivial⟩ ?_;intro L O w0;refine sL<|ab (zX 2001 Z) Z<|ab (zA 2002 ld Z) Z<|Y<|aS<|aG 6 [51]<|tq 0 (rf 0 pW Z)<|tq 1 (aZ ac Z)<|yq 2 (rf 1 jY Z)<|yq 3 (jj gY Z)<|cm 4 Z (zC [(51,51)] [51] [] func140 (SQ l.lines hl) (trivial) Z Z)<|yq 5 (rd (x:=.agg [U _ _,.own _]) (cP Z lP Z Z Z) Z)<|yl Z (zB 2002 cA cB Z)<|gT<|aR ?_;refine ax ?_ ⟨rfl,trivial⟩;rfl
def paO(l:cH)(ps:List dX):AV->List (Nat×AO)->Prop:=fun y ob=>(eQ l=false/\y=.au [.agg [int 0,.p (.v (.slice none 0 0))],int (-1)]/\ob=[])\/(eQ l=true/\y=.au [.agg [int (jJ l ps).1.last,.own 61],int (jJ l ps).2]/\ob=[(61,dc (jJ l ps).1.lines)])
theorem ad0(l:cH)(ps:List dX)(nu:∀p∈ps,p.lines.length<=1000)(hn:ps.length<=1000000):GX prog 175 [cR l,.p (.ab 92 2 (qI ps))] [] (paO l ps):=by
 refine GX.intro (rs:=[.cell 4 53 (some 2),.tmp 5]) func175 rfl ntmps175 (Nat.le_of_ble_eq_true rfl) ⟨rfl,rfl,eZ,rfl,trivial⟩ ?_;intro L O w0;refine sL<|ab (zX 2002 Z) Z<|ab (zA 2004 ld Z) Z<|ao Z<|Y<|aS<|sL<|aP (.agg [U _ _,vL _ _ _]) eZ Z<|ab (zC [] [] [] func121 (Lb l) (trivial) Z Z) Z<|bX Z<|Y ?_;refine AW.cond rfl ?_ ?_
 ·intro V;refine sL<|lq (rd (x:=.agg [U _ _,vV _]) (cP Z lP Z Z Z) Z)<|ab (zB 2004 cA cB Z) Z<|ao Z<|Y<|aR<|rT ?_;refine fN ((.au [.agg [int 0,.p (.v (.slice none 0 0))],int (-1)])) [] ?_ rfl trivial;exact .inl ⟨by simpa using V,rfl,rfl⟩
 intro V;refine aK<|gA<|aP (.agg [U _ _,vL _ _ _]) eZ Z ?_;have gH:eQ l=true:=by simpa using V
 obtain⟨qY,lD,-,-⟩:=va gH;refine ab (zC [(51,61)] [61] [] func57 (adZ l (by omega)) (trivial) rfl rfl) Z<|ab (zA 2006 ld rfl) Z<|ab (zB 2006 cA cB rfl) Z<|nA<|ao Z<|Y<|aS<|sL<|bm Z<|ba pX Z<|ae Z<|Y<|aB ?_;refine aW [4,5,6,18,19] [2002,2004] (D:=Nat) (fun k=>[(7,int (jJ l (ps.take k)).2),(20,int (k:Int))]) (fun k=>[(2006,.box 53 none [int (jJ l (ps.take k)).1.last,.own 61]),(61,dc (jJ l (ps.take k)).1.lines)]) (fun k=>k<=ps.length) (fun k=>ps.length-k) (0) (Nat.zero_le _) ⟨rfl,rfl,trivial⟩ ⟨rfl,rfl,trivial⟩ ?_;intro k hI;refine sL<|ak Z<|Y<|aS ?_;refine AW.cond rfl ?_ ?_
 ·intro h2;refine aK<|gT<|aS<|aB<|sL ?_;have hk:k<ps.length:=by simpa[fw]using h2
  have hs:=FS (ps:=ps) qY k (by omega);refine li k vb Z (DV hk)<|d6 (.agg [U _ _,vL _ _ _]) ol Z<|ab (zA 2009 pC Z) Z<|lT [4,5,6,7,9,18,19,20,23] [61,2002,2004,2006,2009] ?_;refine ab (zB 2009 na nb Z) Z<|Y<|aS ?_;refine AW.mU 61 rfl ?_;intro u61;refine aL<|aP (.agg [U _ _,.own _]) eZ Z<|aP (.agg [U _ _,vL _ _ _]) ol Z ?_;rcases Decidable.em (iv (jJ l (ps.take k)).1 ps[k]=0)with hpc|hpc
  ·skip;refine ab (zC [(50,60),(61,61)] [60] [61] func42 (adX (u:=u61) (nu _ (List.getElem_mem hk)) hpc) (⟨stays.ai rfl,trivial⟩) rfl rfl) Z<|cT (.au [.agg [U _ _,.own _],U _ _]) Z<|iB (.agg [U _ _,.own _]) Z<|dE Z<|ab (zA 2010 ld rfl) Z<|ab (zB 2010 cA cB rfl) Z<|ao Z<|nA<|ae Z<|ak Z<|bJ 31 true rfl (by simp)<|Y<|aY Z<|sL<|aP (.agg [U _ _,.own _]) eZ Z<|ab (zB 2006 cA cB rfl) Z<|lT [4,5,6,7,18,19,20] [60,61,2002,2004,2006,2009,2010] ?_;refine Y<|aL<|ae Z<|bg Z<|ao Z<|lN<|gB<|gT ?_;refine AW.swap 60 61 ?_;refine aT [4,5,6,7,18,19,20] [60,61,2002,2004,2006,2009,2010] ?_;refine aT [4,5,6,7,18,19,20] [61,2002,2004,2006,2009,2010] ?_;refine aL<|bg Z<|ae Z<|Y ?_;have dM:jJ l (ps.take (k+1))=(iD (jJ l (ps.take k)).1 ps[k],(jJ l (ps.take k)).2+1):=by
    rw[Gs hk];exact if_pos hpc
   refine⟨k+1,hk,by omega,⟨(Eq.trans (b:=int _) rfl (congrArg int (by rw[dM]))),(iq rfl),trivial⟩,⟨(by rw[dM];rfl),(by rw[dM];rfl),trivial⟩,rfl,rfl⟩
  skip;refine ab (zC [(61,61)] [] [61] func42 (adY (u:=u61) (nu _ (List.getElem_mem hk)) hpc) (⟨stays.ai rfl,trivial⟩) rfl rfl) Z<|cT (.au [.agg [U _ _,vV _],U _ _]) Z<|iB (.agg [U _ _,vV _]) Z<|dE Z<|ab (zA 2010 ld rfl) Z<|ab (zB 2010 cA cB rfl) Z<|ao Z<|nA<|ae Z<|ak Z<|bJ 31 false rfl (by simpa using hpc)<|Y<|aN Z<|aK<|gB<|gT ?_;refine iQ 61 rfl ?_;refine aT [4,5,6,7,18,19,20] [61,2002,2004,2006,2009,2010] ?_;refine aL<|bg Z<|ae Z<|Y ?_;have dM:jJ l (ps.take (k+1))=jJ l (ps.take k):=by
   rw[Gs hk];exact if_neg hpc
  refine⟨k+1,hk,by omega,⟨(Eq.trans (b:=int _) rfl (congrArg int (by rw[dM]))),(iq rfl),trivial⟩,⟨(by rw[dM];rfl),(by rw[dM];rfl),trivial⟩,rfl,rfl⟩
 intro h2;refine aE<|eT<|eT<|eB<|gA<|aP (.agg [U _ _,.own _]) eZ Z<|ae Z<|ab (zB 2004 cA cB Z) Z<|ao Z<|Y<|aR ?_;have dZ:ps.take k=ps:=List.take_of_length_le (by have h:=h2;simp[fw]at h;omega);rw[dZ];refine fN ((.au [.agg [int (jJ l ps).1.last,.own 61],int (jJ l ps).2])) [(61,dc (jJ l ps).1.lines)] ?_ rfl ⟨rfl,trivial⟩;exact .inr ⟨gH,rfl,rfl⟩
theorem ad1(ps:List dX)(nu:∀p∈ps,p.lines.length<=1000)(hn:ps.length<=1000000):GC prog 175 [.agg [int 0,.p (.v (.slice none 0 0))],.p (.ab 92 2 (qI ps))] [] (.au [.agg [int (jJ ⟨0,[]⟩ ps).1.last,.own 61],int (jJ ⟨0,[]⟩ ps).2]) [(61,dc (jJ ⟨0,[]⟩ ps).1.lines)]:=by
 have h:=(ad0 ⟨0,[]⟩ ps nu hn).gc fun y o q=>(by
  rcases q with⟨q,_⟩|⟨_,q1,q2⟩
  ·cases q
  exact⟨q1,q2⟩:y=.au [.agg [int (jJ ⟨0,[]⟩ ps).1.last,.own 61],int (jJ ⟨0,[]⟩ ps).2]/\o=[(61,dc (jJ ⟨0,[]⟩ ps).1.lines)])
 exact fun L w cs ρ fp V h2 h3 h4 h5=>h L w cs ρ fp V ((ff.cons (fe.agg (ff.cons (fe.refl _) (ff.cons (fe.nil _ _) ff.nil))) (ff.cons (fe.refl _) ff.nil)) h2) h3 h4 h5
end Go.Proofs.YtflhgkmhmcfimaaGreat

