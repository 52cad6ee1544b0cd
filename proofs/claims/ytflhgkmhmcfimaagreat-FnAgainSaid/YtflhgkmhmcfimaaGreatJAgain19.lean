/- Texts of the proof of FnFnAgain, joined: EU1, E35, E37, EU2, EU3, EV1, E36, EW1. -/
import Derived.Test.YtflhgkmhmcfimaaGreatJAgain18
import Derived.Test.YtflhgkmhmcfimaaGreatJAgain13
import Derived.Test.YtflhgkmhmcfimaaGreatJAgain17
import Derived.Test.YtflhgkmhmcfimaaGreatJAgain4
import Derived.Test.YtflhgkmhmcfimaaGreatJAgain5
import Derived.Test.YtflhgkmhmcfimaaGreatJAgain14
namespace Go.Proofs.YtflhgkmhmcfimaaGreat
open Tryz
open Go.RowKit
set_option maxHeartbeats 16000000
set_option maxRecDepth 100000
set_option linter.unusedSimpArgs false
set_option linter.unusedVariables false
def ja{α:Type}(enc:α->List Value)(l m:List α)(k:Nat):Prop:=∀j (V:j<l.length) (h2:j<m.length),j<k->dA (enc l[j]) (enc m[j])=true
theorem ja.zero{α:Type}(enc:α->List Value)(l m:List α):ja enc l m 0:=fun j _ _ h=>absurd h x_2
theorem ja.next{α:Type}{enc:α->List Value}{l m:List α}{k:Nat}(h:ja enc l m k)(V:k<l.length)(h2:k<m.length)(e:dA (enc l[k]) (enc m[k])=true):ja enc l m (k+1):=fun j q1 q2 q3=>by
 by_cases r:j=k
 ·grind
 exact h j q1 q2 x_2
theorem ja.all{α:Type}{enc:α->List Value}{l m:List α}{k:Nat}(h:ja enc l m k)(hl:l.length=m.length)(hk:¬k<l.length):lZ enc l m=true:=JR hl fun j q1 q2=>h j q1 q2 x_2
theorem FO : prog.fieldsOf 167 = ([{ name := "Acc",type := 165,offset := 0,embedded := false,tag := "",pkgPath := "",byteOffset := 0 },{ name := "Amt",type := 3,offset := 2,embedded := false,tag := "",pkgPath := "",byteOffset := 16 }] : List Field).toArray := by rfl
theorem JS:prog.underlying 167=some (.struct (prog.fieldsOf 167)):=by rfl
theorem JT:prog.stoodInHeld 167=false:=by simp
theorem JU:prog.eqGuardType prog.depth 167=false:=by simp
theorem JV(l:List Int)(hn:l.length<=9007199254740992):GC prog 176 [.p (.ab 3 1 (ah kt l))] [] (aD (eK l)) []:=by
 refine gi 2 func176 rfl ntmps176 rfl ?_;intro L O w0;refine sL<|ar Z<|Y<|aS<|sL<|bm Z<|ba x4 Z<|ae Z<|Y<|aB ?_;refine aW [2,5,6] [] (D:=Nat) (fun k=>[(7,int (k:Int))]) (fun k=>[]) (fun k=>∀j (h:j<l.length),j<k->l[j]=0) (fun k=>l.length-k) (0) (fun _ _ h=>absurd h x_2) ⟨rfl,trivial⟩ trivial ?_;intro k hI;refine sL<|ak Z<|Y<|aS<|cE rfl ?_ ?_
 ·intro V;refine aK<|gT<|aS<|aB<|sL ?_;have hk:k<l.length:=by simpa[ap]using V
  refine li k iU Z (bS hk)<|oy ac Z<|ao Z<|nA<|ae Z<|ak Z<|Y<|cE rfl ?_ ?_
  ·intro h2;refine sL<|ar Z<|Y<|aR<|rB<|rT<|rT<|rB<|rT ?_;refine az trivial ?_;exact(Bool.eq_false_iff.2 fun q=>by have h:=h2;have:=List.all_eq_true.1 q _ (List.getElem_mem hk);grind).symm
  intro h2;refine aK<|gB<|gT<|aL<|bg Z<|ae Z<|Y ?_;refine⟨k+1,fun j q1 q2=>by
   grind,by omega,x_11,trivial,rfl,rfl⟩
 intro V;refine aE<|eT<|eT<|eB<|gA<|cI Z<|Y<|aR ?_;refine az trivial ?_;exact(List.all_eq_true.2 fun z hz=>by obtain⟨j,hj,rfl⟩:=List.getElem_of_mem hz;grind[ap]).symm
theorem Qu(a b:cH)(hn:a.lines.length<=9007199254740992)(hm:b.lines.length<=9007199254740992):GC prog 94 [cR a,cR b] [] (aD (qE a b)) []:=by
 refine gi 4 func94 rfl ntmps94 rfl ?_;intro L O w0;refine sL<|ab (zX 2002 Z) Z<|ab (zX 2003 Z) Z<|ar Z<|Y<|aS<|sL<|lf 0 pW Z<|aj ac Z<|lf 0 pW Z<|aj ac Z<|ak Z<|aQ Z ?_;refine AL.bool (t:=11) rfl ?_ ?_
 ·intro V;refine aa Z<|aa Z<|aa Z<|aa Z<|aa Z<|aa Z<|aa Z<|aU Z<|Y<|aY Z<|sL<|ar Z<|Y<|aR<|rT ?_;refine az trivial ?_;grind[qE]
 intro V;refine lf 1 jY Z<|bo gY Z<|ba hZ Z<|lf 1 jY Z<|bo gY Z<|ba hZ Z<|ak Z<|bj Z<|Y<|cE rfl ?_ ?_
 ·intro h2;refine sL<|ar Z<|Y<|aR<|rT ?_;refine az trivial ?_;unfold qE;rw[tD x_33,Bool.and_false]
 intro h2;refine aK<|gT<|aS<|sL ?_;have q1:a.last=b.last:=by have h:=V;simpa using h
 have q2:a.lines.length=b.lines.length:=by have h:=h2;simp[ap]at h;omega
 refine lf 1 jY Z<|bo gY Z<|ba hZ Z<|ae Z<|Y<|aB ?_;refine aW [2,3,4,22] [2002,2003] (D:=Nat) (fun k=>[(23,int (k:Int))]) (fun k=>[]) (fun k=>ja ct a.lines b.lines k) (fun k=>a.lines.length-k) (0) (ja.zero _ _ _) ⟨rfl,trivial⟩ trivial ?_;intro k hI;refine sL<|ak Z<|Y<|aS<|cE rfl ?_ ?_
 ·intro h3;refine aK<|gT<|aS<|aB<|sL<|ae Z<|ao Z<|Y<|aS<|aF []<|pq 0 (qf 1 jY Z)<|sq 1 (jj gY Z)<|pq 2 (gL c6 Z)<|fT [2,3,4,5,22,23,27,28] [2002,2003] ?_;have hk:k<a.lines.length:=by simpa[ap]using h3
  have iy:k<b.lines.length:=by omega
  refine sq 3 (ri k cV rfl (bS hk))<|sq 4 (gm oo iV rfl)<|pq 5 (qf 1 jY rfl)<|sq 6 (jj gY rfl)<|vq 7 (dW rfl)<|vq 8 (ri k cV rfl (bS iy))<|vq 9 (gm oo iV rfl)<|vq 10 (rd (x:=fy) (JW (a:=[_,_]) (b:=[_,_]) (r:=[_]) (r':=[_]) rfl (.inr rfl) rfl rfl FO JS JT JU x_3 rfl wA uR wB Dm (Eq.refl 2) ?hn1 ?hn2) rfl) ?_;case hn1=>exact x_24
  case hn2=>exact⟨rfl,by decide,rfl,⟨_,underlying3⟩,trivial⟩
  refine fD<|gT<|cE rfl ?_ ?_
  ·intro h4;refine sL<|ar Z<|Y<|aR<|rB<|rT<|rT<|rB<|rT ?_;refine az trivial ?_;unfold qE;rw[qF hk iy (by have h:=h4;rw[Bool.not_eq_true']at h;exact h),Bool.and_false]
  intro h4;refine aK<|gB<|gT<|aL<|bg Z<|ae Z<|Y ?_;refine⟨k+1,hI.next hk iy (by have h:=h4;rw[Bool.not_eq_false']at h;exact h),by omega,x_11,trivial,rfl,rfl⟩
 intro h3;refine aE<|eT<|eT<|eB<|gA<|cI Z<|Y<|aR ?_;refine az trivial ?_;unfold qE;rw[hI.all q2 x_33,decide_eq_true q1];rfl
theorem Qv(a b:cH)(hn:a.lines.length<=9007199254740992)(hm:b.lines.length<=9007199254740992):GC prog 90 [cR a,cR b] [] (aD (qE a b)) []:=by
 refine gi 4 func90 rfl ntmps90 rfl ?_;intro L O w0;refine sL<|ab (zX 2002 Z) Z<|ab (zX 2003 Z) Z<|ar Z<|Y<|aS<|sL<|lf 0 pW Z<|aj ac Z<|lf 0 pW Z<|aj ac Z<|ak Z<|aQ Z ?_;refine AL.bool (t:=11) rfl ?_ ?_
 ·intro V;refine aa Z<|aa Z<|aa Z<|aa Z<|aa Z<|aa Z<|aa Z<|aU Z<|Y<|aY Z<|sL<|ar Z<|Y<|aR<|rT ?_;refine az trivial ?_;grind[qE]
 intro V;refine lf 1 jY Z<|bo gY Z<|ba hZ Z<|lf 1 jY Z<|bo gY Z<|ba hZ Z<|ak Z<|bj Z<|Y<|cE rfl ?_ ?_
 ·intro h2;refine sL<|ar Z<|Y<|aR<|rT ?_;refine az trivial ?_;unfold qE;rw[tD x_33,Bool.and_false]
 intro h2;refine aK<|gT<|aS<|sL ?_;have q1:a.last=b.last:=by have h:=V;simpa using h
 have q2:a.lines.length=b.lines.length:=by have h:=h2;simp[ap]at h;omega
 refine lf 1 jY Z<|bo gY Z<|ba hZ Z<|ae Z<|Y<|aB ?_;refine aW [2,3,4,22] [2002,2003] (D:=Nat) (fun k=>[(23,int (k:Int))]) (fun k=>[]) (fun k=>ja ct a.lines b.lines k) (fun k=>a.lines.length-k) (0) (ja.zero _ _ _) ⟨rfl,trivial⟩ trivial ?_;intro k hI;refine sL<|ak Z<|Y<|aS<|cE rfl ?_ ?_
 ·intro h3;refine aK<|gT<|aS<|aB<|sL<|ae Z<|ao Z<|Y<|aS<|aF []<|pq 0 (qf 1 jY Z)<|sq 1 (jj gY Z)<|pq 2 (gL c6 Z)<|fT [2,3,4,5,22,23,27,28] [2002,2003] ?_;have hk:k<a.lines.length:=by simpa[ap]using h3
  have iy:k<b.lines.length:=by omega
  refine sq 3 (ri k cV rfl (bS hk))<|sq 4 (gm oo iV rfl)<|pq 5 (qf 1 jY rfl)<|sq 6 (jj gY rfl)<|vq 7 (dW rfl)<|vq 8 (ri k cV rfl (bS iy))<|vq 9 (gm oo iV rfl)<|vq 10 (rd (x:=fy) (JW (a:=[_,_]) (b:=[_,_]) (r:=[_]) (r':=[_]) rfl (.inr rfl) rfl rfl FO JS JT JU x_3 rfl wA uR wB Dm (Eq.refl 2) ?hn1 ?hn2) rfl) ?_;case hn1=>exact x_24
  case hn2=>exact⟨rfl,by decide,rfl,⟨_,underlying3⟩,trivial⟩
  refine fD<|gT<|cE rfl ?_ ?_
  ·intro h4;refine sL<|ar Z<|Y<|aR<|rB<|rT<|rT<|rB<|rT ?_;refine az trivial ?_;unfold qE;rw[qF hk iy (by have h:=h4;rw[Bool.not_eq_true']at h;exact h),Bool.and_false]
  intro h4;refine aK<|gB<|gT<|aL<|bg Z<|ae Z<|Y ?_;refine⟨k+1,hI.next hk iy (by have h:=h4;rw[Bool.not_eq_false']at h;exact h),by omega,x_11,trivial,rfl,rfl⟩
 intro h3;refine aE<|eT<|eT<|eB<|gA<|cI Z<|Y<|aR ?_;refine az trivial ?_;unfold qE;rw[hI.all q2 x_33,decide_eq_true q1];rfl
theorem Qw(a b:List aV)(hn:a.length<=9007199254740992)(hm:b.length<=9007199254740992):GC prog 95 [.p (.ab 81 7 (ah fR a)),.p (.ab 81 7 (ah fR b))] [] (aD (lZ fR a b)) []:=by
 refine gi 4 func95 rfl ntmps95 rfl ?_;intro L O w0;refine sL<|ar Z<|Y<|aS<|sL<|bm Z<|ba jZ Z<|bm Z<|ba jZ Z<|ak Z<|Y<|cE rfl ?_ ?_
 ·intro V;refine sL<|ar Z<|Y<|aR<|rT ?_;refine az trivial ?_;grind[tD,ap]
 intro V;refine aK<|gT<|aS<|sL ?_;have q2:a.length=b.length:=by have h:=V;simp[ap]at h;omega
 refine bm Z<|ba jZ Z<|ae Z<|Y<|aB ?_;refine aW [0,1,4,12] [] (D:=Nat) (fun k=>[(13,int (k:Int))]) (fun k=>[]) (fun k=>ja fR a b k) (fun k=>a.length-k) (0) (ja.zero _ _ _) ⟨rfl,trivial⟩ trivial ?_;intro k hI;refine sL<|ak Z<|Y<|aS<|cE rfl ?_ ?_
 ·intro h2;refine aK<|gT<|aS<|aB<|sL<|ae Z<|ao Z<|Y<|aS<|aF []<|pq 0 (iz Z)<|pq 1 (gL c6 Z) ?_;have hk:k<a.length:=by simpa[ap]using h2
  have iy:k<b.length:=by omega
  refine sq 2 (ri k jk rfl (bS hk))<|sq 3 (gm iK dD rfl)<|pq 4 (iz rfl)<|vq 5 (dW rfl)<|vq 6 (ri k jk rfl (bS iy))<|vq 7 (gm iK dD rfl)<|vq 8 (rd (x:=fy) (j0 rfl (.inr rfl) rfl rfl oz pe pf pg ?hn1) rfl) ?_;case hn1=>exact x_13
  refine fD<|gT<|cE rfl ?_ ?_
  ·intro h3;refine sL<|ar Z<|Y<|aR<|rB<|rT<|rT<|rB<|rT ?_;refine az trivial ?_;rw[qF hk iy (by have h:=h3;rw[Bool.not_eq_true']at h;exact h)]
  intro h3;refine aK<|gB<|gT<|aL<|bg Z<|ae Z<|Y ?_;refine⟨k+1,hI.next hk iy (by have h:=h3;rw[Bool.not_eq_false']at h;exact h),by omega,x_11,trivial,rfl,rfl⟩
 intro h2;refine aE<|eT<|eT<|eB<|gA<|cI Z<|Y<|aR ?_;refine az trivial ?_;rw[hI.all q2 x_33]
theorem Qx(x y:aw)(n8:x.ag.length<=1000)(ph:x.an.length<=1000)(qG:x.aq.length<=1000):GC prog 102 [cj x,cj y] [] (aD (kY x y)) []:=by
 refine gi 4 func102 rfl ntmps102 rfl ?_;intro L O w0;refine sL<|ab (zX 2002 Z) Z<|ab (zX 2003 Z) Z<|ar Z<|Y<|aS<|sL<|lf 0 mB Z<|aj ac Z<|lf 0 mB Z<|aj ac Z<|ak Z<|aQ Z ?_;refine AL.bool (t:=13) rfl ?_ ?_
 ·intro V;refine aa Z<|aa Z<|aa Z<|aa Z<|aa Z<|aU Z<|bM Z<|aa Z<|aa Z<|aa Z<|aa Z<|aa Z<|aU Z<|bM Z<|aa Z<|aa Z<|aa Z<|aa Z<|aa Z<|aa Z<|aa Z<|aU Z<|bM Z<|aa Z<|aa Z<|aa Z<|aa Z<|aa Z<|aa Z<|aa Z ?_;refine aU Z<|bM Z<|aa Z<|aa Z<|aa Z<|aa Z<|aa Z<|aa Z<|aa Z<|aU Z<|Y<|aY Z<|sL<|ar Z<|Y<|aR<|rT ?_;refine az trivial ?_;unfold kY;rw[decide_eq_false (show ¬x.tick=y.tick by have h:=V;simpa using h)];simp
 intro V;refine lf 1 mW Z<|aj ac Z<|lf 1 mW Z<|aj ac Z<|ak Z<|bj Z<|aQ Z ?_;refine AL.bool (t:=20) rfl ?_ ?_
 ·intro h2;refine aa Z<|aa Z<|aa Z<|aa Z<|aa Z<|aU Z<|bM Z<|aa Z<|aa Z<|aa Z<|aa Z<|aa Z<|aa Z<|aa Z<|aU Z<|bM Z<|lT [2,3,4,36] [2002,2003] ?_;refine aa Z<|aa Z<|aa Z<|aa Z<|aa Z<|aa Z<|aa Z<|aU Z<|bM Z<|aa Z<|aa Z<|aa Z<|aa Z<|aa Z<|aa Z<|aa Z<|aU Z<|Y<|aY Z<|sL<|ar Z<|Y<|aR<|rT ?_;refine az trivial ?_;unfold kY;rw[decide_eq_false (show ¬x.next=y.next by have h:=h2;simpa using h)];simp
 intro h2;refine lf 2 iW Z<|aj ac Z<|lf 2 iW Z<|aj ac Z<|ak Z<|bj Z<|aQ Z ?_;refine AL.bool (t:=27) rfl ?_ ?_
 ·intro h3;refine aa Z<|aa Z<|aa Z<|aa Z<|aa Z<|aa Z<|aa Z<|aU Z<|bM Z<|aa Z<|aa Z<|aa Z<|aa Z<|aa Z<|aa Z<|aa Z<|aU Z<|bM Z<|aa Z<|aa Z<|aa Z<|aa Z<|aa Z<|aa Z<|aa Z<|aU Z<|Y<|aY Z<|aS ?_;refine aL<|ar Z<|Y<|aR<|rT ?_;refine az trivial ?_;unfold kY;rw[decide_eq_false (show ¬x.aA=y.aA by have h:=h3;simpa using h)];simp
 intro h3;refine lf 3 dr Z<|bo eg Z<|ba kJ Z<|lf 3 dr Z<|bo eg Z<|ba kJ Z<|ak Z<|bj Z<|aQ Z ?_;refine AL.bool (t:=36) rfl ?_ ?_
 ·intro h4;refine aa Z<|aa Z<|aa Z<|aa Z<|aa Z<|aa Z<|aa Z<|aU Z<|bM Z<|aa Z<|aa Z<|aa Z<|aa Z<|aa Z<|aa Z<|aa Z<|aU Z<|Y<|aY Z<|sL<|ar Z<|lT [2,3,4] [2002,2003] ?_;refine Y<|aR<|rT ?_;refine az trivial ?_;unfold kY;rw[show lZ _ x.ag y.ag=false from tD (by have h:=h4;simp[ap]at h;omega)];simp
 intro h4;refine lf 4 eF Z<|bo fS Z<|ba jb Z<|lf 4 eF Z<|bo fS Z<|ba jb Z<|ak Z<|bj Z<|aQ Z ?_;refine AL.bool (t:=45) rfl ?_ ?_
 ·intro h5;refine aa Z<|aa Z<|aa Z<|aa Z<|aa Z<|aa Z<|aa Z<|aU Z<|Y<|aY Z<|sL<|ar Z<|Y<|aR<|rT ?_;refine az trivial ?_;unfold kY;rw[show lZ _ x.an y.an=false from tD (by have h:=h5;simp[ap]at h;omega)];simp
 intro h5;refine lf 5 gn Z<|bo ii Z<|ba j7 Z<|lf 5 gn Z<|bo ii Z<|ba j7 Z<|ak Z<|bj Z<|Y<|cE rfl ?_ ?_
 ·intro h6;refine sL<|ar Z<|Y<|aR<|rT ?_;refine az trivial ?_;unfold kY;rw[show lZ _ x.aq y.aq=false from tD (by have h:=h6;simp[ap]at h;omega)];simp
 intro h6;refine aK<|gT<|aS<|sL<|lf 3 dr Z<|bo eg Z ?_;have s3:x.ag.length=y.ag.length:=by have h:=h4;simp[ap]at h;omega
 have s4:x.an.length=y.an.length:=by have h:=h5;simp[ap]at h;omega
 have af0:x.aq.length=y.aq.length:=by have h:=h6;simp[ap]at h;omega
 have afR:x.tick=y.tick:=by have h:=V;simp at h;omega
 have s1:x.next=y.next:=by have h:=h2;simp at h;omega
 have s2:x.aA=y.aA:=by have h:=h3;simp at h;omega
 refine ba kJ Z<|ae Z<|Y<|aB ?_;refine aW [2,3,4,56] [2002,2003] (D:=Nat) (fun k=>[(57,int (k:Int))]) (fun k=>[]) (fun k=>ja aX x.ag y.ag k) (fun k=>x.ag.length-k) (0) (ja.zero _ _ _) ⟨rfl,trivial⟩ trivial ?_;intro k hI;refine sL<|ak Z<|Y<|aS<|cE rfl ?_ ?_
 ·intro h7;refine aK<|gT<|aS<|aB<|sL<|ae Z<|ao Z<|Y<|aS<|aF []<|pq 0 (qf 3 dr Z)<|sq 1 (jj eg Z)<|pq 2 (gL c6 Z)<|fT [2,3,4,5,56,57,61,62] [2002,2003] ?_;have hk:k<x.ag.length:=by simpa[ap]using h7
  have iy:k<y.ag.length:=by omega
  refine sq 3 (ri k cz rfl (bS hk))<|sq 4 (gm k7 fF rfl)<|pq 5 (qf 3 dr rfl)<|sq 6 (jj eg rfl)<|vq 7 (dW rfl)<|vq 8 (ri k cz rfl (bS iy))<|vq 9 (gm k7 fF rfl)<|vq 10 (rd (x:=fy) (j0 rfl (.inr rfl) rfl rfl FP JX JY JZ ?hn1) rfl) ?_;case hn1=>exact⟨rfl,by decide,rfl,⟨_,underlying3⟩,rfl,by decide,rfl,⟨_,underlying3⟩,rfl,by decide,rfl,⟨_,underlying3⟩,rfl,by decide,rfl,⟨_,underlying3⟩,rfl,by decide,rfl,⟨_,underlying3⟩,rfl,by decide,rfl,⟨_,underlying3⟩,rfl,by decide,rfl,⟨_,underlying3⟩,trivial⟩
  refine fD<|gT<|cE rfl ?_ ?_
  ·intro h8;refine sL<|ar Z<|Y<|aR<|rB<|rT<|rT<|rB<|rT ?_;refine az trivial ?_;unfold kY;rw[qF hk iy (by have h:=h8;rw[Bool.not_eq_true']at h;exact h)];simp
  intro h8;refine aK<|gB<|gT<|aL<|bg Z<|ae Z<|Y ?_;refine⟨k+1,hI.next hk iy (by have h:=h8;rw[Bool.not_eq_false']at h;exact h),by omega,x_11,trivial,rfl,rfl⟩
 intro h7;refine aE<|eT<|eT<|eB<|gT<|aS<|aS ?_;have e1:=hI.all s3 (by have h:=h7;simp[ap]at h;omega);clear hI;refine aL<|lf 4 eF Z<|bo fS Z<|ba jb Z<|ae Z<|Y<|aB ?_;refine aW [2,3,4,74] [2002,2003] (D:=Nat) (fun k=>[(75,int (k:Int))]) (fun k=>[]) (fun k=>ja go x.an y.an k) (fun k=>x.an.length-k) (0) (ja.zero _ _ _) ⟨rfl,trivial⟩ trivial ?_;intro k hI;refine sL<|ak Z<|Y<|aS<|cE rfl ?_ ?_
 ·intro h9;refine aK<|gT<|aS<|aB<|sL<|ae Z<|ao Z<|Y<|aS<|aF []<|pq 0 (qf 4 eF Z)<|sq 1 (jj fS Z)<|pq 2 (gL c6 Z) ?_;have hk:k<x.an.length:=by simpa[ap]using h9
  have iy:k<y.an.length:=by omega
  refine sq 3 (ri k f7 rfl (bS hk))<|sq 4 (gm nG kZ rfl)<|pq 5 (qf 4 eF rfl)<|sq 6 (jj fS rfl)<|vq 7 (dW rfl)<|vq 8 (ri k f7 rfl (bS iy))<|vq 9 (gm nG kZ rfl)<|vq 10 (rd (x:=fy) (j0 rfl (.inr rfl) rfl rfl FQ J0 J1 J2 ?hn2) rfl) ?_;case hn2=>exact⟨rfl,by decide,rfl,⟨_,underlying3⟩,rfl,by decide,rfl,⟨_,underlying3⟩,rfl,by decide,rfl,⟨_,underlying3⟩,rfl,by decide,rfl,⟨_,underlying3⟩,rfl,by decide,rfl,⟨_,underlying3⟩,by decide,rfl,underlying4,rfl,by decide,rfl,⟨_,underlying3⟩,trivial⟩
  refine fD<|gT<|cE rfl ?_ ?_
  ·intro dh;refine sL<|ar Z<|lT [2,3,4,74,75] [2002,2003] ?_;refine Y<|aR<|rB<|rT<|rT<|rB<|rT ?_;refine az trivial ?_;unfold kY;rw[qF hk iy (by have h:=dh;rw[Bool.not_eq_true']at h;exact h)];simp
  intro dh;refine aK<|gB<|gT<|aL<|bg Z<|ae Z<|Y ?_;refine⟨k+1,hI.next hk iy (by have h:=dh;rw[Bool.not_eq_false']at h;exact h),by omega,x_11,trivial,rfl,rfl⟩
 intro h9;refine aE<|eT<|eT<|eB<|gT<|aS<|aS ?_;have e2:=hI.all s4 (by have h:=h9;simp[ap]at h;omega);clear hI;refine aL<|lf 5 gn Z<|bo ii Z<|ba j7 Z<|ae Z<|Y<|aB ?_;refine aW [2,3,4,92] [2002,2003] (D:=Nat) (fun k=>[(93,int (k:Int))]) (fun k=>[]) (fun k=>ja iX x.aq y.aq k) (fun k=>x.aq.length-k) (0) (ja.zero _ _ _) ⟨rfl,trivial⟩ trivial ?_;intro k hI;refine sL<|ak Z<|Y<|aS<|cE rfl ?_ ?_
 ·intro gp;refine aK<|gT<|aS<|aB<|sL<|ae Z<|ao Z<|Y<|aS<|aF []<|pq 0 (qf 5 gn Z)<|sq 1 (jj ii Z)<|pq 2 (gL c6 Z) ?_;have hk:k<x.aq.length:=by simpa[ap]using gp
  have iy:k<y.aq.length:=by omega
  refine sq 3 (ri k iI rfl (bS hk))<|sq 4 (gm ow l5 rfl)<|pq 5 (qf 5 gn rfl)<|sq 6 (jj ii rfl)<|vq 7 (dW rfl)<|vq 8 (ri k iI rfl (bS iy))<|vq 9 (gm ow l5 rfl)<|vq 10 (rd (x:=fy) (j0 rfl (.inr rfl) rfl rfl FR J3 J4 J5 ?hn3) rfl) ?_;case hn3=>exact⟨rfl,by decide,rfl,⟨_,underlying3⟩,rfl,by decide,rfl,⟨_,underlying3⟩,rfl,by decide,rfl,⟨_,underlying3⟩,rfl,by decide,rfl,⟨_,underlying3⟩,rfl,by decide,rfl,⟨_,underlying3⟩,trivial⟩
  refine fD<|gT<|cE rfl ?_ ?_
  ·intro gM;refine sL<|ar Z<|Y<|aR<|rB<|rT<|rT<|rB<|rT ?_;refine az trivial ?_;unfold kY;rw[qF hk iy (by have h:=gM;rw[Bool.not_eq_true']at h;exact h)];simp
  intro gM;refine aK<|gB<|gT<|aL<|bg Z<|ae Z<|Y ?_;refine⟨k+1,hI.next hk iy (by have h:=gM;rw[Bool.not_eq_false']at h;exact h),by omega,x_11,trivial,rfl,rfl⟩
 intro gp;refine aE<|eT<|eT<|eB<|gA<|cI Z<|Y<|aR ?_;refine az trivial ?_;have e3:=hI.all af0 (by have h:=gp;simp[ap]at h;omega);unfold kY;rw[e1,e2,e3,decide_eq_true afR,decide_eq_true s1,decide_eq_true s2];rfl
theorem Qy(x y:aw)(hx:di x)(hy:di y)(hc:y.ag.length<=9007199254740992)(hh:y.an.length<=9007199254740992)(hi:y.aq.length<=9007199254740992):GC prog 89 [cj x,cj y] [] (aD (mC x y)) []:=by
 refine gi 4 func89 rfl ntmps89 rfl ?_;intro L O w0;refine sL<|ab (zX 2002 Z) Z<|ab (zX 2003 Z) Z<|ar Z<|Y<|aS<|sL<|aP h1 cu Z<|ab (zC [] [] [] func179 (Dn x hx) (trivial) Z Z) Z<|bX Z<|aQ Z ?_;refine AL.bool (t:=11) rfl ?_ ?_
 ·intro V;refine aa Z<|aa Z<|aa Z<|aU Z<|bM Z<|aa Z<|aa Z<|aa Z<|aa Z<|aa Z<|aU Z<|bM Z<|aa Z<|aa Z<|aa Z<|aa Z<|aa Z<|aU Z<|bM Z<|aa Z<|aa Z<|aa Z<|aa Z<|aa Z<|aU Z<|bM Z<|aa Z<|aa Z<|aa Z<|aa Z ?_;refine aa Z<|aa Z<|aa Z<|aU Z<|bM Z<|aa Z<|aa Z<|aa Z<|aa Z<|aa Z<|aa Z<|aa Z<|aU Z<|bM Z<|aa Z<|aa Z<|aa Z<|aa Z<|aa Z<|aa Z<|aa Z<|aU Z<|Y<|aY Z<|sL<|ar Z<|Y ?_;refine aR<|rT ?_;refine az trivial ?_;unfold mC kY;rw[show eG x=false by have h:=V;simpa using h];rfl
 intro V;refine aP h1 cu Z<|ab (zC [] [] [] func179 (Dn y hy) (trivial) Z Z) Z<|lT [2,3,4,11,13] [2002,2003] ?_;refine bX Z<|bj Z<|aQ Z ?_;refine AL.bool (t:=16) rfl ?_ ?_
 ·intro h2;refine aa Z<|aa Z<|aa Z<|aa Z<|aa Z<|aU Z<|bM Z<|aa Z<|aa Z<|aa Z<|aa Z<|aa Z<|aU Z<|bM Z<|aa Z<|aa Z<|aa Z<|aa Z<|aa Z<|aU Z<|bM Z<|aa Z<|aa Z<|aa Z<|aa Z<|aa Z<|aa Z<|aa Z<|aU Z<|bM Z ?_;refine aa Z<|aa Z<|aa Z<|aa Z<|aa Z<|aa Z<|aa Z<|aU Z<|bM Z<|aa Z<|aa Z<|aa Z<|aa Z<|aa Z<|aa Z<|aa Z<|aU Z<|Y<|aY Z<|sL<|ar Z<|Y<|aR<|rT ?_;refine az trivial ?_;unfold mC kY;rw[show eG y=false by have h:=h2;simpa using h];simp
 intro h2;refine lf 0 mB Z<|aj ac Z<|lf 0 mB Z<|aj ac Z<|ak Z<|bj Z<|aQ Z ?_;refine AL.bool (t:=23) rfl ?_ ?_
 ·intro h3;refine aa Z<|aa Z<|aa Z<|aa Z<|aa Z<|aU Z<|bM Z<|aa Z<|aa Z<|aa Z<|aa Z<|aa Z<|aU Z<|bM Z<|aa Z<|aa Z<|aa Z<|aa Z<|aa Z<|aa Z<|aa Z<|aU Z<|bM Z<|aa Z<|aa Z<|aa Z<|aa Z<|aa Z<|aa Z<|aa Z ?_;refine aU Z<|bM Z<|lT [2,3,4,55] [2002,2003] ?_;refine aa Z<|aa Z<|aa Z<|aa Z<|aa Z<|aa Z<|aa Z<|aU Z<|Y<|aY Z<|sL<|ar Z<|Y<|aR<|rT ?_;refine az trivial ?_;unfold mC kY;rw[decide_eq_false (show ¬x.tick=y.tick by have h:=h3;simpa using h)];simp
 intro h3;refine lf 1 mW Z<|aj ac Z<|lf 1 mW Z<|aj ac Z<|ak Z<|bj Z<|aQ Z ?_;refine AL.bool (t:=30) rfl ?_ ?_
 ·intro h4;refine aa Z<|aa Z<|aa Z<|aa Z<|aa Z<|aU Z<|bM Z<|aa Z<|aa Z<|aa Z<|aa Z<|aa Z<|aa Z<|aa Z<|aU Z<|bM Z<|aa Z<|aa Z<|aa Z<|aa Z<|aa Z<|aa Z<|aa Z<|aU Z<|bM Z<|aa Z<|aa Z<|aa Z<|aa Z<|aa Z ?_;refine aa Z<|aa Z<|aU Z<|Y<|aY Z<|sL<|ar Z<|Y<|aR<|rT ?_;refine az trivial ?_;unfold mC kY;rw[decide_eq_false (show ¬x.next=y.next by have h:=h4;simpa using h)];simp
 intro h4;refine lf 2 iW Z<|aj ac Z<|lf 2 iW Z<|aj ac Z<|ak Z<|bj Z<|aQ Z ?_;refine AL.bool (t:=37) rfl ?_ ?_
 ·intro h5;refine aa Z<|aa Z<|aa Z<|aa Z<|aa Z<|aa Z<|aa Z<|aU Z<|bM Z<|aa Z<|aa Z<|aa Z<|aa Z<|aa Z<|aa Z<|aa Z<|aU Z<|bM Z<|aa Z<|aa Z<|aa Z<|aa Z<|aa Z<|aa Z<|aa Z<|aU Z<|Y<|aY Z<|aS ?_;refine aL<|ar Z<|lT [2,3,4] [2002,2003] ?_;refine Y<|aR<|rT ?_;refine az trivial ?_;unfold mC kY;rw[decide_eq_false (show ¬x.aA=y.aA by have h:=h5;simpa using h)];simp
 intro h5;refine lf 3 dr Z<|bo eg Z<|ba kJ Z<|lf 3 dr Z<|bo eg Z<|ba kJ Z<|ak Z<|bj Z<|aQ Z ?_;refine AL.bool (t:=46) rfl ?_ ?_
 ·intro h6;refine aa Z<|aa Z<|aa Z<|aa Z<|aa Z<|aa Z<|aa Z<|aU Z<|bM Z<|aa Z<|aa Z<|aa Z<|aa Z<|aa Z<|aa Z<|aa Z<|aU Z<|Y<|aY Z<|sL<|ar Z<|Y<|aR<|rT ?_;refine az trivial ?_;unfold mC kY;rw[show lZ _ x.ag y.ag=false from tD (by have h:=h6;simp[ap]at h;omega)];simp
 intro h6;refine lf 4 eF Z<|bo fS Z<|ba jb Z<|lf 4 eF Z<|bo fS Z<|ba jb Z<|ak Z<|bj Z<|aQ Z ?_;refine AL.bool (t:=55) rfl ?_ ?_
 ·intro h7;refine aa Z<|aa Z<|aa Z<|aa Z<|aa Z<|aa Z<|aa Z<|aU Z<|Y<|aY Z<|sL<|ar Z<|Y<|aR<|rT ?_;refine az trivial ?_;unfold mC kY;rw[show lZ _ x.an y.an=false from tD (by have h:=h7;simp[ap]at h;omega)];simp
 intro h7;refine lf 5 gn Z<|bo ii Z<|ba j7 Z<|lf 5 gn Z<|bo ii Z<|ba j7 Z<|lT [2,3,4,55,58,61] [2002,2003] ?_;refine ak Z<|bj Z<|Y<|cE rfl ?_ ?_
 ·intro h8;refine sL<|ar Z<|Y<|aR<|rT ?_;refine az trivial ?_;unfold mC kY;rw[show lZ _ x.aq y.aq=false from tD (by have h:=h8;simp[ap]at h;omega)];simp
 intro h8;refine aK<|gT<|aS<|sL<|lf 3 dr Z<|bo eg Z ?_;have q1:eG x=true:=by have h:=V;simpa using h
 have q2:eG y=true:=by have h:=h2;simpa using h
 have n8:=(mX q1).lc;have ph:=(mX q1).lh;have qG:=(mX q1).li;have s3:x.ag.length=y.ag.length:=by have h:=h6;simp[ap]at h;omega
 have s4:x.an.length=y.an.length:=by have h:=h7;simp[ap]at h;omega
 have af0:x.aq.length=y.aq.length:=by have h:=h8;simp[ap]at h;omega
 have afR:x.tick=y.tick:=by have h:=h3;simp at h;omega
 have s1:x.next=y.next:=by have h:=h4;simp at h;omega
 have s2:x.aA=y.aA:=by have h:=h5;simp at h;omega
 refine ba kJ Z<|ae Z<|Y<|aB ?_;refine aW [2,3,4,66] [2002,2003] (D:=Nat) (fun k=>[(67,int (k:Int))]) (fun k=>[]) (fun k=>ja aX x.ag y.ag k) (fun k=>x.ag.length-k) (0) (ja.zero _ _ _) ⟨rfl,trivial⟩ trivial ?_;intro k hI;refine sL<|ak Z<|Y<|aS<|cE rfl ?_ ?_
 ·intro h9;refine aK<|gT<|aS<|aB<|sL<|ae Z<|ao Z<|Y<|aS<|aF []<|pq 0 (qf 3 dr Z)<|sq 1 (jj eg Z)<|pq 2 (gL c6 Z) ?_;have hk:k<x.ag.length:=by simpa[ap]using h9
  have iy:k<y.ag.length:=by omega
  refine sq 3 (ri k cz rfl (bS hk))<|sq 4 (gm k7 fF rfl)<|pq 5 (qf 3 dr rfl)<|sq 6 (jj eg rfl)<|vq 7 (dW rfl)<|vq 8 (ri k cz rfl (bS iy))<|vq 9 (gm k7 fF rfl)<|vq 10 (rd (x:=fy) (j0 rfl (.inr rfl) rfl rfl FP JX JY JZ ?hn1) rfl) ?_;case hn1=>exact⟨rfl,by decide,rfl,⟨_,underlying3⟩,rfl,by decide,rfl,⟨_,underlying3⟩,rfl,by decide,rfl,⟨_,underlying3⟩,rfl,by decide,rfl,⟨_,underlying3⟩,rfl,by decide,rfl,⟨_,underlying3⟩,rfl,by decide,rfl,⟨_,underlying3⟩,rfl,by decide,rfl,⟨_,underlying3⟩,trivial⟩
  refine fD<|gT<|cE rfl ?_ ?_
  ·intro dh;refine sL<|ar Z<|Y<|aR<|rB<|rT<|rT<|rB<|rT ?_;refine az trivial ?_;unfold mC kY;rw[qF hk iy (by have h:=dh;rw[Bool.not_eq_true']at h;exact h)];simp
  intro dh;refine aK<|gB<|gT<|aL<|bg Z<|ae Z<|Y ?_;refine⟨k+1,hI.next hk iy (by have h:=dh;rw[Bool.not_eq_false']at h;exact h),by omega,x_11,trivial,rfl,rfl⟩
 intro h9;refine aE<|eT<|eT<|eB<|gT<|aS<|aS ?_;have e1:=hI.all s3 (by have h:=h9;simp[ap]at h;omega);clear hI;refine aL<|lf 4 eF Z<|bo fS Z<|ba jb Z<|ae Z<|Y<|aB ?_;refine aW [2,3,4,84] [2002,2003] (D:=Nat) (fun k=>[(85,int (k:Int))]) (fun k=>[]) (fun k=>ja go x.an y.an k) (fun k=>x.an.length-k) (0) (ja.zero _ _ _) ⟨rfl,trivial⟩ trivial ?_;intro k hI;refine sL<|ak Z<|Y<|aS<|cE rfl ?_ ?_
 ·intro gp;refine aK<|gT<|aS<|aB<|sL<|ae Z<|lT [2,3,4,84,85,87] [2002,2003] ?_;refine ao Z<|Y<|aS<|aF []<|pq 0 (qf 4 eF Z)<|sq 1 (jj fS Z)<|pq 2 (gL c6 Z) ?_;have hk:k<x.an.length:=by simpa[ap]using gp
  have iy:k<y.an.length:=by omega
  refine sq 3 (ri k f7 rfl (bS hk))<|sq 4 (gm nG kZ rfl)<|pq 5 (qf 4 eF rfl)<|sq 6 (jj fS rfl)<|vq 7 (dW rfl)<|vq 8 (ri k f7 rfl (bS iy))<|vq 9 (gm nG kZ rfl)<|vq 10 (rd (x:=fy) (j0 rfl (.inr rfl) rfl rfl FQ J0 J1 J2 ?hn2) rfl) ?_;case hn2=>exact⟨rfl,by decide,rfl,⟨_,underlying3⟩,rfl,by decide,rfl,⟨_,underlying3⟩,rfl,by decide,rfl,⟨_,underlying3⟩,rfl,by decide,rfl,⟨_,underlying3⟩,rfl,by decide,rfl,⟨_,underlying3⟩,by decide,rfl,underlying4,rfl,by decide,rfl,⟨_,underlying3⟩,trivial⟩
  refine fD<|gT<|cE rfl ?_ ?_
  ·intro gM;refine sL<|ar Z<|Y<|aR<|rB<|rT<|rT<|rB<|rT ?_;refine az trivial ?_;unfold mC kY;rw[qF hk iy (by have h:=gM;rw[Bool.not_eq_true']at h;exact h)];simp
  intro gM;refine aK<|gB<|gT<|aL<|bg Z<|ae Z<|Y ?_;refine⟨k+1,hI.next hk iy (by have h:=gM;rw[Bool.not_eq_false']at h;exact h),by omega,x_11,trivial,rfl,rfl⟩
 intro gp;refine aE<|eT<|eT<|eB<|gT<|aS<|aS ?_;have e2:=hI.all s4 (by have h:=gp;simp[ap]at h;omega);clear hI;refine aL<|lf 5 gn Z<|bo ii Z<|ba j7 Z<|ae Z<|Y<|aB ?_;refine aW [2,3,4,102] [2002,2003] (D:=Nat) (fun k=>[(103,int (k:Int))]) (fun k=>[]) (fun k=>ja iX x.aq y.aq k) (fun k=>x.aq.length-k) (0) (ja.zero _ _ _) ⟨rfl,trivial⟩ trivial ?_;intro k hI;refine sL<|ak Z<|Y<|aS<|cE rfl ?_ ?_
 ·intro dO;refine aK<|gT<|aS<|aB<|sL<|ae Z<|ao Z<|Y<|aS<|aF []<|pq 0 (qf 5 gn Z)<|sq 1 (jj ii Z)<|pq 2 (gL c6 Z) ?_;have hk:k<x.aq.length:=by simpa[ap]using dO
  have iy:k<y.aq.length:=by omega
  refine sq 3 (ri k iI Z (bS hk))<|sq 4 (gm ow l5 Z)<|pq 5 (qf 5 gn Z)<|sq 6 (jj ii Z)<|vq 7 (dW Z)<|fT [2,3,4,102,103,110,112,113] [2002,2003] ?_;refine vq 8 (ri k iI rfl (bS iy))<|vq 9 (gm ow l5 rfl)<|vq 10 (rd (x:=fy) (j0 rfl (.inr rfl) rfl rfl FR J3 J4 J5 ?hn3) rfl) ?_;case hn3=>exact⟨rfl,by decide,rfl,⟨_,underlying3⟩,rfl,by decide,rfl,⟨_,underlying3⟩,rfl,by decide,rfl,⟨_,underlying3⟩,rfl,by decide,rfl,⟨_,underlying3⟩,rfl,by decide,rfl,⟨_,underlying3⟩,trivial⟩
  refine fD<|gT<|cE rfl ?_ ?_
  ·intro ij;refine sL<|ar Z<|Y<|aR<|rB<|rT<|rT<|rB<|rT ?_;refine az trivial ?_;unfold mC kY;rw[qF hk iy (by have h:=ij;rw[Bool.not_eq_true']at h;exact h)];simp
  intro ij;refine aK<|gB<|gT<|aL<|bg Z<|ae Z<|Y ?_;refine⟨k+1,hI.next hk iy (by have h:=ij;rw[Bool.not_eq_false']at h;exact h),by omega,x_11,trivial,rfl,rfl⟩
 intro dO;refine aE<|eT<|eT<|eB<|gA<|cI Z<|Y<|aR ?_;refine az trivial ?_;have e3:=hI.all af0 (by have h:=dO;simp[ap]at h;omega);unfold mC kY;rw[e1,e2,e3,decide_eq_true afR,decide_eq_true s1,decide_eq_true s2,q1,q2];rfl
theorem Qz(x y:aw)(hx:di x)(hy:di y):GC prog 37 [cj x,cj y] [] (aD (mC x y)) []:=by
 refine gi 4 func37 rfl ntmps37 rfl ?_;intro L O w0;refine sL<|ab (zX 2002 Z) Z<|ab (zX 2003 Z) Z<|ar Z<|nA<|aP h1 cu Z<|ab (zC [] [] [] func101 (Do x hx) (trivial) Z Z) Z<|aQ Z ?_;refine AL.bool (t:=7) rfl ?_ ?_
 ·intro V;refine aP h1 cu Z<|ab (zC [] [] [] func101 (Do y hy) (trivial) Z Z) Z<|bj Z<|aQ Z ?_;refine AL.bool (t:=11) rfl ?_ ?_
  ·intro h2;refine aP h1 cu Z<|aP h1 cu Z<|ab (zC [] [] [] func102 (Qx x y (Nat.le_trans (mX x_28).lc x_3) (Nat.le_trans (mX x_28).lh x_3) (Nat.le_trans (mX x_28).li x_3)) (trivial) rfl rfl) Z<|bj Z<|bv Z<|Y<|aR ?_;refine az trivial ?_;grind[mC]
  intro h2;refine aa Z<|aa Z<|aa Z<|bL Z<|ar Z<|Y<|aR ?_;refine az trivial ?_;grind[mC]
 intro V;refine aa Z<|aa Z<|bL Z<|dm Z<|aa Z<|aa Z<|aa Z<|bL Z<|ar Z<|Y<|aR ?_;refine az trivial ?_;grind[mC]

section
variable {P:Program}{L O:Nat->Prop}{w0:World}{N:Nat}{τ τ':Nat->AV}{H H':Nat->AO}{Q:AQ}{ops:Array Oper}{o:Oper}{F:List Nat}{n:Nat}{av:Array Bool}
theorem d9.rd{i:Nat}{x:AV}{t:Nat}(ho:ops[i]? = some o)(sA:Rd P o τ H (fun _=>false) x)(hg:gv τ ops o=some true)(hd:o.dst=some t)(ht:t<N)
 (h:AF P L O w0 N ops F n (av.setIfInBounds i true) (aH τ t x) H Q):d9 P L O w0 N ops F n av i τ H Q:=fun ρ fp a w bV=>
 wpOp_step ho fun K hK=>by
  rw[bV.wanted hg,if_pos rfl];obtain⟨c,V,h2⟩:=sA.run bV;unfold Oper.wp;rw[h2 w (l6.refl _ _ _ _)];refine hK _ _ ⟨fun _=>lb.refl _,h ρ fp _ w ?_⟩;rw[hd];exact bV.put V ht
theorem AL.pi{l:List Oper}(id b k:Nat)(e:TypeId)(sz:Nat){T:TypeId}{p:Option Value}{cells:List AV}(hb:H b=.box T p cells)(zT:b≠id)(hk:cells[k]? = some (.p (.v (.slice none 0 0))))(h:AL P L O w0 N ops l (fun s=>bq (cK id) (τ s)) (aH (aH (fun j=>(H j).bq (cK id)) id (.ai e sz [])) b (.box T p ((iA (cK id) cells).set k (.own id)))) Q):AL P L O w0 N ops l τ H Q:=
 fun ρ fp a w hr=>h _ _ a w (hr.pi id b k e sz hb zT hk)
end

section
variable {P:Program}{o:Oper}{τ:Nat->AV}{H:Nat->AO}
theorem ac'{op:BinOp}{T yT:TypeId}{x y:Operand}{pre:Prop}{r:AV}(ho:o.op=.binOp op T x y yT)(h:AU op (ev τ x) (ev τ y)=some (pre,r))(hp:pre):Pd P o τ H r:=by
 apply Pd.pure;intro L ρ a w he;obtain⟨c,V,h2⟩:=aan (P:=P) (T:=T) (x:=x) (y:=y) h hp (he x) (he y);refine⟨c,V,fun W=>?_⟩;have:execOp a.eval o=(do let v <-(do eqGuard op T x y (a.eval x) (a.eval y);binOp op T (a.eval x) (a.eval y));pure (.value v)):=by simp only[execOp,ho]
 rw[this,Sem.run_bind,h2];rfl
theorem acy{c x y:Operand}{r:AV}(ho:o.op=.pick c x y)(h:H7 (ev τ c) (ev τ x) (ev τ y)=some r):Pd P o τ H r:=by
 apply Pd.pure;intro L ρ a w he;have hc:=he c;generalize ev τ c=vc at *;unfold H7 at h;split at h
 ·rename_i t;injection h with h;subst h;have e:=hc.gd;cases t
  ·exact⟨a.eval y,he y,fun W=>by simp[execOp,ho,e,asBool]⟩
  exact⟨a.eval x,he x,fun W=>by simp[execOp,ho,e,asBool]⟩
 cases h
theorem ada{x:Operand}{t e:TypeId}{sz:Nat}{rows:List (List PV)}(ho:o.op=.call { callee:=.builtin .len,args:=#[x],argTypes:=#[t] })(ht:isSlice P t=true)(hx:ev τ x=.p (.ab e sz rows)):Pd P o τ H (int rows.length):=by
 have hse:P.underlying t=some (.slice (P.elem t)):=by
  unfold isSlice at ht;split at ht
  ·rename_i e q;simp[Program.elem,q]
  cases ht
 apply Pd.pure;intro L ρ a w he;have h:=he x;rw[hx,RV]at h;obtain⟨fp,V,_⟩:=h;rw[RW]at V;obtain⟨xs,f1,f2,V,h2,_⟩:=V;unfold iF at h2;simp only[Bool.false_eq_true,if_false]at h2;obtain⟨b,cap,e2,_⟩:=h2;exact⟨.int .i64 rows.length,fX rfl,fun W=>by
  have:=run_len_slice W t o.type b rows.length cap hse;simp[execOp,ho,resolve,invoke,builtin,e2,this,goInt]⟩
end

theorem Dp(d:du):∀e∈f8 d,l7 e:=fun e he=>by
 unfold f8 pj at he;obtain⟨q,_,hq⟩:=List.mem_filterMap.1 he;split at hq
 ·rename_i hf;cases hq;have h:=Dq (uS.1 hf).2.1;unfold l7 i64;omega
 grind
structure QA(es:List aV):Prop where
 wf:di (de es).now
 lp:(de es).ps.length<=es.length
 lk:(de es).jD.length<=es.length
 pl:∀p∈(de es).ps,p.lines.length<=1000
 ll:(d5 es).1.lines.length<=320
 n0:0<=(d5 es).2
 n1:(d5 es).2<=((de es).ps.length:Int)
theorem Dr{es:List aV}(we:∀e∈es,l7 e):QA es:=by
 have pk:sB pm es=bK pm es:=if_pos QB;have J6:=J7 (x:=pm) (es:=es) es.length (Nat.le_refl _);have nu:=zU (x:=pm) (es:=es) es.length (Nat.le_refl _);have qH:=Ds (x:=pm) (es:=es) es.length (Nat.le_refl _);rw[List.take_length,<-pk]at J6 nu qH;have ml:=FS (l:=⟨0,[]⟩) (ps:=(sB pm es).ps) x_19 _ (Nat.le_refl _);rw[List.take_length]at ml;exact⟨QC FT we,nu,Nat.le_of_eq qH,J6,ml.1,ml.2.1,ml.2.2⟩
theorem QD(ps:List dX)(nu:∀p∈ps,p.lines.length<=1000)(hn:ps.length<=1000000):GC prog 169 [.agg [int 0,.p (.v (.slice none 0 0))],.p (.ab 92 2 (qI ps))] [] (.au [cR (jJ ⟨0,[]⟩ ps).1,int (jJ ⟨0,[]⟩ ps).2]) []:=by
 rw[<-QE];exact QF ps nu hn
abbrev J8(es:List aV):AV:=.au [cj (de es).now,cR (d5 es).1,aD (eL es)]
theorem J9{l:List Int}{k:Nat}(h:k<l.length):eK (l.take (k+1))=(eK (l.take k)&&decide (l[k]=0)):=by
 grind[eK,List.take_succ_eq_append_getElem]
theorem QG(es:List aV)(we:∀e∈es,l7 e)(hm:es.length<=1000000):GC prog 86 [.p (.ab 81 7 (ah fR es))] [] (J8 es) []:=by
 refine GC.intro (rs:=[.cell 2 50 (some 6),.cell 3 53 (some 2),.tmp 4]) func86 rfl ntmps86 x_8 ⟨rfl,rfl,cu,rfl,rfl,eZ,rfl,trivial⟩ ?_;intro L O w0;refine sL<|ab (zA 2002 mD Z) Z<|ab (zA 2003 ld Z) Z<|ar Z<|nA ?_;have hB:=Dr we;refine ab (zC [] [] [] func36 (QH) (trivial) rfl rfl) Z<|bm Z<|ab (zC [] [] [] func35 (QI pm es FT we x_2) (trivial) rfl rfl) Z<|cT (.au [h1,c7,c7]) Z<|iB h1 Z<|rF Z<|rF Z<|ab (zA 2005 mD rfl) Z<|ab (zB 2005 eu ew rfl) Z<|nv Z<|nv Z<|nA<|lq (rd (x:=.agg [c6,vV _]) (cP rfl lP rfl rfl rfl) rfl)<|bm Z<|ab (zC [] [] [] func175 (QJ (de es).ps hB.pl (by have:=hB.lp;omega)) (trivial) rfl rfl) Z<|lT [2,3,4,5,6,7,20] [2002,2003,2005] ?_;refine cT (.au [kj,c6]) Z<|iB kj Z<|dE Z<|ab (zA 2008 ld Z) Z<|ab (zB 2008 cA cB Z) Z<|ao Z<|Y<|aS<|aF [10,11]<|sq 0 (dw h1 cu Z)<|pq 2 (iz Z) ?_;refine AF.two (i:=1) (j:=3) x_37 ?_ ?_
 ·refine d9.rd (i:=1) (x:=kj) rfl (sC rfl eZ rfl rfl rfl rfl) rfl rfl x_3 ?_;refine bn 3 rfl (zC [] [] [] func176 (JV (de es).jD (by have:=hB.lk;omega)) (trivial) rfl rfl) (.inr rfl)<|vq 4 (dx rfl) ?_;refine AF.bool (t:=27) rfl ?_ ?_
  ·intro V;refine pq 5 (gL c6 Z)<|pq 6 (iz Z)<|pq 7 (qd (x:=c6) (ada Z pX Z) Z)<|pq 8 (qd (x:=fy) (ac' Z Z Z) Z)<|pq 9 (qd (x:=fy) (acy Z Z) Z)<|bn 10 Z (zB 2002 eu ew Z) (.inl Z)<|fT [2,3,4,24,32] [2002,2003,2005,2008] ?_;refine bn 11 Z (zB 2003 cA cB Z) (.inl Z)<|vq 12 (fk Z)<|fD<|gT<|aR ?_;refine ax ?_ trivial;refine congrArg (fun b=>some (AV.au [cj (de es).now,cR (d5 es).1,aD b])) ?_;unfold eL;rw[show eK _=true by simpa using V];simp[fw]
  intro V;refine bi 5 Z<|bi 6 Z<|bi 7 Z<|bi 8 Z<|pq 9 (qd (x:=vB false) (acy Z Z) Z)<|bn 10 Z (zB 2002 eu ew Z) (.inl Z)<|bn 11 Z (zB 2003 cA cB Z) (.inl Z)<|vq 12 (oA Z)<|fD<|gT<|aR ?_;refine ax ?_ trivial;refine congrArg (fun b=>some (AV.au [cj (de es).now,cR (d5 es).1,aD b])) ?_;unfold eL;rw[show eK _=false by simpa using V];rfl
 refine v1 3 rfl (zC [] [] [] func176 (JV (de es).jD (by have:=hB.lk;omega)) (trivial) rfl rfl) (.inr rfl)<|pq 4 (gL fy rfl) ?_;refine AF.bool (t:=27) rfl ?_ ?_
 ·intro h2;refine pq 5 (gL c6 Z)<|pq 6 (iz Z)<|pq 7 (qd (x:=c6) (ada Z pX Z) Z)<|pq 8 (qd (x:=fy) (ac' Z Z Z) Z)<|pq 9 (qd (x:=fy) (acy Z Z) Z) ?_;refine AF.two (i:=1) (j:=10) x_37 ?_ ?_
  ·refine d9.rd (i:=1) (x:=kj) rfl (sC rfl eZ rfl rfl rfl rfl) rfl rfl x_3 ?_;refine bn 10 Z (zB 2002 eu ew Z) (.inl Z)<|fT [2,3,4,24,32] [2002,2003,2005,2008] ?_;refine bn 11 Z (zB 2003 cA cB Z) (.inl Z)<|vq 12 (fk Z)<|fD<|gT<|aR ?_;refine ax ?_ trivial;refine congrArg (fun b=>some (AV.au [cj (de es).now,cR (d5 es).1,aD b])) ?_;unfold eL;rw[show eK _=true by simpa using h2];simp[fw]
  refine v1 10 Z (zB 2002 eu ew Z) (.inl Z)<|vq 1 (dw kj eZ Z)<|bn 11 Z (zB 2003 cA cB Z) (.inl Z)<|vq 12 (fk Z)<|fD<|gT<|aR ?_;refine ax ?_ trivial;refine congrArg (fun b=>some (AV.au [cj (de es).now,cR (d5 es).1,aD b])) ?_;unfold eL;rw[show eK _=true by simpa using h2];simp[fw]
 intro h2;refine bi 5 Z<|bi 6 Z<|bi 7 Z<|bi 8 Z<|pq 9 (qd (x:=vB false) (acy Z Z) Z) ?_;refine AF.two (i:=1) (j:=10) x_37 ?_ ?_
 ·refine d9.rd (i:=1) (x:=kj) rfl (sC rfl eZ rfl rfl rfl rfl) rfl rfl x_3 ?_;refine bn 10 Z (zB 2002 eu ew Z) (.inl Z)<|bn 11 Z (zB 2003 cA cB Z) (.inl Z)<|vq 12 (oA Z)<|fD<|gT<|aR ?_;refine ax ?_ trivial;refine congrArg (fun b=>some (AV.au [cj (de es).now,cR (d5 es).1,aD b])) ?_;unfold eL;rw[show eK _=false by simpa using h2];rfl
 refine v1 10 Z (zB 2002 eu ew Z) (.inl Z)<|vq 1 (dw kj eZ Z)<|bn 11 Z (zB 2003 cA cB Z) (.inl Z)<|fT [2,3,4,32] [2002,2003,2005,2008] ?_;refine vq 12 (oA Z)<|fD<|gT<|aR ?_;refine ax ?_ trivial;refine congrArg (fun b=>some (AV.au [cj (de es).now,cR (d5 es).1,aD b])) ?_;unfold eL;rw[show eK _=false by simpa using h2];rfl
theorem QK(es:List aV)(we:∀e∈es,l7 e)(hm:es.length<=1000000):GC prog 82 [.p (.ab 81 7 (ah fR es))] [] (J8 es) []:=by
 refine GC.intro (rs:=[.cell 2 50 (some 6),.cell 3 53 (some 2),.tmp 4]) func82 rfl ntmps82 x_8 ⟨rfl,rfl,cu,rfl,rfl,eZ,rfl,trivial⟩ ?_;intro L O w0;refine sL<|ab (zA 2002 mD Z) Z<|ab (zA 2003 ld Z) Z<|ar Z<|nA ?_;have hB:=Dr we;refine ab (zC [] [] [] func168 (QL) (trivial) rfl rfl) Z<|bm Z<|ab (zC [] [] [] func167 (QM pm es FT we x_2) (trivial) rfl rfl) Z<|cT (.au [h1,c7,c7]) Z<|iB h1 Z<|rF Z<|rF Z<|ab (zA 2005 mD rfl) Z<|ab (zB 2005 eu ew rfl) Z<|nv Z<|nv Z<|nA<|lq (rd (x:=.agg [c6,vV _]) (cP rfl lP rfl rfl rfl) rfl)<|bm Z<|ab (zC [] [] [] func169 (QD (de es).ps hB.pl (by have:=hB.lp;omega)) (trivial) rfl rfl) Z<|lT [2,3,4,5,6,7,23] [2002,2003,2005] ?_;refine cT (.au [kj,c6]) Z<|iB kj Z<|dE Z<|ab (zA 2008 ld Z) Z<|ab (zB 2008 cA cB Z) Z<|ao Z<|nA<|ae Z<|bm Z<|ba pX Z<|ak Z<|bv Z<|Y<|aS<|sL<|bm Z<|ba x4 Z<|ae Z<|Y<|aB ?_;refine aW [2,3,4,5,8,30,31] [2002,2003,2005,2008] (D:=Nat) (fun k=>[(10,aD (decide ((d5 es).2=((de es).ps.length:Int))&&eK ((de es).jD.take k))),(32,int (k:Int))]) (fun k=>[]) (fun k=>k<=(de es).jD.length) (fun k=>(de es).jD.length-k) (0) (Nat.zero_le _) ⟨(congrArg aD (by rw[fw,List.take_zero];exact(Bool.and_true _).symm)),rfl,trivial⟩ trivial ?_;intro k hI;refine sL<|ak Z<|Y<|aS<|cE rfl ?_ ?_
 ·intro V;refine aK<|gT<|aS<|aB<|sL ?_;have hk:k<(de es).jD.length:=by simpa[ap]using V
  have QN:=hB.lk;refine li k iU Z (bS hk)<|oy ac Z<|ao Z<|nA<|ae Z<|ak Z<|Y<|cE rfl ?_ ?_
  ·intro h2;refine aL<|ar Z<|lN<|gB<|gT<|aL<|bg Z<|ae Z<|Y ?_;refine⟨k+1,hk,by omega,⟨(congrArg aD (by simp_all[J9])),(iq rfl),trivial⟩,trivial,rfl,rfl⟩
  intro h2;refine aK<|gB<|gT<|aL<|bg Z<|ae Z<|Y ?_;refine⟨k+1,hk,by omega,⟨(congrArg aD (by simp_all[J9])),(iq rfl),trivial⟩,trivial,rfl,rfl⟩
 intro V;refine aE<|eT<|eT<|eB<|gT<|aS<|aF [3,4]<|sq 0 (dw h1 cu Z)<|pq 2 (gL fy Z) ?_;refine AF.two (i:=1) (j:=3) x_37 ?_ ?_
 ·refine d9.rd (i:=1) (x:=kj) rfl (sC rfl eZ rfl rfl rfl rfl) rfl rfl x_3 ?_;refine bn 3 Z (zB 2002 eu ew Z) (.inl Z)<|fT [2,3,4,40,41] [2002,2003,2005,2008] ?_;refine bn 4 Z (zB 2003 cA cB Z) (.inl Z)<|vq 5 (fk Z)<|fD<|gT<|aR ?_;refine ax ?_ trivial;refine congrArg (fun b=>some (AV.au [cj (de es).now,cR (d5 es).1,aD b])) ?_;grind[eL,ap]
 refine v1 3 Z (zB 2002 eu ew Z) (.inl Z)<|vq 1 (dw kj eZ Z)<|bn 4 Z (zB 2003 cA cB Z) (.inl Z)<|vq 5 (fk Z)<|fD<|gT<|aR ?_;refine ax ?_ trivial;refine congrArg (fun b=>some (AV.au [cj (de es).now,cR (d5 es).1,aD b])) ?_;grind[eL,ap]
theorem QO(l:List aV)(hl:l.length<=1048576):GC prog 58 [.p (.ab 81 7 (ah fR l))] [] (.own 1) [(1,uT l)]:=by
 refine gi 2 func58 rfl ntmps58 rfl ?_;intro L O w0;refine sL<|e9 Z<|nA<|bm Z<|ab (qJ 1 rfl rfl x_3 jk jl rfl x_3 rfl (Src.p rfl) x_140 (Nat.le_trans (Nat.mul_le_mul_left _ sD) (by simp[ah]at *;omega))) Z<|bD Z<|Y<|aR ?_;trivial

theorem mY{h:mm}(q:ik h.log.bT=false\/aI h.log.next 0 (h.log.bT.cells.length:Int)=false\/aI h.log.dP 1 16000000=false\/decide (((dH h.log.bT).length:Int)=h.log.next)=false\/eL (f8 h.log.bT)=false\/mC (de (f8 h.log.bT)).now h.book=false\/qE (d5 (f8 h.log.bT)).1 h.ia=false\/pZ (f8 h.log.bT) (h.f9++h.wait)=false):zV h=false:=by
 grind[zV]
theorem wC{h:mm}(h0:ik h.log.bT=true)(V:aI h.log.next 0 (h.log.bT.cells.length:Int)=true)(h2:aI h.log.dP 1 16000000=true)(h3:decide (((dH h.log.bT).length:Int)=h.log.next)=true)(h4:eL (f8 h.log.bT)=true)(h5:mC (de (f8 h.log.bT)).now h.book=true)(h6:qE (d5 (f8 h.log.bT)).1 h.ia=true):zV h=pZ (f8 h.log.bT) (h.f9++h.wait):=by
 grind[zV]
theorem QP{r1 r2:List (List PV)}{a b:List aV}(e1:r1=ah fR a)(e2:r2=ah fR b)(hn:a.length<=9007199254740992)(hm:b.length<=9007199254740992):GC prog 95 [.p (.ab 81 7 r1),.p (.ab 81 7 r2)] [] (aD (lZ fR a b)) []:=by
 subst e1 e2;exact Qw a b hn hm
theorem QR{es:List aV}{l:Nat}:((ah fR es).take (ah fR es).length).drop l=ah fR (es.drop l):=by
 grind[ah,List.map_drop]
theorem QS(h:mm)(hd:qK h.log.bT)(hb:di h.book)(QT:h.book.ag.length<=1048576/\h.book.an.length<=1048576/\h.book.aq.length<=1048576)(hl:h.ia.lines.length<=1048576)(hw:h.wait.length<=1048576)(hs:h.f9.length<=1048576):GC prog 31 [Bu h] [] (aD (zV h)) []:=by
 refine gi 2 func31 rfl ntmps31 rfl ?_;intro L O w0;refine sL<|ab (zX 2001 Z) Z<|ar Z<|nA<|lf 0 qL Z<|lf 0 Bv Z<|aP nq mE Z<|ab (zA 2003 Du Z) Z<|ab (zB 2003 Dv Dw Z) Z<|Y<|aS<|sL<|aP nq mE Z<|ab (zC [] [] [] func91 (J' h.log.bT) (trivial) Z Z) Z<|bX Z<|aQ Z ?_;refine AL.bool (t:=17) rfl ?_ ?_
 ·intro V;refine aa Z<|aa Z<|aa Z<|aa Z<|aa Z<|aa Z<|aa Z<|aa Z<|aU Z<|bM Z<|aa Z<|aa Z<|aa Z<|aa Z<|aa Z<|aU Z<|Y<|aY Z<|sL<|ar Z<|Y<|aR<|rT ?_;refine az trivial ?_;grind[mY]
 intro V;refine lf 0 qL Z<|lf 2 wD Z<|aj ac Z<|lf 0 n9 Z<|bo oB Z<|ba po Z<|ab (zC [] [] [] func92 (pp) (trivial) Z Z) Z<|lT [1,2,3,17,24] [2001,2003] ?_;refine bX Z<|bj Z<|aQ Z ?_;refine AL.bool (t:=27) rfl ?_ ?_
 ·intro h2;refine aa Z<|aa Z<|aa Z<|aa Z<|aa Z<|aU Z<|Y<|aY Z<|sL<|ar Z<|Y<|aR<|rT ?_;refine az trivial ?_;grind[mY,fU]
 intro h2;refine lf 0 qL Z<|lf 3 zW Z<|aj ac Z<|ab (zC [] [] [] func92 (pp) (trivial) Z Z) Z<|bX Z<|bj Z<|Y<|cE rfl ?_ ?_
 ·intro h3;refine sL<|ar Z<|Y<|aR<|rT ?_;refine az trivial ?_;grind[mY]
 intro h3;refine aK<|gT<|aS<|sL ?_;have hle:=Ka h.log.bT;refine aP nq mE Z<|ab (zC [] [] [] func93 (Kb h.log.bT hd) (trivial) Z Z) Z<|lT [1,2,3,36] [2001,2003] ?_;refine cT (.au [c7,c6]) Z<|rF Z<|dE Z<|nv Z<|ao Z<|nA<|ae Z<|lf 0 qL Z<|lf 2 wD Z<|aj ac Z<|ak Z<|Y<|cE rfl ?_ ?_
 ·intro h4;refine sL<|ar Z<|Y<|aR<|rT ?_;refine az trivial ?_;grind[mY]
 intro h4;refine aK<|gA<|aP nq mE Z<|ab (zC [] [] [] func33 ((QU h.log.bT hd).ui) (trivial) Z Z) Z<|nv Z<|nA ?_;have hB:=Dr (Dp h.log.bT);refine bm Z<|ab (zC [] [] [] func86 (QG (f8 h.log.bT) (Dp _) x_2) (trivial) rfl rfl) Z<|lT [1,2,6,48] [2001,2003] ?_;refine cT (.au [h1,kj,fy]) Z<|iB h1 Z<|iB kj Z<|eU Z<|ab (zA 2007 mD Z) Z<|ab (zA 2008 ld Z) Z<|ab (zB 2007 eu ew Z) Z<|ab (zB 2008 cA cB Z) Z<|bv Z<|Y<|aS<|sL<|aQ Z<|bX Z<|aQ Z ?_;refine AL.bool (t:=54) rfl ?_ ?_
 ·intro h5;refine aa Z<|aa Z<|aa Z<|aa Z<|aa Z<|aU Z<|bM Z<|aa Z<|aa Z<|aa Z<|aa Z<|aa Z<|aU Z<|Y<|aY Z<|sL<|ar Z<|Y<|aR<|rT ?_;refine az trivial ?_;grind[mY]
 intro h5;refine aP h1 cu Z<|lf 4 Bw Z<|aP h1 cu Z<|ab (zC [] [] [] func37 (Qz (de (f8 h.log.bT)).now h.book hB.wf hb) (trivial) Z Z) Z<|lT [1,2,6,8,54,58] [2001,2003,2007,2008] ?_;refine bX Z<|bj Z<|aQ Z ?_;refine AL.bool (t:=61) rfl ?_ ?_
 ·intro h6;refine aa Z<|aa Z<|aa Z<|aa Z<|aa Z<|aU Z<|Y<|aY Z<|sL<|ar Z<|Y<|aR<|rT ?_;refine az trivial ?_;grind[mY]
 intro h6;refine aP kj eZ Z<|lf 10 Bx Z<|aP kj eZ Z<|ab (zC [] [] [] func94 (Qu (d5 (f8 h.log.bT)).1 h.ia (by have:=hB.ll;omega) x_2) (trivial) rfl rfl) Z<|bX Z<|bj Z<|Y<|cE rfl ?_ ?_
 ·intro h7;refine sL<|ar Z<|Y<|aR<|rT ?_;refine az trivial ?_;grind[mY]
 intro h7;refine aK<|gT<|aS<|aF [5]<|pq 0 (qf 13 By Z)<|sq 1 (jj tE Z)<|pq 3 (qf 12 Bz Z)<|sq 4 (jj tE Z)<|bn 2 Z (zC [(1,1)] [1] [] func58 (QO h.f9 hs) (trivial) Z Z) (.inr Z)<|fT [2,6,70,72] [1,2001,2003,2007,2008] ?_;refine bn 5 Z (zP 1 jk jl sD Z (Src.p Z)) (.inl Z)<|vq 6 (tF Z)<|fD<|gA ?_;refine AL.freeze 1 rfl ?_;refine bm Z<|ba jZ Z<|bm Z<|ba jZ Z<|ak Z<|aQ Z ?_;refine AL.bool (t:=79) rfl ?_ ?_
 ·intro h8;refine bm Z<|bm Z<|ba jZ Z<|bm Z<|ba jZ Z ?_;refine eo rfl ⟨rfl,ce (by unfold i64;simp[ap];omega)⟩ ?_;refine lq (rd (x:=c7) (p6 (l:=((f8 h.log.bT).length-(h.f9++h.wait).length)) (h:=_) rfl jk rfl ⟨_,(Eq.trans (b:=int _) rfl (congrArg int (by have q:=h8;simp[ap]at q ⊢;omega)))⟩ rfl (by rw[ap];omega) (Nat.le_refl _)) rfl)<|bm Z<|ab (zC [] [] [] func95 (QP QR (fx _ _ _).symm (by rw[List.length_drop];omega) (by rw[List.length_append];omega)) (trivial) rfl rfl) Z<|lT [2,79,88] [2001,2003,2007,2008] ?_;refine bj Z<|bv Z<|Y<|aR ?_;refine az trivial ?_;refine Eq.symm ?_;grind[wC,fU,ap,pZ]
 intro h8;refine aa Z<|aa Z<|aa Z<|aa Z<|aa Z<|aa Z<|aa Z<|aa Z<|aa Z<|bL Z<|ar Z<|Y<|aR ?_;refine az trivial ?_;refine Eq.symm ?_;grind[wC,fU,ap,pZ]
theorem x_119{p:Prop}(c:p:=by exact ⟨rfl,ce (by grind[i64,ap])⟩):p:=c
theorem QV(h:mm)(hd:qK h.log.bT)(hb:di h.book)(QT:h.book.ag.length<=1048576/\h.book.an.length<=1048576/\h.book.aq.length<=1048576)(hl:h.ia.lines.length<=1048576)(hw:h.wait.length<=1048576)(hs:h.f9.length<=1048576):GC prog 30 [Bu h] [] (aD (zV h)) []:=by
 refine gi 2 func30 rfl ntmps30 rfl ?_;intro L O w0;refine sL<|ab (zX 2001 Z) Z<|ar Z<|nA<|lf 0 qL Z<|lf 0 Bv Z<|aP nq mE Z<|ab (zA 2003 Du Z) Z<|ab (zB 2003 Dv Dw Z) Z<|Y<|aS<|sL<|aP nq mE Z<|ab (zC [] [] [] func87 (FU h.log.bT) (trivial) Z Z) Z<|bX Z<|aQ Z ?_;refine AL.bool (t:=19) rfl ?_ ?_
 ·intro V;refine aa Z<|aa Z<|aa Z<|aa Z<|aU Z<|bM Z<|aa Z<|aa Z<|aa Z<|aa Z<|aa Z<|aa Z<|aa Z<|aU Z<|bM Z<|aa Z<|aa Z<|aa Z<|aa Z<|aU Z<|bM Z<|aa Z<|aa Z<|aa Z<|aa Z<|aU Z<|Y<|aY Z<|aS ?_;refine aL<|ar Z<|Y<|aR<|rT ?_;refine az trivial ?_;grind[mY]
 intro V;refine lf 0 qL Z<|lf 2 wD Z<|aj ac Z<|ak Z<|bj Z<|aQ Z ?_;refine AL.bool (t:=25) rfl ?_ ?_
 ·intro h2;refine aa Z<|aa Z<|aa Z<|aa Z<|aa Z<|aa Z<|aa Z<|aU Z<|bM Z<|aa Z<|aa Z<|aa Z<|aa Z<|aU Z<|bM Z<|aa Z<|aa Z<|aa Z<|aa Z<|aU Z<|lT [1,2,3,45] [2001,2003] ?_;refine Y<|aY Z<|sL<|ar Z<|Y<|aR<|rT ?_;refine az trivial ?_;grind[mY]
 intro h2;refine lf 0 qL Z<|lf 2 wD Z<|aj ac Z<|lf 0 n9 Z<|bo oB Z<|ba po Z<|ak Z<|bj Z<|aQ Z ?_;refine AL.bool (t:=34) rfl ?_ ?_
 ·intro h3;refine aa Z<|aa Z<|aa Z<|aa Z<|aU Z<|bM Z<|aa Z<|aa Z<|aa Z<|aa Z<|aU Z<|Y<|aY Z<|sL<|ar Z<|Y<|aR<|rT ?_;refine az trivial ?_;grind[mY,aI,fU]
 intro h3;refine lf 0 qL Z<|lf 3 zW Z<|aj ac Z<|ak Z<|bj Z<|aQ Z ?_;refine AL.bool (t:=40) rfl ?_ ?_
 ·intro h4;refine aa Z<|aa Z<|aa Z<|aa Z<|aU Z<|Y<|aY Z<|sL<|ar Z<|Y<|aR<|rT ?_;refine az trivial ?_;grind[mY,aI]
 intro h4;refine lf 0 qL Z<|lf 3 zW Z<|aj ac Z<|ak Z<|bj Z<|Y<|cE rfl ?_ ?_
 ·intro h5;refine sL<|ar Z<|Y<|aR<|rT ?_;refine az trivial ?_;grind[mY,aI]
 intro h5;refine aK<|gA<|aP nq mE Z<|ab (zC [] [] [] func88 (Kc h.log.bT hd) (trivial) Z Z) Z<|lT [1,2,3,48] [2001,2003] ?_;have hle:=Ka h.log.bT;refine cT (.au [c7,c6]) Z<|rF Z<|dE Z<|nv Z<|ao Z<|nA<|aP nq mE Z<|ab (zC [] [] [] func34 ((QW h.log.bT hd).ui) (trivial) rfl rfl) Z<|nv Z<|nA<|bm Z<|ab (zC [] [] [] func82 (QK (f8 h.log.bT) (Dp _) x_2) (trivial) rfl rfl) rfl ?_;have hB:=Dr (Dp h.log.bT);refine cT (.au [h1,kj,fy]) Z<|iB h1 Z<|iB kj Z<|eU Z<|ab (zA 2007 mD Z) Z<|lT [1,2,5,6,7,56,57,58] [2001,2003,2007] ?_;refine ab (zA 2008 ld Z) Z<|ab (zB 2007 eu ew Z) Z<|ab (zB 2008 cA cB Z) Z<|bv Z<|Y<|aS<|sL<|ae Z<|lf 0 qL Z<|lf 2 wD Z<|aj ac Z<|ak Z<|aQ Z ?_;refine AL.bool (t:=64) rfl ?_ ?_
 ·intro h6;refine aa Z<|aa Z<|aU Z<|bM Z<|aa Z<|aa Z<|aa Z<|aa Z<|aa Z<|aU Z<|bM Z<|aa Z<|aa Z<|aa Z<|aa Z<|aa Z<|aU Z<|Y<|aY Z<|sL<|ar Z<|Y<|aR<|rT ?_;refine az trivial ?_;grind[mY]
 intro h6;refine aQ Z<|bX Z<|bj Z<|aQ Z ?_;refine AL.bool (t:=68) rfl ?_ ?_
 ·intro h7;refine aa Z<|aa Z<|aa Z<|aa Z<|aa Z<|aU Z<|bM Z<|aa Z<|aa Z<|aa Z<|aa Z<|aa Z<|aU Z<|Y<|aY Z<|sL<|ar Z<|Y<|aR<|rT ?_;refine az trivial ?_;grind[mY]
 intro h7;refine aP h1 cu Z<|lf 4 Bw Z<|aP h1 cu Z<|ab (zC [] [] [] func89 (Qy (de (f8 h.log.bT)).now h.book hB.wf hb x_2 x_2 x_2) (trivial) rfl rfl) Z<|lT [1,2,6,8,68,72] [2001,2003,2007,2008] ?_;refine bX Z<|bj Z<|aQ Z ?_;refine AL.bool (t:=75) rfl ?_ ?_
 ·intro h8;refine aa Z<|aa Z<|aa Z<|aa Z<|aa Z<|aU Z<|Y<|aY Z<|sL<|ar Z<|Y<|aR<|rT ?_;refine az trivial ?_;grind[mY]
 intro h8;refine aP kj eZ Z<|lf 10 Bx Z<|aP kj eZ Z<|ab (zC [] [] [] func90 (Qv (d5 (f8 h.log.bT)).1 h.ia (by have:=hB.ll;omega) x_2) (trivial) rfl rfl) Z<|bX Z<|bj Z<|Y<|cE rfl ?_ ?_
 ·intro h9;refine sL<|ar Z<|Y<|aR<|rT ?_;refine az trivial ?_;grind[mY]
 intro h9;refine aK<|gT<|aS<|aF [3,6]<|pq 1 (qf 13 By Z)<|sq 2 (jj tE Z)<|pq 4 (qf 12 Bz Z) ?_;refine AF.two (i:=0) (j:=5) x_37 ?_ ?_
 ·refine v1 0 rfl (zS 2082 [] jk jl rfl x_19) (.inr rfl)<|fT [2,6,82,84,86] [2001,2003,2007,2008,2082] ?_;refine AF.two (i:=3) (j:=5) x_37 ?_ ?_
  ·refine v1 3 Z (zP 2082 jk jl sD Z (Src.p Z)) (.inl Z)<|vq 5 (jj tE Z)<|bn 6 Z (zP 2082 jk jl sD Z (Src.p Z)) (.inl Z)<|vq 7 (tF Z)<|fD<|gT<|aS<|sL ?_;refine AL.freeze 2082 rfl ?_;refine bm Z<|ba jZ Z<|bm Z<|ba jZ Z<|ak Z<|Y<|cE rfl ?_ ?_
   ·intro dh;refine sL<|ar Z<|Y<|aR<|rT ?_;refine az trivial ?_;grind[mY,pZ,ap]
   intro dh;refine aK<|gT<|aS<|sL ?_;have sE:(h.f9++h.wait).length<=(f8 h.log.bT).length:=by have q:=dh;simp[ap]at q ⊢;omega
   refine bm Z<|ba jZ Z<|ae Z<|Y<|aB ?_;refine aW [2,6,10,94,95] [2001,2003,2007,2008] (D:=Nat) (fun k=>[(96,int (k:Int))]) (fun k=>[]) (fun k=>ja fR ((f8 h.log.bT).drop ((f8 h.log.bT).length-(h.f9++h.wait).length)) (h.f9++h.wait) k) (fun k=>(h.f9++h.wait).length-k) (0) (ja.zero _ _ _) ⟨rfl,trivial⟩ trivial ?_;intro k hI;refine sL<|ak Z<|Y<|aS<|cE rfl ?_ ?_
   ·intro gp;refine aK<|gT<|aS<|aB<|sL<|ae Z ?_;have hk:k<(h.f9++h.wait).length:=by have q:=gp;simp[ap]at q ⊢;omega
    have bZ:k<((f8 h.log.bT).drop ((f8 h.log.bT).length-(h.f9++h.wait).length)).length:=by rw[List.length_drop];omega
    refine li k jk rfl ((by rw[List.nil_append,<-fx];exact bS hk))<|d6 iK dD Z<|ab (zA 2012 jl rfl) Z<|lT [2,6,10,12,94,95,96,98,100] [2001,2003,2007,2008,2012] ?_;refine ao Z<|ab (zB 2012 mZ m0 Z) Z<|Y<|aS<|aF []<|pq 0 (iz Z)<|pq 1 (iz Z)<|sq 2 (le jZ Z)<|pq 3 (iz Z)<|sq 4 (le jZ Z) ?_;refine sq 5 (iC rfl x_119)<|pq 6 (gL c6 rfl) ?_;refine sq 7 (iC rfl x_119)<|qM 108 ((((f8 h.log.bT).length-(h.f9++h.wait).length+k):Nat):Int) rfl x_33<|sq 8 (ri (((f8 h.log.bT).length-(h.f9++h.wait).length+k)) jk rfl (bS x_2))<|sq 9 (gm iK dD rfl)<|vq 10 (dw iK dD rfl)<|vq 11 (rd (x:=fy) (j0 rfl (.inr rfl) rfl rfl oz pe pf pg ?hn1) rfl) ?_;case hn1=>exact x_13
    refine fD<|gT<|cE rfl ?_ ?_
    ·intro gM;refine sL<|ar Z<|Y<|aR<|rB<|rT<|rT<|rB<|rT ?_;refine az trivial ?_;refine Eq.symm ?_;rw[wC x_14 (by grind[aI,fU]) (by grind[aI]) x_14 x_14 x_14 x_14];unfold pZ;rw[decide_eq_true sE];rw[qF bZ hk (by have q:=gM;rw[Bool.not_eq_true']at q;rw[List.getElem_drop];exact q)];rfl
    intro gM;refine aK<|gB<|gT<|aL<|bg Z<|ae Z<|Y ?_;refine⟨k+1,hI.next bZ hk (by have q:=gM;rw[Bool.not_eq_false']at q;rw[List.getElem_drop];exact q),by omega,x_11,trivial,rfl,rfl⟩
   intro gp;refine aE<|eT<|eT<|eB<|gA<|cI Z<|Y<|aR ?_;refine az trivial ?_;refine Eq.symm ?_;rw[wC x_14 (by grind[aI,fU]) (by grind[aI]) x_14 x_14 x_14 x_14];unfold pZ;rw[decide_eq_true sE];rw[hI.all x_14 x_33];rfl
  refine d9.rd (i:=5) (x:=c7) rfl (sC rfl tE rfl rfl rfl rfl) rfl rfl x_3 ?_;refine bn 3 Z (zP 2082 jk jl sD Z (Src.p Z)) (.inl Z)<|fT [2,6,85,87] [2001,2003,2007,2008,2082] ?_;refine bn 6 Z (zP 2082 jk jl sD Z (Src.p Z)) (.inl Z)<|vq 7 (tF Z)<|fD<|gT<|aS<|sL ?_;refine AL.freeze 2082 rfl ?_;refine bm Z<|ba jZ Z<|bm Z<|ba jZ Z<|ak Z<|Y<|cE rfl ?_ ?_
  ·intro dO;refine sL<|ar Z<|Y<|aR<|rT ?_;refine az trivial ?_;grind[mY,pZ,ap]
  intro dO;refine aK<|gT<|aS<|sL ?_;have sE:(h.f9++h.wait).length<=(f8 h.log.bT).length:=by have q:=dO;simp[ap]at q ⊢;omega
  refine bm Z<|ba jZ Z<|ae Z<|Y<|aB ?_;refine aW [2,6,10,94,95] [2001,2003,2007,2008] (D:=Nat) (fun k=>[(96,int (k:Int))]) (fun k=>[]) (fun k=>ja fR ((f8 h.log.bT).drop ((f8 h.log.bT).length-(h.f9++h.wait).length)) (h.f9++h.wait) k) (fun k=>(h.f9++h.wait).length-k) (0) (ja.zero _ _ _) ⟨rfl,trivial⟩ trivial ?_;intro k hI;refine sL<|ak Z<|Y<|aS<|cE rfl ?_ ?_
  ·intro ij;refine aK<|gT<|aS<|aB<|sL<|ae Z ?_;have hk:k<(h.f9++h.wait).length:=by have q:=ij;simp[ap]at q ⊢;omega
   have bZ:k<((f8 h.log.bT).drop ((f8 h.log.bT).length-(h.f9++h.wait).length)).length:=by rw[List.length_drop];omega
   refine li k jk rfl ((by rw[List.nil_append,<-fx];exact bS hk))<|d6 iK dD Z<|ab (zA 2012 jl rfl) Z<|lT [2,6,10,12,94,95,96,98,100] [2001,2003,2007,2008,2012] ?_;refine ao Z<|ab (zB 2012 mZ m0 Z) Z<|Y<|aS<|aF []<|pq 0 (iz Z)<|pq 1 (iz Z)<|sq 2 (le jZ Z)<|pq 3 (iz Z)<|sq 4 (le jZ Z) ?_;refine sq 5 (iC rfl x_119)<|pq 6 (gL c6 rfl) ?_;refine sq 7 (iC rfl x_119)<|qM 108 ((((f8 h.log.bT).length-(h.f9++h.wait).length+k):Nat):Int) rfl x_33<|sq 8 (ri (((f8 h.log.bT).length-(h.f9++h.wait).length+k)) jk rfl (bS x_2))<|sq 9 (gm iK dD rfl)<|vq 10 (dw iK dD rfl)<|vq 11 (rd (x:=fy) (j0 rfl (.inr rfl) rfl rfl oz pe pf pg ?hn2) rfl) ?_;case hn2=>exact x_13
   refine fD<|gT<|cE rfl ?_ ?_
   ·intro lg;refine sL<|ar Z<|Y<|aR<|rB<|rT<|rT<|rB<|rT ?_;refine az trivial ?_;refine Eq.symm ?_;rw[wC x_14 (by grind[aI,fU]) (by grind[aI]) x_14 x_14 x_14 x_14];unfold pZ;rw[decide_eq_true sE];rw[qF bZ hk (by have q:=lg;rw[Bool.not_eq_true']at q;rw[List.getElem_drop];exact q)];rfl
   intro lg;refine aK<|gB<|gT<|aL<|bg Z<|ae Z<|Y ?_;refine⟨k+1,hI.next bZ hk (by have q:=lg;rw[Bool.not_eq_false']at q;rw[List.getElem_drop];exact q),by omega,x_11,trivial,rfl,rfl⟩
  intro ij;refine aE<|eT<|eT<|eB<|gA<|cI Z<|Y<|aR ?_;refine az trivial ?_;refine Eq.symm ?_;rw[wC x_14 (by grind[aI,fU]) (by grind[aI]) x_14 x_14 x_14 x_14];unfold pZ;rw[decide_eq_true sE];rw[hI.all x_14 x_33];rfl
 refine d9.rd (i:=5) (x:=c7) rfl (sC rfl tE rfl rfl rfl rfl) rfl rfl x_3 ?_;refine bn 0 rfl (zS 2082 [] jk jl rfl x_19) (.inr rfl)<|fT [2,6,82,84,87] [2001,2003,2007,2008,2082] ?_;refine bn 3 Z (zP 2082 jk jl sD Z (Src.p Z)) (.inl Z)<|bn 6 Z (zP 2082 jk jl sD Z (Src.p Z)) (.inl Z)<|vq 7 (tF Z)<|fD<|gT<|aS<|sL ?_;refine AL.freeze 2082 rfl ?_;refine bm Z<|ba jZ Z<|bm Z<|ba jZ Z<|ak Z<|Y<|cE rfl ?_ ?_
 ·intro mn;refine sL<|ar Z<|Y<|aR<|rT ?_;refine az trivial ?_;grind[mY,pZ,ap]
 intro mn;refine aK<|gT<|aS<|sL ?_;have sE:(h.f9++h.wait).length<=(f8 h.log.bT).length:=by have q:=mn;simp[ap]at q ⊢;omega
 refine bm Z<|ba jZ Z<|ae Z<|Y<|aB ?_;refine aW [2,6,10,94,95] [2001,2003,2007,2008] (D:=Nat) (fun k=>[(96,int (k:Int))]) (fun k=>[]) (fun k=>ja fR ((f8 h.log.bT).drop ((f8 h.log.bT).length-(h.f9++h.wait).length)) (h.f9++h.wait) k) (fun k=>(h.f9++h.wait).length-k) (0) (ja.zero _ _ _) ⟨rfl,trivial⟩ trivial ?_;intro k hI;refine sL<|ak Z<|Y<|aS<|cE rfl ?_ ?_
 ·intro m7;refine aK<|gT<|aS<|aB<|sL<|ae Z ?_;have hk:k<(h.f9++h.wait).length:=by have q:=m7;simp[ap]at q ⊢;omega
  have bZ:k<((f8 h.log.bT).drop ((f8 h.log.bT).length-(h.f9++h.wait).length)).length:=by rw[List.length_drop];omega
  refine li k jk rfl ((by rw[List.nil_append,<-fx];exact bS hk))<|d6 iK dD Z<|ab (zA 2012 jl rfl) Z<|lT [2,6,10,12,94,95,96,98,100] [2001,2003,2007,2008,2012] ?_;refine ao Z<|ab (zB 2012 mZ m0 Z) Z<|Y<|aS<|aF []<|pq 0 (iz Z)<|pq 1 (iz Z)<|sq 2 (le jZ Z)<|pq 3 (iz Z)<|sq 4 (le jZ Z) ?_;refine sq 5 (iC rfl x_119)<|pq 6 (gL c6 rfl) ?_;refine sq 7 (iC rfl x_119)<|qM 108 ((((f8 h.log.bT).length-(h.f9++h.wait).length+k):Nat):Int) rfl x_33<|sq 8 (ri (((f8 h.log.bT).length-(h.f9++h.wait).length+k)) jk rfl (bS x_2))<|sq 9 (gm iK dD rfl)<|vq 10 (dw iK dD rfl)<|vq 11 (rd (x:=fy) (j0 rfl (.inr rfl) rfl rfl oz pe pf pg ?hn3) rfl) ?_;case hn3=>exact x_13
  refine fD<|gT<|cE rfl ?_ ?_
  ·intro mF;refine sL<|ar Z<|Y<|aR<|rB<|rT<|rT<|rB<|rT ?_;refine az trivial ?_;refine Eq.symm ?_;rw[wC x_14 (by grind[aI,fU]) (by grind[aI]) x_14 x_14 x_14 x_14];unfold pZ;rw[decide_eq_true sE];rw[qF bZ hk (by have q:=mF;rw[Bool.not_eq_true']at q;rw[List.getElem_drop];exact q)];rfl
  intro mF;refine aK<|gB<|gT<|aL<|bg Z<|ae Z<|Y ?_;refine⟨k+1,hI.next bZ hk (by have q:=mF;rw[Bool.not_eq_false']at q;rw[List.getElem_drop];exact q),by omega,x_11,trivial,rfl,rfl⟩
 intro m7;refine aE<|eT<|eT<|eB<|gA<|cI Z<|Y<|aR ?_;refine az trivial ?_;refine Eq.symm ?_;rw[wC x_14 (by grind[aI,fU]) (by grind[aI]) x_14 x_14 x_14 x_14];unfold pZ;rw[decide_eq_true sE];rw[hI.all x_14 x_33];rfl

structure E9(h:mm):Prop where
 d:vU h.log.bT
 lc:h.book.ag.length<=1048576
 lh:h.book.an.length<=1048576
 li:h.book.aq.length<=1048576
 ll:h.ia.lines.length<=1048576
 lw:h.wait.length<=1048576
 ls:h.f9.length<=1048576
structure It(h:mm):Prop where
 mc:h.log.bT.cells.length<=9223372036854775807
 bc:∀c∈h.log.bT.cells,c.bytes.length<=9223372036854775807
 mw:h.log.bT.bu.length<=9223372036854775807
 bw:∀c∈h.log.bT.bu,c.bytes.length<=9223372036854775807
 lc:h.book.ag.length<=9223372036854775807
 lh:h.book.an.length<=9223372036854775807
 li:h.book.aq.length<=9223372036854775807
 ll:h.ia.lines.length<=9223372036854775807
 lw:h.wait.length<=9223372036854775807
 ls:h.f9.length<=9223372036854775807
 db:qK h.log.bT
 wc:∀c∈h.book.ag,qn c
 wh:∀c∈h.book.an,ue c
 wi:∀c∈h.book.aq,vo c

def abO(H K:Nat->AO):Nat->AO:=fun i=>if (K i).here=true then .gone else H i
structure ab3(H K:Nat->AO):Prop where
 ai:∀i,H i=.gone\/∃e sz rows,H i=.ai e sz rows
 sub:∀i,K i=.gone\/K i=H i
section
variable {L:Nat->Prop}{ρ:Nat->Value}{H K:Nat->AO}{w:World}
theorem ab3.lv(h:ab3 H K){b:Nat}(q:live L ρ K b):live L ρ H b:=by
 rcases q with q|⟨i,q1,q2⟩
 ·exact .inl q
 rcases h.sub i with e|e
 ·rw[e]at q1;cases q1
 rw[e]at q1;exact .inr ⟨i,q1,q2⟩
theorem ab3.drop(h:ab3 H K){b:Nat}(q:live (live L ρ K) ρ (abO H K) b):live L ρ H b:=by
 rcases q with q|⟨i,q1,q2⟩
 ·exact h.lv q
 unfold abO at q1;split at q1
 ·cases q1
 exact .inr ⟨i,q1,q2⟩
theorem ab3.lie(h:ab3 H K){fp:Nat->List Nat}(V:∀i,OB L ρ H w (ρ i) (fp i) (H i))(h2:∀i j,i≠j->∀b∈fp i,b ∉ fp j)(h3:∀i,∀b∈fp i,¬L b):vk (live L ρ K) ρ (abO H K) w (fun b=>¬live L ρ K b):=by
 refine⟨fun id=>?_,fun b hb q=>hb (.inl q)⟩;by_cases hk:(K id).here=true
 ·exact⟨[],by unfold abO;rw[if_pos hk];rfl,fun b hb=>by cases hb⟩
 refine⟨fp id,?_,fun b hb q=>?_⟩
 ·have e:abO H K id=H id:=if_neg hk;have ho:=V id;rw[e];rcases h.ai id with q|⟨e',sz,rows,q⟩
  ·rw[q]at ho ⊢;exact ho
  rw[q]at ho ⊢;obtain⟨xs,fr,b1,b2,b3,b4,b5⟩:=ho;exact⟨xs,fr,b1,fun b hb z=>b2 b hb (h.drop z),b3,b4,b5⟩
 rcases q with q|⟨j,q1,q2⟩
 ·exact h3 id b hb q
 have ne:id≠j:=fun z=>hk (z▸q1);rcases h.sub j with z|z
 ·rw[z]at q1;cases q1
 have ho:=V j;rcases h.ai j with y|⟨e',sz,rows,y⟩
 ·rw[z,y]at q1;cases q1
 rw[y]at ho;obtain⟨_,_,_,_,_,b4,_⟩:=ho;exact h2 id j ne b hb (by rw[b4,q2];simp)
end
structure abG(H K:Nat->AO)(x y:AV):Prop where
 to:∀ {L:Nat->Prop} {ρ:Nat->Value} {w:World} {c:Value},vk (live L ρ K) ρ (abO H K) w (fun b=>¬live L ρ K b)->(∀b,¬live L ρ H b->¬live L ρ K b)->RV L ρ H w x c->RV L ρ K w y c
section
variable {H K:Nat->AO}
theorem abG.p(x:PV):abG H K (.p x) (.p x):=.mk fun hl hn h=>by
 rw[RV]at *;obtain⟨fp,V,h2⟩:=h;exact⟨fp,V,fun b hb=>hn b (h2 b hb)⟩
theorem abG.own{id:Nat}(h:K id=H id):abG H K (.own id) (.own id):=.mk fun hl hn hx=>by
 rw[RV]at *;rw[h];exact hx
theorem adb{id:Nat}{y:PV}(h:(K id).here=false)(hs:Still (abO H K) (.own id) (.p y)):abG H K (.own id) (.p y):=.mk fun{L ρ w c} hl hn hx=>by
 have e:abO H K id=H id:=if_neg (by rw[h];simp);have V:RV (live L ρ K) ρ (abO H K) w (.own id) c:=by rw[RV]at *;rw[e];exact hx
 have h2:=hs.to hl V;rw[RV]at *;obtain⟨fp,k1,k2⟩:=h2;exact⟨fp,k1,fun b hb q=>k2 b hb (.inl q)⟩
theorem bf.vA{L:Nat->Prop}{ρ:Nat->Value}{w:World}(hl:vk (live L ρ K) ρ (abO H K) w (fun b=>¬live L ρ K b))(hn:∀b,¬live L ρ H b->¬live L ρ K b):∀ {l m:List AV} {cs:List Value},kf (abG H K) l m->bf L ρ H w l cs->bf L ρ K w m cs
 |_,_,cs,.nil,h=>by rw[bf]at *;exact h
 |_,_,cs,.cons V h2,h=>by
  rw[bf]at *;obtain⟨c,r,rfl,k1,k2⟩:=h;exact⟨c,r,rfl,V.to hl hn k1,bf.vA hl hn h2 k2⟩
theorem abG.agg{l m:List AV}(h:kf (abG H K) l m):abG H K (.agg l) (.agg m):=.mk fun hl hn hx=>by
 rw[RV]at *;obtain⟨cs,rfl,V⟩:=hx;exact⟨cs,rfl,bf.vA hl hn h V⟩
theorem abG.au{l m:List AV}(h:kf (abG H K) l m):abG H K (.au l) (.au m):=.mk fun hl hn hx=>by
 rw[RV]at *;obtain⟨cs,rfl,V⟩:=hx;exact⟨cs,rfl,bf.vA hl hn h V⟩
end
theorem GX.vA{P:Program}{f:FuncId}{args:List AV}{R Z:AV->List (Nat×AO)->Prop}(h:GX P f args [] R)(hR:∀x bd,R x bd->∃y ob2,abG (bx bd) (bx ob2) x y/\ab3 (bx bd) (bx ob2)/\Z y ob2):GX P f args [] Z:=fun L w cs ρ fp V h2 h3 h4 h5=>
 Calls.mono (h L w cs ρ fp V h2 h3 h4 h5) fun e w' ⟨x,bd,q,v,ci,bH,q1,q2,q3,q4,q5,q6⟩=>by
  obtain⟨y,ob2,hy,hs,hz⟩:=hR x bd q;have hn:∀b,¬live L ci (bx bd) b->¬live L ci (bx ob2) b:=fun b k z=>k (hs.lv z);refine⟨y,ob2,hz,v,ci,fun i=>if (bx ob2 i).here=true then bH i else [],q1,q2,hy.to (hs.lie q4 q5 (fun i b hb=>(q6 i b hb).2)) hn q3,fun i=>?_,fun i j ne b hb=>?_,fun i b hb=>?_⟩
  ·by_cases hk:(bx ob2 i).here=true
   ·simp only[hk,if_true];rcases hs.sub i with z|z
    ·rw[z]at hk;cases hk
    rw[z];have ho:=q4 i;rcases hs.ai i with y|⟨e',sz,rows,y⟩
    ·rw[y]at ho ⊢;exact ho
    rw[y]at ho ⊢;obtain⟨xs,fr,b1,b2,b3⟩:=ho;exact⟨xs,fr,b1,fun b hb=>hn b (b2 b hb),b3⟩
   simp only[hk,if_false];rcases hs.sub i with z|z
   ·rw[z];rfl
   rcases hs.ai i with y|⟨e',sz,rows,y⟩
   ·rw[z,y];rfl
   rw[z,y]at hk;exact absurd rfl hk
  ·intro kA;dsimp only at hb kA;split at hb
   ·split at kA
    ·exact q5 i j ne b hb kA
    cases kA
   cases hb
  dsimp only at hb;split at hb
  ·exact q6 i b hb
  cases hb

def poO(l:cH)(p:dX):AV->List (Nat×AO)->Prop:=fun y ob=>(iv l p≠0/\y=.au [.agg [int 0,.p (.v (.slice none 0 0))],int (iv l p)]/\ob=[])\/(iv l p=0/\y=.au [.agg [int p.id,.own 50],int 0]/\ob=[(50,dc ((fM l.lines p.lines).getD []))])
theorem adc(l:cH)(p:dX)(hp:p.lines.length<=1000):GX prog 42 [cR l,DT p] [] (poO l p):=by
 refine GX.intro (rs:=[.cell 4 53 (some 2),.tmp 5]) func42 rfl ntmps42 x_8 x_134 ?_;intro L O w0;refine sL<|ab (zX 2002 Z) Z<|ab (zX 2003 Z) Z<|ab (zA 2004 ld Z) Z<|ao Z<|Y<|aS<|sL<|aP kj eZ Z<|ab (zC [] [] [] func121 (Lb l) (trivial) Z Z) Z<|bX Z<|aQ Z ?_;refine AL.bool (t:=11) rfl ?_ ?_
 ·intro V;refine aa Z<|aa Z<|aa Z<|aU Z<|Y<|aY Z<|sL<|lq (rd (x:=.agg [c6,vV _]) (cP Z lP Z Z Z) Z)<|ab (zB 2004 cA cB Z) Z<|ao Z<|Y<|aR<|rT ?_;refine fN ((.au [.agg [int 0,.p (.v (.slice none 0 0))],int 1])) [] ?_ rfl trivial;have hc:iv l p=1:=Gp (by simp_all);exact .inl ⟨by omega,by rw[hc],rfl⟩
 intro V;refine aP kj ol Z<|ab (zC [] [] [] func122 (SM p.id p.lines hp) (trivial) Z Z) Z<|lT [2,3,4,5,11,13] [2002,2003,2004] ?_;refine bX Z<|bj Z<|Y<|cE rfl ?_ ?_
 ·intro h2;refine sL<|lq (rd (x:=.agg [c6,vV _]) (cP Z lP Z Z Z) Z)<|ab (zB 2004 cA cB Z) Z<|ao Z<|Y<|aR<|rT ?_;refine fN ((.au [.agg [int 0,.p (.v (.slice none 0 0))],int 1])) [] ?_ rfl trivial;have hc:iv l p=1:=Gp (by simp_all);exact .inl ⟨by omega,by rw[hc],rfl⟩
 intro h2;refine aK<|gT<|aS<|sL<|lf 0 wN Z<|aj ac Z<|lf 0 pW Z<|aj ac Z<|ak Z<|Y<|cE rfl ?_ ?_
 ·intro h3;refine sL<|lq (rd (x:=.agg [c6,vV _]) (cP Z lP Z Z Z) Z)<|ab (zB 2004 cA cB Z) Z<|ao Z<|Y<|aR<|rT ?_;refine fN ((.au [.agg [int 0,.p (.v (.slice none 0 0))],int 2])) [] ?_ rfl trivial;have hc:iv l p=2:=Le x_28 x_38 x_59;exact .inl ⟨by omega,by rw[hc],rfl⟩
 intro h3;refine aK<|gA<|lf 1 jY Z<|bo gY Z<|lf 1 t7 Z<|bo gY Z ?_;have gH:eQ l=true:=by simpa using V
 have oU:iL p.id p.lines=true:=by simpa using h2
 obtain⟨qY,lD,-,-⟩:=va gH;obtain⟨BT,nS,-,-⟩:=DU oU;have hold:¬p.id<=l.last:=by simpa using h3
 rcases hmg:fM l.lines p.lines with _|r
 ·skip;refine ab (zC [] [] [] func123 (SK x_2 lD nS hmg) (trivial) rfl rfl) Z<|lT [3,4,5,28] [2002,2003,2004] ?_;refine cT (.au [vV _,vB false]) Z<|SN Z<|iB (vB false) Z<|e9 Z<|ar Z<|Y<|aS<|sL<|dm Z<|Gq Z<|bM Z<|aa Z<|aa Z<|aa Z<|aU Z<|Y<|aY Z<|sL<|lq (rd (x:=.agg [c6,vV _]) (cP Z lP Z Z Z) Z)<|ab (zB 2004 cA cB Z) Z<|ao Z<|Y<|aR<|rT ?_;refine fN ((.au [.agg [int 0,.p (.v (.slice none 0 0))],int 3])) [] ?_ rfl trivial;have hc:iv l p=3:=Lf gH oU hold hmg;exact .inl ⟨by omega,by rw[hc],rfl⟩
 skip;refine ab (zC [(50,50)] [50] [] func123 (SJ x_2 lD nS hmg) (trivial) rfl rfl) Z<|cT (.au [.own _,vB true]) Z<|qT Z<|iB (vB true) Z<|bD Z<|cI Z<|Y<|aS<|sL<|bM Z<|ma Z<|dm Z<|bW Z<|ba hZ Z<|ak Z<|bj Z<|Y<|cE rfl ?_ ?_
 ·intro h4;refine sL<|lq (rd (x:=.agg [c6,vV _]) (cP Z lP Z Z Z) Z)<|ab (zB 2004 cA cB Z) Z<|lT [3,4,5,6] [50,2002,2003,2004] ?_;refine ao Z<|Y<|aR<|rT ?_;refine fN ((.au [.agg [int 0,.p (.v (.slice none 0 0))],int 3])) [] ?_ rfl trivial;have hc:iv l p=3:=Lg gH oU hold hmg (by have h:=h4;simp[ap]at h;omega);exact .inl ⟨by omega,by rw[hc],rfl⟩
 intro h4;refine aK<|gA<|lf 0 wN Z<|aj ac Z<|bW Z<|lq (rd (x:=qa) (cP Z lP Z Z Z) Z)<|ab (zB 2004 cA cB Z) Z<|ao Z<|Y<|aR ?_;refine fN ((.au [.agg [int p.id,.own 50],int 0])) [(50,dc r)] ?_ rfl ⟨rfl,trivial⟩;exact .inr ⟨Gr gH oU hold hmg (by have h:=h4;simp[ap]at h;omega),rfl,by rw[hmg];rfl⟩
theorem adV(l:cH)(p:dX)(hp:p.lines.length<=1000)(h:iv l p=0):GC prog 42 [cR l,DT p] [] (.au [.agg [int (iD l p).last,.own 50],int 0]) [(50,dc (iD l p).lines)]:=(adc l p hp).gc fun y o q=>by
 have e:iD l p=⟨p.id,(fM l.lines p.lines).getD []⟩:=if_pos h;rcases q with⟨q,_⟩|⟨_,q1,q2⟩
 ·exact absurd h q
 rw[e];exact⟨q1,q2⟩
theorem adW(l:cH)(p:dX)(hp:p.lines.length<=1000)(h:iv l p≠0):GC prog 42 [cR l,DT p] [] (.au [.agg [int 0,.p (.v (.slice none 0 0))],int (iv l p)]) []:=(adc l p hp).gc fun y o q=>by
 rcases q with⟨_,q1,q2⟩|⟨q,_⟩
 ·exact⟨q1,q2⟩
 exact absurd q h
abbrev ab4(u:Value)(l:cH):List (Nat×AO):=[(61,.ai ⟨167,some u⟩ 3 (ah ct l.lines))]
theorem adX{u:Value}{l:cH}{p:dX}(hp:p.lines.length<=1000)(h:iv l p=0):GC prog 42 [.agg [int l.last,.own 61],DT p] (ab4 u l) (.au [.agg [int (iD l p).last,.own 50],int 0]) ((50,dc (iD l p).lines)::ab4 u l):=
 (adV l p hp h).Ae rfl rfl (by intro id hid;simp[s7,vN]at hid;subst hid;rfl) (by intro p hp;simp[ab4]at hp;subst hp;rfl) (by intro p hp;rw[List.mem_singleton.1 hp];exact⟨rfl,yg⟩) (by intro p hp;simp[ab4]at hp;subst hp;rfl)
theorem adY{u:Value}{l:cH}{p:dX}(hp:p.lines.length<=1000)(h:iv l p≠0):GC prog 42 [.agg [int l.last,.own 61],DT p] (ab4 u l) (.au [.agg [int 0,.p (.v (.slice none 0 0))],int (iv l p)]) (ab4 u l):=
 (adW l p hp h).Ae rfl rfl (by intro id hid;simp[s7,vN]at hid) (by intro p hp;simp[ab4]at hp;subst hp;rfl) (by intro p hp;cases hp) (by intro p hp;rfl)
theorem adZ(l:cH)(hl:l.lines.length<=1000):GC prog 57 [cR l] [] (.agg [int l.last,.own 51]) [(51,dc l.lines)]:=by
 refine GC.intro (rs:=[.cell 2 53 (some 2)]) func57 rfl ntmps57 x_8 ⟨rfl,rfl,eZ,trivial⟩ ?_;intro L O w0;refine sL<|ab (zX 2001 Z) Z<|ab (zA 2002 ld Z) Z<|Y<|aS<|aG 6 [51]<|tq 0 (rf 0 pW Z)<|tq 1 (aZ ac Z)<|yq 2 (rf 1 jY Z)<|yq 3 (jj gY Z)<|cm 4 Z (zC [(51,51)] [51] [] func140 (SQ l.lines hl) (trivial) Z Z)<|yq 5 (rd (x:=qa) (cP Z lP Z Z Z) Z)<|yl Z (zB 2002 cA cB Z)<|gT<|aR ?_;refine ax ?_ ⟨rfl,trivial⟩;rfl
def paO(l:cH)(ps:List dX):AV->List (Nat×AO)->Prop:=fun y ob=>(eQ l=false/\y=.au [.agg [int 0,.p (.v (.slice none 0 0))],int (-1)]/\ob=[])\/(eQ l=true/\y=.au [.agg [int (jJ l ps).1.last,.own 61],int (jJ l ps).2]/\ob=[(61,dc (jJ l ps).1.lines)])
theorem ad0(l:cH)(ps:List dX)(nu:∀p∈ps,p.lines.length<=1000)(hn:ps.length<=1000000):GX prog 175 [cR l,.p (.ab 92 2 (qI ps))] [] (paO l ps):=by
 refine GX.intro (rs:=[.cell 4 53 (some 2),.tmp 5]) func175 rfl ntmps175 x_8 x_134 ?_;intro L O w0;refine sL<|ab (zX 2002 Z) Z<|ab (zA 2004 ld Z) Z<|ao Z<|Y<|aS<|sL<|aP kj eZ Z<|ab (zC [] [] [] func121 (Lb l) (trivial) Z Z) Z<|bX Z<|Y<|cE rfl ?_ ?_
 ·intro V;refine sL<|lq (rd (x:=.agg [c6,vV _]) (cP Z lP Z Z Z) Z)<|ab (zB 2004 cA cB Z) Z<|ao Z<|Y<|aR<|rT ?_;refine fN ((.au [.agg [int 0,.p (.v (.slice none 0 0))],int (-1)])) [] ?_ rfl trivial;exact .inl ⟨by simpa using V,rfl,rfl⟩
 intro V;refine aK<|gA<|aP kj eZ Z ?_;have gH:eQ l=true:=by simpa using V
 obtain⟨qY,lD,-,-⟩:=va gH;refine ab (zC [(51,61)] [61] [] func57 (adZ l x_2) (trivial) rfl rfl) Z<|ab (zA 2006 ld rfl) Z<|ab (zB 2006 cA cB rfl) Z<|nA<|ao Z<|Y<|aS<|sL<|bm Z<|ba pX Z<|ae Z<|Y<|aB ?_;refine aW [4,5,6,18,19] [2002,2004] (D:=Nat) (fun k=>[(7,int (jJ l (ps.take k)).2),(20,int (k:Int))]) (fun k=>[(2006,.box 53 none [int (jJ l (ps.take k)).1.last,.own 61]),(61,dc (jJ l (ps.take k)).1.lines)]) (fun k=>k<=ps.length) (fun k=>ps.length-k) (0) (Nat.zero_le _) ⟨rfl,rfl,trivial⟩ ⟨rfl,rfl,trivial⟩ ?_;intro k hI;refine sL<|ak Z<|Y<|aS<|cE rfl ?_ ?_
 ·intro h2;refine aK<|gT<|aS<|aB<|sL ?_;have hk:k<ps.length:=by simpa[fw]using h2
  have hs:=FS (ps:=ps) qY k x_2;refine li k vb Z (DV hk)<|d6 kj ol Z<|ab (zA 2009 pC Z) Z<|lT [4,5,6,7,9,18,19,20,23] [61,2002,2004,2006,2009] ?_;refine ab (zB 2009 na nb Z) Z<|Y<|aS ?_;refine AW.mU 61 rfl ?_;intro u61;refine aL<|aP qa eZ Z<|aP kj ol Z ?_;rcases Decidable.em (iv (jJ l (ps.take k)).1 ps[k]=0)with hpc|hpc
  ·skip;refine ab (zC [(50,60),(61,61)] [60] [61] func42 (adX (u:=u61) (nu _ (List.getElem_mem hk)) hpc) x_115 rfl rfl) Z<|cT (.au [qa,c6]) Z<|iB qa Z<|dE Z<|ab (zA 2010 ld rfl) Z<|ab (zB 2010 cA cB rfl) Z<|ao Z<|nA<|ae Z<|ak Z<|bJ 31 true rfl x_19<|Y<|aY Z<|sL<|aP qa eZ Z<|ab (zB 2006 cA cB rfl) Z<|lT [4,5,6,7,18,19,20] [60,61,2002,2004,2006,2009,2010] ?_;refine Y<|aL<|ae Z<|bg Z<|ao Z<|lN<|gB<|gT ?_;refine AW.swap 60 61 ?_;refine aT [4,5,6,7,18,19,20] [60,61,2002,2004,2006,2009,2010] ?_;refine aT [4,5,6,7,18,19,20] [61,2002,2004,2006,2009,2010] ?_;refine aL<|bg Z<|ae Z<|Y ?_;have dM:jJ l (ps.take (k+1))=(iD (jJ l (ps.take k)).1 ps[k],(jJ l (ps.take k)).2+1):=by
    rw[Gs hk];exact if_pos hpc
   refine⟨k+1,hk,by omega,⟨x_34,(iq rfl),trivial⟩,⟨(by rw[dM];rfl),(by rw[dM];rfl),trivial⟩,rfl,rfl⟩
  skip;refine ab (zC [(61,61)] [] [61] func42 (adY (u:=u61) (nu _ (List.getElem_mem hk)) hpc) x_115 rfl rfl) Z<|cT (.au [.agg [c6,vV _],c6]) Z<|iB (.agg [c6,vV _]) Z<|dE Z<|ab (zA 2010 ld rfl) Z<|ab (zB 2010 cA cB rfl) Z<|ao Z<|nA<|ae Z<|ak Z<|bJ 31 false rfl (by simpa using hpc)<|Y<|aN Z<|aK<|gB<|gT ?_;refine iQ 61 rfl ?_;refine aT [4,5,6,7,18,19,20] [61,2002,2004,2006,2009,2010] ?_;refine aL<|bg Z<|ae Z<|Y ?_;have dM:jJ l (ps.take (k+1))=jJ l (ps.take k):=by
   rw[Gs hk];exact if_neg hpc
  refine⟨k+1,hk,by omega,⟨x_34,(iq rfl),trivial⟩,⟨(by rw[dM];rfl),(by rw[dM];rfl),trivial⟩,rfl,rfl⟩
 intro h2;refine aE<|eT<|eT<|eB<|gA<|aP qa eZ Z<|ae Z<|ab (zB 2004 cA cB Z) Z<|ao Z<|Y<|aR ?_;have dZ:ps.take k=ps:=List.take_of_length_le (by have h:=h2;simp[fw]at h;omega);rw[dZ];refine fN ((.au [.agg [int (jJ l ps).1.last,.own 61],int (jJ l ps).2])) [(61,dc (jJ l ps).1.lines)] ?_ rfl ⟨rfl,trivial⟩;exact .inr ⟨gH,rfl,rfl⟩
theorem ad1(ps:List dX)(nu:∀p∈ps,p.lines.length<=1000)(hn:ps.length<=1000000):GC prog 175 [.agg [int 0,.p (.v (.slice none 0 0))],.p (.ab 92 2 (qI ps))] [] (.au [.agg [int (jJ ⟨0,[]⟩ ps).1.last,.own 61],int (jJ ⟨0,[]⟩ ps).2]) [(61,dc (jJ ⟨0,[]⟩ ps).1.lines)]:=by
 have h:=(ad0 ⟨0,[]⟩ ps nu hn).gc fun y o q=>(by
  rcases q with⟨q,_⟩|⟨_,q1,q2⟩
  ·cases q
  exact⟨q1,q2⟩:y=.au [.agg [int (jJ ⟨0,[]⟩ ps).1.last,.own 61],int (jJ ⟨0,[]⟩ ps).2]/\o=[(61,dc (jJ ⟨0,[]⟩ ps).1.lines)])
 exact fun L w cs ρ fp V h2 h3 h4 h5=>h L w cs ρ fp V ((ff.cons (fe.agg (ff.cons (fe.refl _) (ff.cons (fe.nil _ _) ff.nil))) (ff.cons (fe.refl _) ff.nil)) h2) h3 h4 h5
end Go.Proofs.YtflhgkmhmcfimaaGreat

