/- Texts of the proof of FnFnLate, joined: EU1, E37, EU2, E36, EW1, EW2, HubT, EU3, EV1, EW3, EW6. -/
import Derived.Test.YtflhgkmhmcfimaaGreatJLate18
import Derived.Test.YtflhgkmhmcfimaaGreatJLate13
import Derived.Test.YtflhgkmhmcfimaaGreatJLate19
import Derived.Test.YtflhgkmhmcfimaaGreatJLate4
import Derived.Test.YtflhgkmhmcfimaaGreatJLate14
import Derived.Test.YtflhgkmhmcfimaaGreatJLate5
import Derived.Test.YtflhgkmhmcfimaaGreatJLate11
namespace Go.Proofs.YtflhgkmhmcfimaaGreat
open Tryz
open Go.RowKit
set_option maxHeartbeats 16000000
set_option maxRecDepth 100000
set_option linter.unusedSimpArgs false
set_option linter.unusedVariables false
def ja{α:Type}(enc:α->List Value)(l m:List α)(k:Nat):Prop:=∀j (V:j<l.length) (h2:j<m.length),j<k->dA (enc l[j]) (enc m[j])=true
theorem ja.zero{α:Type}(enc:α->List Value)(l m:List α):ja enc l m 0:=fun j _ _ h=>absurd h x_2
theorem ja.next{α:Type}{enc:α->List Value}{l m:List α}{k:Nat}(h:ja enc l m k)(V:k<l.length)(h2:k<m.length)(e:dA (enc l[k]) (enc m[k])=true):ja enc l m (k+1):=fun j q1 q2 q3=>by
 by_cases r:j=k
 ·grind
 exact h j q1 q2 x_2
theorem ja.all{α:Type}{enc:α->List Value}{l m:List α}{k:Nat}(h:ja enc l m k)(hl:l.length=m.length)(hk:¬k<l.length):lZ enc l m=true:=JR hl fun j q1 q2=>h j q1 q2 x_2
theorem FO : prog.fieldsOf 167 = ([{ name := "Acc",type := 165,offset := 0,embedded := false,tag := "",pkgPath := "",byteOffset := 0 },{ name := "Amt",type := 3,offset := 2,embedded := false,tag := "",pkgPath := "",byteOffset := 16 }] : List Field).toArray := by rfl
theorem JS:prog.underlying 167=some (.struct (prog.fieldsOf 167)):=by rfl
theorem JT:prog.stoodInHeld 167=false:=by simp
theorem JU:prog.eqGuardType prog.depth 167=false:=by simp
theorem JV(l:List Int)(hn:l.length<=9007199254740992):GC prog 176 [.p (.ab 3 1 (ah kt l))] [] (aD (eK l)) []:=by
 refine gi 2 func176 rfl ntmps176 rfl ?_;intro L O w0;refine sL<|ar Z<|Y<|aS<|sL<|bm Z<|ba x4 Z<|ae Z<|Y<|aB ?_;refine aW [2,5,6] [] (D:=Nat) (fun k=>[(7,int (k:Int))]) (fun k=>[]) (fun k=>∀j (h:j<l.length),j<k->l[j]=0) (fun k=>l.length-k) (0) (fun _ _ h=>absurd h x_2) ⟨rfl,trivial⟩ trivial ?_;intro k hI;refine sL<|ak Z<|Y<|aS ?_;refine AW.cond rfl ?_ ?_
 ·intro V;refine aK<|gT<|aS<|aB<|sL ?_;have hk:k<l.length:=by simpa[ap]using V
  refine li k iU Z (bS hk)<|oy ac Z<|ao Z<|nA<|ae Z<|ak Z<|Y ?_;refine AW.cond rfl ?_ ?_
  ·intro h2;refine sL<|ar Z<|Y<|aR<|rB<|rT<|rT<|rB<|rT ?_;refine az trivial ?_;exact(Bool.eq_false_iff.2 fun q=>by have h:=h2;have:=List.all_eq_true.1 q _ (List.getElem_mem hk);grind).symm
  intro h2;refine aK<|gB<|gT<|aL<|bg Z<|ae Z<|Y ?_;refine⟨k+1,fun j q1 q2=>by
   grind,by omega,x_12,trivial,rfl,rfl⟩
 intro V;refine aE<|eT<|eT<|eB<|gA<|cI Z<|Y<|aR ?_;refine az trivial ?_;exact(List.all_eq_true.2 fun z hz=>by obtain⟨j,hj,rfl⟩:=List.getElem_of_mem hz;grind[ap]).symm
theorem Qu(a b:cH)(hn:a.lines.length<=9007199254740992)(hm:b.lines.length<=9007199254740992):GC prog 94 [cR a,cR b] [] (aD (qE a b)) []:=by
 refine gi 4 func94 rfl ntmps94 rfl ?_;intro L O w0;refine sL<|ab (zX 2002 Z) Z<|ab (zX 2003 Z) Z<|ar Z<|Y<|aS<|sL<|lf 0 pW Z<|aj ac Z<|lf 0 pW Z<|aj ac Z<|ak Z<|aQ Z ?_;refine AL.bool (t:=11) rfl ?_ ?_
 ·intro V;refine aa Z<|aa Z<|aa Z<|aa Z<|aa Z<|aa Z<|aa Z<|aU Z<|Y<|aY Z<|sL<|ar Z<|Y<|aR<|rT ?_;refine az trivial ?_;grind[qE]
 intro V;refine lf 1 jY Z<|bo gY Z<|ba hZ Z<|lf 1 jY Z<|bo gY Z<|ba hZ Z<|ak Z<|bj Z<|Y ?_;refine AW.cond rfl ?_ ?_
 ·intro h2;refine sL<|ar Z<|Y<|aR<|rT ?_;refine az trivial ?_;unfold qE;rw[tD x_33,Bool.and_false]
 intro h2;refine aK<|gT<|aS<|sL ?_;have q1:a.last=b.last:=by have h:=V;simpa using h
 have q2:a.lines.length=b.lines.length:=by have h:=h2;simp[ap]at h;omega
 refine lf 1 jY Z<|bo gY Z<|ba hZ Z<|ae Z<|Y<|aB ?_;refine aW [2,3,4,22] [2002,2003] (D:=Nat) (fun k=>[(23,int (k:Int))]) (fun k=>[]) (fun k=>ja ct a.lines b.lines k) (fun k=>a.lines.length-k) (0) (ja.zero _ _ _) ⟨rfl,trivial⟩ trivial ?_;intro k hI;refine sL<|ak Z<|Y<|aS ?_;refine AW.cond rfl ?_ ?_
 ·intro h3;refine aK<|gT<|aS<|aB<|sL<|ae Z<|ao Z<|Y<|aS<|aF []<|pq 0 (qf 1 jY Z)<|sq 1 (jj gY Z)<|pq 2 (gL (U _ _) Z)<|fT [2,3,4,5,22,23,27,28] [2002,2003] ?_;have hk:k<a.lines.length:=by simpa[ap]using h3
  have iy:k<b.lines.length:=by omega
  refine sq 3 (ri k cV rfl (bS hk))<|sq 4 (gm (.agg [U _ _,U _ _,U _ _]) iV rfl)<|pq 5 (qf 1 jY rfl)<|sq 6 (jj gY rfl)<|vq 7 (dW rfl)<|vq 8 (ri k cV rfl (bS iy))<|vq 9 (gm (.agg [U _ _,U _ _,U _ _]) iV rfl)<|vq 10 (rd (x:=vB _) (JW (a:=[_,_]) (b:=[_,_]) (r:=[_]) (r':=[_]) rfl (.inr rfl) rfl rfl FO JS JT JU x_3 rfl wA uR wB Dm (Eq.refl 2) ?hn1 ?hn2) rfl) ?_;case hn1=>exact x_25
  case hn2=>exact⟨rfl,by decide,rfl,⟨_,underlying3⟩,trivial⟩
  refine fD<|gT ?_;refine AW.cond rfl ?_ ?_
  ·intro h4;refine sL<|ar Z<|Y<|aR<|rB<|rT<|rT<|rB<|rT ?_;refine az trivial ?_;unfold qE;rw[qF hk iy (by have h:=h4;rw[Bool.not_eq_true']at h;exact h),Bool.and_false]
  intro h4;refine aK<|gB<|gT<|aL<|bg Z<|ae Z<|Y ?_;refine⟨k+1,hI.next hk iy (by have h:=h4;rw[Bool.not_eq_false']at h;exact h),by omega,x_12,trivial,rfl,rfl⟩
 intro h3;refine aE<|eT<|eT<|eB<|gA<|cI Z<|Y<|aR ?_;refine az trivial ?_;unfold qE;rw[hI.all q2 x_33,decide_eq_true q1];rfl
theorem Qv(a b:cH)(hn:a.lines.length<=9007199254740992)(hm:b.lines.length<=9007199254740992):GC prog 90 [cR a,cR b] [] (aD (qE a b)) []:=by
 refine gi 4 func90 rfl ntmps90 rfl ?_;intro L O w0;refine sL<|ab (zX 2002 Z) Z<|ab (zX 2003 Z) Z<|ar Z<|Y<|aS<|sL<|lf 0 pW Z<|aj ac Z<|lf 0 pW Z<|aj ac Z<|ak Z<|aQ Z ?_;refine AL.bool (t:=11) rfl ?_ ?_
 ·intro V;refine aa Z<|aa Z<|aa Z<|aa Z<|aa Z<|aa Z<|aa Z<|aU Z<|Y<|aY Z<|sL<|ar Z<|Y<|aR<|rT ?_;refine az trivial ?_;grind[qE]
 intro V;refine lf 1 jY Z<|bo gY Z<|ba hZ Z<|lf 1 jY Z<|bo gY Z<|ba hZ Z<|ak Z<|bj Z<|Y ?_;refine AW.cond rfl ?_ ?_
 ·intro h2;refine sL<|ar Z<|Y<|aR<|rT ?_;refine az trivial ?_;unfold qE;rw[tD x_33,Bool.and_false]
 intro h2;refine aK<|gT<|aS<|sL ?_;have q1:a.last=b.last:=by have h:=V;simpa using h
 have q2:a.lines.length=b.lines.length:=by have h:=h2;simp[ap]at h;omega
 refine lf 1 jY Z<|bo gY Z<|ba hZ Z<|ae Z<|Y<|aB ?_;refine aW [2,3,4,22] [2002,2003] (D:=Nat) (fun k=>[(23,int (k:Int))]) (fun k=>[]) (fun k=>ja ct a.lines b.lines k) (fun k=>a.lines.length-k) (0) (ja.zero _ _ _) ⟨rfl,trivial⟩ trivial ?_;intro k hI;refine sL<|ak Z<|Y<|aS ?_;refine AW.cond rfl ?_ ?_
 ·intro h3;refine aK<|gT<|aS<|aB<|sL<|ae Z<|ao Z<|Y<|aS<|aF []<|pq 0 (qf 1 jY Z)<|sq 1 (jj gY Z)<|pq 2 (gL (U _ _) Z)<|fT [2,3,4,5,22,23,27,28] [2002,2003] ?_;have hk:k<a.lines.length:=by simpa[ap]using h3
  have iy:k<b.lines.length:=by omega
  refine sq 3 (ri k cV rfl (bS hk))<|sq 4 (gm (.agg [U _ _,U _ _,U _ _]) iV rfl)<|pq 5 (qf 1 jY rfl)<|sq 6 (jj gY rfl)<|vq 7 (dW rfl)<|vq 8 (ri k cV rfl (bS iy))<|vq 9 (gm (.agg [U _ _,U _ _,U _ _]) iV rfl)<|vq 10 (rd (x:=vB _) (JW (a:=[_,_]) (b:=[_,_]) (r:=[_]) (r':=[_]) rfl (.inr rfl) rfl rfl FO JS JT JU x_3 rfl wA uR wB Dm (Eq.refl 2) ?hn1 ?hn2) rfl) ?_;case hn1=>exact x_25
  case hn2=>exact⟨rfl,by decide,rfl,⟨_,underlying3⟩,trivial⟩
  refine fD<|gT ?_;refine AW.cond rfl ?_ ?_
  ·intro h4;refine sL<|ar Z<|Y<|aR<|rB<|rT<|rT<|rB<|rT ?_;refine az trivial ?_;unfold qE;rw[qF hk iy (by have h:=h4;rw[Bool.not_eq_true']at h;exact h),Bool.and_false]
  intro h4;refine aK<|gB<|gT<|aL<|bg Z<|ae Z<|Y ?_;refine⟨k+1,hI.next hk iy (by have h:=h4;rw[Bool.not_eq_false']at h;exact h),by omega,x_12,trivial,rfl,rfl⟩
 intro h3;refine aE<|eT<|eT<|eB<|gA<|cI Z<|Y<|aR ?_;refine az trivial ?_;unfold qE;rw[hI.all q2 x_33,decide_eq_true q1];rfl
theorem Qw(a b:List aV)(hn:a.length<=9007199254740992)(hm:b.length<=9007199254740992):GC prog 95 [.p (.ab 81 7 (ah fR a)),.p (.ab 81 7 (ah fR b))] [] (aD (lZ fR a b)) []:=by
 refine gi 4 func95 rfl ntmps95 rfl ?_;intro L O w0;refine sL<|ar Z<|Y<|aS<|sL<|bm Z<|ba jZ Z<|bm Z<|ba jZ Z<|ak Z<|Y ?_;refine AW.cond rfl ?_ ?_
 ·intro V;refine sL<|ar Z<|Y<|aR<|rT ?_;refine az trivial ?_;grind[tD,ap]
 intro V;refine aK<|gT<|aS<|sL ?_;have q2:a.length=b.length:=by have h:=V;simp[ap]at h;omega
 refine bm Z<|ba jZ Z<|ae Z<|Y<|aB ?_;refine aW [0,1,4,12] [] (D:=Nat) (fun k=>[(13,int (k:Int))]) (fun k=>[]) (fun k=>ja fR a b k) (fun k=>a.length-k) (0) (ja.zero _ _ _) ⟨rfl,trivial⟩ trivial ?_;intro k hI;refine sL<|ak Z<|Y<|aS ?_;refine AW.cond rfl ?_ ?_
 ·intro h2;refine aK<|gT<|aS<|aB<|sL<|ae Z<|ao Z<|Y<|aS<|aF []<|pq 0 (iz Z)<|pq 1 (gL (U _ _) Z) ?_;have hk:k<a.length:=by simpa[ap]using h2
  have iy:k<b.length:=by omega
  refine sq 2 (ri k jk rfl (bS hk))<|sq 3 (gm (.agg [U _ _,U _ _,U _ _,U _ _,U _ _,U _ _,vB _]) dD rfl)<|pq 4 (iz rfl)<|vq 5 (dW rfl)<|vq 6 (ri k jk rfl (bS iy))<|vq 7 (gm (.agg [U _ _,U _ _,U _ _,U _ _,U _ _,U _ _,vB _]) dD rfl)<|vq 8 (rd (x:=vB _) (j0 rfl (.inr rfl) rfl rfl oz pe pf pg ?hn1) rfl) ?_;case hn1=>exact x_14
  refine fD<|gT ?_;refine AW.cond rfl ?_ ?_
  ·intro h3;refine sL<|ar Z<|Y<|aR<|rB<|rT<|rT<|rB<|rT ?_;refine az trivial ?_;rw[qF hk iy (by have h:=h3;rw[Bool.not_eq_true']at h;exact h)]
  intro h3;refine aK<|gB<|gT<|aL<|bg Z<|ae Z<|Y ?_;refine⟨k+1,hI.next hk iy (by have h:=h3;rw[Bool.not_eq_false']at h;exact h),by omega,x_12,trivial,rfl,rfl⟩
 intro h2;refine aE<|eT<|eT<|eB<|gA<|cI Z<|Y<|aR ?_;refine az trivial ?_;rw[hI.all q2 x_33]
theorem Qx(x y:aw)(n8:x.ag.length<=1000)(ph:x.an.length<=1000)(qG:x.aq.length<=1000):GC prog 102 [cj x,cj y] [] (aD (kY x y)) []:=by
 refine gi 4 func102 rfl ntmps102 rfl ?_;intro L O w0;refine sL<|ab (zX 2002 Z) Z<|ab (zX 2003 Z) Z<|ar Z<|Y<|aS<|sL<|lf 0 mB Z<|aj ac Z<|lf 0 mB Z<|aj ac Z<|ak Z<|aQ Z ?_;refine AL.bool (t:=13) rfl ?_ ?_
 ·intro V;refine aa Z<|aa Z<|aa Z<|aa Z<|aa Z<|aU Z<|bM Z<|aa Z<|aa Z<|aa Z<|aa Z<|aa Z<|aU Z<|bM Z<|aa Z<|aa Z<|aa Z<|aa Z<|aa Z<|aa Z<|aa Z<|aU Z<|bM Z<|aa Z<|aa Z<|aa Z<|aa Z<|aa Z<|aa Z<|aa Z ?_;refine aU Z<|bM Z<|aa Z<|aa Z<|aa Z<|aa Z<|aa Z<|aa Z<|aa Z<|aU Z<|Y<|aY Z<|sL<|ar Z<|Y<|aR<|rT ?_;refine az trivial ?_;unfold kY;rw[decide_eq_false (show ¬x.tick=y.tick by have h:=V;simpa using h)];simp
 intro V;refine lf 1 mW Z<|aj ac Z<|lf 1 mW Z<|aj ac Z<|ak Z<|bj Z<|aQ Z ?_;refine AL.bool (t:=20) rfl ?_ ?_
 ·intro h2;refine aa Z<|aa Z<|aa Z<|aa Z<|aa Z<|aU Z<|bM Z<|aa Z<|aa Z<|aa Z<|aa Z<|aa Z<|aa Z<|aa Z<|aU Z<|bM Z<|lT [2,3,4,36] [2002,2003] ?_;refine aa Z<|aa Z<|aa Z<|aa Z<|aa Z<|aa Z<|aa Z<|aU Z<|bM Z<|aa Z<|aa Z<|aa Z<|aa Z<|aa Z<|aa Z<|aa Z<|aU Z<|Y<|aY Z<|sL<|ar Z<|Y<|aR<|rT ?_;refine az trivial ?_;unfold kY;rw[decide_eq_false (show ¬x.next=y.next by have h:=h2;simpa using h)];simp
 intro h2;refine lf 2 iW Z<|aj ac Z<|lf 2 iW Z<|aj ac Z<|ak Z<|bj Z<|aQ Z ?_;refine AL.bool (t:=27) rfl ?_ ?_
 ·intro h3;refine aa Z<|aa Z<|aa Z<|aa Z<|aa Z<|aa Z<|aa Z<|aU Z<|bM Z<|aa Z<|aa Z<|aa Z<|aa Z<|aa Z<|aa Z<|aa Z<|aU Z<|bM Z<|aa Z<|aa Z<|aa Z<|aa Z<|aa Z<|aa Z<|aa Z<|aU Z<|Y<|aY Z<|aS ?_;refine aL<|ar Z<|Y<|aR<|rT ?_;refine az trivial ?_;unfold kY;rw[decide_eq_false (show ¬x.aA=y.aA by have h:=h3;simpa using h)];simp
 intro h3;refine lf 3 dr Z<|bo eg Z<|ba kJ Z<|lf 3 dr Z<|bo eg Z<|ba kJ Z<|ak Z<|bj Z<|aQ Z ?_;refine AL.bool (t:=36) rfl ?_ ?_
 ·intro h4;refine aa Z<|aa Z<|aa Z<|aa Z<|aa Z<|aa Z<|aa Z<|aU Z<|bM Z<|aa Z<|aa Z<|aa Z<|aa Z<|aa Z<|aa Z<|aa Z<|aU Z<|Y<|aY Z<|sL<|ar Z<|lT [2,3,4] [2002,2003] ?_;refine Y<|aR<|rT ?_;refine az trivial ?_;unfold kY;rw[show lZ _ x.ag y.ag=false from tD (by have h:=h4;simp[ap]at h;omega)];simp
 intro h4;refine lf 4 eF Z<|bo fS Z<|ba jb Z<|lf 4 eF Z<|bo fS Z<|ba jb Z<|ak Z<|bj Z<|aQ Z ?_;refine AL.bool (t:=45) rfl ?_ ?_
 ·intro h5;refine aa Z<|aa Z<|aa Z<|aa Z<|aa Z<|aa Z<|aa Z<|aU Z<|Y<|aY Z<|sL<|ar Z<|Y<|aR<|rT ?_;refine az trivial ?_;unfold kY;rw[show lZ _ x.an y.an=false from tD (by have h:=h5;simp[ap]at h;omega)];simp
 intro h5;refine lf 5 gn Z<|bo ii Z<|ba j7 Z<|lf 5 gn Z<|bo ii Z<|ba j7 Z<|ak Z<|bj Z<|Y ?_;refine AW.cond rfl ?_ ?_
 ·intro h6;refine sL<|ar Z<|Y<|aR<|rT ?_;refine az trivial ?_;unfold kY;rw[show lZ _ x.aq y.aq=false from tD (by have h:=h6;simp[ap]at h;omega)];simp
 intro h6;refine aK<|gT<|aS<|sL<|lf 3 dr Z<|bo eg Z ?_;have s3:x.ag.length=y.ag.length:=by have h:=h4;simp[ap]at h;omega
 have s4:x.an.length=y.an.length:=by have h:=h5;simp[ap]at h;omega
 have af0:x.aq.length=y.aq.length:=by have h:=h6;simp[ap]at h;omega
 have afR:x.tick=y.tick:=by have h:=V;simp at h;omega
 have s1:x.next=y.next:=by have h:=h2;simp at h;omega
 have s2:x.aA=y.aA:=by have h:=h3;simp at h;omega
 refine ba kJ Z<|ae Z<|Y<|aB ?_;refine aW [2,3,4,56] [2002,2003] (D:=Nat) (fun k=>[(57,int (k:Int))]) (fun k=>[]) (fun k=>ja aX x.ag y.ag k) (fun k=>x.ag.length-k) (0) (ja.zero _ _ _) ⟨rfl,trivial⟩ trivial ?_;intro k hI;refine sL<|ak Z<|Y<|aS ?_;refine AW.cond rfl ?_ ?_
 ·intro h7;refine aK<|gT<|aS<|aB<|sL<|ae Z<|ao Z<|Y<|aS<|aF []<|pq 0 (qf 3 dr Z)<|sq 1 (jj eg Z)<|pq 2 (gL (U _ _) Z)<|fT [2,3,4,5,56,57,61,62] [2002,2003] ?_;have hk:k<x.ag.length:=by simpa[ap]using h7
  have iy:k<y.ag.length:=by omega
  refine sq 3 (ri k cz rfl (bS hk))<|sq 4 (gm (.agg [U _ _,U _ _,U _ _,U _ _,U _ _,U _ _,U _ _]) fF rfl)<|pq 5 (qf 3 dr rfl)<|sq 6 (jj eg rfl)<|vq 7 (dW rfl)<|vq 8 (ri k cz rfl (bS iy))<|vq 9 (gm (.agg [U _ _,U _ _,U _ _,U _ _,U _ _,U _ _,U _ _]) fF rfl)<|vq 10 (rd (x:=vB _) (j0 rfl (.inr rfl) rfl rfl FP JX JY JZ ?hn1) rfl) ?_;case hn1=>exact⟨rfl,by decide,rfl,⟨_,underlying3⟩,rfl,by decide,rfl,⟨_,underlying3⟩,rfl,by decide,rfl,⟨_,underlying3⟩,rfl,by decide,rfl,⟨_,underlying3⟩,rfl,by decide,rfl,⟨_,underlying3⟩,rfl,by decide,rfl,⟨_,underlying3⟩,rfl,by decide,rfl,⟨_,underlying3⟩,trivial⟩
  refine fD<|gT ?_;refine AW.cond rfl ?_ ?_
  ·intro h8;refine sL<|ar Z<|Y<|aR<|rB<|rT<|rT<|rB<|rT ?_;refine az trivial ?_;unfold kY;rw[qF hk iy (by have h:=h8;rw[Bool.not_eq_true']at h;exact h)];simp
  intro h8;refine aK<|gB<|gT<|aL<|bg Z<|ae Z<|Y ?_;refine⟨k+1,hI.next hk iy (by have h:=h8;rw[Bool.not_eq_false']at h;exact h),by omega,x_12,trivial,rfl,rfl⟩
 intro h7;refine aE<|eT<|eT<|eB<|gT<|aS<|aS ?_;have e1:=hI.all s3 (by have h:=h7;simp[ap]at h;omega);clear hI;refine aL<|lf 4 eF Z<|bo fS Z<|ba jb Z<|ae Z<|Y<|aB ?_;refine aW [2,3,4,74] [2002,2003] (D:=Nat) (fun k=>[(75,int (k:Int))]) (fun k=>[]) (fun k=>ja go x.an y.an k) (fun k=>x.an.length-k) (0) (ja.zero _ _ _) ⟨rfl,trivial⟩ trivial ?_;intro k hI;refine sL<|ak Z<|Y<|aS ?_;refine AW.cond rfl ?_ ?_
 ·intro h9;refine aK<|gT<|aS<|aB<|sL<|ae Z<|ao Z<|Y<|aS<|aF []<|pq 0 (qf 4 eF Z)<|sq 1 (jj fS Z)<|pq 2 (gL (U _ _) Z) ?_;have hk:k<x.an.length:=by simpa[ap]using h9
  have iy:k<y.an.length:=by omega
  refine sq 3 (ri k f7 rfl (bS hk))<|sq 4 (gm (.agg [U _ _,U _ _,U _ _,U _ _,U _ _,vB _,U _ _]) kZ rfl)<|pq 5 (qf 4 eF rfl)<|sq 6 (jj fS rfl)<|vq 7 (dW rfl)<|vq 8 (ri k f7 rfl (bS iy))<|vq 9 (gm (.agg [U _ _,U _ _,U _ _,U _ _,U _ _,vB _,U _ _]) kZ rfl)<|vq 10 (rd (x:=vB _) (j0 rfl (.inr rfl) rfl rfl FQ J0 J1 J2 ?hn2) rfl) ?_;case hn2=>exact⟨rfl,by decide,rfl,⟨_,underlying3⟩,rfl,by decide,rfl,⟨_,underlying3⟩,rfl,by decide,rfl,⟨_,underlying3⟩,rfl,by decide,rfl,⟨_,underlying3⟩,rfl,by decide,rfl,⟨_,underlying3⟩,by decide,rfl,underlying4,rfl,by decide,rfl,⟨_,underlying3⟩,trivial⟩
  refine fD<|gT ?_;refine AW.cond rfl ?_ ?_
  ·intro dh;refine sL<|ar Z<|lT [2,3,4,74,75] [2002,2003] ?_;refine Y<|aR<|rB<|rT<|rT<|rB<|rT ?_;refine az trivial ?_;unfold kY;rw[qF hk iy (by have h:=dh;rw[Bool.not_eq_true']at h;exact h)];simp
  intro dh;refine aK<|gB<|gT<|aL<|bg Z<|ae Z<|Y ?_;refine⟨k+1,hI.next hk iy (by have h:=dh;rw[Bool.not_eq_false']at h;exact h),by omega,x_12,trivial,rfl,rfl⟩
 intro h9;refine aE<|eT<|eT<|eB<|gT<|aS<|aS ?_;have e2:=hI.all s4 (by have h:=h9;simp[ap]at h;omega);clear hI;refine aL<|lf 5 gn Z<|bo ii Z<|ba j7 Z<|ae Z<|Y<|aB ?_;refine aW [2,3,4,92] [2002,2003] (D:=Nat) (fun k=>[(93,int (k:Int))]) (fun k=>[]) (fun k=>ja iX x.aq y.aq k) (fun k=>x.aq.length-k) (0) (ja.zero _ _ _) ⟨rfl,trivial⟩ trivial ?_;intro k hI;refine sL<|ak Z<|Y<|aS ?_;refine AW.cond rfl ?_ ?_
 ·intro gp;refine aK<|gT<|aS<|aB<|sL<|ae Z<|ao Z<|Y<|aS<|aF []<|pq 0 (qf 5 gn Z)<|sq 1 (jj ii Z)<|pq 2 (gL (U _ _) Z) ?_;have hk:k<x.aq.length:=by simpa[ap]using gp
  have iy:k<y.aq.length:=by omega
  refine sq 3 (ri k iI rfl (bS hk))<|sq 4 (gm (.agg [U _ _,U _ _,U _ _,U _ _,U _ _]) l5 rfl)<|pq 5 (qf 5 gn rfl)<|sq 6 (jj ii rfl)<|vq 7 (dW rfl)<|vq 8 (ri k iI rfl (bS iy))<|vq 9 (gm (.agg [U _ _,U _ _,U _ _,U _ _,U _ _]) l5 rfl)<|vq 10 (rd (x:=vB _) (j0 rfl (.inr rfl) rfl rfl FR J3 J4 J5 ?hn3) rfl) ?_;case hn3=>exact⟨rfl,by decide,rfl,⟨_,underlying3⟩,rfl,by decide,rfl,⟨_,underlying3⟩,rfl,by decide,rfl,⟨_,underlying3⟩,rfl,by decide,rfl,⟨_,underlying3⟩,rfl,by decide,rfl,⟨_,underlying3⟩,trivial⟩
  refine fD<|gT ?_;refine AW.cond rfl ?_ ?_
  ·intro gM;refine sL<|ar Z<|Y<|aR<|rB<|rT<|rT<|rB<|rT ?_;refine az trivial ?_;unfold kY;rw[qF hk iy (by have h:=gM;rw[Bool.not_eq_true']at h;exact h)];simp
  intro gM;refine aK<|gB<|gT<|aL<|bg Z<|ae Z<|Y ?_;refine⟨k+1,hI.next hk iy (by have h:=gM;rw[Bool.not_eq_false']at h;exact h),by omega,x_12,trivial,rfl,rfl⟩
 intro gp;refine aE<|eT<|eT<|eB<|gA<|cI Z<|Y<|aR ?_;refine az trivial ?_;have e3:=hI.all af0 (by have h:=gp;simp[ap]at h;omega);unfold kY;rw[e1,e2,e3,decide_eq_true afR,decide_eq_true s1,decide_eq_true s2];rfl
theorem Qy(x y:aw)(hx:di x)(hy:di y)(hc:y.ag.length<=9007199254740992)(hh:y.an.length<=9007199254740992)(hi:y.aq.length<=9007199254740992):GC prog 89 [cj x,cj y] [] (aD (mC x y)) []:=by
 refine gi 4 func89 rfl ntmps89 rfl ?_;intro L O w0;refine sL<|ab (zX 2002 Z) Z<|ab (zX 2003 Z) Z<|ar Z<|Y<|aS<|sL<|aP (.agg [U _ _,U _ _,U _ _,vL _ _ _,vL _ _ _,vL _ _ _]) cu Z<|ab (zC [] [] [] func179 (Dn x hx) (trivial) Z Z) Z<|bX Z<|aQ Z ?_;refine AL.bool (t:=11) rfl ?_ ?_
 ·intro V;refine aa Z<|aa Z<|aa Z<|aU Z<|bM Z<|aa Z<|aa Z<|aa Z<|aa Z<|aa Z<|aU Z<|bM Z<|aa Z<|aa Z<|aa Z<|aa Z<|aa Z<|aU Z<|bM Z<|aa Z<|aa Z<|aa Z<|aa Z<|aa Z<|aU Z<|bM Z<|aa Z<|aa Z<|aa Z<|aa Z ?_;refine aa Z<|aa Z<|aa Z<|aU Z<|bM Z<|aa Z<|aa Z<|aa Z<|aa Z<|aa Z<|aa Z<|aa Z<|aU Z<|bM Z<|aa Z<|aa Z<|aa Z<|aa Z<|aa Z<|aa Z<|aa Z<|aU Z<|Y<|aY Z<|sL<|ar Z<|Y ?_;refine aR<|rT ?_;refine az trivial ?_;unfold mC kY;rw[show eG x=false by have h:=V;simpa using h];rfl
 intro V;refine aP (.agg [U _ _,U _ _,U _ _,vL _ _ _,vL _ _ _,vL _ _ _]) cu Z<|ab (zC [] [] [] func179 (Dn y hy) (trivial) Z Z) Z<|lT [2,3,4,11,13] [2002,2003] ?_;refine bX Z<|bj Z<|aQ Z ?_;refine AL.bool (t:=16) rfl ?_ ?_
 ·intro h2;refine aa Z<|aa Z<|aa Z<|aa Z<|aa Z<|aU Z<|bM Z<|aa Z<|aa Z<|aa Z<|aa Z<|aa Z<|aU Z<|bM Z<|aa Z<|aa Z<|aa Z<|aa Z<|aa Z<|aU Z<|bM Z<|aa Z<|aa Z<|aa Z<|aa Z<|aa Z<|aa Z<|aa Z<|aU Z<|bM Z ?_;refine aa Z<|aa Z<|aa Z<|aa Z<|aa Z<|aa Z<|aa Z<|aU Z<|bM Z<|aa Z<|aa Z<|aa Z<|aa Z<|aa Z<|aa Z<|aa Z<|aU Z<|Y<|aY Z<|sL<|ar Z<|Y<|aR<|rT ?_;refine az trivial ?_;unfold mC kY;rw[show eG y=false by have h:=h2;simpa using h];simp
 intro h2;refine lf 0 mB Z<|aj ac Z<|lf 0 mB Z<|aj ac Z<|ak Z<|bj Z<|aQ Z ?_;refine AL.bool (t:=23) rfl ?_ ?_
 ·intro h3;refine aa Z<|aa Z<|aa Z<|aa Z<|aa Z<|aU Z<|bM Z<|aa Z<|aa Z<|aa Z<|aa Z<|aa Z<|aU Z<|bM Z<|aa Z<|aa Z<|aa Z<|aa Z<|aa Z<|aa Z<|aa Z<|aU Z<|bM Z<|aa Z<|aa Z<|aa Z<|aa Z<|aa Z<|aa Z<|aa Z ?_;refine aU Z<|bM Z<|lT [2,3,4,55] [2002,2003] ?_;refine aa Z<|aa Z<|aa Z<|aa Z<|aa Z<|aa Z<|aa Z<|aU Z<|Y<|aY Z<|sL<|ar Z<|Y<|aR<|rT ?_;refine az trivial ?_;unfold mC kY;rw[decide_eq_false (show ¬x.tick=y.tick by have h:=h3;simpa using h)];simp
 intro h3;refine lf 1 mW Z<|aj ac Z<|lf 1 mW Z<|aj ac Z<|ak Z<|bj Z<|aQ Z ?_;refine AL.bool (t:=30) rfl ?_ ?_
 ·intro h4;refine aa Z<|aa Z<|aa Z<|aa Z<|aa Z<|aU Z<|bM Z<|aa Z<|aa Z<|aa Z<|aa Z<|aa Z<|aa Z<|aa Z<|aU Z<|bM Z<|aa Z<|aa Z<|aa Z<|aa Z<|aa Z<|aa Z<|aa Z<|aU Z<|bM Z<|aa Z<|aa Z<|aa Z<|aa Z<|aa Z ?_;refine aa Z<|aa Z<|aU Z<|Y<|aY Z<|sL<|ar Z<|Y<|aR<|rT ?_;refine az trivial ?_;unfold mC kY;rw[decide_eq_false (show ¬x.next=y.next by have h:=h4;simpa using h)];simp
 intro h4;refine lf 2 iW Z<|aj ac Z<|lf 2 iW Z<|aj ac Z<|ak Z<|bj Z<|aQ Z ?_;refine AL.bool (t:=37) rfl ?_ ?_
 ·intro h5;refine aa Z<|aa Z<|aa Z<|aa Z<|aa Z<|aa Z<|aa Z<|aU Z<|bM Z<|aa Z<|aa Z<|aa Z<|aa Z<|aa Z<|aa Z<|aa Z<|aU Z<|bM Z<|aa Z<|aa Z<|aa Z<|aa Z<|aa Z<|aa Z<|aa Z<|aU Z<|Y<|aY Z<|aS ?_;refine aL<|ar Z<|lT [2,3,4] [2002,2003] ?_;refine Y<|aR<|rT ?_;refine az trivial ?_;unfold mC kY;rw[decide_eq_false (show ¬x.aA=y.aA by have h:=h5;simpa using h)];simp
 intro h5;refine lf 3 dr Z<|bo eg Z<|ba kJ Z<|lf 3 dr Z<|bo eg Z<|ba kJ Z<|ak Z<|bj Z<|aQ Z ?_;refine AL.bool (t:=46) rfl ?_ ?_
 ·intro h6;refine aa Z<|aa Z<|aa Z<|aa Z<|aa Z<|aa Z<|aa Z<|aU Z<|bM Z<|aa Z<|aa Z<|aa Z<|aa Z<|aa Z<|aa Z<|aa Z<|aU Z<|Y<|aY Z<|sL<|ar Z<|Y<|aR<|rT ?_;refine az trivial ?_;unfold mC kY;rw[show lZ _ x.ag y.ag=false from tD (by have h:=h6;simp[ap]at h;omega)];simp
 intro h6;refine lf 4 eF Z<|bo fS Z<|ba jb Z<|lf 4 eF Z<|bo fS Z<|ba jb Z<|ak Z<|bj Z<|aQ Z ?_;refine AL.bool (t:=55) rfl ?_ ?_
 ·intro h7;refine aa Z<|aa Z<|aa Z<|aa Z<|aa Z<|aa Z<|aa Z<|aU Z<|Y<|aY Z<|sL<|ar Z<|Y<|aR<|rT ?_;refine az trivial ?_;unfold mC kY;rw[show lZ _ x.an y.an=false from tD (by have h:=h7;simp[ap]at h;omega)];simp
 intro h7;refine lf 5 gn Z<|bo ii Z<|ba j7 Z<|lf 5 gn Z<|bo ii Z<|ba j7 Z<|lT [2,3,4,55,58,61] [2002,2003] ?_;refine ak Z<|bj Z<|Y ?_;refine AW.cond rfl ?_ ?_
 ·intro h8;refine sL<|ar Z<|Y<|aR<|rT ?_;refine az trivial ?_;unfold mC kY;rw[show lZ _ x.aq y.aq=false from tD (by have h:=h8;simp[ap]at h;omega)];simp
 intro h8;refine aK<|gT<|aS<|sL<|lf 3 dr Z<|bo eg Z ?_;have q1:eG x=true:=by have h:=V;simpa using h
 have q2:eG y=true:=by have h:=h2;simpa using h
 have n8:=(mX q1).lc;have ph:=(mX q1).lh;have qG:=(mX q1).li;have s3:x.ag.length=y.ag.length:=by have h:=h6;simp[ap]at h;omega
 have s4:x.an.length=y.an.length:=by have h:=h7;simp[ap]at h;omega
 have af0:x.aq.length=y.aq.length:=by have h:=h8;simp[ap]at h;omega
 have afR:x.tick=y.tick:=by have h:=h3;simp at h;omega
 have s1:x.next=y.next:=by have h:=h4;simp at h;omega
 have s2:x.aA=y.aA:=by have h:=h5;simp at h;omega
 refine ba kJ Z<|ae Z<|Y<|aB ?_;refine aW [2,3,4,66] [2002,2003] (D:=Nat) (fun k=>[(67,int (k:Int))]) (fun k=>[]) (fun k=>ja aX x.ag y.ag k) (fun k=>x.ag.length-k) (0) (ja.zero _ _ _) ⟨rfl,trivial⟩ trivial ?_;intro k hI;refine sL<|ak Z<|Y<|aS ?_;refine AW.cond rfl ?_ ?_
 ·intro h9;refine aK<|gT<|aS<|aB<|sL<|ae Z<|ao Z<|Y<|aS<|aF []<|pq 0 (qf 3 dr Z)<|sq 1 (jj eg Z)<|pq 2 (gL (U _ _) Z) ?_;have hk:k<x.ag.length:=by simpa[ap]using h9
  have iy:k<y.ag.length:=by omega
  refine sq 3 (ri k cz rfl (bS hk))<|sq 4 (gm (.agg [U _ _,U _ _,U _ _,U _ _,U _ _,U _ _,U _ _]) fF rfl)<|pq 5 (qf 3 dr rfl)<|sq 6 (jj eg rfl)<|vq 7 (dW rfl)<|vq 8 (ri k cz rfl (bS iy))<|vq 9 (gm (.agg [U _ _,U _ _,U _ _,U _ _,U _ _,U _ _,U _ _]) fF rfl)<|vq 10 (rd (x:=vB _) (j0 rfl (.inr rfl) rfl rfl FP JX JY JZ ?hn1) rfl) ?_;case hn1=>exact⟨rfl,by decide,rfl,⟨_,underlying3⟩,rfl,by decide,rfl,⟨_,underlying3⟩,rfl,by decide,rfl,⟨_,underlying3⟩,rfl,by decide,rfl,⟨_,underlying3⟩,rfl,by decide,rfl,⟨_,underlying3⟩,rfl,by decide,rfl,⟨_,underlying3⟩,rfl,by decide,rfl,⟨_,underlying3⟩,trivial⟩
  refine fD<|gT ?_;refine AW.cond rfl ?_ ?_
  ·intro dh;refine sL<|ar Z<|Y<|aR<|rB<|rT<|rT<|rB<|rT ?_;refine az trivial ?_;unfold mC kY;rw[qF hk iy (by have h:=dh;rw[Bool.not_eq_true']at h;exact h)];simp
  intro dh;refine aK<|gB<|gT<|aL<|bg Z<|ae Z<|Y ?_;refine⟨k+1,hI.next hk iy (by have h:=dh;rw[Bool.not_eq_false']at h;exact h),by omega,x_12,trivial,rfl,rfl⟩
 intro h9;refine aE<|eT<|eT<|eB<|gT<|aS<|aS ?_;have e1:=hI.all s3 (by have h:=h9;simp[ap]at h;omega);clear hI;refine aL<|lf 4 eF Z<|bo fS Z<|ba jb Z<|ae Z<|Y<|aB ?_;refine aW [2,3,4,84] [2002,2003] (D:=Nat) (fun k=>[(85,int (k:Int))]) (fun k=>[]) (fun k=>ja go x.an y.an k) (fun k=>x.an.length-k) (0) (ja.zero _ _ _) ⟨rfl,trivial⟩ trivial ?_;intro k hI;refine sL<|ak Z<|Y<|aS ?_;refine AW.cond rfl ?_ ?_
 ·intro gp;refine aK<|gT<|aS<|aB<|sL<|ae Z<|lT [2,3,4,84,85,87] [2002,2003] ?_;refine ao Z<|Y<|aS<|aF []<|pq 0 (qf 4 eF Z)<|sq 1 (jj fS Z)<|pq 2 (gL (U _ _) Z) ?_;have hk:k<x.an.length:=by simpa[ap]using gp
  have iy:k<y.an.length:=by omega
  refine sq 3 (ri k f7 rfl (bS hk))<|sq 4 (gm (.agg [U _ _,U _ _,U _ _,U _ _,U _ _,vB _,U _ _]) kZ rfl)<|pq 5 (qf 4 eF rfl)<|sq 6 (jj fS rfl)<|vq 7 (dW rfl)<|vq 8 (ri k f7 rfl (bS iy))<|vq 9 (gm (.agg [U _ _,U _ _,U _ _,U _ _,U _ _,vB _,U _ _]) kZ rfl)<|vq 10 (rd (x:=vB _) (j0 rfl (.inr rfl) rfl rfl FQ J0 J1 J2 ?hn2) rfl) ?_;case hn2=>exact⟨rfl,by decide,rfl,⟨_,underlying3⟩,rfl,by decide,rfl,⟨_,underlying3⟩,rfl,by decide,rfl,⟨_,underlying3⟩,rfl,by decide,rfl,⟨_,underlying3⟩,rfl,by decide,rfl,⟨_,underlying3⟩,by decide,rfl,underlying4,rfl,by decide,rfl,⟨_,underlying3⟩,trivial⟩
  refine fD<|gT ?_;refine AW.cond rfl ?_ ?_
  ·intro gM;refine sL<|ar Z<|Y<|aR<|rB<|rT<|rT<|rB<|rT ?_;refine az trivial ?_;unfold mC kY;rw[qF hk iy (by have h:=gM;rw[Bool.not_eq_true']at h;exact h)];simp
  intro gM;refine aK<|gB<|gT<|aL<|bg Z<|ae Z<|Y ?_;refine⟨k+1,hI.next hk iy (by have h:=gM;rw[Bool.not_eq_false']at h;exact h),by omega,x_12,trivial,rfl,rfl⟩
 intro gp;refine aE<|eT<|eT<|eB<|gT<|aS<|aS ?_;have e2:=hI.all s4 (by have h:=gp;simp[ap]at h;omega);clear hI;refine aL<|lf 5 gn Z<|bo ii Z<|ba j7 Z<|ae Z<|Y<|aB ?_;refine aW [2,3,4,102] [2002,2003] (D:=Nat) (fun k=>[(103,int (k:Int))]) (fun k=>[]) (fun k=>ja iX x.aq y.aq k) (fun k=>x.aq.length-k) (0) (ja.zero _ _ _) ⟨rfl,trivial⟩ trivial ?_;intro k hI;refine sL<|ak Z<|Y<|aS ?_;refine AW.cond rfl ?_ ?_
 ·intro dO;refine aK<|gT<|aS<|aB<|sL<|ae Z<|ao Z<|Y<|aS<|aF []<|pq 0 (qf 5 gn Z)<|sq 1 (jj ii Z)<|pq 2 (gL (U _ _) Z) ?_;have hk:k<x.aq.length:=by simpa[ap]using dO
  have iy:k<y.aq.length:=by omega
  refine sq 3 (ri k iI Z (bS hk))<|sq 4 (gm (.agg [U _ _,U _ _,U _ _,U _ _,U _ _]) l5 Z)<|pq 5 (qf 5 gn Z)<|sq 6 (jj ii Z)<|vq 7 (dW Z)<|fT [2,3,4,102,103,110,112,113] [2002,2003] ?_;refine vq 8 (ri k iI rfl (bS iy))<|vq 9 (gm (.agg [U _ _,U _ _,U _ _,U _ _,U _ _]) l5 rfl)<|vq 10 (rd (x:=vB _) (j0 rfl (.inr rfl) rfl rfl FR J3 J4 J5 ?hn3) rfl) ?_;case hn3=>exact⟨rfl,by decide,rfl,⟨_,underlying3⟩,rfl,by decide,rfl,⟨_,underlying3⟩,rfl,by decide,rfl,⟨_,underlying3⟩,rfl,by decide,rfl,⟨_,underlying3⟩,rfl,by decide,rfl,⟨_,underlying3⟩,trivial⟩
  refine fD<|gT ?_;refine AW.cond rfl ?_ ?_
  ·intro ij;refine sL<|ar Z<|Y<|aR<|rB<|rT<|rT<|rB<|rT ?_;refine az trivial ?_;unfold mC kY;rw[qF hk iy (by have h:=ij;rw[Bool.not_eq_true']at h;exact h)];simp
  intro ij;refine aK<|gB<|gT<|aL<|bg Z<|ae Z<|Y ?_;refine⟨k+1,hI.next hk iy (by have h:=ij;rw[Bool.not_eq_false']at h;exact h),by omega,x_12,trivial,rfl,rfl⟩
 intro dO;refine aE<|eT<|eT<|eB<|gA<|cI Z<|Y<|aR ?_;refine az trivial ?_;have e3:=hI.all af0 (by have h:=dO;simp[ap]at h;omega);unfold mC kY;rw[e1,e2,e3,decide_eq_true afR,decide_eq_true s1,decide_eq_true s2,q1,q2];rfl
theorem Qz(x y:aw)(hx:di x)(hy:di y):GC prog 37 [cj x,cj y] [] (aD (mC x y)) []:=by
 refine gi 4 func37 rfl ntmps37 rfl ?_;intro L O w0;refine sL<|ab (zX 2002 Z) Z<|ab (zX 2003 Z) Z<|ar Z<|nA<|aP (.agg [U _ _,U _ _,U _ _,vL _ _ _,vL _ _ _,vL _ _ _]) cu Z<|ab (zC [] [] [] func101 (Do x hx) (trivial) Z Z) Z<|aQ Z ?_;refine AL.bool (t:=7) rfl ?_ ?_
 ·intro V;refine aP (.agg [U _ _,U _ _,U _ _,vL _ _ _,vL _ _ _,vL _ _ _]) cu Z<|ab (zC [] [] [] func101 (Do y hy) (trivial) Z Z) Z<|bj Z<|aQ Z ?_;refine AL.bool (t:=11) rfl ?_ ?_
  ·intro h2;refine aP (.agg [U _ _,U _ _,U _ _,vL _ _ _,vL _ _ _,vL _ _ _]) cu Z<|aP (.agg [U _ _,U _ _,U _ _,vL _ _ _,vL _ _ _,vL _ _ _]) cu Z<|ab (zC [] [] [] func102 (Qx x y (Nat.le_trans (mX x_21).lc x_3) (Nat.le_trans (mX x_21).lh x_3) (Nat.le_trans (mX x_21).li x_3)) (trivial) rfl rfl) Z<|bj Z<|bv Z<|Y<|aR ?_;refine az trivial ?_;grind[mC]
  intro h2;refine aa Z<|aa Z<|aa Z<|bL Z<|ar Z<|Y<|aR ?_;refine az trivial ?_;grind[mC]
 intro V;refine aa Z<|aa Z<|bL Z<|dm Z<|aa Z<|aa Z<|aa Z<|bL Z<|ar Z<|Y<|aR ?_;refine az trivial ?_;grind[mC]

section
variable {P:Program}{o:Oper}{τ:Nat->AV}{H:Nat->AO}
theorem ac'{op:BinOp}{T yT:TypeId}{x y:Operand}{pre:Prop}{r:AV}(ho:o.op=.binOp op T x y yT)(h:AU op (ev τ x) (ev τ y)=some (pre,r))(hp:pre):Pd P o τ H r:=by
 apply Pd.pure;intro L ρ a w he;obtain⟨c,V,h2⟩:=aan (P:=P) (T:=T) (x:=x) (y:=y) h hp (he x) (he y);refine⟨c,V,fun W=>?_⟩;have:execOp a.eval o=(do let v <-(do eqGuard op T x y (a.eval x) (a.eval y);binOp op T (a.eval x) (a.eval y));pure (.value v)):=by simp only[execOp,ho]
 rw[this,Sem.run_bind,h2];rfl
theorem acy{c x y:Operand}{r:AV}(ho:o.op=.pick c x y)(h:H7 (ev τ c) (ev τ x) (ev τ y)=some r):Pd P o τ H r:=by
 apply Pd.pure;intro L ρ a w he;have hc:=he c;generalize ev τ c=vc at *;unfold H7 at h;split at h
 ·rename_i t;injection h with h;subst h;have e:=hc.gd;cases t
  ·exact⟨a.eval y,he y,fun W=>by simp[execOp,ho,e,asBool]⟩
  exact⟨a.eval x,he x,fun W=>by simp[execOp,ho,e,asBool]⟩
 cases h
theorem ada{x:Operand}{t e:TypeId}{sz:Nat}{rows:List (List PV)}(ho:o.op=.call { callee:=.builtin .len,args:=#[x],argTypes:=#[t] })(ht:isSlice P t=true)(hx:ev τ x=.p (.ab e sz rows)):Pd P o τ H (int rows.length):=by
 have hse:P.underlying t=some (.slice (P.elem t)):=by
  unfold isSlice at ht;split at ht
  ·rename_i e q;simp[Program.elem,q]
  cases ht
 apply Pd.pure;intro L ρ a w he;have h:=he x;rw[hx,RV]at h;obtain⟨fp,V,_⟩:=h;rw[RW]at V;obtain⟨xs,f1,f2,V,h2,_⟩:=V;unfold iF at h2;simp only[Bool.false_eq_true,if_false]at h2;obtain⟨b,cap,e2,_⟩:=h2;exact⟨.int .i64 rows.length,fX rfl,fun W=>by
  have:=run_len_slice W t o.type b rows.length cap hse;simp[execOp,ho,resolve,invoke,builtin,e2,this,goInt]⟩
end

theorem Dp(d:du):∀e∈f8 d,l7 e:=fun e he=>by
 unfold f8 pj at he;obtain⟨q,_,hq⟩:=List.mem_filterMap.1 he;split at hq
 ·rename_i hf;cases hq;have h:=Dq (uS.1 hf).2.1;unfold l7 i64;omega
 grind
structure QA(es:List aV):Prop where
 wf:di (de es).now
 lp:(de es).ps.length<=es.length
 lk:(de es).jD.length<=es.length
 pl:∀p∈(de es).ps,p.lines.length<=1000
 ll:(d5 es).1.lines.length<=320
 n0:0<=(d5 es).2
 n1:(d5 es).2<=((de es).ps.length:Int)
theorem Dr{es:List aV}(we:∀e∈es,l7 e):QA es:=by
 have pk:sB pm es=bK pm es:=if_pos QB;have J6:=J7 (x:=pm) (es:=es) es.length (Nat.le_refl _);have nu:=zU (x:=pm) (es:=es) es.length (Nat.le_refl _);have qH:=Ds (x:=pm) (es:=es) es.length (Nat.le_refl _);rw[List.take_length,<-pk]at J6 nu qH;have ml:=FS (l:=⟨0,[]⟩) (ps:=(sB pm es).ps) x_20 _ (Nat.le_refl _);rw[List.take_length]at ml;exact⟨QC FT we,nu,Nat.le_of_eq qH,J6,ml.1,ml.2.1,ml.2.2⟩
theorem QD(ps:List dX)(nu:∀p∈ps,p.lines.length<=1000)(hn:ps.length<=1000000):GC prog 169 [.agg [int 0,.p (.v (.slice none 0 0))],.p (.ab 92 2 (qI ps))] [] (.au [cR (jJ ⟨0,[]⟩ ps).1,int (jJ ⟨0,[]⟩ ps).2]) []:=by
 rw[<-QE];exact QF ps nu hn
abbrev J8(es:List aV):AV:=.au [cj (de es).now,cR (d5 es).1,aD (eL es)]
theorem J9{l:List Int}{k:Nat}(h:k<l.length):eK (l.take (k+1))=(eK (l.take k)&&decide (l[k]=0)):=by
 grind[eK,List.take_succ_eq_append_getElem]
theorem QG(es:List aV)(we:∀e∈es,l7 e)(hm:es.length<=1000000):GC prog 86 [.p (.ab 81 7 (ah fR es))] [] (J8 es) []:=by
 refine GC.intro (rs:=[.cell 2 50 (some 6),.cell 3 53 (some 2),.tmp 4]) func86 rfl ntmps86 x_8 ⟨rfl,rfl,cu,rfl,rfl,eZ,rfl,trivial⟩ ?_;intro L O w0;refine sL<|ab (zA 2002 mD Z) Z<|ab (zA 2003 ld Z) Z<|ar Z<|nA ?_;have hB:=Dr we;refine ab (zC [] [] [] func36 (QH) (trivial) rfl rfl) Z<|bm Z<|ab (zC [] [] [] func35 (QI pm es FT we x_2) (trivial) rfl rfl) Z<|cT (.au [.agg [U _ _,U _ _,U _ _,vL _ _ _,vL _ _ _,vL _ _ _],vL _ _ _,vL _ _ _]) Z<|iB (.agg [U _ _,U _ _,U _ _,vL _ _ _,vL _ _ _,vL _ _ _]) Z<|rF Z<|rF Z<|ab (zA 2005 mD rfl) Z<|ab (zB 2005 eu ew rfl) Z<|nv Z<|nv Z<|nA<|lq (rd (x:=.agg [U _ _,vV _]) (cP rfl lP rfl rfl rfl) rfl)<|bm Z<|ab (zC [] [] [] func175 (QJ (de es).ps hB.pl (by have:=hB.lp;omega)) (trivial) rfl rfl) Z<|lT [2,3,4,5,6,7,20] [2002,2003,2005] ?_;refine cT (.au [.agg [U _ _,vL _ _ _],U _ _]) Z<|iB (.agg [U _ _,vL _ _ _]) Z<|dE Z<|ab (zA 2008 ld Z) Z<|ab (zB 2008 cA cB Z) Z<|ao Z<|Y<|aS<|aF [10,11]<|sq 0 (dw (.agg [U _ _,U _ _,U _ _,vL _ _ _,vL _ _ _,vL _ _ _]) cu Z)<|pq 2 (iz Z) ?_;refine AF.two (i:=1) (j:=3) x_34 ?_ ?_
 ·refine d9.rd (i:=1) (x:=.agg [U _ _,vL _ _ _]) rfl (sC rfl eZ rfl rfl rfl rfl) rfl rfl x_3 ?_;refine bn 3 rfl (zC [] [] [] func176 (JV (de es).jD (by have:=hB.lk;omega)) (trivial) rfl rfl) (.inr rfl)<|vq 4 (dx rfl) ?_;refine AF.bool (t:=27) rfl ?_ ?_
  ·intro V;refine pq 5 (gL (U _ _) Z)<|pq 6 (iz Z)<|pq 7 (qd (x:=U _ _) (ada Z pX Z) Z)<|pq 8 (qd (x:=vB _) (ac' Z Z Z) Z)<|pq 9 (qd (x:=vB _) (acy Z Z) Z)<|bn 10 Z (zB 2002 eu ew Z) (.inl Z)<|fT [2,3,4,24,32] [2002,2003,2005,2008] ?_;refine bn 11 Z (zB 2003 cA cB Z) (.inl Z)<|vq 12 (fk Z)<|fD<|gT<|aR ?_;refine ax ?_ trivial;refine congrArg (fun b=>some (AV.au [cj (de es).now,cR (d5 es).1,aD b])) ?_;unfold eL;rw[show eK _=true by simpa using V];simp[fw]
  intro V;refine bi 5 Z<|bi 6 Z<|bi 7 Z<|bi 8 Z<|pq 9 (qd (x:=vB false) (acy Z Z) Z)<|bn 10 Z (zB 2002 eu ew Z) (.inl Z)<|bn 11 Z (zB 2003 cA cB Z) (.inl Z)<|vq 12 (oA Z)<|fD<|gT<|aR ?_;refine ax ?_ trivial;refine congrArg (fun b=>some (AV.au [cj (de es).now,cR (d5 es).1,aD b])) ?_;unfold eL;rw[show eK _=false by simpa using V];rfl
 refine v1 3 rfl (zC [] [] [] func176 (JV (de es).jD (by have:=hB.lk;omega)) (trivial) rfl rfl) (.inr rfl)<|pq 4 (gL (vB _) rfl) ?_;refine AF.bool (t:=27) rfl ?_ ?_
 ·intro h2;refine pq 5 (gL (U _ _) Z)<|pq 6 (iz Z)<|pq 7 (qd (x:=U _ _) (ada Z pX Z) Z)<|pq 8 (qd (x:=vB _) (ac' Z Z Z) Z)<|pq 9 (qd (x:=vB _) (acy Z Z) Z) ?_;refine AF.two (i:=1) (j:=10) x_34 ?_ ?_
  ·refine d9.rd (i:=1) (x:=.agg [U _ _,vL _ _ _]) rfl (sC rfl eZ rfl rfl rfl rfl) rfl rfl x_3 ?_;refine bn 10 Z (zB 2002 eu ew Z) (.inl Z)<|fT [2,3,4,24,32] [2002,2003,2005,2008] ?_;refine bn 11 Z (zB 2003 cA cB Z) (.inl Z)<|vq 12 (fk Z)<|fD<|gT<|aR ?_;refine ax ?_ trivial;refine congrArg (fun b=>some (AV.au [cj (de es).now,cR (d5 es).1,aD b])) ?_;unfold eL;rw[show eK _=true by simpa using h2];simp[fw]
  refine v1 10 Z (zB 2002 eu ew Z) (.inl Z)<|vq 1 (dw (.agg [U _ _,vL _ _ _]) eZ Z)<|bn 11 Z (zB 2003 cA cB Z) (.inl Z)<|vq 12 (fk Z)<|fD<|gT<|aR ?_;refine ax ?_ trivial;refine congrArg (fun b=>some (AV.au [cj (de es).now,cR (d5 es).1,aD b])) ?_;unfold eL;rw[show eK _=true by simpa using h2];simp[fw]
 intro h2;refine bi 5 Z<|bi 6 Z<|bi 7 Z<|bi 8 Z<|pq 9 (qd (x:=vB false) (acy Z Z) Z) ?_;refine AF.two (i:=1) (j:=10) x_34 ?_ ?_
 ·refine d9.rd (i:=1) (x:=.agg [U _ _,vL _ _ _]) rfl (sC rfl eZ rfl rfl rfl rfl) rfl rfl x_3 ?_;refine bn 10 Z (zB 2002 eu ew Z) (.inl Z)<|bn 11 Z (zB 2003 cA cB Z) (.inl Z)<|vq 12 (oA Z)<|fD<|gT<|aR ?_;refine ax ?_ trivial;refine congrArg (fun b=>some (AV.au [cj (de es).now,cR (d5 es).1,aD b])) ?_;unfold eL;rw[show eK _=false by simpa using h2];rfl
 refine v1 10 Z (zB 2002 eu ew Z) (.inl Z)<|vq 1 (dw (.agg [U _ _,vL _ _ _]) eZ Z)<|bn 11 Z (zB 2003 cA cB Z) (.inl Z)<|fT [2,3,4,32] [2002,2003,2005,2008] ?_;refine vq 12 (oA Z)<|fD<|gT<|aR ?_;refine ax ?_ trivial;refine congrArg (fun b=>some (AV.au [cj (de es).now,cR (d5 es).1,aD b])) ?_;unfold eL;rw[show eK _=false by simpa using h2];rfl
theorem QK(es:List aV)(we:∀e∈es,l7 e)(hm:es.length<=1000000):GC prog 82 [.p (.ab 81 7 (ah fR es))] [] (J8 es) []:=by
 refine GC.intro (rs:=[.cell 2 50 (some 6),.cell 3 53 (some 2),.tmp 4]) func82 rfl ntmps82 x_8 ⟨rfl,rfl,cu,rfl,rfl,eZ,rfl,trivial⟩ ?_;intro L O w0;refine sL<|ab (zA 2002 mD Z) Z<|ab (zA 2003 ld Z) Z<|ar Z<|nA ?_;have hB:=Dr we;refine ab (zC [] [] [] func168 (QL) (trivial) rfl rfl) Z<|bm Z<|ab (zC [] [] [] func167 (QM pm es FT we x_2) (trivial) rfl rfl) Z<|cT (.au [.agg [U _ _,U _ _,U _ _,vL _ _ _,vL _ _ _,vL _ _ _],vL _ _ _,vL _ _ _]) Z<|iB (.agg [U _ _,U _ _,U _ _,vL _ _ _,vL _ _ _,vL _ _ _]) Z<|rF Z<|rF Z<|ab (zA 2005 mD rfl) Z<|ab (zB 2005 eu ew rfl) Z<|nv Z<|nv Z<|nA<|lq (rd (x:=.agg [U _ _,vV _]) (cP rfl lP rfl rfl rfl) rfl)<|bm Z<|ab (zC [] [] [] func169 (QD (de es).ps hB.pl (by have:=hB.lp;omega)) (trivial) rfl rfl) Z<|lT [2,3,4,5,6,7,23] [2002,2003,2005] ?_;refine cT (.au [.agg [U _ _,vL _ _ _],U _ _]) Z<|iB (.agg [U _ _,vL _ _ _]) Z<|dE Z<|ab (zA 2008 ld Z) Z<|ab (zB 2008 cA cB Z) Z<|ao Z<|nA<|ae Z<|bm Z<|ba pX Z<|ak Z<|bv Z<|Y<|aS<|sL<|bm Z<|ba x4 Z<|ae Z<|Y<|aB ?_;refine aW [2,3,4,5,8,30,31] [2002,2003,2005,2008] (D:=Nat) (fun k=>[(10,aD (decide ((d5 es).2=((de es).ps.length:Int))&&eK ((de es).jD.take k))),(32,int (k:Int))]) (fun k=>[]) (fun k=>k<=(de es).jD.length) (fun k=>(de es).jD.length-k) (0) (Nat.zero_le _) ⟨(congrArg aD (by rw[fw,List.take_zero];exact(Bool.and_true _).symm)),rfl,trivial⟩ trivial ?_;intro k hI;refine sL<|ak Z<|Y<|aS ?_;refine AW.cond rfl ?_ ?_
 ·intro V;refine aK<|gT<|aS<|aB<|sL ?_;have hk:k<(de es).jD.length:=by simpa[ap]using V
  have QN:=hB.lk;refine li k iU Z (bS hk)<|oy ac Z<|ao Z<|nA<|ae Z<|ak Z<|Y ?_;refine AW.cond rfl ?_ ?_
  ·intro h2;refine aL<|ar Z<|lN<|gB<|gT<|aL<|bg Z<|ae Z<|Y ?_;refine⟨k+1,hk,by omega,⟨(congrArg aD (by simp_all[J9])),(iq rfl),trivial⟩,trivial,rfl,rfl⟩
  intro h2;refine aK<|gB<|gT<|aL<|bg Z<|ae Z<|Y ?_;refine⟨k+1,hk,by omega,⟨(congrArg aD (by simp_all[J9])),(iq rfl),trivial⟩,trivial,rfl,rfl⟩
 intro V;refine aE<|eT<|eT<|eB<|gT<|aS<|aF [3,4]<|sq 0 (dw (.agg [U _ _,U _ _,U _ _,vL _ _ _,vL _ _ _,vL _ _ _]) cu Z)<|pq 2 (gL (vB _) Z) ?_;refine AF.two (i:=1) (j:=3) x_34 ?_ ?_
 ·refine d9.rd (i:=1) (x:=.agg [U _ _,vL _ _ _]) rfl (sC rfl eZ rfl rfl rfl rfl) rfl rfl x_3 ?_;refine bn 3 Z (zB 2002 eu ew Z) (.inl Z)<|fT [2,3,4,40,41] [2002,2003,2005,2008] ?_;refine bn 4 Z (zB 2003 cA cB Z) (.inl Z)<|vq 5 (fk Z)<|fD<|gT<|aR ?_;refine ax ?_ trivial;refine congrArg (fun b=>some (AV.au [cj (de es).now,cR (d5 es).1,aD b])) ?_;grind[eL,ap]
 refine v1 3 Z (zB 2002 eu ew Z) (.inl Z)<|vq 1 (dw (.agg [U _ _,vL _ _ _]) eZ Z)<|bn 4 Z (zB 2003 cA cB Z) (.inl Z)<|vq 5 (fk Z)<|fD<|gT<|aR ?_;refine ax ?_ trivial;refine congrArg (fun b=>some (AV.au [cj (de es).now,cR (d5 es).1,aD b])) ?_;grind[eL,ap]
theorem QO(l:List aV)(hl:l.length<=1048576):GC prog 58 [.p (.ab 81 7 (ah fR l))] [] (.own 1) [(1,uT l)]:=by
 refine gi 2 func58 rfl ntmps58 rfl ?_;intro L O w0;refine sL<|e9 Z<|nA<|bm Z<|ab (qJ 1 rfl rfl x_3 jk jl rfl x_3 rfl (Src.p rfl) x_99 (Nat.le_trans (Nat.mul_le_mul_left _ sD) x_131)) Z<|bD Z<|Y<|aR ?_;trivial

def abO(H K:Nat->AO):Nat->AO:=fun i=>if (K i).here=true then .gone else H i
structure ab3(H K:Nat->AO):Prop where
 ai:∀i,H i=.gone\/∃e sz rows,H i=.ai e sz rows
 sub:∀i,K i=.gone\/K i=H i
section
variable {L:Nat->Prop}{ρ:Nat->Value}{H K:Nat->AO}{w:World}
theorem ab3.lv(h:ab3 H K){b:Nat}(q:live L ρ K b):live L ρ H b:=by
 rcases q with q|⟨i,q1,q2⟩
 ·exact .inl q
 rcases h.sub i with e|e
 ·rw[e]at q1;cases q1
 rw[e]at q1;exact .inr ⟨i,q1,q2⟩
theorem ab3.drop(h:ab3 H K){b:Nat}(q:live (live L ρ K) ρ (abO H K) b):live L ρ H b:=by
 rcases q with q|⟨i,q1,q2⟩
 ·exact h.lv q
 unfold abO at q1;split at q1
 ·cases q1
 exact .inr ⟨i,q1,q2⟩
theorem ab3.lie(h:ab3 H K){fp:Nat->List Nat}(V:∀i,OB L ρ H w (ρ i) (fp i) (H i))(h2:∀i j,i≠j->∀b∈fp i,b ∉ fp j)(h3:∀i,∀b∈fp i,¬L b):vk (live L ρ K) ρ (abO H K) w (fun b=>¬live L ρ K b):=by
 refine⟨fun id=>?_,fun b hb q=>hb (.inl q)⟩;by_cases hk:(K id).here=true
 ·exact⟨[],by unfold abO;rw[if_pos hk];rfl,fun b hb=>by cases hb⟩
 refine⟨fp id,?_,fun b hb q=>?_⟩
 ·have e:abO H K id=H id:=if_neg hk;have ho:=V id;rw[e];rcases h.ai id with q|⟨e',sz,rows,q⟩
  ·rw[q]at ho ⊢;exact ho
  rw[q]at ho ⊢;obtain⟨xs,fr,b1,b2,b3,b4,b5⟩:=ho;exact⟨xs,fr,b1,fun b hb z=>b2 b hb (h.drop z),b3,b4,b5⟩
 rcases q with q|⟨j,q1,q2⟩
 ·exact h3 id b hb q
 have ne:id≠j:=fun z=>hk (z▸q1);rcases h.sub j with z|z
 ·rw[z]at q1;cases q1
 have ho:=V j;rcases h.ai j with y|⟨e',sz,rows,y⟩
 ·rw[z,y]at q1;cases q1
 rw[y]at ho;obtain⟨_,_,_,_,_,b4,_⟩:=ho;exact h2 id j ne b hb (by rw[b4,q2];simp)
end
structure abG(H K:Nat->AO)(x y:AV):Prop where
 to:∀ {L:Nat->Prop} {ρ:Nat->Value} {w:World} {c:Value},vk (live L ρ K) ρ (abO H K) w (fun b=>¬live L ρ K b)->(∀b,¬live L ρ H b->¬live L ρ K b)->RV L ρ H w x c->RV L ρ K w y c
section
variable {H K:Nat->AO}
theorem abG.p(x:PV):abG H K (.p x) (.p x):=.mk fun hl hn h=>by
 rw[RV]at *;obtain⟨fp,V,h2⟩:=h;exact⟨fp,V,fun b hb=>hn b (h2 b hb)⟩
theorem abG.own{id:Nat}(h:K id=H id):abG H K (.own id) (.own id):=.mk fun hl hn hx=>by
 rw[RV]at *;rw[h];exact hx
theorem adb{id:Nat}{y:PV}(h:(K id).here=false)(hs:Still (abO H K) (.own id) (.p y)):abG H K (.own id) (.p y):=.mk fun{L ρ w c} hl hn hx=>by
 have e:abO H K id=H id:=if_neg (by rw[h];simp);have V:RV (live L ρ K) ρ (abO H K) w (.own id) c:=by rw[RV]at *;rw[e];exact hx
 have h2:=hs.to hl V;rw[RV]at *;obtain⟨fp,k1,k2⟩:=h2;exact⟨fp,k1,fun b hb q=>k2 b hb (.inl q)⟩
theorem bf.vA{L:Nat->Prop}{ρ:Nat->Value}{w:World}(hl:vk (live L ρ K) ρ (abO H K) w (fun b=>¬live L ρ K b))(hn:∀b,¬live L ρ H b->¬live L ρ K b):∀ {l m:List AV} {cs:List Value},kf (abG H K) l m->bf L ρ H w l cs->bf L ρ K w m cs
 |_,_,cs,.nil,h=>by rw[bf]at *;exact h
 |_,_,cs,.cons V h2,h=>by
  rw[bf]at *;obtain⟨c,r,rfl,k1,k2⟩:=h;exact⟨c,r,rfl,V.to hl hn k1,bf.vA hl hn h2 k2⟩
theorem abG.agg{l m:List AV}(h:kf (abG H K) l m):abG H K (.agg l) (.agg m):=.mk fun hl hn hx=>by
 rw[RV]at *;obtain⟨cs,rfl,V⟩:=hx;exact⟨cs,rfl,bf.vA hl hn h V⟩
theorem abG.au{l m:List AV}(h:kf (abG H K) l m):abG H K (.au l) (.au m):=.mk fun hl hn hx=>by
 rw[RV]at *;obtain⟨cs,rfl,V⟩:=hx;exact⟨cs,rfl,bf.vA hl hn h V⟩
end
theorem GX.vA{P:Program}{f:FuncId}{args:List AV}{R Z:AV->List (Nat×AO)->Prop}(h:GX P f args [] R)(hR:∀x bd,R x bd->∃y ob2,abG (bx bd) (bx ob2) x y/\ab3 (bx bd) (bx ob2)/\Z y ob2):GX P f args [] Z:=fun L w cs ρ fp V h2 h3 h4 h5=>
 Calls.mono (h L w cs ρ fp V h2 h3 h4 h5) fun e w' ⟨x,bd,q,v,ci,bH,q1,q2,q3,q4,q5,q6⟩=>by
  obtain⟨y,ob2,hy,hs,hz⟩:=hR x bd q;have hn:∀b,¬live L ci (bx bd) b->¬live L ci (bx ob2) b:=fun b k z=>k (hs.lv z);refine⟨y,ob2,hz,v,ci,fun i=>if (bx ob2 i).here=true then bH i else [],q1,q2,hy.to (hs.lie q4 q5 (fun i b hb=>(q6 i b hb).2)) hn q3,fun i=>?_,fun i j ne b hb=>?_,fun i b hb=>?_⟩
  ·by_cases hk:(bx ob2 i).here=true
   ·simp only[hk,if_true];rcases hs.sub i with z|z
    ·rw[z]at hk;cases hk
    rw[z];have ho:=q4 i;rcases hs.ai i with y|⟨e',sz,rows,y⟩
    ·rw[y]at ho ⊢;exact ho
    rw[y]at ho ⊢;obtain⟨xs,fr,b1,b2,b3⟩:=ho;exact⟨xs,fr,b1,fun b hb=>hn b (b2 b hb),b3⟩
   simp only[hk,if_false];rcases hs.sub i with z|z
   ·rw[z];rfl
   rcases hs.ai i with y|⟨e',sz,rows,y⟩
   ·rw[z,y];rfl
   rw[z,y]at hk;exact absurd rfl hk
  ·intro kA;dsimp only at hb kA;split at hb
   ·split at kA
    ·exact q5 i j ne b hb kA
    cases kA
   cases hb
  dsimp only at hb;split at hb
  ·exact q6 i b hb
  cases hb

theorem adZ(l:cH)(hl:l.lines.length<=1000):GC prog 57 [cR l] [] (.agg [int l.last,.own 51]) [(51,dc l.lines)]:=by
 refine GC.intro (rs:=[.cell 2 53 (some 2)]) func57 rfl ntmps57 x_8 ⟨rfl,rfl,eZ,trivial⟩ ?_;intro L O w0;refine sL<|ab (zX 2001 Z) Z<|ab (zA 2002 ld Z) Z<|Y<|aS<|aG 6 [51]<|tq 0 (rf 0 pW Z)<|tq 1 (aZ ac Z)<|yq 2 (rf 1 jY Z)<|yq 3 (jj gY Z)<|cm 4 Z (zC [(51,51)] [51] [] func140 (SQ l.lines hl) (trivial) Z Z)<|yq 5 (rd (x:=.agg [U _ _,.own _]) (cP Z lP Z Z Z) Z)<|yl Z (zB 2002 cA cB Z)<|gT<|aR ?_;refine ax ?_ ⟨rfl,trivial⟩;rfl

theorem Tl.eh:∀ {k:List Nat} {b:List AO},(k.all fun i=>Nat.blt i 1000000)=true->Tl (eh .gone k b) []:=fun{k b} h=>⟨fun i=>by
 induction k generalizing b with
 |nil=>rfl
 |cons a k ih=>
  rw[List.all_cons,Bool.and_eq_true]at h;have ha:a<1000000:=Nat.le_of_ble_eq_true h.1;cases b with
  |nil=>rfl
  |cons o b=>
   show (if 1000000+i=a then o else Go.Proofs.YtflhgkmhmcfimaaGreat.eh .gone k b (1000000+i))=.gone;rw[if_neg x_2];exact ih h.2,dS.nil⟩
def y3(d:du):Int:=if m1 d≠0 then m1 d else if eL (f8 d)=true then 0 else 3
abbrev acj:mm:=⟨⟨⟨[],[]⟩,0,0⟩,⟨0,0,0,[],[],[]⟩,⟨0,[]⟩,[],[]⟩
def e6(d:du):mm:=if y3 d=0 then ⟨m4 d,(de (f8 d)).now,(d5 (f8 d)).1,[],[]⟩else acj
theorem adH{d:du}(h:m1 d≠0):y3 d=m1 d:=if_pos h
theorem adI{d:du}(h:m1 d=0)(h2:eL (f8 d)=false):y3 d=3:=by unfold y3;rw[if_neg x_146,if_neg (by simp[h2])]
theorem adJ{d:du}(h:m1 d=0)(h2:eL (f8 d)=true):y3 d=0:=by unfold y3;rw[if_neg x_146,if_pos h2]
theorem acJ{d:du}(h:y3 d≠0):e6 d=acj:=if_neg h
theorem ac5{d:du}(h:y3 d=0):e6 d=⟨m4 d,(de (f8 d)).now,(d5 (f8 d)).1,[],[]⟩:=if_pos h
abbrev ack(h:mm):AV:=.agg [.own 1,.own 2,int h.log.next,int h.log.dP,int h.book.tick,int h.book.next,int h.book.aA,.own 3,.own 4,.own 5,int h.ia.last,.own 6,.own 7,.own 8]
abbrev obH(vs us:List Value)(h:mm):List (Nat×AO):=[(1,.ai 195 1 (oR vs)),(2,.ai 192 2 (lW us h.log.bT.bu)),(3,.ai 159 7 (ah aX h.book.ag)),(4,.ai 218 7 (ah go h.book.an)),(5,.ai 220 5 (ah iX h.book.aq)),(6,.ai 167 3 (ah ct h.ia.lines)),(7,.ai 81 7 (ah fR h.wait)),(8,.ai 81 7 (ah fR h.f9))]

theorem aie{α:Type}{enc:α->List Value}(he:∀a b,dA (enc a) (enc b)=true->a=b):∀ {a b:List α},lZ enc a b=true->a=b
 |[],[],_=>rfl
 |[],_::_,h=>by cases h
 |_::_,[],h=>by cases h
 |x::a,y::b,h=>by
  unfold lZ at h;rw[Bool.and_eq_true]at h;rw[he _ _ h.1,aie he h.2]
theorem aif{α:Type}{enc:α->List Value}(he:∀a,dA (enc a) (enc a)=true):∀(a:List α),lZ enc a a=true
 |[]=>rfl
 |x::a=>by unfold lZ;rw[he,aif he];rfl
theorem ajR(a b:be)(h:dA (aX a) (aX b)=true):a=b:=by
 cases a;cases b;simp[aX,dA]at h;simp[h]
theorem ajS(a b:eV)(h:dA (go a) (go b)=true):a=b:=by
 cases a;cases b;simp[go,dA]at h;simp[h]
theorem ajT(a b:gz)(h:dA (iX a) (iX b)=true):a=b:=by
 cases a;cases b;simp[iX,dA]at h;simp[h]
theorem alu(a b:aV)(h:dA (fR a) (fR b)=true):a=b:=by
 cases a;cases b;simp[fR,dA]at h;simp[h]
theorem ajU(a b:aO)(h:dA (ct a) (ct b)=true):a=b:=by
 obtain⟨⟨_,_⟩,_⟩:=a;obtain⟨⟨_,_⟩,_⟩:=b;simp[ct,dA]at h;simp[h]
theorem ajV{a b:aw}(h:kY a b=true):a=b:=by
 unfold kY at h;simp only[Bool.and_eq_true,decide_eq_true_eq]at h;obtain⟨⟨⟨⟨⟨V,h2⟩,h3⟩,h4⟩,h5⟩,h6⟩:=h;have e4:=aie ajR h4;have e5:=aie ajS h5;have afQ:=aie ajT h6;cases a;cases b;simp_all
theorem aja(a:aw):kY a a=true:=by
 unfold kY;rw[aif (fun a=>by simp[aX,dA]),aif (fun a=>by simp[go,dA]),aif (fun a=>by simp[iX,dA])];simp
theorem ajW{a b:cH}(h:qE a b=true):a=b:=by
 unfold qE at h;simp only[Bool.and_eq_true,decide_eq_true_eq]at h;have e:=aie ajU h.2;cases a;cases b;simp_all
theorem ajX(a:cH):qE a a=true:=by
 unfold qE;rw[aif (fun a=>by simp[ct,dA])];simp
structure aiE(h:mm):Prop where
 dok:ik h.log.bT=true
 nx:aI h.log.next 0 h.log.bT.cells.length=true
 ep:aI h.log.dP 1 16000000=true
 len:((dH h.log.bT).length:Int)=h.log.next
 rp:eL (f8 h.log.bT)=true
 book:h.book=(de (f8 h.log.bT)).now
 bok:eG h.book=true
 led:h.ia=(d5 (f8 h.log.bT)).1
 tail:pZ (f8 h.log.bT) (h.f9++h.wait)=true
theorem aiF{h:mm}(q:zV h=true):aiE h:=by
 unfold zV at q;simp only[Bool.and_eq_true,decide_eq_true_eq]at q;obtain⟨⟨⟨⟨⟨⟨⟨V,h2⟩,h3⟩,h4⟩,h5⟩,h6⟩,h7⟩,h8⟩:=q;unfold mC at h6;simp only[Bool.and_eq_true]at h6;exact⟨V,h2,h3,h4,h5,(ajV h6.2).symm,h6.1.2,(ajW h7).symm,h8⟩
theorem aiE.ok{h:mm}(g:aiE h):zV h=true:=by
 unfold zV;have hb:mC (de (f8 h.log.bT)).now h.book=true:=by unfold mC;rw[<-g.book,g.bok,aja];rfl
 rw[g.dok,g.nx,g.ep,decide_eq_true g.len,g.rp,hb,<-g.led,ajX,g.tail];rfl
def ahA(h:mm)(e:aV):Int:=if (dl h.book e).lines=[]then 0 else iv h.ia (dl h.book e)
def ahs(h:mm)(e:aV):cH:=if (dl h.book e).lines=[]then h.ia else iD h.ia (dl h.book e)
def ahr(h:mm)(e:aV):Int:=if zV h=true then (if dG h.book e=0 then (if aho h.log e=0 then (if ahA h e=0 then 0 else 22)else 21)else dG h.book e)else 20
def aht(h:mm)(e:aV):mm:=if ahr h e=0 then ⟨ahu h.log e,dp h.book e,ahs h e,h.wait++[e],h.f9⟩else acj
theorem ah6{h:mm}{e:aV}(q:ahr h e≠0):aht h e=acj:=if_neg q
theorem ahV{h:mm}{e:aV}(q:ahr h e=0):aht h e=⟨ahu h.log e,dp h.book e,ahs h e,h.wait++[e],h.f9⟩:=if_pos q
theorem aiG{h:mm}{e:aV}(q:zV h=false):ahr h e=20:=if_neg (by simp[q])
theorem aiH{h:mm}{e:aV}(q:zV h=true)(c:dG h.book e≠0):ahr h e=dG h.book e:=by unfold ahr;rw[if_pos q,if_neg c]
theorem aiI{h:mm}{e:aV}(q:zV h=true)(c:dG h.book e=0)(l:aho h.log e≠0):ahr h e=21:=by unfold ahr;rw[if_pos q,if_pos c,if_neg l]
theorem aiJ{h:mm}{e:aV}(q:zV h=true)(c:dG h.book e=0)(l:aho h.log e=0)(p:ahA h e≠0):ahr h e=22:=by unfold ahr;rw[if_pos q,if_pos c,if_pos l,if_neg p]
theorem aiK{h:mm}{e:aV}(q:zV h=true)(c:dG h.book e=0)(l:aho h.log e=0)(p:ahA h e=0):ahr h e=0:=by unfold ahr;rw[if_pos q,if_pos c,if_pos l,if_pos p]
theorem aiu{h:mm}{e:aV}(q:ahr h e=0):zV h=true/\dG h.book e=0/\aho h.log e=0/\ahA h e=0:=by
 cases V:zV h with
 |false=>rw[aiG V]at q;cases q
 |true=>
  by_cases h2:dG h.book e=0
  ·by_cases h3:aho h.log e=0
   ·by_cases h4:ahA h e=0
    ·exact⟨rfl,h2,h3,h4⟩
    rw[aiJ V h2 h3 h4]at q;cases q
   rw[aiI V h2 h3]at q;cases q
  rw[aiH V h2]at q;exact absurd q h2
theorem aiv{h:mm}{e:aV}(q:zV h=true):0<(dl h.book e).id↔(dl h.book e).lines≠[]:=by
 by_cases c:dG h.book e=0
 ·by_cases w:(bz h.book e).l=[]
  ·rw[(ub c w).2];simp
  rw[(rU c w).2];have:=(mX (aiF q).bok).next.1;simp[w];omega
 rw[(Oj c).2];simp
theorem ajZ{es:List aV}(h:eL es=true):(d5 es).2=((de es).ps.length:Int):=by
 unfold eL at h;simp only[Bool.and_eq_true,decide_eq_true_eq]at h;exact h.2
theorem aj0(es:List aV):de es=bK pm es:=OO QB
theorem alv{h:mm}{e:aV}(q:ahr h e=0):eL (f8 h.log.bT++[e])=true/\(de (f8 h.log.bT++[e])).now=dp h.book e/\(d5 (f8 h.log.bT++[e])).1=ahs h e:=by
 obtain⟨V,h2,h3,h4⟩:=aiu q;have g:=aiF V;have hl:=ajZ g.rp;have hr:=g.rp;have hb:=g.book;have hd:=g.led;unfold eL at hr ⊢;unfold d5 at hl hd hr ⊢;simp only[Bool.and_eq_true,decide_eq_true_eq]at hr ⊢;rw[aj0]at hl hd hb hr ⊢;have e1:bK pm (f8 h.log.bT++[e])=kz (bK pm (f8 h.log.bT)) e:=by unfold bK;rw[List.foldl_append];rfl
 rw[e1];generalize bK pm (f8 h.log.bT)=s at *;unfold ahA at h4;unfold ahs;rw[hb]at h2 h4 ⊢;have hz:eK (kz s e).jD=true:=by
  have h0:=hr.1;show eK (s.jD++[dG s.now e])=true;unfold eK at h0 ⊢;rw[List.all_append,h0,h2];rfl
 by_cases r:(dl s.now e).lines=[]
 ·rw[if_pos r,Oo r,Fk h2];exact⟨⟨hz,hl⟩,rfl,hd.symm⟩
 rw[if_neg r]at h4;rw[if_neg r,Om h2 r,Fk h2];have e2:jJ ⟨0,[]⟩ (s.ps++[dl s.now e])=B2 (jJ ⟨0,[]⟩ s.ps) (dl s.now e):=by unfold jJ;rw[List.foldl_append];rfl
 rw[e2,List.length_append,List.length_singleton];unfold B2;rw[<-hd,if_pos h4];exact⟨⟨hz,by show _+1=_;rw[hl];rfl⟩,rfl,rfl⟩

theorem mY{h:mm}(q:ik h.log.bT=false\/aI h.log.next 0 (h.log.bT.cells.length:Int)=false\/aI h.log.dP 1 16000000=false\/decide (((dH h.log.bT).length:Int)=h.log.next)=false\/eL (f8 h.log.bT)=false\/mC (de (f8 h.log.bT)).now h.book=false\/qE (d5 (f8 h.log.bT)).1 h.ia=false\/pZ (f8 h.log.bT) (h.f9++h.wait)=false):zV h=false:=by
 grind[zV]
theorem wC{h:mm}(h0:ik h.log.bT=true)(V:aI h.log.next 0 (h.log.bT.cells.length:Int)=true)(h2:aI h.log.dP 1 16000000=true)(h3:decide (((dH h.log.bT).length:Int)=h.log.next)=true)(h4:eL (f8 h.log.bT)=true)(h5:mC (de (f8 h.log.bT)).now h.book=true)(h6:qE (d5 (f8 h.log.bT)).1 h.ia=true):zV h=pZ (f8 h.log.bT) (h.f9++h.wait):=by
 grind[zV]
theorem QP{r1 r2:List (List PV)}{a b:List aV}(e1:r1=ah fR a)(e2:r2=ah fR b)(hn:a.length<=9007199254740992)(hm:b.length<=9007199254740992):GC prog 95 [.p (.ab 81 7 r1),.p (.ab 81 7 r2)] [] (aD (lZ fR a b)) []:=by
 subst e1 e2;exact Qw a b hn hm
theorem QR{es:List aV}{l:Nat}:((ah fR es).take (ah fR es).length).drop l=ah fR (es.drop l):=by
 grind[ah,List.map_drop]
theorem QS(h:mm)(hd:qK h.log.bT)(hb:di h.book)(QT:h.book.ag.length<=1048576/\h.book.an.length<=1048576/\h.book.aq.length<=1048576)(hl:h.ia.lines.length<=1048576)(hw:h.wait.length<=1048576)(hs:h.f9.length<=1048576):GC prog 31 [Bu h] [] (aD (zV h)) []:=by
 refine gi 2 func31 rfl ntmps31 rfl ?_;intro L O w0;refine sL<|ab (zX 2001 Z) Z<|ar Z<|nA<|lf 0 qL Z<|lf 0 Bv Z<|aP (.agg [vL _ _ _,vL _ _ _]) mE Z<|ab (zA 2003 Du Z) Z<|ab (zB 2003 Dv Dw Z) Z<|Y<|aS<|sL<|aP (.agg [vL _ _ _,vL _ _ _]) mE Z<|ab (zC [] [] [] func91 (J' h.log.bT) (trivial) Z Z) Z<|bX Z<|aQ Z ?_;refine AL.bool (t:=17) rfl ?_ ?_
 ·intro V;refine aa Z<|aa Z<|aa Z<|aa Z<|aa Z<|aa Z<|aa Z<|aa Z<|aU Z<|bM Z<|aa Z<|aa Z<|aa Z<|aa Z<|aa Z<|aU Z<|Y<|aY Z<|sL<|ar Z<|Y<|aR<|rT ?_;refine az trivial ?_;grind[mY]
 intro V;refine lf 0 qL Z<|lf 2 wD Z<|aj ac Z<|lf 0 n9 Z<|bo oB Z<|ba po Z<|ab (zC [] [] [] func92 (pp _ _ _) (trivial) Z Z) Z<|lT [1,2,3,17,24] [2001,2003] ?_;refine bX Z<|bj Z<|aQ Z ?_;refine AL.bool (t:=27) rfl ?_ ?_
 ·intro h2;refine aa Z<|aa Z<|aa Z<|aa Z<|aa Z<|aU Z<|Y<|aY Z<|sL<|ar Z<|Y<|aR<|rT ?_;refine az trivial ?_;grind[mY,fU]
 intro h2;refine lf 0 qL Z<|lf 3 zW Z<|aj ac Z<|ab (zC [] [] [] func92 (pp _ _ _) (trivial) Z Z) Z<|bX Z<|bj Z<|Y ?_;refine AW.cond rfl ?_ ?_
 ·intro h3;refine sL<|ar Z<|Y<|aR<|rT ?_;refine az trivial ?_;grind[mY]
 intro h3;refine aK<|gT<|aS<|sL ?_;have hle:=Ka h.log.bT;refine aP (.agg [vL _ _ _,vL _ _ _]) mE Z<|ab (zC [] [] [] func93 (Kb h.log.bT hd) (trivial) Z Z) Z<|lT [1,2,3,36] [2001,2003] ?_;refine cT (.au [vL _ _ _,U _ _]) Z<|rF Z<|dE Z<|nv Z<|ao Z<|nA<|ae Z<|lf 0 qL Z<|lf 2 wD Z<|aj ac Z<|ak Z<|Y ?_;refine AW.cond rfl ?_ ?_
 ·intro h4;refine sL<|ar Z<|Y<|aR<|rT ?_;refine az trivial ?_;grind[mY]
 intro h4;refine aK<|gA<|aP (.agg [vL _ _ _,vL _ _ _]) mE Z<|ab (zC [] [] [] func33 ((QU h.log.bT hd).ui) (trivial) Z Z) Z<|nv Z<|nA ?_;have hB:=Dr (Dp h.log.bT);refine bm Z<|ab (zC [] [] [] func86 (QG (f8 h.log.bT) (Dp _) x_2) (trivial) rfl rfl) Z<|lT [1,2,6,48] [2001,2003] ?_;refine cT (.au [.agg [U _ _,U _ _,U _ _,vL _ _ _,vL _ _ _,vL _ _ _],.agg [U _ _,vL _ _ _],vB _]) Z<|iB (.agg [U _ _,U _ _,U _ _,vL _ _ _,vL _ _ _,vL _ _ _]) Z<|iB (.agg [U _ _,vL _ _ _]) Z<|eU Z<|ab (zA 2007 mD Z) Z<|ab (zA 2008 ld Z) Z<|ab (zB 2007 eu ew Z) Z<|ab (zB 2008 cA cB Z) Z<|bv Z<|Y<|aS<|sL<|aQ Z<|bX Z<|aQ Z ?_;refine AL.bool (t:=54) rfl ?_ ?_
 ·intro h5;refine aa Z<|aa Z<|aa Z<|aa Z<|aa Z<|aU Z<|bM Z<|aa Z<|aa Z<|aa Z<|aa Z<|aa Z<|aU Z<|Y<|aY Z<|sL<|ar Z<|Y<|aR<|rT ?_;refine az trivial ?_;grind[mY]
 intro h5;refine aP (.agg [U _ _,U _ _,U _ _,vL _ _ _,vL _ _ _,vL _ _ _]) cu Z<|lf 4 Bw Z<|aP (.agg [U _ _,U _ _,U _ _,vL _ _ _,vL _ _ _,vL _ _ _]) cu Z<|ab (zC [] [] [] func37 (Qz (de (f8 h.log.bT)).now h.book hB.wf hb) (trivial) Z Z) Z<|lT [1,2,6,8,54,58] [2001,2003,2007,2008] ?_;refine bX Z<|bj Z<|aQ Z ?_;refine AL.bool (t:=61) rfl ?_ ?_
 ·intro h6;refine aa Z<|aa Z<|aa Z<|aa Z<|aa Z<|aU Z<|Y<|aY Z<|sL<|ar Z<|Y<|aR<|rT ?_;refine az trivial ?_;grind[mY]
 intro h6;refine aP (.agg [U _ _,vL _ _ _]) eZ Z<|lf 10 Bx Z<|aP (.agg [U _ _,vL _ _ _]) eZ Z<|ab (zC [] [] [] func94 (Qu (d5 (f8 h.log.bT)).1 h.ia (by have:=hB.ll;omega) x_2) (trivial) rfl rfl) Z<|bX Z<|bj Z<|Y ?_;refine AW.cond rfl ?_ ?_
 ·intro h7;refine sL<|ar Z<|Y<|aR<|rT ?_;refine az trivial ?_;grind[mY]
 intro h7;refine aK<|gT<|aS<|aF [5]<|pq 0 (qf 13 By Z)<|sq 1 (jj tE Z)<|pq 3 (qf 12 Bz Z)<|sq 4 (jj tE Z)<|bn 2 Z (zC [(1,1)] [1] [] func58 (QO h.f9 hs) (trivial) Z Z) (.inr Z)<|fT [2,6,70,72] [1,2001,2003,2007,2008] ?_;refine bn 5 Z (zP 1 jk jl sD Z (Src.p Z)) (.inl Z)<|vq 6 (tF Z)<|fD<|gA ?_;refine AL.freeze 1 rfl ?_;refine bm Z<|ba jZ Z<|bm Z<|ba jZ Z<|ak Z<|aQ Z ?_;refine AL.bool (t:=79) rfl ?_ ?_
 ·intro h8;refine bm Z<|bm Z<|ba jZ Z<|bm Z<|ba jZ Z ?_;refine eo rfl ⟨rfl,ce (by unfold i64;simp[ap];omega)⟩ ?_;refine lq (rd (x:=vL _ _ _) (p6 (l:=((f8 h.log.bT).length-(h.f9++h.wait).length)) (h:=_) rfl jk rfl ⟨_,(Eq.trans (b:=int _) rfl (congrArg int (by have q:=h8;simp[ap]at q ⊢;omega)))⟩ rfl (by rw[ap];omega) (Nat.le_refl _)) rfl)<|bm Z<|ab (zC [] [] [] func95 (QP QR (fx _ _ _).symm (by rw[List.length_drop];omega) (by rw[List.length_append];omega)) (trivial) rfl rfl) Z<|lT [2,79,88] [2001,2003,2007,2008] ?_;refine bj Z<|bv Z<|Y<|aR ?_;refine az trivial ?_;refine Eq.symm ?_;grind[wC,fU,ap,pZ]
 intro h8;refine aa Z<|aa Z<|aa Z<|aa Z<|aa Z<|aa Z<|aa Z<|aa Z<|aa Z<|bL Z<|ar Z<|Y<|aR ?_;refine az trivial ?_;refine Eq.symm ?_;grind[wC,fU,ap,pZ]
theorem x_128{p:Prop}(c:p:=by exact ⟨rfl,ce (by grind[i64,ap])⟩):p:=c
theorem QV(h:mm)(hd:qK h.log.bT)(hb:di h.book)(QT:h.book.ag.length<=1048576/\h.book.an.length<=1048576/\h.book.aq.length<=1048576)(hl:h.ia.lines.length<=1048576)(hw:h.wait.length<=1048576)(hs:h.f9.length<=1048576):GC prog 30 [Bu h] [] (aD (zV h)) []:=by
 refine gi 2 func30 rfl ntmps30 rfl ?_;intro L O w0;refine sL<|ab (zX 2001 Z) Z<|ar Z<|nA<|lf 0 qL Z<|lf 0 Bv Z<|aP (.agg [vL _ _ _,vL _ _ _]) mE Z<|ab (zA 2003 Du Z) Z<|ab (zB 2003 Dv Dw Z) Z<|Y<|aS<|sL<|aP (.agg [vL _ _ _,vL _ _ _]) mE Z<|ab (zC [] [] [] func87 (FU h.log.bT) (trivial) Z Z) Z<|bX Z<|aQ Z ?_;refine AL.bool (t:=19) rfl ?_ ?_
 ·intro V;refine aa Z<|aa Z<|aa Z<|aa Z<|aU Z<|bM Z<|aa Z<|aa Z<|aa Z<|aa Z<|aa Z<|aa Z<|aa Z<|aU Z<|bM Z<|aa Z<|aa Z<|aa Z<|aa Z<|aU Z<|bM Z<|aa Z<|aa Z<|aa Z<|aa Z<|aU Z<|Y<|aY Z<|aS ?_;refine aL<|ar Z<|Y<|aR<|rT ?_;refine az trivial ?_;grind[mY]
 intro V;refine lf 0 qL Z<|lf 2 wD Z<|aj ac Z<|ak Z<|bj Z<|aQ Z ?_;refine AL.bool (t:=25) rfl ?_ ?_
 ·intro h2;refine aa Z<|aa Z<|aa Z<|aa Z<|aa Z<|aa Z<|aa Z<|aU Z<|bM Z<|aa Z<|aa Z<|aa Z<|aa Z<|aU Z<|bM Z<|aa Z<|aa Z<|aa Z<|aa Z<|aU Z<|lT [1,2,3,45] [2001,2003] ?_;refine Y<|aY Z<|sL<|ar Z<|Y<|aR<|rT ?_;refine az trivial ?_;grind[mY]
 intro h2;refine lf 0 qL Z<|lf 2 wD Z<|aj ac Z<|lf 0 n9 Z<|bo oB Z<|ba po Z<|ak Z<|bj Z<|aQ Z ?_;refine AL.bool (t:=34) rfl ?_ ?_
 ·intro h3;refine aa Z<|aa Z<|aa Z<|aa Z<|aU Z<|bM Z<|aa Z<|aa Z<|aa Z<|aa Z<|aU Z<|Y<|aY Z<|sL<|ar Z<|Y<|aR<|rT ?_;refine az trivial ?_;grind[mY,aI,fU]
 intro h3;refine lf 0 qL Z<|lf 3 zW Z<|aj ac Z<|ak Z<|bj Z<|aQ Z ?_;refine AL.bool (t:=40) rfl ?_ ?_
 ·intro h4;refine aa Z<|aa Z<|aa Z<|aa Z<|aU Z<|Y<|aY Z<|sL<|ar Z<|Y<|aR<|rT ?_;refine az trivial ?_;grind[mY,aI]
 intro h4;refine lf 0 qL Z<|lf 3 zW Z<|aj ac Z<|ak Z<|bj Z<|Y ?_;refine AW.cond rfl ?_ ?_
 ·intro h5;refine sL<|ar Z<|Y<|aR<|rT ?_;refine az trivial ?_;grind[mY,aI]
 intro h5;refine aK<|gA<|aP (.agg [vL _ _ _,vL _ _ _]) mE Z<|ab (zC [] [] [] func88 (Kc h.log.bT hd) (trivial) Z Z) Z<|lT [1,2,3,48] [2001,2003] ?_;have hle:=Ka h.log.bT;refine cT (.au [vL _ _ _,U _ _]) Z<|rF Z<|dE Z<|nv Z<|ao Z<|nA<|aP (.agg [vL _ _ _,vL _ _ _]) mE Z<|ab (zC [] [] [] func34 ((QW h.log.bT hd).ui) (trivial) rfl rfl) Z<|nv Z<|nA<|bm Z<|ab (zC [] [] [] func82 (QK (f8 h.log.bT) (Dp _) x_2) (trivial) rfl rfl) rfl ?_;have hB:=Dr (Dp h.log.bT);refine cT (.au [.agg [U _ _,U _ _,U _ _,vL _ _ _,vL _ _ _,vL _ _ _],.agg [U _ _,vL _ _ _],vB _]) Z<|iB (.agg [U _ _,U _ _,U _ _,vL _ _ _,vL _ _ _,vL _ _ _]) Z<|iB (.agg [U _ _,vL _ _ _]) Z<|eU Z<|ab (zA 2007 mD Z) Z<|lT [1,2,5,6,7,56,57,58] [2001,2003,2007] ?_;refine ab (zA 2008 ld Z) Z<|ab (zB 2007 eu ew Z) Z<|ab (zB 2008 cA cB Z) Z<|bv Z<|Y<|aS<|sL<|ae Z<|lf 0 qL Z<|lf 2 wD Z<|aj ac Z<|ak Z<|aQ Z ?_;refine AL.bool (t:=64) rfl ?_ ?_
 ·intro h6;refine aa Z<|aa Z<|aU Z<|bM Z<|aa Z<|aa Z<|aa Z<|aa Z<|aa Z<|aU Z<|bM Z<|aa Z<|aa Z<|aa Z<|aa Z<|aa Z<|aU Z<|Y<|aY Z<|sL<|ar Z<|Y<|aR<|rT ?_;refine az trivial ?_;grind[mY]
 intro h6;refine aQ Z<|bX Z<|bj Z<|aQ Z ?_;refine AL.bool (t:=68) rfl ?_ ?_
 ·intro h7;refine aa Z<|aa Z<|aa Z<|aa Z<|aa Z<|aU Z<|bM Z<|aa Z<|aa Z<|aa Z<|aa Z<|aa Z<|aU Z<|Y<|aY Z<|sL<|ar Z<|Y<|aR<|rT ?_;refine az trivial ?_;grind[mY]
 intro h7;refine aP (.agg [U _ _,U _ _,U _ _,vL _ _ _,vL _ _ _,vL _ _ _]) cu Z<|lf 4 Bw Z<|aP (.agg [U _ _,U _ _,U _ _,vL _ _ _,vL _ _ _,vL _ _ _]) cu Z<|ab (zC [] [] [] func89 (Qy (de (f8 h.log.bT)).now h.book hB.wf hb x_2 x_2 x_2) (trivial) rfl rfl) Z<|lT [1,2,6,8,68,72] [2001,2003,2007,2008] ?_;refine bX Z<|bj Z<|aQ Z ?_;refine AL.bool (t:=75) rfl ?_ ?_
 ·intro h8;refine aa Z<|aa Z<|aa Z<|aa Z<|aa Z<|aU Z<|Y<|aY Z<|sL<|ar Z<|Y<|aR<|rT ?_;refine az trivial ?_;grind[mY]
 intro h8;refine aP (.agg [U _ _,vL _ _ _]) eZ Z<|lf 10 Bx Z<|aP (.agg [U _ _,vL _ _ _]) eZ Z<|ab (zC [] [] [] func90 (Qv (d5 (f8 h.log.bT)).1 h.ia (by have:=hB.ll;omega) x_2) (trivial) rfl rfl) Z<|bX Z<|bj Z<|Y ?_;refine AW.cond rfl ?_ ?_
 ·intro h9;refine sL<|ar Z<|Y<|aR<|rT ?_;refine az trivial ?_;grind[mY]
 intro h9;refine aK<|gT<|aS<|aF [3,6]<|pq 1 (qf 13 By Z)<|sq 2 (jj tE Z)<|pq 4 (qf 12 Bz Z) ?_;refine AF.two (i:=0) (j:=5) x_34 ?_ ?_
 ·refine v1 0 rfl (zS 2082 [] jk jl rfl x_20) (.inr rfl)<|fT [2,6,82,84,86] [2001,2003,2007,2008,2082] ?_;refine AF.two (i:=3) (j:=5) x_34 ?_ ?_
  ·refine v1 3 Z (zP 2082 jk jl sD Z (Src.p Z)) (.inl Z)<|vq 5 (jj tE Z)<|bn 6 Z (zP 2082 jk jl sD Z (Src.p Z)) (.inl Z)<|vq 7 (tF Z)<|fD<|gT<|aS<|sL ?_;refine AL.freeze 2082 rfl ?_;refine bm Z<|ba jZ Z<|bm Z<|ba jZ Z<|ak Z<|Y ?_;refine AW.cond rfl ?_ ?_
   ·intro dh;refine sL<|ar Z<|Y<|aR<|rT ?_;refine az trivial ?_;grind[mY,pZ,ap]
   intro dh;refine aK<|gT<|aS<|sL ?_;have sE:(h.f9++h.wait).length<=(f8 h.log.bT).length:=by have q:=dh;simp[ap]at q ⊢;omega
   refine bm Z<|ba jZ Z<|ae Z<|Y<|aB ?_;refine aW [2,6,10,94,95] [2001,2003,2007,2008] (D:=Nat) (fun k=>[(96,int (k:Int))]) (fun k=>[]) (fun k=>ja fR ((f8 h.log.bT).drop ((f8 h.log.bT).length-(h.f9++h.wait).length)) (h.f9++h.wait) k) (fun k=>(h.f9++h.wait).length-k) (0) (ja.zero _ _ _) ⟨rfl,trivial⟩ trivial ?_;intro k hI;refine sL<|ak Z<|Y<|aS ?_;refine AW.cond rfl ?_ ?_
   ·intro gp;refine aK<|gT<|aS<|aB<|sL<|ae Z ?_;have hk:k<(h.f9++h.wait).length:=by have q:=gp;simp[ap]at q ⊢;omega
    have bZ:k<((f8 h.log.bT).drop ((f8 h.log.bT).length-(h.f9++h.wait).length)).length:=by rw[List.length_drop];omega
    refine li k jk rfl ((by rw[List.nil_append,<-fx];exact bS hk))<|d6 (.agg [U _ _,U _ _,U _ _,U _ _,U _ _,U _ _,vB _]) dD Z<|ab (zA 2012 jl rfl) Z<|lT [2,6,10,12,94,95,96,98,100] [2001,2003,2007,2008,2012] ?_;refine ao Z<|ab (zB 2012 mZ m0 Z) Z<|Y<|aS<|aF []<|pq 0 (iz Z)<|pq 1 (iz Z)<|sq 2 (le jZ Z)<|pq 3 (iz Z)<|sq 4 (le jZ Z) ?_;refine sq 5 (iC rfl x_128)<|pq 6 (gL (U _ _) rfl) ?_;refine sq 7 (iC rfl x_128)<|qM 108 ((((f8 h.log.bT).length-(h.f9++h.wait).length+k):Nat):Int) rfl x_33<|sq 8 (ri (((f8 h.log.bT).length-(h.f9++h.wait).length+k)) jk rfl (bS x_2))<|sq 9 (gm (.agg [U _ _,U _ _,U _ _,U _ _,U _ _,U _ _,vB _]) dD rfl)<|vq 10 (dw (.agg [U _ _,U _ _,U _ _,U _ _,U _ _,U _ _,vB _]) dD rfl)<|vq 11 (rd (x:=vB _) (j0 rfl (.inr rfl) rfl rfl oz pe pf pg ?hn1) rfl) ?_;case hn1=>exact x_14
    refine fD<|gT ?_;refine AW.cond rfl ?_ ?_
    ·intro gM;refine sL<|ar Z<|Y<|aR<|rB<|rT<|rT<|rB<|rT ?_;refine az trivial ?_;refine Eq.symm ?_;rw[wC x_15 (by grind[aI,fU]) (by grind[aI]) x_15 x_15 x_15 x_15];unfold pZ;rw[decide_eq_true sE];rw[qF bZ hk (by have q:=gM;rw[Bool.not_eq_true']at q;rw[List.getElem_drop];exact q)];rfl
    intro gM;refine aK<|gB<|gT<|aL<|bg Z<|ae Z<|Y ?_;refine⟨k+1,hI.next bZ hk (by have q:=gM;rw[Bool.not_eq_false']at q;rw[List.getElem_drop];exact q),by omega,x_12,trivial,rfl,rfl⟩
   intro gp;refine aE<|eT<|eT<|eB<|gA<|cI Z<|Y<|aR ?_;refine az trivial ?_;refine Eq.symm ?_;rw[wC x_15 (by grind[aI,fU]) (by grind[aI]) x_15 x_15 x_15 x_15];unfold pZ;rw[decide_eq_true sE];rw[hI.all x_15 x_33];rfl
  refine d9.rd (i:=5) (x:=vL _ _ _) rfl (sC rfl tE rfl rfl rfl rfl) rfl rfl x_3 ?_;refine bn 3 Z (zP 2082 jk jl sD Z (Src.p Z)) (.inl Z)<|fT [2,6,85,87] [2001,2003,2007,2008,2082] ?_;refine bn 6 Z (zP 2082 jk jl sD Z (Src.p Z)) (.inl Z)<|vq 7 (tF Z)<|fD<|gT<|aS<|sL ?_;refine AL.freeze 2082 rfl ?_;refine bm Z<|ba jZ Z<|bm Z<|ba jZ Z<|ak Z<|Y ?_;refine AW.cond rfl ?_ ?_
  ·intro dO;refine sL<|ar Z<|Y<|aR<|rT ?_;refine az trivial ?_;grind[mY,pZ,ap]
  intro dO;refine aK<|gT<|aS<|sL ?_;have sE:(h.f9++h.wait).length<=(f8 h.log.bT).length:=by have q:=dO;simp[ap]at q ⊢;omega
  refine bm Z<|ba jZ Z<|ae Z<|Y<|aB ?_;refine aW [2,6,10,94,95] [2001,2003,2007,2008] (D:=Nat) (fun k=>[(96,int (k:Int))]) (fun k=>[]) (fun k=>ja fR ((f8 h.log.bT).drop ((f8 h.log.bT).length-(h.f9++h.wait).length)) (h.f9++h.wait) k) (fun k=>(h.f9++h.wait).length-k) (0) (ja.zero _ _ _) ⟨rfl,trivial⟩ trivial ?_;intro k hI;refine sL<|ak Z<|Y<|aS ?_;refine AW.cond rfl ?_ ?_
  ·intro ij;refine aK<|gT<|aS<|aB<|sL<|ae Z ?_;have hk:k<(h.f9++h.wait).length:=by have q:=ij;simp[ap]at q ⊢;omega
   have bZ:k<((f8 h.log.bT).drop ((f8 h.log.bT).length-(h.f9++h.wait).length)).length:=by rw[List.length_drop];omega
   refine li k jk rfl ((by rw[List.nil_append,<-fx];exact bS hk))<|d6 (.agg [U _ _,U _ _,U _ _,U _ _,U _ _,U _ _,vB _]) dD Z<|ab (zA 2012 jl rfl) Z<|lT [2,6,10,12,94,95,96,98,100] [2001,2003,2007,2008,2012] ?_;refine ao Z<|ab (zB 2012 mZ m0 Z) Z<|Y<|aS<|aF []<|pq 0 (iz Z)<|pq 1 (iz Z)<|sq 2 (le jZ Z)<|pq 3 (iz Z)<|sq 4 (le jZ Z) ?_;refine sq 5 (iC rfl x_128)<|pq 6 (gL (U _ _) rfl) ?_;refine sq 7 (iC rfl x_128)<|qM 108 ((((f8 h.log.bT).length-(h.f9++h.wait).length+k):Nat):Int) rfl x_33<|sq 8 (ri (((f8 h.log.bT).length-(h.f9++h.wait).length+k)) jk rfl (bS x_2))<|sq 9 (gm (.agg [U _ _,U _ _,U _ _,U _ _,U _ _,U _ _,vB _]) dD rfl)<|vq 10 (dw (.agg [U _ _,U _ _,U _ _,U _ _,U _ _,U _ _,vB _]) dD rfl)<|vq 11 (rd (x:=vB _) (j0 rfl (.inr rfl) rfl rfl oz pe pf pg ?hn2) rfl) ?_;case hn2=>exact x_14
   refine fD<|gT ?_;refine AW.cond rfl ?_ ?_
   ·intro lg;refine sL<|ar Z<|Y<|aR<|rB<|rT<|rT<|rB<|rT ?_;refine az trivial ?_;refine Eq.symm ?_;rw[wC x_15 (by grind[aI,fU]) (by grind[aI]) x_15 x_15 x_15 x_15];unfold pZ;rw[decide_eq_true sE];rw[qF bZ hk (by have q:=lg;rw[Bool.not_eq_true']at q;rw[List.getElem_drop];exact q)];rfl
   intro lg;refine aK<|gB<|gT<|aL<|bg Z<|ae Z<|Y ?_;refine⟨k+1,hI.next bZ hk (by have q:=lg;rw[Bool.not_eq_false']at q;rw[List.getElem_drop];exact q),by omega,x_12,trivial,rfl,rfl⟩
  intro ij;refine aE<|eT<|eT<|eB<|gA<|cI Z<|Y<|aR ?_;refine az trivial ?_;refine Eq.symm ?_;rw[wC x_15 (by grind[aI,fU]) (by grind[aI]) x_15 x_15 x_15 x_15];unfold pZ;rw[decide_eq_true sE];rw[hI.all x_15 x_33];rfl
 refine d9.rd (i:=5) (x:=vL _ _ _) rfl (sC rfl tE rfl rfl rfl rfl) rfl rfl x_3 ?_;refine bn 0 rfl (zS 2082 [] jk jl rfl x_20) (.inr rfl)<|fT [2,6,82,84,87] [2001,2003,2007,2008,2082] ?_;refine bn 3 Z (zP 2082 jk jl sD Z (Src.p Z)) (.inl Z)<|bn 6 Z (zP 2082 jk jl sD Z (Src.p Z)) (.inl Z)<|vq 7 (tF Z)<|fD<|gT<|aS<|sL ?_;refine AL.freeze 2082 rfl ?_;refine bm Z<|ba jZ Z<|bm Z<|ba jZ Z<|ak Z<|Y ?_;refine AW.cond rfl ?_ ?_
 ·intro mn;refine sL<|ar Z<|Y<|aR<|rT ?_;refine az trivial ?_;grind[mY,pZ,ap]
 intro mn;refine aK<|gT<|aS<|sL ?_;have sE:(h.f9++h.wait).length<=(f8 h.log.bT).length:=by have q:=mn;simp[ap]at q ⊢;omega
 refine bm Z<|ba jZ Z<|ae Z<|Y<|aB ?_;refine aW [2,6,10,94,95] [2001,2003,2007,2008] (D:=Nat) (fun k=>[(96,int (k:Int))]) (fun k=>[]) (fun k=>ja fR ((f8 h.log.bT).drop ((f8 h.log.bT).length-(h.f9++h.wait).length)) (h.f9++h.wait) k) (fun k=>(h.f9++h.wait).length-k) (0) (ja.zero _ _ _) ⟨rfl,trivial⟩ trivial ?_;intro k hI;refine sL<|ak Z<|Y<|aS ?_;refine AW.cond rfl ?_ ?_
 ·intro m7;refine aK<|gT<|aS<|aB<|sL<|ae Z ?_;have hk:k<(h.f9++h.wait).length:=by have q:=m7;simp[ap]at q ⊢;omega
  have bZ:k<((f8 h.log.bT).drop ((f8 h.log.bT).length-(h.f9++h.wait).length)).length:=by rw[List.length_drop];omega
  refine li k jk rfl ((by rw[List.nil_append,<-fx];exact bS hk))<|d6 (.agg [U _ _,U _ _,U _ _,U _ _,U _ _,U _ _,vB _]) dD Z<|ab (zA 2012 jl rfl) Z<|lT [2,6,10,12,94,95,96,98,100] [2001,2003,2007,2008,2012] ?_;refine ao Z<|ab (zB 2012 mZ m0 Z) Z<|Y<|aS<|aF []<|pq 0 (iz Z)<|pq 1 (iz Z)<|sq 2 (le jZ Z)<|pq 3 (iz Z)<|sq 4 (le jZ Z) ?_;refine sq 5 (iC rfl x_128)<|pq 6 (gL (U _ _) rfl) ?_;refine sq 7 (iC rfl x_128)<|qM 108 ((((f8 h.log.bT).length-(h.f9++h.wait).length+k):Nat):Int) rfl x_33<|sq 8 (ri (((f8 h.log.bT).length-(h.f9++h.wait).length+k)) jk rfl (bS x_2))<|sq 9 (gm (.agg [U _ _,U _ _,U _ _,U _ _,U _ _,U _ _,vB _]) dD rfl)<|vq 10 (dw (.agg [U _ _,U _ _,U _ _,U _ _,U _ _,U _ _,vB _]) dD rfl)<|vq 11 (rd (x:=vB _) (j0 rfl (.inr rfl) rfl rfl oz pe pf pg ?hn3) rfl) ?_;case hn3=>exact x_14
  refine fD<|gT ?_;refine AW.cond rfl ?_ ?_
  ·intro mF;refine sL<|ar Z<|Y<|aR<|rB<|rT<|rT<|rB<|rT ?_;refine az trivial ?_;refine Eq.symm ?_;rw[wC x_15 (by grind[aI,fU]) (by grind[aI]) x_15 x_15 x_15 x_15];unfold pZ;rw[decide_eq_true sE];rw[qF bZ hk (by have q:=mF;rw[Bool.not_eq_true']at q;rw[List.getElem_drop];exact q)];rfl
  intro mF;refine aK<|gB<|gT<|aL<|bg Z<|ae Z<|Y ?_;refine⟨k+1,hI.next bZ hk (by have q:=mF;rw[Bool.not_eq_false']at q;rw[List.getElem_drop];exact q),by omega,x_12,trivial,rfl,rfl⟩
 intro m7;refine aE<|eT<|eT<|eB<|gA<|cI Z<|Y<|aR ?_;refine az trivial ?_;refine Eq.symm ?_;rw[wC x_15 (by grind[aI,fU]) (by grind[aI]) x_15 x_15 x_15 x_15];unfold pZ;rw[decide_eq_true sE];rw[hI.all x_15 x_33];rfl

structure E9(h:mm):Prop where
 d:vU h.log.bT
 lc:h.book.ag.length<=1048576
 lh:h.book.an.length<=1048576
 li:h.book.aq.length<=1048576
 ll:h.ia.lines.length<=1048576
 lw:h.wait.length<=1048576
 ls:h.f9.length<=1048576
structure It(h:mm):Prop where
 mc:h.log.bT.cells.length<=9223372036854775807
 bc:∀c∈h.log.bT.cells,c.bytes.length<=9223372036854775807
 mw:h.log.bT.bu.length<=9223372036854775807
 bw:∀c∈h.log.bT.bu,c.bytes.length<=9223372036854775807
 lc:h.book.ag.length<=9223372036854775807
 lh:h.book.an.length<=9223372036854775807
 li:h.book.aq.length<=9223372036854775807
 ll:h.ia.lines.length<=9223372036854775807
 lw:h.wait.length<=9223372036854775807
 ls:h.f9.length<=9223372036854775807
 db:qK h.log.bT
 wc:∀c∈h.book.ag,qn c
 wh:∀c∈h.book.an,ue c
 wi:∀c∈h.book.aq,vo c

abbrev y5:AV:=.p (.v (.slice none 0 0))

def afV(h:mm):AV->List (Nat×AO)->List AO->Prop:=fun y l1 F1=>∃vs us:List Value,vs.length=h.log.bT.cells.length/\us.length=h.log.bT.bu.length/\y=ack h/\l1=obH vs us h/\F1=sY vs us h.log.bT
abbrev afW(x:aw):AV:=.agg [int x.tick,int x.next,int x.aA,.own 1,.own 2,.own 3]
theorem agh(x:aw)(hc:x.ag.length<=1048576)(hh:x.an.length<=1048576)(hi:x.aq.length<=1048576):GC prog 56 [cj x] [] (afW x) (Jz x):=by
 refine GC.intro (rs:=[.cell 2 50 (some 6)]) func56 rfl ntmps56 x_8 ⟨rfl,rfl,cu,trivial⟩ ?_;intro L O w0;refine sL<|ab (zX 2001 rfl) Z<|ab (zA 2002 mD rfl) Z<|nA<|lf 3 dr Z<|bo eg Z<|ab (qJ 1 rfl rfl x_3 cz dy rfl x_3 rfl (Src.p rfl) x_99 (Nat.le_trans (Nat.mul_le_mul_left _ jL) x_131)) Z<|lf 3 dr Z<|ab (zB 2001 sM sN rfl) Z<|nA<|lf 4 eF Z<|bo fS Z<|ab (qJ 2 rfl rfl x_3 f7 iu rfl x_3 rfl (Src.p rfl) x_99 (Nat.le_trans (Nat.mul_le_mul_left _ sQ) x_131)) Z<|lf 4 eF Z<|ab (zB 2001 tQ tR rfl) Z<|nA<|lf 5 gn Z<|bo ii Z<|ab (qJ 3 rfl rfl x_3 iI jO rfl x_3 rfl (Src.p rfl) x_99 (Nat.le_trans (Nat.mul_le_mul_left _ wI) x_131)) Z<|lT [1,2,13] [1,2,3,2001,2002] ?_;refine lf 5 gn Z<|ab (zB 2001 yh yk Z) Z<|nA<|aP (.agg [U _ _,U _ _,U _ _,.own _,.own _,.own _]) cu Z<|ab (zB 2002 eu ew Z) Z<|Y<|aR ?_;refine ax ?_ ⟨rfl,rfl,rfl,trivial⟩;rfl
theorem agi{h:mm}(q:zV h=true):h.ia.lines.length<=320:=by
 have hB:=(Dr (Dp h.log.bT)).ll;have hs:qE (d5 (f8 h.log.bT)).1 h.ia=true:=by
  unfold zV at q;simp only[Bool.and_eq_true]at q;simp_all
 by_cases e:(d5 (f8 h.log.bT)).1.lines.length=h.ia.lines.length
 ·omega
 unfold qE at hs;rw[tD e,Bool.and_false]at hs;cases hs
theorem agj(l:uW):(afM l).bT.cells.length+(afM l).bT.bu.length<=10000000:=by
 cases h:ik l.bT
 ·rw[afU h];decide
 rw[afS h];have gR:=(wL h).1;show (abM l.bT).cells.length+(abM l.bT).bu.length<=_;rw[acu h,abW];show l.bT.cells.length+0<=_;omega
def afL(h:mm):mm:=if zV h=true then ⟨afM h.log,h.book,h.ia,[],h.f9++h.wait⟩else acj
theorem afX{h:mm}(q:zV h=false):afL h=acj:=if_neg (by simp[q])
theorem afY{h:mm}(q:zV h=true):afL h=⟨afM h.log,h.book,h.ia,[],h.f9++h.wait⟩:=if_pos q
def afZ(h:mm):AV->List (Nat×AO)->List AO->Prop:=afV (afL h)
theorem x_76{p:Prop}(c:p:=by exact congrArg (AO.ai 81 7) (fx fR _ _).symm):p:=c
theorem af3(h:mm)(hk:It h)(hz:E9 h):GN prog 14 [Bu h] [] ([]) (afZ h):=by
 refine GN.intro (rs:=[.cell 2 56 (some 14)]) func14 rfl ntmps14 x_8 ⟨rfl,rfl,EZ,trivial⟩ rfl ?_;intro L O w0;refine sL<|ab (zX 2001 Z) Z<|ab (zA 2002 Ig Z) Z<|Y<|aS<|sL<|aP (.agg [vL _ _ _,vL _ _ _,U _ _,U _ _,U _ _,U _ _,U _ _,vL _ _ _,vL _ _ _,vL _ _ _,U _ _,vL _ _ _,vL _ _ _,vL _ _ _]) EZ Z ?_;refine ab (zC [] [] [] func31 (QS h hk.db ⟨hk.wc,hk.wh,hk.wi,hz.lc⟩ ⟨hz.lc,hz.lh,hz.li⟩ hz.ll hz.lw hz.ls) (trivial) rfl rfl) Z<|bX Z<|Y ?_;refine AW.cond rfl ?_ ?_
 ·intro V;refine sL<|lq (rd (x:=.agg [vV _,vV _,U _ _,U _ _,U _ _,U _ _,U _ _,vV _,vV _,vV _,U _ _,vV _,vV _,vV _]) (cP Z acf Z Z Z) Z)<|ab (zB 2002 NA NB Z) Z<|Y ?_;refine AW.pi 1 2002 0 195 1 rfl x_3 rfl ?_;refine AW.pi 2 2002 1 192 2 rfl x_3 rfl ?_;refine AW.pi 3 2002 7 159 7 rfl x_3 rfl ?_;refine AW.pi 4 2002 8 218 7 rfl x_3 rfl ?_;refine AW.pi 5 2002 9 220 5 rfl x_3 rfl ?_;refine AW.pi 6 2002 11 167 3 rfl x_3 rfl ?_;refine AW.pi 7 2002 12 81 7 rfl x_3 rfl ?_;refine AW.pi 8 2002 13 81 7 rfl x_3 rfl ?_;refine aR<|rT ?_;have hq:zV h=false:=by have h:=V;simpa using h
  unfold afZ;rw[afX hq];refine vW (F1:=[]) (ack acj) (obH [] [] acj) ?_ x_3 rfl rfl ⟨rfl,rfl,rfl,rfl,rfl,rfl,rfl,rfl,trivial⟩ ki;exact⟨[],[],rfl,rfl,rfl,rfl,rfl⟩
 intro V;refine aK<|gT<|aS ?_;have hq:zV h=true:=by have h:=V;simpa using h
 have T7:=hz.ls;have hlw:=hz.lw;have rl:=agi hq;refine aG 16 [1,2,3,4,5,6,8]<|tq 0 (rf 0 qL Z)<|tq 1 (dw (.agg [vL _ _ _,vL _ _ _,U _ _,U _ _]) EY Z)<|tq 3 (rf 4 Bw Z)<|tq 4 (dw (.agg [U _ _,U _ _,U _ _,vL _ _ _,vL _ _ _,vL _ _ _]) cu Z)<|tq 6 (rf 10 Bx Z)<|tq 7 (dw (.agg [U _ _,vL _ _ _]) eZ Z)<|tq 9 (rf 13 By Z)<|tq 10 (jj tE Z)<|tq 12 (rf 12 Bz Z)<|tq 13 (jj tE Z) ?_;refine abA (i:=2) rfl x_34 (A2 (F:=[]) [(1,1),(2,2)] [1,2] [] ([]).length func55 (af' h.log) ki List.drop_length List.take_length (Nat.le_refl _) (x_20) (fun _ _ _ _=>trivial) rfl rfl) (exK (l:=[]) rfl rfl) rfl ?_;rintro _ _ ⟨xz2,oz2,Fz2,hz2,hF2,hM2,rfl,rfl⟩;obtain⟨vs,us,hv,hu,rfl,rfl,rfl⟩:=hz2;have abt:dS ([]++sY vs us (afM h.log).bT):=dS.gJ x_40 hF2;refine cm 5 rfl (zC [(1,3),(2,4),(3,5)] [3,4,5] [] func56 (agh h.book hz.lc hz.lh hz.li) (trivial) rfl rfl)<|cm 8 rfl (zC [(51,6)] [6] [] func57 (adZ h.ia x_2) (trivial) rfl rfl)<|cm 11 rfl (zC [(1,8)] [8] [] func58 (QO h.f9 hz.ls) (trivial) rfl rfl)<|cm 14 rfl (zP 8 jk jl sD rfl (Src.p rfl))<|yq 15 (rd (x:=.agg [.own _,.own _,U _ _,U _ _,U _ _,U _ _,U _ _,.own _,.own _,.own _,U _ _,.own _,vV _,.own _]) (cP rfl acf rfl rfl rfl) rfl)<|yl rfl (zB 2002 NA NB rfl)<|gT ?_;refine AW.pi 7 2002 12 81 7 rfl x_3 rfl ?_;refine aR ?_;have abu:dS (sY vs us (afM h.log).bT):=TJ;rw[List.nil_append];unfold afZ;rw[afY hq];refine vW (F1:=(sY vs us (afM h.log).bT)) (ack ⟨afM h.log,h.book,h.ia,[],h.f9++h.wait⟩) (obH vs us ⟨afM h.log,h.book,h.ia,[],h.f9++h.wait⟩) ?_ (by rw[SD hv hu];exact agj h.log) rfl rfl ⟨rfl,rfl,rfl,rfl,rfl,rfl,rfl,x_76,trivial⟩ ki;exact⟨vs,us,hv,hu,rfl,rfl,rfl⟩
end Go.Proofs.YtflhgkmhmcfimaaGreat

