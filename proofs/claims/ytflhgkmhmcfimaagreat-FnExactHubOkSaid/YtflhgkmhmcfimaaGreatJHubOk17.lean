/- Texts of the proof of FnFnExactHubOk, joined: EU1, E35, EU2, EU3. -/
import Derived.Test.YtflhgkmhmcfimaaGreatJHubOk14
import Derived.Test.YtflhgkmhmcfimaaGreatJHubOk16
import Derived.Test.YtflhgkmhmcfimaaGreatJHubOk4
namespace Go.Proofs.YtflhgkmhmcfimaaGreat
open Tryz
open Go.RowKit
set_option maxHeartbeats 16000000
set_option maxRecDepth 100000
set_option linter.unusedSimpArgs false
set_option linter.unusedVariables false
def ja{α:Type}(enc:α->List Value)(l m:List α)(k:Nat):Prop:=∀j (V:j<l.length) (h2:j<m.length),j<k->dA (enc l[j]) (enc m[j])=true
theorem ja.zero{α:Type}(enc:α->List Value)(l m:List α):ja enc l m 0:=fun j _ _ h=>absurd h (by omega)
theorem ja.next{α:Type}{enc:α->List Value}{l m:List α}{k:Nat}(h:ja enc l m k)(V:k<l.length)(h2:k<m.length)(e:dA (enc l[k]) (enc m[k])=true):ja enc l m (k+1):=fun j q1 q2 q3=>by
 by_cases r:j=k
 ·grind
 exact h j q1 q2 (by omega)
theorem ja.all{α:Type}{enc:α->List Value}{l m:List α}{k:Nat}(h:ja enc l m k)(hl:l.length=m.length)(hk:¬k<l.length):lZ enc l m=true:=JR hl fun j q1 q2=>h j q1 q2 (by omega)
theorem FO : prog.fieldsOf 167 = ([{ name := "Acc",type := 165,offset := 0,embedded := false,tag := "",pkgPath := "",byteOffset := 0 },{ name := "Amt",type := 3,offset := 2,embedded := false,tag := "",pkgPath := "",byteOffset := 16 }] : List Field).toArray := by rfl
theorem JS:prog.underlying 167=some (.struct (prog.fieldsOf 167)):=by rfl
theorem JT:prog.stoodInHeld 167=false:=by simp
theorem JU:prog.eqGuardType prog.depth 167=false:=by simp
theorem JV(l:List Int)(hn:l.length<=9007199254740992):GC prog 176 [.p (.ab 3 1 (ah kt l))] [] (aD (eK l)) []:=by
 refine gi 2 func176 rfl ntmps176 rfl ?_;intro L O w0;refine sL<|ar Z<|Y<|aS<|sL<|bm Z<|ba x4 Z<|ae Z<|Y<|aB ?_;refine aW [2,5,6] [] (D:=Nat) (fun k=>[(7,int (k:Int))]) (fun k=>[]) (fun k=>∀j (h:j<l.length),j<k->l[j]=0) (fun k=>l.length-k) (0) (fun _ _ h=>absurd h (by omega)) ⟨rfl,trivial⟩ trivial ?_;intro k hI;refine sL<|ak Z<|Y<|aS ?_;refine AW.cond rfl ?_ ?_
 ·intro V;refine aK<|gT<|aS<|aB<|sL ?_;have hk:k<l.length:=by simpa[ap]using V
  refine li k iU Z (bS hk)<|oy ac Z<|ao Z<|nA<|ae Z<|ak Z<|Y ?_;refine AW.cond rfl ?_ ?_
  ·intro h2;refine sL<|ar Z<|Y<|aR<|rB<|rT<|rT<|rB<|rT ?_;refine az trivial ?_;exact(Bool.eq_false_iff.2 fun q=>by have h:=h2;have:=List.all_eq_true.1 q _ (List.getElem_mem hk);grind).symm
  intro h2;refine aK<|gB<|gT<|aL<|bg Z<|ae Z<|Y ?_;refine⟨k+1,fun j q1 q2=>by
   grind,by omega,⟨(iq rfl),trivial⟩,trivial,rfl,rfl⟩
 intro V;refine aE<|eT<|eT<|eB<|gA<|cI Z<|Y<|aR ?_;refine az trivial ?_;exact(List.all_eq_true.2 fun z hz=>by obtain⟨j,hj,rfl⟩:=List.getElem_of_mem hz;grind[ap]).symm
theorem Qu(a b:cH)(hn:a.lines.length<=9007199254740992)(hm:b.lines.length<=9007199254740992):GC prog 94 [cR a,cR b] [] (aD (qE a b)) []:=by
 refine gi 4 func94 rfl ntmps94 rfl ?_;intro L O w0;refine sL<|ab (zX 2002 Z) Z<|ab (zX 2003 Z) Z<|ar Z<|Y<|aS<|sL<|lf 0 pW Z<|aj ac Z<|lf 0 pW Z<|aj ac Z<|ak Z<|aQ Z ?_;refine AL.bool (t:=11) rfl ?_ ?_
 ·intro V;refine aa Z<|aa Z<|aa Z<|aa Z<|aa Z<|aa Z<|aa Z<|aU Z<|Y<|aY Z<|sL<|ar Z<|Y<|aR<|rT ?_;refine az trivial ?_;grind[qE]
 intro V;refine lf 1 jY Z<|bo gY Z<|ba hZ Z<|lf 1 jY Z<|bo gY Z<|ba hZ Z<|ak Z<|bj Z<|Y ?_;refine AW.cond rfl ?_ ?_
 ·intro h2;refine sL<|ar Z<|Y<|aR<|rT ?_;refine az trivial ?_;unfold qE;rw[tD (by grind[ap]),Bool.and_false]
 intro h2;refine aK<|gT<|aS<|sL ?_;have q1:a.last=b.last:=by have h:=V;simpa using h
 have q2:a.lines.length=b.lines.length:=by have h:=h2;simp[ap]at h;omega
 refine lf 1 jY Z<|bo gY Z<|ba hZ Z<|ae Z<|Y<|aB ?_;refine aW [2,3,4,22] [2002,2003] (D:=Nat) (fun k=>[(23,int (k:Int))]) (fun k=>[]) (fun k=>ja ct a.lines b.lines k) (fun k=>a.lines.length-k) (0) (ja.zero _ _ _) ⟨rfl,trivial⟩ trivial ?_;intro k hI;refine sL<|ak Z<|Y<|aS ?_;refine AW.cond rfl ?_ ?_
 ·intro h3;refine aK<|gT<|aS<|aB<|sL<|ae Z<|ao Z<|Y<|aS<|aF []<|pq 0 (qf 1 jY Z)<|sq 1 (jj gY Z)<|pq 2 (gL (U _ _) Z)<|fT [2,3,4,5,22,23,27,28] [2002,2003] ?_;have hk:k<a.lines.length:=by simpa[ap]using h3
  have iy:k<b.lines.length:=by omega
  refine sq 3 (ri k cV rfl (bS hk))<|sq 4 (gm (.agg [U _ _,U _ _,U _ _]) iV rfl)<|pq 5 (qf 1 jY rfl)<|sq 6 (jj gY rfl)<|vq 7 (dW rfl)<|vq 8 (ri k cV rfl (bS iy))<|vq 9 (gm (.agg [U _ _,U _ _,U _ _]) iV rfl)<|vq 10 (rd (x:=vB _) (JW (a:=[_,_]) (b:=[_,_]) (r:=[_]) (r':=[_]) rfl (.inr rfl) rfl rfl FO JS JT JU (by decide) rfl wA uR wB Dm (Eq.refl 2) ?hn1 ?hn2) rfl) ?_;case hn1=>exact⟨rfl,by decide,rfl,⟨_,underlying3⟩,rfl,by decide,rfl,⟨_,underlying3⟩,trivial⟩
  case hn2=>exact⟨rfl,by decide,rfl,⟨_,underlying3⟩,trivial⟩
  refine fD<|gT ?_;refine AW.cond rfl ?_ ?_
  ·intro h4;refine sL<|ar Z<|Y<|aR<|rB<|rT<|rT<|rB<|rT ?_;refine az trivial ?_;unfold qE;rw[qF hk iy (by have h:=h4;rw[Bool.not_eq_true']at h;exact h),Bool.and_false]
  intro h4;refine aK<|gB<|gT<|aL<|bg Z<|ae Z<|Y ?_;refine⟨k+1,hI.next hk iy (by have h:=h4;rw[Bool.not_eq_false']at h;exact h),by omega,⟨(iq rfl),trivial⟩,trivial,rfl,rfl⟩
 intro h3;refine aE<|eT<|eT<|eB<|gA<|cI Z<|Y<|aR ?_;refine az trivial ?_;unfold qE;rw[hI.all q2 (by grind[ap]),decide_eq_true q1];rfl
theorem Qv(a b:cH)(hn:a.lines.length<=9007199254740992)(hm:b.lines.length<=9007199254740992):GC prog 90 [cR a,cR b] [] (aD (qE a b)) []:=by
 refine gi 4 func90 rfl ntmps90 rfl ?_;intro L O w0;refine sL<|ab (zX 2002 Z) Z<|ab (zX 2003 Z) Z<|ar Z<|Y<|aS<|sL<|lf 0 pW Z<|aj ac Z<|lf 0 pW Z<|aj ac Z<|ak Z<|aQ Z ?_;refine AL.bool (t:=11) rfl ?_ ?_
 ·intro V;refine aa Z<|aa Z<|aa Z<|aa Z<|aa Z<|aa Z<|aa Z<|aU Z<|Y<|aY Z<|sL<|ar Z<|Y<|aR<|rT ?_;refine az trivial ?_;grind[qE]
 intro V;refine lf 1 jY Z<|bo gY Z<|ba hZ Z<|lf 1 jY Z<|bo gY Z<|ba hZ Z<|ak Z<|bj Z<|Y ?_;refine AW.cond rfl ?_ ?_
 ·intro h2;refine sL<|ar Z<|Y<|aR<|rT ?_;refine az trivial ?_;unfold qE;rw[tD (by grind[ap]),Bool.and_false]
 intro h2;refine aK<|gT<|aS<|sL ?_;have q1:a.last=b.last:=by have h:=V;simpa using h
 have q2:a.lines.length=b.lines.length:=by have h:=h2;simp[ap]at h;omega
 refine lf 1 jY Z<|bo gY Z<|ba hZ Z<|ae Z<|Y<|aB ?_;refine aW [2,3,4,22] [2002,2003] (D:=Nat) (fun k=>[(23,int (k:Int))]) (fun k=>[]) (fun k=>ja ct a.lines b.lines k) (fun k=>a.lines.length-k) (0) (ja.zero _ _ _) ⟨rfl,trivial⟩ trivial ?_;intro k hI;refine sL<|ak Z<|Y<|aS ?_;refine AW.cond rfl ?_ ?_
 ·intro h3;refine aK<|gT<|aS<|aB<|sL<|ae Z<|ao Z<|Y<|aS<|aF []<|pq 0 (qf 1 jY Z)<|sq 1 (jj gY Z)<|pq 2 (gL (U _ _) Z)<|fT [2,3,4,5,22,23,27,28] [2002,2003] ?_;have hk:k<a.lines.length:=by simpa[ap]using h3
  have iy:k<b.lines.length:=by omega
  refine sq 3 (ri k cV rfl (bS hk))<|sq 4 (gm (.agg [U _ _,U _ _,U _ _]) iV rfl)<|pq 5 (qf 1 jY rfl)<|sq 6 (jj gY rfl)<|vq 7 (dW rfl)<|vq 8 (ri k cV rfl (bS iy))<|vq 9 (gm (.agg [U _ _,U _ _,U _ _]) iV rfl)<|vq 10 (rd (x:=vB _) (JW (a:=[_,_]) (b:=[_,_]) (r:=[_]) (r':=[_]) rfl (.inr rfl) rfl rfl FO JS JT JU (by decide) rfl wA uR wB Dm (Eq.refl 2) ?hn1 ?hn2) rfl) ?_;case hn1=>exact⟨rfl,by decide,rfl,⟨_,underlying3⟩,rfl,by decide,rfl,⟨_,underlying3⟩,trivial⟩
  case hn2=>exact⟨rfl,by decide,rfl,⟨_,underlying3⟩,trivial⟩
  refine fD<|gT ?_;refine AW.cond rfl ?_ ?_
  ·intro h4;refine sL<|ar Z<|Y<|aR<|rB<|rT<|rT<|rB<|rT ?_;refine az trivial ?_;unfold qE;rw[qF hk iy (by have h:=h4;rw[Bool.not_eq_true']at h;exact h),Bool.and_false]
  intro h4;refine aK<|gB<|gT<|aL<|bg Z<|ae Z<|Y ?_;refine⟨k+1,hI.next hk iy (by have h:=h4;rw[Bool.not_eq_false']at h;exact h),by omega,⟨(iq rfl),trivial⟩,trivial,rfl,rfl⟩
 intro h3;refine aE<|eT<|eT<|eB<|gA<|cI Z<|Y<|aR ?_;refine az trivial ?_;unfold qE;rw[hI.all q2 (by grind[ap]),decide_eq_true q1];rfl
theorem Qw(a b:List aV)(hn:a.length<=9007199254740992)(hm:b.length<=9007199254740992):GC prog 95 [.p (.ab 81 7 (ah fR a)),.p (.ab 81 7 (ah fR b))] [] (aD (lZ fR a b)) []:=by
 refine gi 4 func95 rfl ntmps95 rfl ?_;intro L O w0;refine sL<|ar Z<|Y<|aS<|sL<|bm Z<|ba jZ Z<|bm Z<|ba jZ Z<|ak Z<|Y ?_;refine AW.cond rfl ?_ ?_
 ·intro V;refine sL<|ar Z<|Y<|aR<|rT ?_;refine az trivial ?_;grind[tD,ap]
 intro V;refine aK<|gT<|aS<|sL ?_;have q2:a.length=b.length:=by have h:=V;simp[ap]at h;omega
 refine bm Z<|ba jZ Z<|ae Z<|Y<|aB ?_;refine aW [0,1,4,12] [] (D:=Nat) (fun k=>[(13,int (k:Int))]) (fun k=>[]) (fun k=>ja fR a b k) (fun k=>a.length-k) (0) (ja.zero _ _ _) ⟨rfl,trivial⟩ trivial ?_;intro k hI;refine sL<|ak Z<|Y<|aS ?_;refine AW.cond rfl ?_ ?_
 ·intro h2;refine aK<|gT<|aS<|aB<|sL<|ae Z<|ao Z<|Y<|aS<|aF []<|pq 0 (iz Z)<|pq 1 (gL (U _ _) Z) ?_;have hk:k<a.length:=by simpa[ap]using h2
  have iy:k<b.length:=by omega
  refine sq 2 (ri k jk rfl (bS hk))<|sq 3 (gm (.agg [U _ _,U _ _,U _ _,U _ _,U _ _,U _ _,vB _]) dD rfl)<|pq 4 (iz rfl)<|vq 5 (dW rfl)<|vq 6 (ri k jk rfl (bS iy))<|vq 7 (gm (.agg [U _ _,U _ _,U _ _,U _ _,U _ _,U _ _,vB _]) dD rfl)<|vq 8 (rd (x:=vB _) (j0 rfl (.inr rfl) rfl rfl oz pe pf pg ?hn1) rfl) ?_;case hn1=>exact⟨rfl,by decide,rfl,⟨_,underlying3⟩,rfl,by decide,rfl,⟨_,underlying3⟩,rfl,by decide,rfl,⟨_,underlying3⟩,rfl,by decide,rfl,⟨_,underlying3⟩,rfl,by decide,rfl,⟨_,underlying3⟩,rfl,by decide,rfl,⟨_,underlying3⟩,by decide,rfl,underlying4,trivial⟩
  refine fD<|gT ?_;refine AW.cond rfl ?_ ?_
  ·intro h3;refine sL<|ar Z<|Y<|aR<|rB<|rT<|rT<|rB<|rT ?_;refine az trivial ?_;rw[qF hk iy (by have h:=h3;rw[Bool.not_eq_true']at h;exact h)]
  intro h3;refine aK<|gB<|gT<|aL<|bg Z<|ae Z<|Y ?_;refine⟨k+1,hI.next hk iy (by have h:=h3;rw[Bool.not_eq_false']at h;exact h),by omega,⟨(iq rfl),trivial⟩,trivial,rfl,rfl⟩
 intro h2;refine aE<|eT<|eT<|eB<|gA<|cI Z<|Y<|aR ?_;refine az trivial ?_;rw[hI.all q2 (by grind[ap])]
theorem Qx(x y:aw)(n8:x.ag.length<=1000)(ph:x.an.length<=1000)(qG:x.aq.length<=1000):GC prog 102 [cj x,cj y] [] (aD (kY x y)) []:=by
 refine gi 4 func102 rfl ntmps102 rfl ?_;intro L O w0;refine sL<|ab (zX 2002 Z) Z<|ab (zX 2003 Z) Z<|ar Z<|Y<|aS<|sL<|lf 0 mB Z<|aj ac Z<|lf 0 mB Z<|aj ac Z<|ak Z<|aQ Z ?_;refine AL.bool (t:=13) rfl ?_ ?_
 ·intro V;refine aa Z<|aa Z<|aa Z<|aa Z<|aa Z<|aU Z<|bM Z<|aa Z<|aa Z<|aa Z<|aa Z<|aa Z<|aU Z<|bM Z<|aa Z<|aa Z<|aa Z<|aa Z<|aa Z<|aa Z<|aa Z<|aU Z<|bM Z<|aa Z<|aa Z<|aa Z<|aa Z<|aa Z<|aa Z<|aa Z ?_;refine aU Z<|bM Z<|aa Z<|aa Z<|aa Z<|aa Z<|aa Z<|aa Z<|aa Z<|aU Z<|Y<|aY Z<|sL<|ar Z<|Y<|aR<|rT ?_;refine az trivial ?_;grind[kY]
 intro V;refine lf 1 mW Z<|aj ac Z<|lf 1 mW Z<|aj ac Z<|ak Z<|bj Z<|aQ Z ?_;refine AL.bool (t:=20) rfl ?_ ?_
 ·intro h2;refine aa Z<|aa Z<|aa Z<|aa Z<|aa Z<|aU Z<|bM Z<|aa Z<|aa Z<|aa Z<|aa Z<|aa Z<|aa Z<|aa Z<|aU Z<|bM Z<|lT [2,3,4,36] [2002,2003] ?_;refine aa Z<|aa Z<|aa Z<|aa Z<|aa Z<|aa Z<|aa Z<|aU Z<|bM Z<|aa Z<|aa Z<|aa Z<|aa Z<|aa Z<|aa Z<|aa Z<|aU Z<|Y<|aY Z<|sL<|ar Z<|Y<|aR<|rT ?_;refine az trivial ?_;grind[kY]
 intro h2;refine lf 2 iW Z<|aj ac Z<|lf 2 iW Z<|aj ac Z<|ak Z<|bj Z<|aQ Z ?_;refine AL.bool (t:=27) rfl ?_ ?_
 ·intro h3;refine aa Z<|aa Z<|aa Z<|aa Z<|aa Z<|aa Z<|aa Z<|aU Z<|bM Z<|aa Z<|aa Z<|aa Z<|aa Z<|aa Z<|aa Z<|aa Z<|aU Z<|bM Z<|aa Z<|aa Z<|aa Z<|aa Z<|aa Z<|aa Z<|aa Z<|aU Z<|Y<|aY Z<|aS ?_;refine aL<|ar Z<|Y<|aR<|rT ?_;refine az trivial ?_;grind[kY]
 intro h3;refine lf 3 dr Z<|bo eg Z<|ba kJ Z<|lf 3 dr Z<|bo eg Z<|ba kJ Z<|ak Z<|bj Z<|aQ Z ?_;refine AL.bool (t:=36) rfl ?_ ?_
 ·intro h4;refine aa Z<|aa Z<|aa Z<|aa Z<|aa Z<|aa Z<|aa Z<|aU Z<|bM Z<|aa Z<|aa Z<|aa Z<|aa Z<|aa Z<|aa Z<|aa Z<|aU Z<|Y<|aY Z<|sL<|ar Z<|lT [2,3,4] [2002,2003] ?_;refine Y<|aR<|rT ?_;refine az trivial ?_;grind[kY,tD,ap]
 intro h4;refine lf 4 eF Z<|bo fS Z<|ba jb Z<|lf 4 eF Z<|bo fS Z<|ba jb Z<|ak Z<|bj Z<|aQ Z ?_;refine AL.bool (t:=45) rfl ?_ ?_
 ·intro h5;refine aa Z<|aa Z<|aa Z<|aa Z<|aa Z<|aa Z<|aa Z<|aU Z<|Y<|aY Z<|sL<|ar Z<|Y<|aR<|rT ?_;refine az trivial ?_;grind[kY,tD,ap]
 intro h5;refine lf 5 gn Z<|bo ii Z<|ba j7 Z<|lf 5 gn Z<|bo ii Z<|ba j7 Z<|ak Z<|bj Z<|Y ?_;refine AW.cond rfl ?_ ?_
 ·intro h6;refine sL<|ar Z<|Y<|aR<|rT ?_;refine az trivial ?_;grind[kY,tD,ap]
 intro h6;refine aK<|gT<|aS<|sL<|lf 3 dr Z<|bo eg Z ?_;have s3:x.ag.length=y.ag.length:=by have h:=h4;simp[ap]at h;omega
 have s4:x.an.length=y.an.length:=by have h:=h5;simp[ap]at h;omega
 have s5:x.aq.length=y.aq.length:=by have h:=h6;simp[ap]at h;omega
 have s0:x.tick=y.tick:=by have h:=V;simp at h;omega
 have s1:x.next=y.next:=by have h:=h2;simp at h;omega
 have s2:x.aA=y.aA:=by have h:=h3;simp at h;omega
 refine ba kJ Z<|ae Z<|Y<|aB ?_;refine aW [2,3,4,56] [2002,2003] (D:=Nat) (fun k=>[(57,int (k:Int))]) (fun k=>[]) (fun k=>ja aX x.ag y.ag k) (fun k=>x.ag.length-k) (0) (ja.zero _ _ _) ⟨rfl,trivial⟩ trivial ?_;intro k hI;refine sL<|ak Z<|Y<|aS ?_;refine AW.cond rfl ?_ ?_
 ·intro h7;refine aK<|gT<|aS<|aB<|sL<|ae Z<|ao Z<|Y<|aS<|aF []<|pq 0 (qf 3 dr Z)<|sq 1 (jj eg Z)<|pq 2 (gL (U _ _) Z)<|fT [2,3,4,5,56,57,61,62] [2002,2003] ?_;have hk:k<x.ag.length:=by simpa[ap]using h7
  have iy:k<y.ag.length:=by omega
  refine sq 3 (ri k cz rfl (bS hk))<|sq 4 (gm (.agg [U _ _,U _ _,U _ _,U _ _,U _ _,U _ _,U _ _]) fF rfl)<|pq 5 (qf 3 dr rfl)<|sq 6 (jj eg rfl)<|vq 7 (dW rfl)<|vq 8 (ri k cz rfl (bS iy))<|vq 9 (gm (.agg [U _ _,U _ _,U _ _,U _ _,U _ _,U _ _,U _ _]) fF rfl)<|vq 10 (rd (x:=vB _) (j0 rfl (.inr rfl) rfl rfl FP JX JY JZ ?hn1) rfl) ?_;case hn1=>exact⟨rfl,by decide,rfl,⟨_,underlying3⟩,rfl,by decide,rfl,⟨_,underlying3⟩,rfl,by decide,rfl,⟨_,underlying3⟩,rfl,by decide,rfl,⟨_,underlying3⟩,rfl,by decide,rfl,⟨_,underlying3⟩,rfl,by decide,rfl,⟨_,underlying3⟩,rfl,by decide,rfl,⟨_,underlying3⟩,trivial⟩
  refine fD<|gT ?_;refine AW.cond rfl ?_ ?_
  ·intro h8;refine sL<|ar Z<|Y<|aR<|rB<|rT<|rT<|rB<|rT ?_;refine az trivial ?_;unfold kY;rw[qF hk iy (by have h:=h8;rw[Bool.not_eq_true']at h;exact h)];simp
  intro h8;refine aK<|gB<|gT<|aL<|bg Z<|ae Z<|Y ?_;refine⟨k+1,hI.next hk iy (by have h:=h8;rw[Bool.not_eq_false']at h;exact h),by omega,⟨(iq rfl),trivial⟩,trivial,rfl,rfl⟩
 intro h7;refine aE<|eT<|eT<|eB<|gT<|aS<|aS ?_;have e1:=hI.all s3 (by grind[ap]);clear hI;refine aL<|lf 4 eF Z<|bo fS Z<|ba jb Z<|ae Z<|Y<|aB ?_;refine aW [2,3,4,74] [2002,2003] (D:=Nat) (fun k=>[(75,int (k:Int))]) (fun k=>[]) (fun k=>ja go x.an y.an k) (fun k=>x.an.length-k) (0) (ja.zero _ _ _) ⟨rfl,trivial⟩ trivial ?_;intro k hI;refine sL<|ak Z<|Y<|aS ?_;refine AW.cond rfl ?_ ?_
 ·intro h9;refine aK<|gT<|aS<|aB<|sL<|ae Z<|ao Z<|Y<|aS<|aF []<|pq 0 (qf 4 eF Z)<|sq 1 (jj fS Z)<|pq 2 (gL (U _ _) Z) ?_;have hk:k<x.an.length:=by simpa[ap]using h9
  have iy:k<y.an.length:=by omega
  refine sq 3 (ri k f7 rfl (bS hk))<|sq 4 (gm (.agg [U _ _,U _ _,U _ _,U _ _,U _ _,vB _,U _ _]) kZ rfl)<|pq 5 (qf 4 eF rfl)<|sq 6 (jj fS rfl)<|vq 7 (dW rfl)<|vq 8 (ri k f7 rfl (bS iy))<|vq 9 (gm (.agg [U _ _,U _ _,U _ _,U _ _,U _ _,vB _,U _ _]) kZ rfl)<|vq 10 (rd (x:=vB _) (j0 rfl (.inr rfl) rfl rfl FQ J0 J1 J2 ?hn2) rfl) ?_;case hn2=>exact⟨rfl,by decide,rfl,⟨_,underlying3⟩,rfl,by decide,rfl,⟨_,underlying3⟩,rfl,by decide,rfl,⟨_,underlying3⟩,rfl,by decide,rfl,⟨_,underlying3⟩,rfl,by decide,rfl,⟨_,underlying3⟩,by decide,rfl,underlying4,rfl,by decide,rfl,⟨_,underlying3⟩,trivial⟩
  refine fD<|gT ?_;refine AW.cond rfl ?_ ?_
  ·intro dh;refine sL<|ar Z<|lT [2,3,4,74,75] [2002,2003] ?_;refine Y<|aR<|rB<|rT<|rT<|rB<|rT ?_;refine az trivial ?_;unfold kY;rw[qF hk iy (by have h:=dh;rw[Bool.not_eq_true']at h;exact h)];simp
  intro dh;refine aK<|gB<|gT<|aL<|bg Z<|ae Z<|Y ?_;refine⟨k+1,hI.next hk iy (by have h:=dh;rw[Bool.not_eq_false']at h;exact h),by omega,⟨(iq rfl),trivial⟩,trivial,rfl,rfl⟩
 intro h9;refine aE<|eT<|eT<|eB<|gT<|aS<|aS ?_;have e2:=hI.all s4 (by grind[ap]);clear hI;refine aL<|lf 5 gn Z<|bo ii Z<|ba j7 Z<|ae Z<|Y<|aB ?_;refine aW [2,3,4,92] [2002,2003] (D:=Nat) (fun k=>[(93,int (k:Int))]) (fun k=>[]) (fun k=>ja iX x.aq y.aq k) (fun k=>x.aq.length-k) (0) (ja.zero _ _ _) ⟨rfl,trivial⟩ trivial ?_;intro k hI;refine sL<|ak Z<|Y<|aS ?_;refine AW.cond rfl ?_ ?_
 ·intro gp;refine aK<|gT<|aS<|aB<|sL<|ae Z<|ao Z<|Y<|aS<|aF []<|pq 0 (qf 5 gn Z)<|sq 1 (jj ii Z)<|pq 2 (gL (U _ _) Z) ?_;have hk:k<x.aq.length:=by simpa[ap]using gp
  have iy:k<y.aq.length:=by omega
  refine sq 3 (ri k iI rfl (bS hk))<|sq 4 (gm (.agg [U _ _,U _ _,U _ _,U _ _,U _ _]) l5 rfl)<|pq 5 (qf 5 gn rfl)<|sq 6 (jj ii rfl)<|vq 7 (dW rfl)<|vq 8 (ri k iI rfl (bS iy))<|vq 9 (gm (.agg [U _ _,U _ _,U _ _,U _ _,U _ _]) l5 rfl)<|vq 10 (rd (x:=vB _) (j0 rfl (.inr rfl) rfl rfl FR J3 J4 J5 ?hn3) rfl) ?_;case hn3=>exact⟨rfl,by decide,rfl,⟨_,underlying3⟩,rfl,by decide,rfl,⟨_,underlying3⟩,rfl,by decide,rfl,⟨_,underlying3⟩,rfl,by decide,rfl,⟨_,underlying3⟩,rfl,by decide,rfl,⟨_,underlying3⟩,trivial⟩
  refine fD<|gT ?_;refine AW.cond rfl ?_ ?_
  ·intro gM;refine sL<|ar Z<|Y<|aR<|rB<|rT<|rT<|rB<|rT ?_;refine az trivial ?_;unfold kY;rw[qF hk iy (by have h:=gM;rw[Bool.not_eq_true']at h;exact h)];simp
  intro gM;refine aK<|gB<|gT<|aL<|bg Z<|ae Z<|Y ?_;refine⟨k+1,hI.next hk iy (by have h:=gM;rw[Bool.not_eq_false']at h;exact h),by omega,⟨(iq rfl),trivial⟩,trivial,rfl,rfl⟩
 intro gp;refine aE<|eT<|eT<|eB<|gA<|cI Z<|Y<|aR ?_;refine az trivial ?_;have e3:=hI.all s5 (by have h:=gp;simp[ap]at h;omega);grind[kY]
theorem Qy(x y:aw)(hx:di x)(hy:di y)(hc:y.ag.length<=9007199254740992)(hh:y.an.length<=9007199254740992)(hi:y.aq.length<=9007199254740992):GC prog 89 [cj x,cj y] [] (aD (mC x y)) []:=by
 refine gi 4 func89 rfl ntmps89 rfl ?_;intro L O w0;refine sL<|ab (zX 2002 Z) Z<|ab (zX 2003 Z) Z<|ar Z<|Y<|aS<|sL<|aP (.agg [U _ _,U _ _,U _ _,vL _ _ _,vL _ _ _,vL _ _ _]) cu Z<|ab (zC [] [] [] func179 (Dn x hx) (trivial) Z Z) Z<|bX Z<|aQ Z ?_;refine AL.bool (t:=11) rfl ?_ ?_
 ·intro V;refine aa Z<|aa Z<|aa Z<|aU Z<|bM Z<|aa Z<|aa Z<|aa Z<|aa Z<|aa Z<|aU Z<|bM Z<|aa Z<|aa Z<|aa Z<|aa Z<|aa Z<|aU Z<|bM Z<|aa Z<|aa Z<|aa Z<|aa Z<|aa Z<|aU Z<|bM Z<|aa Z<|aa Z<|aa Z<|aa Z ?_;refine aa Z<|aa Z<|aa Z<|aU Z<|bM Z<|aa Z<|aa Z<|aa Z<|aa Z<|aa Z<|aa Z<|aa Z<|aU Z<|bM Z<|aa Z<|aa Z<|aa Z<|aa Z<|aa Z<|aa Z<|aa Z<|aU Z<|Y<|aY Z<|sL<|ar Z<|Y ?_;refine aR<|rT ?_;refine az trivial ?_;grind[mC]
 intro V;refine aP (.agg [U _ _,U _ _,U _ _,vL _ _ _,vL _ _ _,vL _ _ _]) cu Z<|ab (zC [] [] [] func179 (Dn y hy) (trivial) Z Z) Z<|lT [2,3,4,11,13] [2002,2003] ?_;refine bX Z<|bj Z<|aQ Z ?_;refine AL.bool (t:=16) rfl ?_ ?_
 ·intro h2;refine aa Z<|aa Z<|aa Z<|aa Z<|aa Z<|aU Z<|bM Z<|aa Z<|aa Z<|aa Z<|aa Z<|aa Z<|aU Z<|bM Z<|aa Z<|aa Z<|aa Z<|aa Z<|aa Z<|aU Z<|bM Z<|aa Z<|aa Z<|aa Z<|aa Z<|aa Z<|aa Z<|aa Z<|aU Z<|bM Z ?_;refine aa Z<|aa Z<|aa Z<|aa Z<|aa Z<|aa Z<|aa Z<|aU Z<|bM Z<|aa Z<|aa Z<|aa Z<|aa Z<|aa Z<|aa Z<|aa Z<|aU Z<|Y<|aY Z<|sL<|ar Z<|Y<|aR<|rT ?_;refine az trivial ?_;grind[mC]
 intro h2;refine lf 0 mB Z<|aj ac Z<|lf 0 mB Z<|aj ac Z<|ak Z<|bj Z<|aQ Z ?_;refine AL.bool (t:=23) rfl ?_ ?_
 ·intro h3;refine aa Z<|aa Z<|aa Z<|aa Z<|aa Z<|aU Z<|bM Z<|aa Z<|aa Z<|aa Z<|aa Z<|aa Z<|aU Z<|bM Z<|aa Z<|aa Z<|aa Z<|aa Z<|aa Z<|aa Z<|aa Z<|aU Z<|bM Z<|aa Z<|aa Z<|aa Z<|aa Z<|aa Z<|aa Z<|aa Z ?_;refine aU Z<|bM Z<|lT [2,3,4,55] [2002,2003] ?_;refine aa Z<|aa Z<|aa Z<|aa Z<|aa Z<|aa Z<|aa Z<|aU Z<|Y<|aY Z<|sL<|ar Z<|Y<|aR<|rT ?_;refine az trivial ?_;grind[mC,kY]
 intro h3;refine lf 1 mW Z<|aj ac Z<|lf 1 mW Z<|aj ac Z<|ak Z<|bj Z<|aQ Z ?_;refine AL.bool (t:=30) rfl ?_ ?_
 ·intro h4;refine aa Z<|aa Z<|aa Z<|aa Z<|aa Z<|aU Z<|bM Z<|aa Z<|aa Z<|aa Z<|aa Z<|aa Z<|aa Z<|aa Z<|aU Z<|bM Z<|aa Z<|aa Z<|aa Z<|aa Z<|aa Z<|aa Z<|aa Z<|aU Z<|bM Z<|aa Z<|aa Z<|aa Z<|aa Z<|aa Z ?_;refine aa Z<|aa Z<|aU Z<|Y<|aY Z<|sL<|ar Z<|Y<|aR<|rT ?_;refine az trivial ?_;grind[mC,kY]
 intro h4;refine lf 2 iW Z<|aj ac Z<|lf 2 iW Z<|aj ac Z<|ak Z<|bj Z<|aQ Z ?_;refine AL.bool (t:=37) rfl ?_ ?_
 ·intro h5;refine aa Z<|aa Z<|aa Z<|aa Z<|aa Z<|aa Z<|aa Z<|aU Z<|bM Z<|aa Z<|aa Z<|aa Z<|aa Z<|aa Z<|aa Z<|aa Z<|aU Z<|bM Z<|aa Z<|aa Z<|aa Z<|aa Z<|aa Z<|aa Z<|aa Z<|aU Z<|Y<|aY Z<|aS ?_;refine aL<|ar Z<|lT [2,3,4] [2002,2003] ?_;refine Y<|aR<|rT ?_;refine az trivial ?_;grind[mC,kY]
 intro h5;refine lf 3 dr Z<|bo eg Z<|ba kJ Z<|lf 3 dr Z<|bo eg Z<|ba kJ Z<|ak Z<|bj Z<|aQ Z ?_;refine AL.bool (t:=46) rfl ?_ ?_
 ·intro h6;refine aa Z<|aa Z<|aa Z<|aa Z<|aa Z<|aa Z<|aa Z<|aU Z<|bM Z<|aa Z<|aa Z<|aa Z<|aa Z<|aa Z<|aa Z<|aa Z<|aU Z<|Y<|aY Z<|sL<|ar Z<|Y<|aR<|rT ?_;refine az trivial ?_;grind[mC,kY,tD,ap]
 intro h6;refine lf 4 eF Z<|bo fS Z<|ba jb Z<|lf 4 eF Z<|bo fS Z<|ba jb Z<|ak Z<|bj Z<|aQ Z ?_;refine AL.bool (t:=55) rfl ?_ ?_
 ·intro h7;refine aa Z<|aa Z<|aa Z<|aa Z<|aa Z<|aa Z<|aa Z<|aU Z<|Y<|aY Z<|sL<|ar Z<|Y<|aR<|rT ?_;refine az trivial ?_;grind[mC,kY,tD,ap]
 intro h7;refine lf 5 gn Z<|bo ii Z<|ba j7 Z<|lf 5 gn Z<|bo ii Z<|ba j7 Z<|lT [2,3,4,55,58,61] [2002,2003] ?_;refine ak Z<|bj Z<|Y ?_;refine AW.cond rfl ?_ ?_
 ·intro h8;refine sL<|ar Z<|Y<|aR<|rT ?_;refine az trivial ?_;grind[mC,kY,tD,ap]
 intro h8;refine aK<|gT<|aS<|sL<|lf 3 dr Z<|bo eg Z ?_;have q1:eG x=true:=by have h:=V;simpa using h
 have q2:eG y=true:=by have h:=h2;simpa using h
 have n8:=(mX q1).lc;have ph:=(mX q1).lh;have qG:=(mX q1).li;have s3:x.ag.length=y.ag.length:=by have h:=h6;simp[ap]at h;omega
 have s4:x.an.length=y.an.length:=by have h:=h7;simp[ap]at h;omega
 have s5:x.aq.length=y.aq.length:=by have h:=h8;simp[ap]at h;omega
 have s0:x.tick=y.tick:=by have h:=h3;simp at h;omega
 have s1:x.next=y.next:=by have h:=h4;simp at h;omega
 have s2:x.aA=y.aA:=by have h:=h5;simp at h;omega
 refine ba kJ Z<|ae Z<|Y<|aB ?_;refine aW [2,3,4,66] [2002,2003] (D:=Nat) (fun k=>[(67,int (k:Int))]) (fun k=>[]) (fun k=>ja aX x.ag y.ag k) (fun k=>x.ag.length-k) (0) (ja.zero _ _ _) ⟨rfl,trivial⟩ trivial ?_;intro k hI;refine sL<|ak Z<|Y<|aS ?_;refine AW.cond rfl ?_ ?_
 ·intro h9;refine aK<|gT<|aS<|aB<|sL<|ae Z<|ao Z<|Y<|aS<|aF []<|pq 0 (qf 3 dr Z)<|sq 1 (jj eg Z)<|pq 2 (gL (U _ _) Z) ?_;have hk:k<x.ag.length:=by simpa[ap]using h9
  have iy:k<y.ag.length:=by omega
  refine sq 3 (ri k cz rfl (bS hk))<|sq 4 (gm (.agg [U _ _,U _ _,U _ _,U _ _,U _ _,U _ _,U _ _]) fF rfl)<|pq 5 (qf 3 dr rfl)<|sq 6 (jj eg rfl)<|vq 7 (dW rfl)<|vq 8 (ri k cz rfl (bS iy))<|vq 9 (gm (.agg [U _ _,U _ _,U _ _,U _ _,U _ _,U _ _,U _ _]) fF rfl)<|vq 10 (rd (x:=vB _) (j0 rfl (.inr rfl) rfl rfl FP JX JY JZ ?hn1) rfl) ?_;case hn1=>exact⟨rfl,by decide,rfl,⟨_,underlying3⟩,rfl,by decide,rfl,⟨_,underlying3⟩,rfl,by decide,rfl,⟨_,underlying3⟩,rfl,by decide,rfl,⟨_,underlying3⟩,rfl,by decide,rfl,⟨_,underlying3⟩,rfl,by decide,rfl,⟨_,underlying3⟩,rfl,by decide,rfl,⟨_,underlying3⟩,trivial⟩
  refine fD<|gT ?_;refine AW.cond rfl ?_ ?_
  ·intro dh;refine sL<|ar Z<|Y<|aR<|rB<|rT<|rT<|rB<|rT ?_;refine az trivial ?_;unfold mC kY;rw[qF hk iy (by have h:=dh;rw[Bool.not_eq_true']at h;exact h)];simp
  intro dh;refine aK<|gB<|gT<|aL<|bg Z<|ae Z<|Y ?_;refine⟨k+1,hI.next hk iy (by have h:=dh;rw[Bool.not_eq_false']at h;exact h),by omega,⟨(iq rfl),trivial⟩,trivial,rfl,rfl⟩
 intro h9;refine aE<|eT<|eT<|eB<|gT<|aS<|aS ?_;have e1:=hI.all s3 (by grind[ap]);clear hI;refine aL<|lf 4 eF Z<|bo fS Z<|ba jb Z<|ae Z<|Y<|aB ?_;refine aW [2,3,4,84] [2002,2003] (D:=Nat) (fun k=>[(85,int (k:Int))]) (fun k=>[]) (fun k=>ja go x.an y.an k) (fun k=>x.an.length-k) (0) (ja.zero _ _ _) ⟨rfl,trivial⟩ trivial ?_;intro k hI;refine sL<|ak Z<|Y<|aS ?_;refine AW.cond rfl ?_ ?_
 ·intro gp;refine aK<|gT<|aS<|aB<|sL<|ae Z<|lT [2,3,4,84,85,87] [2002,2003] ?_;refine ao Z<|Y<|aS<|aF []<|pq 0 (qf 4 eF Z)<|sq 1 (jj fS Z)<|pq 2 (gL (U _ _) Z) ?_;have hk:k<x.an.length:=by simpa[ap]using gp
  have iy:k<y.an.length:=by omega
  refine sq 3 (ri k f7 rfl (bS hk))<|sq 4 (gm (.agg [U _ _,U _ _,U _ _,U _ _,U _ _,vB _,U _ _]) kZ rfl)<|pq 5 (qf 4 eF rfl)<|sq 6 (jj fS rfl)<|vq 7 (dW rfl)<|vq 8 (ri k f7 rfl (bS iy))<|vq 9 (gm (.agg [U _ _,U _ _,U _ _,U _ _,U _ _,vB _,U _ _]) kZ rfl)<|vq 10 (rd (x:=vB _) (j0 rfl (.inr rfl) rfl rfl FQ J0 J1 J2 ?hn2) rfl) ?_;case hn2=>exact⟨rfl,by decide,rfl,⟨_,underlying3⟩,rfl,by decide,rfl,⟨_,underlying3⟩,rfl,by decide,rfl,⟨_,underlying3⟩,rfl,by decide,rfl,⟨_,underlying3⟩,rfl,by decide,rfl,⟨_,underlying3⟩,by decide,rfl,underlying4,rfl,by decide,rfl,⟨_,underlying3⟩,trivial⟩
  refine fD<|gT ?_;refine AW.cond rfl ?_ ?_
  ·intro gM;refine sL<|ar Z<|Y<|aR<|rB<|rT<|rT<|rB<|rT ?_;refine az trivial ?_;unfold mC kY;rw[qF hk iy (by have h:=gM;rw[Bool.not_eq_true']at h;exact h)];simp
  intro gM;refine aK<|gB<|gT<|aL<|bg Z<|ae Z<|Y ?_;refine⟨k+1,hI.next hk iy (by have h:=gM;rw[Bool.not_eq_false']at h;exact h),by omega,⟨(iq rfl),trivial⟩,trivial,rfl,rfl⟩
 intro gp;refine aE<|eT<|eT<|eB<|gT<|aS<|aS ?_;have e2:=hI.all s4 (by grind[ap]);clear hI;refine aL<|lf 5 gn Z<|bo ii Z<|ba j7 Z<|ae Z<|Y<|aB ?_;refine aW [2,3,4,102] [2002,2003] (D:=Nat) (fun k=>[(103,int (k:Int))]) (fun k=>[]) (fun k=>ja iX x.aq y.aq k) (fun k=>x.aq.length-k) (0) (ja.zero _ _ _) ⟨rfl,trivial⟩ trivial ?_;intro k hI;refine sL<|ak Z<|Y<|aS ?_;refine AW.cond rfl ?_ ?_
 ·intro dO;refine aK<|gT<|aS<|aB<|sL<|ae Z<|ao Z<|Y<|aS<|aF []<|pq 0 (qf 5 gn Z)<|sq 1 (jj ii Z)<|pq 2 (gL (U _ _) Z) ?_;have hk:k<x.aq.length:=by simpa[ap]using dO
  have iy:k<y.aq.length:=by omega
  refine sq 3 (ri k iI Z (bS hk))<|sq 4 (gm (.agg [U _ _,U _ _,U _ _,U _ _,U _ _]) l5 Z)<|pq 5 (qf 5 gn Z)<|sq 6 (jj ii Z)<|vq 7 (dW Z)<|fT [2,3,4,102,103,110,112,113] [2002,2003] ?_;refine vq 8 (ri k iI rfl (bS iy))<|vq 9 (gm (.agg [U _ _,U _ _,U _ _,U _ _,U _ _]) l5 rfl)<|vq 10 (rd (x:=vB _) (j0 rfl (.inr rfl) rfl rfl FR J3 J4 J5 ?hn3) rfl) ?_;case hn3=>exact⟨rfl,by decide,rfl,⟨_,underlying3⟩,rfl,by decide,rfl,⟨_,underlying3⟩,rfl,by decide,rfl,⟨_,underlying3⟩,rfl,by decide,rfl,⟨_,underlying3⟩,rfl,by decide,rfl,⟨_,underlying3⟩,trivial⟩
  refine fD<|gT ?_;refine AW.cond rfl ?_ ?_
  ·intro ij;refine sL<|ar Z<|Y<|aR<|rB<|rT<|rT<|rB<|rT ?_;refine az trivial ?_;unfold mC kY;rw[qF hk iy (by have h:=ij;rw[Bool.not_eq_true']at h;exact h)];simp
  intro ij;refine aK<|gB<|gT<|aL<|bg Z<|ae Z<|Y ?_;refine⟨k+1,hI.next hk iy (by have h:=ij;rw[Bool.not_eq_false']at h;exact h),by omega,⟨(iq rfl),trivial⟩,trivial,rfl,rfl⟩
 intro dO;refine aE<|eT<|eT<|eB<|gA<|cI Z<|Y<|aR ?_;refine az trivial ?_;have e3:=hI.all s5 (by have h:=dO;simp[ap]at h;omega);grind[mC,kY]
theorem Qz(x y:aw)(hx:di x)(hy:di y):GC prog 37 [cj x,cj y] [] (aD (mC x y)) []:=by
 refine gi 4 func37 rfl ntmps37 rfl ?_;intro L O w0;refine sL<|ab (zX 2002 Z) Z<|ab (zX 2003 Z) Z<|ar Z<|nA<|aP (.agg [U _ _,U _ _,U _ _,vL _ _ _,vL _ _ _,vL _ _ _]) cu Z<|ab (zC [] [] [] func101 (Do x hx) (trivial) Z Z) Z<|aQ Z ?_;refine AL.bool (t:=7) rfl ?_ ?_
 ·intro V;refine aP (.agg [U _ _,U _ _,U _ _,vL _ _ _,vL _ _ _,vL _ _ _]) cu Z<|ab (zC [] [] [] func101 (Do y hy) (trivial) Z Z) Z<|bj Z<|aQ Z ?_;refine AL.bool (t:=11) rfl ?_ ?_
  ·intro h2;refine aP (.agg [U _ _,U _ _,U _ _,vL _ _ _,vL _ _ _,vL _ _ _]) cu Z<|aP (.agg [U _ _,U _ _,U _ _,vL _ _ _,vL _ _ _,vL _ _ _]) cu Z<|ab (zC [] [] [] func102 (Qx x y (Nat.le_trans (mX (by simpa using V)).lc (by decide)) (Nat.le_trans (mX (by simpa using V)).lh (by decide)) (Nat.le_trans (mX (by simpa using V)).li (by decide))) (trivial) rfl rfl) Z<|bj Z<|bv Z<|Y<|aR ?_;refine az trivial ?_;grind[mC]
  intro h2;refine aa Z<|aa Z<|aa Z<|bL Z<|ar Z<|Y<|aR ?_;refine az trivial ?_;grind[mC]
 intro V;refine aa Z<|aa Z<|bL Z<|dm Z<|aa Z<|aa Z<|aa Z<|bL Z<|ar Z<|Y<|aR ?_;refine az trivial ?_;grind[mC]

section
variable {P:Program}{L O:Nat->Prop}{w0:World}{N:Nat}{τ cE:Nat->AV}{H H':Nat->AO}{Q:AQ}{ops:Array Oper}{o:Oper}{F:List Nat}{n:Nat}{av:Array Bool}
theorem d9.rd{i:Nat}{x:AV}{t:Nat}(ho:ops[i]? = some o)(sA:Rd P o τ H (fun _=>false) x)(hg:gv τ ops o=some true)(hd:o.dst=some t)(ht:t<N)
 (h:AF P L O w0 N ops F n (av.setIfInBounds i true) (aH τ t x) H Q):d9 P L O w0 N ops F n av i τ H Q:=fun ρ fp a w bV=>
 wpOp_step ho fun K hK=>by
  rw[bV.wanted hg,if_pos rfl];obtain⟨c,V,h2⟩:=sA.run bV;unfold Oper.wp;rw[h2 w (l6.refl _ _ _ _)];refine hK _ _ ⟨fun _=>lb.refl _,h ρ fp _ w ?_⟩;rw[hd];exact bV.put V ht
theorem AL.pi{l:List Oper}(id b k:Nat)(e:TypeId)(sz:Nat){T:TypeId}{p:Option Value}{cells:List AV}(hb:H b=.box T p cells)(zT:b≠id)(hk:cells[k]? = some (.p (.v (.slice none 0 0))))(h:AL P L O w0 N ops l (fun s=>bq (cK id) (τ s)) (aH (aH (fun j=>(H j).bq (cK id)) id (.ai e sz [])) b (.box T p ((iA (cK id) cells).set k (.own id)))) Q):AL P L O w0 N ops l τ H Q:=
 fun ρ fp a w hr=>h _ _ a w (hr.pi id b k e sz hb zT hk)
end

theorem Dp(d:du):∀e∈f8 d,l7 e:=fun e he=>by
 unfold f8 pj at he;obtain⟨q,_,hq⟩:=List.mem_filterMap.1 he;split at hq
 ·rename_i hf;cases hq;have h:=Dq (uS.1 hf).2.1;unfold l7 i64;omega
 grind
structure QA(es:List aV):Prop where
 wf:di (de es).now
 lp:(de es).ps.length<=es.length
 lk:(de es).jD.length<=es.length
 pl:∀p∈(de es).ps,p.lines.length<=1000
 ll:(d5 es).1.lines.length<=320
 n0:0<=(d5 es).2
 n1:(d5 es).2<=((de es).ps.length:Int)
theorem Dr{es:List aV}(we:∀e∈es,l7 e):QA es:=by
 have pk:sB pm es=bK pm es:=if_pos QB;have J6:=J7 (x:=pm) (es:=es) es.length (Nat.le_refl _);have nu:=zU (x:=pm) (es:=es) es.length (Nat.le_refl _);have qH:=Ds (x:=pm) (es:=es) es.length (Nat.le_refl _);rw[List.take_length,<-pk]at J6 nu qH;have ml:=FS (l:=⟨0,[]⟩) (ps:=(sB pm es).ps) (by simp) _ (Nat.le_refl _);rw[List.take_length]at ml;exact⟨QC FT we,nu,Nat.le_of_eq qH,J6,ml.1,ml.2.1,ml.2.2⟩
theorem QD(ps:List dX)(nu:∀p∈ps,p.lines.length<=1000)(hn:ps.length<=1000000):GC prog 169 [.agg [int 0,.p (.v (.slice none 0 0))],.p (.ab 92 2 (qI ps))] [] (.au [cR (jJ ⟨0,[]⟩ ps).1,int (jJ ⟨0,[]⟩ ps).2]) []:=by
 rw[<-QE];exact QF ps nu hn
abbrev J8(es:List aV):AV:=.au [cj (de es).now,cR (d5 es).1,aD (eL es)]
theorem J9{l:List Int}{k:Nat}(h:k<l.length):eK (l.take (k+1))=(eK (l.take k)&&decide (l[k]=0)):=by
 grind[eK,List.take_succ_eq_append_getElem]
theorem QG(es:List aV)(we:∀e∈es,l7 e)(hm:es.length<=1000000):GC prog 86 [.p (.ab 81 7 (ah fR es))] [] (J8 es) []:=by
 refine GC.intro (rs:=[.cell 2 50 (some 6),.cell 3 53 (some 2),.tmp 4]) func86 rfl ntmps86 (Nat.le_of_ble_eq_true rfl) ⟨rfl,rfl,cu,rfl,rfl,eZ,rfl,trivial⟩ ?_;intro L O w0;refine sL<|ab (zA 2002 mD Z) Z<|ab (zA 2003 ld Z) Z<|ar Z<|nA ?_;have hB:=Dr we;refine ab (zC [] [] [] func36 (QH) (trivial) rfl rfl) Z<|bm Z<|ab (zC [] [] [] func35 (QI pm es FT we (by omega)) (trivial) rfl rfl) Z<|cT (.au [.agg [U _ _,U _ _,U _ _,vL _ _ _,vL _ _ _,vL _ _ _],vL _ _ _,vL _ _ _]) Z<|iB (.agg [U _ _,U _ _,U _ _,vL _ _ _,vL _ _ _,vL _ _ _]) Z<|rF Z<|rF Z<|ab (zA 2005 mD rfl) Z<|ab (zB 2005 eu ew rfl) Z<|nv Z<|nv Z<|nA<|lq (rd (x:=.agg [U _ _,vV _]) (cP rfl lP rfl rfl rfl) rfl)<|bm Z<|ab (zC [] [] [] func175 (QJ (de es).ps hB.pl (by have:=hB.lp;omega)) (trivial) rfl rfl) Z<|lT [2,3,4,5,6,7,20] [2002,2003,2005] ?_;refine cT (.au [.agg [U _ _,vL _ _ _],U _ _]) Z<|iB (.agg [U _ _,vL _ _ _]) Z<|dE Z<|ab (zA 2008 ld Z) Z<|ab (zB 2008 cA cB Z) Z<|ao Z<|Y<|aS<|aF [10,11]<|sq 0 (dw (.agg [U _ _,U _ _,U _ _,vL _ _ _,vL _ _ _,vL _ _ _]) cu Z)<|pq 2 (iz Z) ?_;refine AF.two (i:=1) (j:=3) (by kernel_rfl) ?_ ?_
 ·refine d9.rd (i:=1) (x:=.agg [U _ _,vL _ _ _]) rfl (sC rfl eZ rfl rfl rfl rfl) rfl rfl (by decide) ?_;refine bn 3 rfl (zC [] [] [] func176 (JV (de es).jD (by have:=hB.lk;omega)) (trivial) rfl rfl) (.inr rfl)<|vq 4 (dx rfl) ?_;refine AF.bool (t:=27) rfl ?_ ?_
  ·intro V;refine pq 5 (gL (U _ _) Z)<|pq 6 (iz Z) ?_;refine AF.two (i:=7) (j:=10) (by kernel_rfl) ?_ ?_
   ·refine d9.rd (i:=7) (x:=U _ _) rfl (x7 rfl pX rfl) rfl rfl (by decide) ?_;refine AF.two (i:=8) (j:=10) (by kernel_rfl) ?_ ?_
    ·refine d9.rd (i:=8) (x:=vB _) rfl (pY rfl rfl rfl) rfl rfl (by decide) ?_;refine AF.two (i:=9) (j:=10) (by kernel_rfl) ?_ ?_
     ·refine d9.rd (i:=9) (x:=vB _) rfl (ku rfl rfl) rfl rfl (by decide) ?_;refine bn 10 Z (zB 2002 eu ew Z) (.inl Z)<|fT [2,3,4,24,32] [2002,2003,2005,2008] ?_;refine bn 11 Z (zB 2003 cA cB Z) (.inl Z)<|vq 12 (fk Z)<|fD<|gT<|aR ?_;refine ax ?_ trivial;refine congrArg (fun b=>some (AV.au [cj (de es).now,cR (d5 es).1,aD b])) ?_;grind[eL,fw]
     refine v1 10 rfl (zB 2002 eu ew rfl) (.inl rfl) ?_;refine AF.two (i:=9) (j:=11) (by kernel_rfl) ?_ ?_
     ·refine d9.rd (i:=9) (x:=vB _) rfl (ku rfl rfl) rfl rfl (by decide) ?_;refine bn 11 Z (zB 2003 cA cB Z) (.inl Z)<|vq 12 (fk Z)<|fD<|gT<|aR ?_;refine ax ?_ trivial;refine congrArg (fun b=>some (AV.au [cj (de es).now,cR (d5 es).1,aD b])) ?_;grind[eL,fw]
     refine v1 11 Z (zB 2003 cA cB Z) (.inl Z)<|vq 9 (cv Z)<|vq 12 (fk Z)<|fD<|gT<|aR ?_;refine ax ?_ trivial;refine congrArg (fun b=>some (AV.au [cj (de es).now,cR (d5 es).1,aD b])) ?_;grind[eL,fw]
    refine v1 10 rfl (zB 2002 eu ew rfl) (.inl rfl) ?_;refine AF.two (i:=8) (j:=11) (by kernel_rfl) ?_ ?_
    ·refine d9.rd (i:=8) (x:=vB _) rfl (pY rfl rfl rfl) rfl rfl (by decide) ?_;refine AF.two (i:=9) (j:=11) (by kernel_rfl) ?_ ?_
     ·refine d9.rd (i:=9) (x:=vB _) rfl (ku rfl rfl) rfl rfl (by decide) ?_;refine bn 11 Z (zB 2003 cA cB Z) (.inl Z)<|vq 12 (fk Z)<|fD<|gT<|aR ?_;refine ax ?_ trivial;refine congrArg (fun b=>some (AV.au [cj (de es).now,cR (d5 es).1,aD b])) ?_;grind[eL,fw]
     refine v1 11 Z (zB 2003 cA cB Z) (.inl Z)<|fT [2,3,4,27,31] [2002,2003,2005,2008] ?_;refine vq 9 (cv Z)<|vq 12 (fk Z)<|fD<|gT<|aR ?_;refine ax ?_ trivial;refine congrArg (fun b=>some (AV.au [cj (de es).now,cR (d5 es).1,aD b])) ?_;grind[eL,fw]
    refine v1 11 Z (zB 2003 cA cB Z) (.inl Z)<|vq 8 (dt Z)<|vq 9 (cv Z)<|vq 12 (fk Z)<|fD<|gT<|aR ?_;refine ax ?_ trivial;refine congrArg (fun b=>some (AV.au [cj (de es).now,cR (d5 es).1,aD b])) ?_;grind[eL,fw]
   refine v1 10 rfl (zB 2002 eu ew rfl) (.inl rfl) ?_;refine AF.two (i:=7) (j:=11) (by kernel_rfl) ?_ ?_
   ·refine d9.rd (i:=7) (x:=U _ _) rfl (x7 rfl pX rfl) rfl rfl (by decide) ?_;refine AF.two (i:=8) (j:=11) (by kernel_rfl) ?_ ?_
    ·refine d9.rd (i:=8) (x:=vB _) rfl (pY rfl rfl rfl) rfl rfl (by decide) ?_;refine AF.two (i:=9) (j:=11) (by kernel_rfl) ?_ ?_
     ·refine d9.rd (i:=9) (x:=vB _) rfl (ku rfl rfl) rfl rfl (by decide) ?_;refine bn 11 Z (zB 2003 cA cB Z) (.inl Z)<|vq 12 (fk Z)<|fD<|gT<|aR ?_;refine ax ?_ trivial;refine congrArg (fun b=>some (AV.au [cj (de es).now,cR (d5 es).1,aD b])) ?_;grind[eL,fw]
     refine v1 11 Z (zB 2003 cA cB Z) (.inl Z)<|vq 9 (cv Z)<|vq 12 (fk Z)<|fD<|gT<|aR ?_;refine ax ?_ trivial;refine congrArg (fun b=>some (AV.au [cj (de es).now,cR (d5 es).1,aD b])) ?_;grind[eL,fw]
    refine v1 11 Z (zB 2003 cA cB Z) (.inl Z)<|fT [2,3,4,27,28,30] [2002,2003,2005,2008] ?_;refine vq 8 (dt Z)<|vq 9 (cv Z)<|vq 12 (fk Z)<|fD<|gT<|aR ?_;refine ax ?_ trivial;refine congrArg (fun b=>some (AV.au [cj (de es).now,cR (d5 es).1,aD b])) ?_;grind[eL,fw]
   refine v1 11 Z (zB 2003 cA cB Z) (.inl Z)<|vq 7 (le pX Z)<|vq 8 (dt Z)<|vq 9 (cv Z)<|vq 12 (fk Z)<|fD<|gT<|aR ?_;refine ax ?_ trivial;refine congrArg (fun b=>some (AV.au [cj (de es).now,cR (d5 es).1,aD b])) ?_;grind[eL,fw]
  intro V;refine bi 5 Z<|bi 6 Z<|bi 7 Z<|bi 8 Z ?_;refine AF.two (i:=9) (j:=10) (by kernel_rfl) ?_ ?_
  ·refine d9.rd (i:=9) (x:=vB false) rfl (ku rfl rfl) rfl rfl (by decide) ?_;refine bn 10 Z (zB 2002 eu ew Z) (.inl Z)<|bn 11 Z (zB 2003 cA cB Z) (.inl Z)<|vq 12 (oA Z)<|fD<|gT<|aR ?_;refine ax ?_ trivial;refine congrArg (fun b=>some (AV.au [cj (de es).now,cR (d5 es).1,aD b])) ?_;grind[eL]
  refine v1 10 rfl (zB 2002 eu ew rfl) (.inl rfl) ?_;refine AF.two (i:=9) (j:=11) (by kernel_rfl) ?_ ?_
  ·refine d9.rd (i:=9) (x:=vB false) rfl (ku rfl rfl) rfl rfl (by decide) ?_;refine bn 11 Z (zB 2003 cA cB Z) (.inl Z)<|fT [2,3,4,32] [2002,2003,2005,2008] ?_;refine vq 12 (oA Z)<|fD<|gT<|aR ?_;refine ax ?_ trivial;refine congrArg (fun b=>some (AV.au [cj (de es).now,cR (d5 es).1,aD b])) ?_;grind[eL]
  refine v1 11 Z (zB 2003 cA cB Z) (.inl Z)<|vq 9 (kK Z)<|vq 12 (oA Z)<|fD<|gT<|aR ?_;refine ax ?_ trivial;refine congrArg (fun b=>some (AV.au [cj (de es).now,cR (d5 es).1,aD b])) ?_;grind[eL]
 refine v1 3 rfl (zC [] [] [] func176 (JV (de es).jD (by have:=hB.lk;omega)) (trivial) rfl rfl) (.inr rfl)<|pq 4 (gL (vB _) rfl) ?_;refine AF.bool (t:=27) rfl ?_ ?_
 ·intro h2;refine pq 5 (gL (U _ _) Z)<|pq 6 (iz Z) ?_;refine Dt (i:=1) (j:=7) (k:=10) (by kernel_rfl) ?_ ?_ ?_
  ·refine d9.rd (i:=1) (x:=.agg [U _ _,vL _ _ _]) rfl (sC rfl eZ rfl rfl rfl rfl) rfl rfl (by decide) ?_;refine AF.two (i:=7) (j:=10) (by kernel_rfl) ?_ ?_
   ·refine d9.rd (i:=7) (x:=U _ _) rfl (x7 rfl pX rfl) rfl rfl (by decide) ?_;refine AF.two (i:=8) (j:=10) (by kernel_rfl) ?_ ?_
    ·refine d9.rd (i:=8) (x:=vB _) rfl (pY rfl rfl rfl) rfl rfl (by decide) ?_;refine AF.two (i:=9) (j:=10) (by kernel_rfl) ?_ ?_
     ·refine d9.rd (i:=9) (x:=vB _) rfl (ku rfl rfl) rfl rfl (by decide) ?_;refine bn 10 Z (zB 2002 eu ew Z) (.inl Z)<|bn 11 Z (zB 2003 cA cB Z) (.inl Z)<|fT [2,3,4,32] [2002,2003,2005,2008] ?_;refine vq 12 (fk Z)<|fD<|gT<|aR ?_;refine ax ?_ trivial;refine congrArg (fun b=>some (AV.au [cj (de es).now,cR (d5 es).1,aD b])) ?_;grind[eL,fw]
     refine v1 10 rfl (zB 2002 eu ew rfl) (.inl rfl) ?_;refine AF.two (i:=9) (j:=11) (by kernel_rfl) ?_ ?_
     ·refine d9.rd (i:=9) (x:=vB _) rfl (ku rfl rfl) rfl rfl (by decide) ?_;refine bn 11 Z (zB 2003 cA cB Z) (.inl Z)<|vq 12 (fk Z)<|fD<|gT<|aR ?_;refine ax ?_ trivial;refine congrArg (fun b=>some (AV.au [cj (de es).now,cR (d5 es).1,aD b])) ?_;grind[eL,fw]
     refine v1 11 Z (zB 2003 cA cB Z) (.inl Z)<|vq 9 (cv Z)<|vq 12 (fk Z)<|fD<|gT<|aR ?_;refine ax ?_ trivial;refine congrArg (fun b=>some (AV.au [cj (de es).now,cR (d5 es).1,aD b])) ?_;grind[eL,fw]
    refine v1 10 rfl (zB 2002 eu ew rfl) (.inl rfl) ?_;refine AF.two (i:=8) (j:=11) (by kernel_rfl) ?_ ?_
    ·refine d9.rd (i:=8) (x:=vB _) rfl (pY rfl rfl rfl) rfl rfl (by decide) ?_;refine AF.two (i:=9) (j:=11) (by kernel_rfl) ?_ ?_
     ·refine d9.rd (i:=9) (x:=vB _) rfl (ku rfl rfl) rfl rfl (by decide) ?_;refine bn 11 Z (zB 2003 cA cB Z) (.inl Z)<|vq 12 (fk Z)<|fD<|gT<|aR ?_;refine ax ?_ trivial;refine congrArg (fun b=>some (AV.au [cj (de es).now,cR (d5 es).1,aD b])) ?_;grind[eL,fw]
     refine v1 11 Z (zB 2003 cA cB Z) (.inl Z)<|fT [2,3,4,27,31] [2002,2003,2005,2008] ?_;refine vq 9 (cv Z)<|vq 12 (fk Z)<|fD<|gT<|aR ?_;refine ax ?_ trivial;refine congrArg (fun b=>some (AV.au [cj (de es).now,cR (d5 es).1,aD b])) ?_;grind[eL,fw]
    refine v1 11 Z (zB 2003 cA cB Z) (.inl Z)<|vq 8 (dt Z)<|vq 9 (cv Z)<|vq 12 (fk Z)<|fD<|gT<|aR ?_;refine ax ?_ trivial;refine congrArg (fun b=>some (AV.au [cj (de es).now,cR (d5 es).1,aD b])) ?_;grind[eL,fw]
   refine v1 10 rfl (zB 2002 eu ew rfl) (.inl rfl) ?_;refine AF.two (i:=7) (j:=11) (by kernel_rfl) ?_ ?_
   ·refine d9.rd (i:=7) (x:=U _ _) rfl (x7 rfl pX rfl) rfl rfl (by decide) ?_;refine AF.two (i:=8) (j:=11) (by kernel_rfl) ?_ ?_
    ·refine d9.rd (i:=8) (x:=vB _) rfl (pY rfl rfl rfl) rfl rfl (by decide) ?_;refine AF.two (i:=9) (j:=11) (by kernel_rfl) ?_ ?_
     ·refine d9.rd (i:=9) (x:=vB _) rfl (ku rfl rfl) rfl rfl (by decide) ?_;refine bn 11 Z (zB 2003 cA cB Z) (.inl Z)<|vq 12 (fk Z)<|fD<|gT<|aR ?_;refine ax ?_ trivial;refine congrArg (fun b=>some (AV.au [cj (de es).now,cR (d5 es).1,aD b])) ?_;grind[eL,fw]
     refine v1 11 Z (zB 2003 cA cB Z) (.inl Z)<|vq 9 (cv Z)<|vq 12 (fk Z)<|fD<|gT<|aR ?_;refine ax ?_ trivial;refine congrArg (fun b=>some (AV.au [cj (de es).now,cR (d5 es).1,aD b])) ?_;grind[eL,fw]
    refine v1 11 Z (zB 2003 cA cB Z) (.inl Z)<|fT [2,3,4,27,28,30] [2002,2003,2005,2008] ?_;refine vq 8 (dt Z)<|vq 9 (cv Z)<|vq 12 (fk Z)<|fD<|gT<|aR ?_;refine ax ?_ trivial;refine congrArg (fun b=>some (AV.au [cj (de es).now,cR (d5 es).1,aD b])) ?_;grind[eL,fw]
   refine v1 11 Z (zB 2003 cA cB Z) (.inl Z)<|vq 7 (le pX Z)<|vq 8 (dt Z)<|vq 9 (cv Z)<|vq 12 (fk Z)<|fD<|gT<|aR ?_;refine ax ?_ trivial;refine congrArg (fun b=>some (AV.au [cj (de es).now,cR (d5 es).1,aD b])) ?_;grind[eL,fw]
  ·refine d9.rd (i:=7) (x:=U _ _) rfl (x7 rfl pX rfl) rfl rfl (by decide) ?_;refine Dt (i:=1) (j:=8) (k:=10) (by kernel_rfl) ?_ ?_ ?_
   ·refine d9.rd (i:=1) (x:=.agg [U _ _,vL _ _ _]) rfl (sC rfl eZ rfl rfl rfl rfl) rfl rfl (by decide) ?_;refine AF.two (i:=8) (j:=10) (by kernel_rfl) ?_ ?_
    ·refine d9.rd (i:=8) (x:=vB _) rfl (pY rfl rfl rfl) rfl rfl (by decide) ?_;refine AF.two (i:=9) (j:=10) (by kernel_rfl) ?_ ?_
     ·refine d9.rd (i:=9) (x:=vB _) rfl (ku rfl rfl) rfl rfl (by decide) ?_;refine bn 10 Z (zB 2002 eu ew Z) (.inl Z)<|bn 11 Z (zB 2003 cA cB Z) (.inl Z)<|fT [2,3,4,32] [2002,2003,2005,2008] ?_;refine vq 12 (fk Z)<|fD<|gT<|aR ?_;refine ax ?_ trivial;refine congrArg (fun b=>some (AV.au [cj (de es).now,cR (d5 es).1,aD b])) ?_;grind[eL,fw]
     refine v1 10 rfl (zB 2002 eu ew rfl) (.inl rfl) ?_;refine AF.two (i:=9) (j:=11) (by kernel_rfl) ?_ ?_
     ·refine d9.rd (i:=9) (x:=vB _) rfl (ku rfl rfl) rfl rfl (by decide) ?_;refine bn 11 Z (zB 2003 cA cB Z) (.inl Z)<|vq 12 (fk Z)<|fD<|gT<|aR ?_;refine ax ?_ trivial;refine congrArg (fun b=>some (AV.au [cj (de es).now,cR (d5 es).1,aD b])) ?_;grind[eL,fw]
     refine v1 11 Z (zB 2003 cA cB Z) (.inl Z)<|vq 9 (cv Z)<|vq 12 (fk Z)<|fD<|gT<|aR ?_;refine ax ?_ trivial;refine congrArg (fun b=>some (AV.au [cj (de es).now,cR (d5 es).1,aD b])) ?_;grind[eL,fw]
    refine v1 10 rfl (zB 2002 eu ew rfl) (.inl rfl) ?_;refine AF.two (i:=8) (j:=11) (by kernel_rfl) ?_ ?_
    ·refine d9.rd (i:=8) (x:=vB _) rfl (pY rfl rfl rfl) rfl rfl (by decide) ?_;refine AF.two (i:=9) (j:=11) (by kernel_rfl) ?_ ?_
     ·refine d9.rd (i:=9) (x:=vB _) rfl (ku rfl rfl) rfl rfl (by decide) ?_;refine bn 11 Z (zB 2003 cA cB Z) (.inl Z)<|vq 12 (fk Z)<|fD<|gT<|aR ?_;refine ax ?_ trivial;refine congrArg (fun b=>some (AV.au [cj (de es).now,cR (d5 es).1,aD b])) ?_;grind[eL,fw]
     refine v1 11 Z (zB 2003 cA cB Z) (.inl Z)<|fT [2,3,4,27,31] [2002,2003,2005,2008] ?_;refine vq 9 (cv Z)<|vq 12 (fk Z)<|fD<|gT<|aR ?_;refine ax ?_ trivial;refine congrArg (fun b=>some (AV.au [cj (de es).now,cR (d5 es).1,aD b])) ?_;grind[eL,fw]
    refine v1 11 Z (zB 2003 cA cB Z) (.inl Z)<|vq 8 (dt Z)<|vq 9 (cv Z)<|vq 12 (fk Z)<|fD<|gT<|aR ?_;refine ax ?_ trivial;refine congrArg (fun b=>some (AV.au [cj (de es).now,cR (d5 es).1,aD b])) ?_;grind[eL,fw]
   ·refine d9.rd (i:=8) (x:=vB _) rfl (pY rfl rfl rfl) rfl rfl (by decide) ?_;refine Dt (i:=1) (j:=9) (k:=10) (by kernel_rfl) ?_ ?_ ?_
    ·refine d9.rd (i:=1) (x:=.agg [U _ _,vL _ _ _]) rfl (sC rfl eZ rfl rfl rfl rfl) rfl rfl (by decide) ?_;refine AF.two (i:=9) (j:=10) (by kernel_rfl) ?_ ?_
     ·refine d9.rd (i:=9) (x:=vB _) rfl (ku rfl rfl) rfl rfl (by decide) ?_;refine bn 10 Z (zB 2002 eu ew Z) (.inl Z)<|bn 11 Z (zB 2003 cA cB Z) (.inl Z)<|vq 12 (fk Z)<|fD<|gT<|aR ?_;refine ax ?_ trivial;refine congrArg (fun b=>some (AV.au [cj (de es).now,cR (d5 es).1,aD b])) ?_;grind[eL,fw]
     refine v1 10 rfl (zB 2002 eu ew rfl) (.inl rfl) ?_;refine AF.two (i:=9) (j:=11) (by kernel_rfl) ?_ ?_
     ·refine d9.rd (i:=9) (x:=vB _) rfl (ku rfl rfl) rfl rfl (by decide) ?_;refine bn 11 Z (zB 2003 cA cB Z) (.inl Z)<|fT [2,3,4,32] [2002,2003,2005,2008] ?_;refine vq 12 (fk Z)<|fD<|gT<|aR ?_;refine ax ?_ trivial;refine congrArg (fun b=>some (AV.au [cj (de es).now,cR (d5 es).1,aD b])) ?_;grind[eL,fw]
     refine v1 11 Z (zB 2003 cA cB Z) (.inl Z)<|vq 9 (cv Z)<|vq 12 (fk Z)<|fD<|gT<|aR ?_;refine ax ?_ trivial;refine congrArg (fun b=>some (AV.au [cj (de es).now,cR (d5 es).1,aD b])) ?_;grind[eL,fw]
    ·refine d9.rd (i:=9) (x:=vB _) rfl (ku rfl rfl) rfl rfl (by decide) ?_;refine AF.two (i:=1) (j:=10) (by kernel_rfl) ?_ ?_
     ·refine d9.rd (i:=1) (x:=.agg [U _ _,vL _ _ _]) rfl (sC rfl eZ rfl rfl rfl rfl) rfl rfl (by decide) ?_;refine bn 10 Z (zB 2002 eu ew Z) (.inl Z)<|bn 11 Z (zB 2003 cA cB Z) (.inl Z)<|vq 12 (fk Z)<|fD<|gT<|aR ?_;refine ax ?_ trivial;refine congrArg (fun b=>some (AV.au [cj (de es).now,cR (d5 es).1,aD b])) ?_;grind[eL,fw]
     refine v1 10 Z (zB 2002 eu ew Z) (.inl Z)<|vq 1 (dw (.agg [U _ _,vL _ _ _]) eZ Z)<|bn 11 Z (zB 2003 cA cB Z) (.inl Z)<|vq 12 (fk Z)<|fD<|gT<|aR ?_;refine ax ?_ trivial;refine congrArg (fun b=>some (AV.au [cj (de es).now,cR (d5 es).1,aD b])) ?_;grind[eL,fw]
    refine v1 10 Z (zB 2002 eu ew Z) (.inl Z)<|fT [2,3,4,8,27,31] [2002,2003,2005,2008] ?_;refine sq 1 (dw (.agg [U _ _,vL _ _ _]) eZ rfl) ?_;refine AF.two (i:=9) (j:=11) (by kernel_rfl) ?_ ?_
    ·refine d9.rd (i:=9) (x:=vB _) rfl (ku rfl rfl) rfl rfl (by decide) ?_;refine bn 11 Z (zB 2003 cA cB Z) (.inl Z)<|vq 12 (fk Z)<|fD<|gT<|aR ?_;refine ax ?_ trivial;refine congrArg (fun b=>some (AV.au [cj (de es).now,cR (d5 es).1,aD b])) ?_;grind[eL,fw]
    refine v1 11 Z (zB 2003 cA cB Z) (.inl Z)<|vq 9 (cv Z)<|vq 12 (fk Z)<|fD<|gT<|aR ?_;refine ax ?_ trivial;refine congrArg (fun b=>some (AV.au [cj (de es).now,cR (d5 es).1,aD b])) ?_;grind[eL,fw]
   refine v1 10 Z (zB 2002 eu ew Z) (.inl Z)<|sq 1 (dw (.agg [U _ _,vL _ _ _]) eZ Z) ?_;refine AF.two (i:=8) (j:=11) (by kernel_rfl) ?_ ?_
   ·refine d9.rd (i:=8) (x:=vB _) rfl (pY rfl rfl rfl) rfl rfl (by decide) ?_;refine AF.two (i:=9) (j:=11) (by kernel_rfl) ?_ ?_
    ·refine d9.rd (i:=9) (x:=vB _) rfl (ku rfl rfl) rfl rfl (by decide) ?_;refine bn 11 Z (zB 2003 cA cB Z) (.inl Z)<|vq 12 (fk Z)<|fD<|gT<|aR ?_;refine ax ?_ trivial;refine congrArg (fun b=>some (AV.au [cj (de es).now,cR (d5 es).1,aD b])) ?_;grind[eL,fw]
    refine v1 11 Z (zB 2003 cA cB Z) (.inl Z)<|fT [2,3,4,27,31] [2002,2003,2005,2008] ?_;refine vq 9 (cv Z)<|vq 12 (fk Z)<|fD<|gT<|aR ?_;refine ax ?_ trivial;refine congrArg (fun b=>some (AV.au [cj (de es).now,cR (d5 es).1,aD b])) ?_;grind[eL,fw]
   refine v1 11 Z (zB 2003 cA cB Z) (.inl Z)<|vq 8 (dt Z)<|vq 9 (cv Z)<|vq 12 (fk Z)<|fD<|gT<|aR ?_;refine ax ?_ trivial;refine congrArg (fun b=>some (AV.au [cj (de es).now,cR (d5 es).1,aD b])) ?_;grind[eL,fw]
  refine v1 10 Z (zB 2002 eu ew Z) (.inl Z)<|sq 1 (dw (.agg [U _ _,vL _ _ _]) eZ Z) ?_;refine AF.two (i:=7) (j:=11) (by kernel_rfl) ?_ ?_
  ·refine d9.rd (i:=7) (x:=U _ _) rfl (x7 rfl pX rfl) rfl rfl (by decide) ?_;refine AF.two (i:=8) (j:=11) (by kernel_rfl) ?_ ?_
   ·refine d9.rd (i:=8) (x:=vB _) rfl (pY rfl rfl rfl) rfl rfl (by decide) ?_;refine AF.two (i:=9) (j:=11) (by kernel_rfl) ?_ ?_
    ·refine d9.rd (i:=9) (x:=vB _) rfl (ku rfl rfl) rfl rfl (by decide) ?_;refine bn 11 Z (zB 2003 cA cB Z) (.inl Z)<|vq 12 (fk Z)<|fD<|gT<|aR ?_;refine ax ?_ trivial;refine congrArg (fun b=>some (AV.au [cj (de es).now,cR (d5 es).1,aD b])) ?_;grind[eL,fw]
    refine v1 11 Z (zB 2003 cA cB Z) (.inl Z)<|fT [2,3,4,27,31] [2002,2003,2005,2008] ?_;refine vq 9 (cv Z)<|vq 12 (fk Z)<|fD<|gT<|aR ?_;refine ax ?_ trivial;refine congrArg (fun b=>some (AV.au [cj (de es).now,cR (d5 es).1,aD b])) ?_;grind[eL,fw]
   refine v1 11 Z (zB 2003 cA cB Z) (.inl Z)<|vq 8 (dt Z)<|vq 9 (cv Z)<|vq 12 (fk Z)<|fD<|gT<|aR ?_;refine ax ?_ trivial;refine congrArg (fun b=>some (AV.au [cj (de es).now,cR (d5 es).1,aD b])) ?_;grind[eL,fw]
  refine v1 11 Z (zB 2003 cA cB Z) (.inl Z)<|vq 7 (le pX Z)<|vq 8 (dt Z)<|vq 9 (cv Z)<|vq 12 (fk Z)<|fD<|gT<|aR ?_;refine ax ?_ trivial;refine congrArg (fun b=>some (AV.au [cj (de es).now,cR (d5 es).1,aD b])) ?_;grind[eL,fw]
 intro h2;refine bi 5 Z<|bi 6 Z<|bi 7 Z<|bi 8 Z ?_;refine Dt (i:=1) (j:=9) (k:=10) (by kernel_rfl) ?_ ?_ ?_
 ·refine d9.rd (i:=1) (x:=.agg [U _ _,vL _ _ _]) rfl (sC rfl eZ rfl rfl rfl rfl) rfl rfl (by decide) ?_;refine AF.two (i:=9) (j:=10) (by kernel_rfl) ?_ ?_
  ·refine d9.rd (i:=9) (x:=vB false) rfl (ku rfl rfl) rfl rfl (by decide) ?_;refine bn 10 Z (zB 2002 eu ew Z) (.inl Z)<|fT [2,3,4,24,32] [2002,2003,2005,2008] ?_;refine bn 11 Z (zB 2003 cA cB Z) (.inl Z)<|vq 12 (oA Z)<|fD<|gT<|aR ?_;refine ax ?_ trivial;refine congrArg (fun b=>some (AV.au [cj (de es).now,cR (d5 es).1,aD b])) ?_;grind[eL]
  refine v1 10 rfl (zB 2002 eu ew rfl) (.inl rfl) ?_;refine AF.two (i:=9) (j:=11) (by kernel_rfl) ?_ ?_
  ·refine d9.rd (i:=9) (x:=vB false) rfl (ku rfl rfl) rfl rfl (by decide) ?_;refine bn 11 Z (zB 2003 cA cB Z) (.inl Z)<|vq 12 (oA Z)<|fD<|gT<|aR ?_;refine ax ?_ trivial;refine congrArg (fun b=>some (AV.au [cj (de es).now,cR (d5 es).1,aD b])) ?_;grind[eL]
  refine v1 11 Z (zB 2003 cA cB Z) (.inl Z)<|vq 9 (kK Z)<|vq 12 (oA Z)<|fD<|gT<|aR ?_;refine ax ?_ trivial;refine congrArg (fun b=>some (AV.au [cj (de es).now,cR (d5 es).1,aD b])) ?_;grind[eL]
 ·refine d9.rd (i:=9) (x:=vB false) rfl (ku rfl rfl) rfl rfl (by decide) ?_;refine AF.two (i:=1) (j:=10) (by kernel_rfl) ?_ ?_
  ·refine d9.rd (i:=1) (x:=.agg [U _ _,vL _ _ _]) rfl (sC rfl eZ rfl rfl rfl rfl) rfl rfl (by decide) ?_;refine bn 10 Z (zB 2002 eu ew Z) (.inl Z)<|bn 11 Z (zB 2003 cA cB Z) (.inl Z)<|vq 12 (oA Z)<|fD<|gT<|aR ?_;refine ax ?_ trivial;refine congrArg (fun b=>some (AV.au [cj (de es).now,cR (d5 es).1,aD b])) ?_;grind[eL]
  refine v1 10 Z (zB 2002 eu ew Z) (.inl Z)<|fT [2,3,4,8,32] [2002,2003,2005,2008] ?_;refine vq 1 (dw (.agg [U _ _,vL _ _ _]) eZ Z)<|bn 11 Z (zB 2003 cA cB Z) (.inl Z)<|vq 12 (oA Z)<|fD<|gT<|aR ?_;refine ax ?_ trivial;refine congrArg (fun b=>some (AV.au [cj (de es).now,cR (d5 es).1,aD b])) ?_;grind[eL]
 refine v1 10 Z (zB 2002 eu ew Z) (.inl Z)<|sq 1 (dw (.agg [U _ _,vL _ _ _]) eZ Z) ?_;refine AF.two (i:=9) (j:=11) (by kernel_rfl) ?_ ?_
 ·refine d9.rd (i:=9) (x:=vB false) rfl (ku rfl rfl) rfl rfl (by decide) ?_;refine bn 11 Z (zB 2003 cA cB Z) (.inl Z)<|vq 12 (oA Z)<|fD<|gT<|aR ?_;refine ax ?_ trivial;refine congrArg (fun b=>some (AV.au [cj (de es).now,cR (d5 es).1,aD b])) ?_;grind[eL]
 refine v1 11 Z (zB 2003 cA cB Z) (.inl Z)<|vq 9 (kK Z)<|vq 12 (oA Z)<|fD<|gT<|aR ?_;refine ax ?_ trivial;refine congrArg (fun b=>some (AV.au [cj (de es).now,cR (d5 es).1,aD b])) ?_;grind[eL]
theorem QK(es:List aV)(we:∀e∈es,l7 e)(hm:es.length<=1000000):GC prog 82 [.p (.ab 81 7 (ah fR es))] [] (J8 es) []:=by
 refine GC.intro (rs:=[.cell 2 50 (some 6),.cell 3 53 (some 2),.tmp 4]) func82 rfl ntmps82 (Nat.le_of_ble_eq_true rfl) ⟨rfl,rfl,cu,rfl,rfl,eZ,rfl,trivial⟩ ?_;intro L O w0;refine sL<|ab (zA 2002 mD Z) Z<|ab (zA 2003 ld Z) Z<|ar Z<|nA ?_;have hB:=Dr we;refine ab (zC [] [] [] func168 (QL) (trivial) rfl rfl) Z<|bm Z<|ab (zC [] [] [] func167 (QM pm es FT we (by omega)) (trivial) rfl rfl) Z<|cT (.au [.agg [U _ _,U _ _,U _ _,vL _ _ _,vL _ _ _,vL _ _ _],vL _ _ _,vL _ _ _]) Z<|iB (.agg [U _ _,U _ _,U _ _,vL _ _ _,vL _ _ _,vL _ _ _]) Z<|rF Z<|rF Z<|ab (zA 2005 mD rfl) Z<|ab (zB 2005 eu ew rfl) Z<|nv Z<|nv Z<|nA<|lq (rd (x:=.agg [U _ _,vV _]) (cP rfl lP rfl rfl rfl) rfl)<|bm Z<|ab (zC [] [] [] func169 (QD (de es).ps hB.pl (by have:=hB.lp;omega)) (trivial) rfl rfl) Z<|lT [2,3,4,5,6,7,23] [2002,2003,2005] ?_;refine cT (.au [.agg [U _ _,vL _ _ _],U _ _]) Z<|iB (.agg [U _ _,vL _ _ _]) Z<|dE Z<|ab (zA 2008 ld Z) Z<|ab (zB 2008 cA cB Z) Z<|ao Z<|nA<|ae Z<|bm Z<|ba pX Z<|ak Z<|bv Z<|Y<|aS<|sL<|bm Z<|ba x4 Z<|ae Z<|Y<|aB ?_;refine aW [2,3,4,5,8,30,31] [2002,2003,2005,2008] (D:=Nat) (fun k=>[(10,aD (decide ((d5 es).2=((de es).ps.length:Int))&&eK ((de es).jD.take k))),(32,int (k:Int))]) (fun k=>[]) (fun k=>k<=(de es).jD.length) (fun k=>(de es).jD.length-k) (0) (Nat.zero_le _) ⟨(congrArg aD (by rw[fw,List.take_zero];exact(Bool.and_true _).symm)),rfl,trivial⟩ trivial ?_;intro k hI;refine sL<|ak Z<|Y<|aS ?_;refine AW.cond rfl ?_ ?_
 ·intro V;refine aK<|gT<|aS<|aB<|sL ?_;have hk:k<(de es).jD.length:=by simpa[ap]using V
  have QN:=hB.lk;refine li k iU Z (bS hk)<|oy ac Z<|ao Z<|nA<|ae Z<|ak Z<|Y ?_;refine AW.cond rfl ?_ ?_
  ·intro h2;refine aL<|ar Z<|lN<|gB<|gT<|aL<|bg Z<|ae Z<|Y ?_;refine⟨k+1,hk,by omega,⟨(congrArg aD (by simp_all[J9])),(iq rfl),trivial⟩,trivial,rfl,rfl⟩
  intro h2;refine aK<|gB<|gT<|aL<|bg Z<|ae Z<|Y ?_;refine⟨k+1,hk,by omega,⟨(congrArg aD (by simp_all[J9])),(iq rfl),trivial⟩,trivial,rfl,rfl⟩
 intro V;refine aE<|eT<|eT<|eB<|gT<|aS<|aF [3,4]<|sq 0 (dw (.agg [U _ _,U _ _,U _ _,vL _ _ _,vL _ _ _,vL _ _ _]) cu Z)<|pq 2 (gL (vB _) Z) ?_;refine AF.two (i:=1) (j:=3) (by kernel_rfl) ?_ ?_
 ·refine d9.rd (i:=1) (x:=.agg [U _ _,vL _ _ _]) rfl (sC rfl eZ rfl rfl rfl rfl) rfl rfl (by decide) ?_;refine bn 3 Z (zB 2002 eu ew Z) (.inl Z)<|fT [2,3,4,40,41] [2002,2003,2005,2008] ?_;refine bn 4 Z (zB 2003 cA cB Z) (.inl Z)<|vq 5 (fk Z)<|fD<|gT<|aR ?_;refine ax ?_ trivial;refine congrArg (fun b=>some (AV.au [cj (de es).now,cR (d5 es).1,aD b])) ?_;grind[eL,ap]
 refine v1 3 Z (zB 2002 eu ew Z) (.inl Z)<|vq 1 (dw (.agg [U _ _,vL _ _ _]) eZ Z)<|bn 4 Z (zB 2003 cA cB Z) (.inl Z)<|vq 5 (fk Z)<|fD<|gT<|aR ?_;refine ax ?_ trivial;refine congrArg (fun b=>some (AV.au [cj (de es).now,cR (d5 es).1,aD b])) ?_;grind[eL,ap]
theorem QO(l:List aV)(hl:l.length<=1048576):GC prog 58 [.p (.ab 81 7 (ah fR l))] [] (.own 1) [(1,uT l)]:=by
 refine gi 2 func58 rfl ntmps58 rfl ?_;intro L O w0;refine sL<|e9 Z<|nA<|bm Z<|ab (qJ 1 rfl rfl (by decide) jk jl rfl (by decide) rfl (Src.p rfl) (by simp[ah,maxLen]at *;omega) (Nat.le_trans (Nat.mul_le_mul_left _ sD) (by simp[ah]at *;omega))) Z<|bD Z<|Y<|aR ?_;trivial

theorem mY{h:mm}(q:ik h.log.bT=false\/aI h.log.next 0 (h.log.bT.cells.length:Int)=false\/aI h.log.dP 1 16000000=false\/decide (((dH h.log.bT).length:Int)=h.log.next)=false\/eL (f8 h.log.bT)=false\/mC (de (f8 h.log.bT)).now h.book=false\/qE (d5 (f8 h.log.bT)).1 h.ia=false\/pZ (f8 h.log.bT) (h.f9++h.wait)=false):zV h=false:=by
 grind[zV]
theorem wC{h:mm}(h0:ik h.log.bT=true)(V:aI h.log.next 0 (h.log.bT.cells.length:Int)=true)(h2:aI h.log.dP 1 16000000=true)(h3:decide (((dH h.log.bT).length:Int)=h.log.next)=true)(h4:eL (f8 h.log.bT)=true)(h5:mC (de (f8 h.log.bT)).now h.book=true)(h6:qE (d5 (f8 h.log.bT)).1 h.ia=true):zV h=pZ (f8 h.log.bT) (h.f9++h.wait):=by
 grind[zV]
theorem QP{r1 r2:List (List PV)}{a b:List aV}(e1:r1=ah fR a)(e2:r2=ah fR b)(hn:a.length<=9007199254740992)(hm:b.length<=9007199254740992):GC prog 95 [.p (.ab 81 7 r1),.p (.ab 81 7 r2)] [] (aD (lZ fR a b)) []:=by
 subst e1 e2;exact Qw a b hn hm
theorem QR{es:List aV}{l:Nat}:((ah fR es).take (ah fR es).length).drop l=ah fR (es.drop l):=by
 grind[ah,List.map_drop]
theorem QS(h:mm)(hd:qK h.log.bT)(hb:di h.book)(QT:h.book.ag.length<=1048576/\h.book.an.length<=1048576/\h.book.aq.length<=1048576)(hl:h.ia.lines.length<=1048576)(hw:h.wait.length<=1048576)(hs:h.f9.length<=1048576):GC prog 31 [Bu h] [] (aD (zV h)) []:=by
 refine gi 2 func31 rfl ntmps31 rfl ?_;intro L O w0;refine sL<|ab (zX 2001 Z) Z<|ar Z<|nA<|lf 0 qL Z<|lf 0 Bv Z<|aP (.agg [vL _ _ _,vL _ _ _]) mE Z<|ab (zA 2003 Du Z) Z<|ab (zB 2003 Dv Dw Z) Z<|Y<|aS<|sL<|aP (.agg [vL _ _ _,vL _ _ _]) mE Z<|ab (zC [] [] [] func91 (J' h.log.bT) (trivial) Z Z) Z<|bX Z<|aQ Z ?_;refine AL.bool (t:=17) rfl ?_ ?_
 ·intro V;refine aa Z<|aa Z<|aa Z<|aa Z<|aa Z<|aa Z<|aa Z<|aa Z<|aU Z<|bM Z<|aa Z<|aa Z<|aa Z<|aa Z<|aa Z<|aU Z<|Y<|aY Z<|sL<|ar Z<|Y<|aR<|rT ?_;refine az trivial ?_;grind[mY]
 intro V;refine lf 0 qL Z<|lf 2 wD Z<|aj ac Z<|lf 0 n9 Z<|bo oB Z<|ba po Z<|ab (zC [] [] [] func92 (pp _ _ _) (trivial) Z Z) Z<|lT [1,2,3,17,24] [2001,2003] ?_;refine bX Z<|bj Z<|aQ Z ?_;refine AL.bool (t:=27) rfl ?_ ?_
 ·intro h2;refine aa Z<|aa Z<|aa Z<|aa Z<|aa Z<|aU Z<|Y<|aY Z<|sL<|ar Z<|Y<|aR<|rT ?_;refine az trivial ?_;grind[mY,fU]
 intro h2;refine lf 0 qL Z<|lf 3 zW Z<|aj ac Z<|ab (zC [] [] [] func92 (pp _ _ _) (trivial) Z Z) Z<|bX Z<|bj Z<|Y ?_;refine AW.cond rfl ?_ ?_
 ·intro h3;refine sL<|ar Z<|Y<|aR<|rT ?_;refine az trivial ?_;grind[mY]
 intro h3;refine aK<|gT<|aS<|sL ?_;have hle:=Ka h.log.bT;refine aP (.agg [vL _ _ _,vL _ _ _]) mE Z<|ab (zC [] [] [] func93 (Kb h.log.bT hd) (trivial) Z Z) Z<|lT [1,2,3,36] [2001,2003] ?_;refine cT (.au [vL _ _ _,U _ _]) Z<|rF Z<|dE Z<|nv Z<|ao Z<|nA<|ae Z<|lf 0 qL Z<|lf 2 wD Z<|aj ac Z<|ak Z<|Y ?_;refine AW.cond rfl ?_ ?_
 ·intro h4;refine sL<|ar Z<|Y<|aR<|rT ?_;refine az trivial ?_;grind[mY]
 intro h4;refine aK<|gA<|aP (.agg [vL _ _ _,vL _ _ _]) mE Z<|ab (zC [] [] [] func33 ((QU h.log.bT hd).ui) (trivial) Z Z) Z<|nv Z<|nA ?_;have hB:=Dr (Dp h.log.bT);refine bm Z<|ab (zC [] [] [] func86 (QG (f8 h.log.bT) (Dp _) (by omega)) (trivial) rfl rfl) Z<|lT [1,2,6,48] [2001,2003] ?_;refine cT (.au [.agg [U _ _,U _ _,U _ _,vL _ _ _,vL _ _ _,vL _ _ _],.agg [U _ _,vL _ _ _],vB _]) Z<|iB (.agg [U _ _,U _ _,U _ _,vL _ _ _,vL _ _ _,vL _ _ _]) Z<|iB (.agg [U _ _,vL _ _ _]) Z<|eU Z<|ab (zA 2007 mD Z) Z<|ab (zA 2008 ld Z) Z<|ab (zB 2007 eu ew Z) Z<|ab (zB 2008 cA cB Z) Z<|bv Z<|Y<|aS<|sL<|aQ Z<|bX Z<|aQ Z ?_;refine AL.bool (t:=54) rfl ?_ ?_
 ·intro h5;refine aa Z<|aa Z<|aa Z<|aa Z<|aa Z<|aU Z<|bM Z<|aa Z<|aa Z<|aa Z<|aa Z<|aa Z<|aU Z<|Y<|aY Z<|sL<|ar Z<|Y<|aR<|rT ?_;refine az trivial ?_;grind[mY]
 intro h5;refine aP (.agg [U _ _,U _ _,U _ _,vL _ _ _,vL _ _ _,vL _ _ _]) cu Z<|lf 4 Bw Z<|aP (.agg [U _ _,U _ _,U _ _,vL _ _ _,vL _ _ _,vL _ _ _]) cu Z<|ab (zC [] [] [] func37 (Qz (de (f8 h.log.bT)).now h.book hB.wf hb) (trivial) Z Z) Z<|lT [1,2,6,8,54,58] [2001,2003,2007,2008] ?_;refine bX Z<|bj Z<|aQ Z ?_;refine AL.bool (t:=61) rfl ?_ ?_
 ·intro h6;refine aa Z<|aa Z<|aa Z<|aa Z<|aa Z<|aU Z<|Y<|aY Z<|sL<|ar Z<|Y<|aR<|rT ?_;refine az trivial ?_;grind[mY]
 intro h6;refine aP (.agg [U _ _,vL _ _ _]) eZ Z<|lf 10 Bx Z<|aP (.agg [U _ _,vL _ _ _]) eZ Z<|ab (zC [] [] [] func94 (Qu (d5 (f8 h.log.bT)).1 h.ia (by have:=hB.ll;omega) (by omega)) (trivial) rfl rfl) Z<|bX Z<|bj Z<|Y ?_;refine AW.cond rfl ?_ ?_
 ·intro h7;refine sL<|ar Z<|Y<|aR<|rT ?_;refine az trivial ?_;grind[mY]
 intro h7;refine aK<|gT<|aS<|aF [5]<|pq 0 (qf 13 By Z)<|sq 1 (jj tE Z)<|pq 3 (qf 12 Bz Z)<|sq 4 (jj tE Z)<|bn 2 Z (zC [(1,1)] [1] [] func58 (QO h.f9 hs) (trivial) Z Z) (.inr Z)<|fT [2,6,70,72] [1,2001,2003,2007,2008] ?_;refine bn 5 Z (zP 1 jk jl sD Z (Src.p Z)) (.inl Z)<|vq 6 (tF Z)<|fD<|gA ?_;refine AL.freeze 1 rfl ?_;refine bm Z<|ba jZ Z<|bm Z<|ba jZ Z<|ak Z<|aQ Z ?_;refine AL.bool (t:=79) rfl ?_ ?_
 ·intro h8;refine bm Z<|bm Z<|ba jZ Z<|bm Z<|ba jZ Z ?_;refine eo rfl ⟨rfl,ce (by unfold i64;simp[ap];omega)⟩ ?_;refine lq (rd (x:=vL _ _ _) (p6 (l:=((f8 h.log.bT).length-(h.f9++h.wait).length)) (h:=_) rfl jk rfl ⟨_,(Eq.trans (b:=int _) rfl (congrArg int (by have q:=h8;simp[ap]at q ⊢;omega)))⟩ rfl (by rw[ap];omega) (Nat.le_refl _)) rfl)<|bm Z<|ab (zC [] [] [] func95 (QP QR (fx _ _ _).symm (by rw[List.length_drop];omega) (by rw[List.length_append];omega)) (trivial) rfl rfl) Z<|lT [2,79,88] [2001,2003,2007,2008] ?_;refine bj Z<|bv Z<|Y<|aR ?_;refine az trivial ?_;refine Eq.symm ?_;grind[wC,fU,ap,pZ]
 intro h8;refine aa Z<|aa Z<|aa Z<|aa Z<|aa Z<|aa Z<|aa Z<|aa Z<|aa Z<|bL Z<|ar Z<|Y<|aR ?_;refine az trivial ?_;refine Eq.symm ?_;grind[wC,fU,ap,pZ]
theorem QV(h:mm)(hd:qK h.log.bT)(hb:di h.book)(QT:h.book.ag.length<=1048576/\h.book.an.length<=1048576/\h.book.aq.length<=1048576)(hl:h.ia.lines.length<=1048576)(hw:h.wait.length<=1048576)(hs:h.f9.length<=1048576):GC prog 30 [Bu h] [] (aD (zV h)) []:=by
 refine gi 2 func30 rfl ntmps30 rfl ?_;intro L O w0;refine sL<|ab (zX 2001 Z) Z<|ar Z<|nA<|lf 0 qL Z<|lf 0 Bv Z<|aP (.agg [vL _ _ _,vL _ _ _]) mE Z<|ab (zA 2003 Du Z) Z<|ab (zB 2003 Dv Dw Z) Z<|Y<|aS<|sL<|aP (.agg [vL _ _ _,vL _ _ _]) mE Z<|ab (zC [] [] [] func87 (FU h.log.bT) (trivial) Z Z) Z<|bX Z<|aQ Z ?_;refine AL.bool (t:=19) rfl ?_ ?_
 ·intro V;refine aa Z<|aa Z<|aa Z<|aa Z<|aU Z<|bM Z<|aa Z<|aa Z<|aa Z<|aa Z<|aa Z<|aa Z<|aa Z<|aU Z<|bM Z<|aa Z<|aa Z<|aa Z<|aa Z<|aU Z<|bM Z<|aa Z<|aa Z<|aa Z<|aa Z<|aU Z<|Y<|aY Z<|aS ?_;refine aL<|ar Z<|Y<|aR<|rT ?_;refine az trivial ?_;grind[mY]
 intro V;refine lf 0 qL Z<|lf 2 wD Z<|aj ac Z<|ak Z<|bj Z<|aQ Z ?_;refine AL.bool (t:=25) rfl ?_ ?_
 ·intro h2;refine aa Z<|aa Z<|aa Z<|aa Z<|aa Z<|aa Z<|aa Z<|aU Z<|bM Z<|aa Z<|aa Z<|aa Z<|aa Z<|aU Z<|bM Z<|aa Z<|aa Z<|aa Z<|aa Z<|aU Z<|lT [1,2,3,45] [2001,2003] ?_;refine Y<|aY Z<|sL<|ar Z<|Y<|aR<|rT ?_;refine az trivial ?_;grind[mY]
 intro h2;refine lf 0 qL Z<|lf 2 wD Z<|aj ac Z<|lf 0 n9 Z<|bo oB Z<|ba po Z<|ak Z<|bj Z<|aQ Z ?_;refine AL.bool (t:=34) rfl ?_ ?_
 ·intro h3;refine aa Z<|aa Z<|aa Z<|aa Z<|aU Z<|bM Z<|aa Z<|aa Z<|aa Z<|aa Z<|aU Z<|Y<|aY Z<|sL<|ar Z<|Y<|aR<|rT ?_;refine az trivial ?_;grind[mY,aI,fU]
 intro h3;refine lf 0 qL Z<|lf 3 zW Z<|aj ac Z<|ak Z<|bj Z<|aQ Z ?_;refine AL.bool (t:=40) rfl ?_ ?_
 ·intro h4;refine aa Z<|aa Z<|aa Z<|aa Z<|aU Z<|Y<|aY Z<|sL<|ar Z<|Y<|aR<|rT ?_;refine az trivial ?_;grind[mY,aI]
 intro h4;refine lf 0 qL Z<|lf 3 zW Z<|aj ac Z<|ak Z<|bj Z<|Y ?_;refine AW.cond rfl ?_ ?_
 ·intro h5;refine sL<|ar Z<|Y<|aR<|rT ?_;refine az trivial ?_;grind[mY,aI]
 intro h5;refine aK<|gA<|aP (.agg [vL _ _ _,vL _ _ _]) mE Z<|ab (zC [] [] [] func88 (Kc h.log.bT hd) (trivial) Z Z) Z<|lT [1,2,3,48] [2001,2003] ?_;have hle:=Ka h.log.bT;refine cT (.au [vL _ _ _,U _ _]) Z<|rF Z<|dE Z<|nv Z<|ao Z<|nA<|aP (.agg [vL _ _ _,vL _ _ _]) mE Z<|ab (zC [] [] [] func34 ((QW h.log.bT hd).ui) (trivial) rfl rfl) Z<|nv Z<|nA<|bm Z<|ab (zC [] [] [] func82 (QK (f8 h.log.bT) (Dp _) (by omega)) (trivial) rfl rfl) rfl ?_;have hB:=Dr (Dp h.log.bT);refine cT (.au [.agg [U _ _,U _ _,U _ _,vL _ _ _,vL _ _ _,vL _ _ _],.agg [U _ _,vL _ _ _],vB _]) Z<|iB (.agg [U _ _,U _ _,U _ _,vL _ _ _,vL _ _ _,vL _ _ _]) Z<|iB (.agg [U _ _,vL _ _ _]) Z<|eU Z<|ab (zA 2007 mD Z) Z<|lT [1,2,5,6,7,56,57,58] [2001,2003,2007] ?_;refine ab (zA 2008 ld Z) Z<|ab (zB 2007 eu ew Z) Z<|ab (zB 2008 cA cB Z) Z<|bv Z<|Y<|aS<|sL<|ae Z<|lf 0 qL Z<|lf 2 wD Z<|aj ac Z<|ak Z<|aQ Z ?_;refine AL.bool (t:=64) rfl ?_ ?_
 ·intro h6;refine aa Z<|aa Z<|aU Z<|bM Z<|aa Z<|aa Z<|aa Z<|aa Z<|aa Z<|aU Z<|bM Z<|aa Z<|aa Z<|aa Z<|aa Z<|aa Z<|aU Z<|Y<|aY Z<|sL<|ar Z<|Y<|aR<|rT ?_;refine az trivial ?_;grind[mY]
 intro h6;refine aQ Z<|bX Z<|bj Z<|aQ Z ?_;refine AL.bool (t:=68) rfl ?_ ?_
 ·intro h7;refine aa Z<|aa Z<|aa Z<|aa Z<|aa Z<|aU Z<|bM Z<|aa Z<|aa Z<|aa Z<|aa Z<|aa Z<|aU Z<|Y<|aY Z<|sL<|ar Z<|Y<|aR<|rT ?_;refine az trivial ?_;grind[mY]
 intro h7;refine aP (.agg [U _ _,U _ _,U _ _,vL _ _ _,vL _ _ _,vL _ _ _]) cu Z<|lf 4 Bw Z<|aP (.agg [U _ _,U _ _,U _ _,vL _ _ _,vL _ _ _,vL _ _ _]) cu Z<|ab (zC [] [] [] func89 (Qy (de (f8 h.log.bT)).now h.book hB.wf hb (by omega) (by omega) (by omega)) (trivial) rfl rfl) Z<|lT [1,2,6,8,68,72] [2001,2003,2007,2008] ?_;refine bX Z<|bj Z<|aQ Z ?_;refine AL.bool (t:=75) rfl ?_ ?_
 ·intro h8;refine aa Z<|aa Z<|aa Z<|aa Z<|aa Z<|aU Z<|Y<|aY Z<|sL<|ar Z<|Y<|aR<|rT ?_;refine az trivial ?_;grind[mY]
 intro h8;refine aP (.agg [U _ _,vL _ _ _]) eZ Z<|lf 10 Bx Z<|aP (.agg [U _ _,vL _ _ _]) eZ Z<|ab (zC [] [] [] func90 (Qv (d5 (f8 h.log.bT)).1 h.ia (by have:=hB.ll;omega) (by omega)) (trivial) rfl rfl) Z<|bX Z<|bj Z<|Y ?_;refine AW.cond rfl ?_ ?_
 ·intro h9;refine sL<|ar Z<|Y<|aR<|rT ?_;refine az trivial ?_;grind[mY]
 intro h9;refine aK<|gT<|aS<|aF [3,6]<|pq 1 (qf 13 By Z)<|sq 2 (jj tE Z)<|pq 4 (qf 12 Bz Z) ?_;refine AF.two (i:=0) (j:=5) (by kernel_rfl) ?_ ?_
 ·refine v1 0 rfl (zS 2082 [] jk jl rfl (by simp)) (.inr rfl)<|fT [2,6,82,84,86] [2001,2003,2007,2008,2082] ?_;refine AF.two (i:=3) (j:=5) (by kernel_rfl) ?_ ?_
  ·refine v1 3 Z (zP 2082 jk jl sD Z (Src.p Z)) (.inl Z)<|vq 5 (jj tE Z)<|bn 6 Z (zP 2082 jk jl sD Z (Src.p Z)) (.inl Z)<|vq 7 (tF Z)<|fD<|gT<|aS<|sL ?_;refine AL.freeze 2082 rfl ?_;refine bm Z<|ba jZ Z<|bm Z<|ba jZ Z<|ak Z<|Y ?_;refine AW.cond rfl ?_ ?_
   ·intro dh;refine sL<|ar Z<|Y<|aR<|rT ?_;refine az trivial ?_;grind[mY,pZ,ap]
   intro dh;refine aK<|gT<|aS<|sL ?_;have sE:(h.f9++h.wait).length<=(f8 h.log.bT).length:=by have q:=dh;simp[ap]at q ⊢;omega
   refine bm Z<|ba jZ Z<|ae Z<|Y<|aB ?_;refine aW [2,6,10,94,95] [2001,2003,2007,2008] (D:=Nat) (fun k=>[(96,int (k:Int))]) (fun k=>[]) (fun k=>ja fR ((f8 h.log.bT).drop ((f8 h.log.bT).length-(h.f9++h.wait).length)) (h.f9++h.wait) k) (fun k=>(h.f9++h.wait).length-k) (0) (ja.zero _ _ _) ⟨rfl,trivial⟩ trivial ?_;intro k hI;refine sL<|ak Z<|Y<|aS ?_;refine AW.cond rfl ?_ ?_
   ·intro gp;refine aK<|gT<|aS<|aB<|sL<|ae Z ?_;have hk:k<(h.f9++h.wait).length:=by have q:=gp;simp[ap]at q ⊢;omega
    have bZ:k<((f8 h.log.bT).drop ((f8 h.log.bT).length-(h.f9++h.wait).length)).length:=by rw[List.length_drop];omega
    refine li k jk rfl ((by rw[List.nil_append,<-fx];exact bS hk))<|d6 (.agg [U _ _,U _ _,U _ _,U _ _,U _ _,U _ _,vB _]) dD Z<|ab (zA 2012 jl rfl) Z<|lT [2,6,10,12,94,95,96,98,100] [2001,2003,2007,2008,2012] ?_;refine ao Z<|ab (zB 2012 mZ m0 Z) Z<|Y<|aS<|aF []<|pq 0 (iz Z)<|pq 1 (iz Z)<|sq 2 (le jZ Z)<|pq 3 (iz Z)<|sq 4 (le jZ Z) ?_;refine sq 5 (iC rfl ⟨rfl,ce (by grind[i64,ap])⟩)<|pq 6 (gL (U _ _) rfl) ?_;refine sq 7 (iC rfl ⟨rfl,ce (by grind[i64,ap])⟩)<|qM 108 ((((f8 h.log.bT).length-(h.f9++h.wait).length+k):Nat):Int) rfl (by grind[ap])<|sq 8 (ri (((f8 h.log.bT).length-(h.f9++h.wait).length+k)) jk rfl (bS (by omega)))<|sq 9 (gm (.agg [U _ _,U _ _,U _ _,U _ _,U _ _,U _ _,vB _]) dD rfl)<|vq 10 (dw (.agg [U _ _,U _ _,U _ _,U _ _,U _ _,U _ _,vB _]) dD rfl)<|vq 11 (rd (x:=vB _) (j0 rfl (.inr rfl) rfl rfl oz pe pf pg ?hn1) rfl) ?_;case hn1=>exact⟨rfl,by decide,rfl,⟨_,underlying3⟩,rfl,by decide,rfl,⟨_,underlying3⟩,rfl,by decide,rfl,⟨_,underlying3⟩,rfl,by decide,rfl,⟨_,underlying3⟩,rfl,by decide,rfl,⟨_,underlying3⟩,rfl,by decide,rfl,⟨_,underlying3⟩,by decide,rfl,underlying4,trivial⟩
    refine fD<|gT ?_;refine AW.cond rfl ?_ ?_
    ·intro gM;refine sL<|ar Z<|Y<|aR<|rB<|rT<|rT<|rB<|rT ?_;refine az trivial ?_;refine Eq.symm ?_;rw[wC (by grind) (by grind[aI,fU]) (by grind[aI]) (by grind) (by grind) (by grind) (by grind)];unfold pZ;rw[decide_eq_true sE];rw[qF bZ hk (by have q:=gM;rw[Bool.not_eq_true']at q;rw[List.getElem_drop];exact q)];rfl
    intro gM;refine aK<|gB<|gT<|aL<|bg Z<|ae Z<|Y ?_;refine⟨k+1,hI.next bZ hk (by have q:=gM;rw[Bool.not_eq_false']at q;rw[List.getElem_drop];exact q),by omega,⟨(iq rfl),trivial⟩,trivial,rfl,rfl⟩
   intro gp;refine aE<|eT<|eT<|eB<|gA<|cI Z<|Y<|aR ?_;refine az trivial ?_;refine Eq.symm ?_;rw[wC (by grind) (by grind[aI,fU]) (by grind[aI]) (by grind) (by grind) (by grind) (by grind)];unfold pZ;rw[decide_eq_true sE];rw[hI.all (by grind) (by grind[ap])];rfl
  refine d9.rd (i:=5) (x:=vL _ _ _) rfl (sC rfl tE rfl rfl rfl rfl) rfl rfl (by decide) ?_;refine bn 3 Z (zP 2082 jk jl sD Z (Src.p Z)) (.inl Z)<|fT [2,6,85,87] [2001,2003,2007,2008,2082] ?_;refine bn 6 Z (zP 2082 jk jl sD Z (Src.p Z)) (.inl Z)<|vq 7 (tF Z)<|fD<|gT<|aS<|sL ?_;refine AL.freeze 2082 rfl ?_;refine bm Z<|ba jZ Z<|bm Z<|ba jZ Z<|ak Z<|Y ?_;refine AW.cond rfl ?_ ?_
  ·intro dO;refine sL<|ar Z<|Y<|aR<|rT ?_;refine az trivial ?_;grind[mY,pZ,ap]
  intro dO;refine aK<|gT<|aS<|sL ?_;have sE:(h.f9++h.wait).length<=(f8 h.log.bT).length:=by have q:=dO;simp[ap]at q ⊢;omega
  refine bm Z<|ba jZ Z<|ae Z<|Y<|aB ?_;refine aW [2,6,10,94,95] [2001,2003,2007,2008] (D:=Nat) (fun k=>[(96,int (k:Int))]) (fun k=>[]) (fun k=>ja fR ((f8 h.log.bT).drop ((f8 h.log.bT).length-(h.f9++h.wait).length)) (h.f9++h.wait) k) (fun k=>(h.f9++h.wait).length-k) (0) (ja.zero _ _ _) ⟨rfl,trivial⟩ trivial ?_;intro k hI;refine sL<|ak Z<|Y<|aS ?_;refine AW.cond rfl ?_ ?_
  ·intro ij;refine aK<|gT<|aS<|aB<|sL<|ae Z ?_;have hk:k<(h.f9++h.wait).length:=by have q:=ij;simp[ap]at q ⊢;omega
   have bZ:k<((f8 h.log.bT).drop ((f8 h.log.bT).length-(h.f9++h.wait).length)).length:=by rw[List.length_drop];omega
   refine li k jk rfl ((by rw[List.nil_append,<-fx];exact bS hk))<|d6 (.agg [U _ _,U _ _,U _ _,U _ _,U _ _,U _ _,vB _]) dD Z<|ab (zA 2012 jl rfl) Z<|lT [2,6,10,12,94,95,96,98,100] [2001,2003,2007,2008,2012] ?_;refine ao Z<|ab (zB 2012 mZ m0 Z) Z<|Y<|aS<|aF []<|pq 0 (iz Z)<|pq 1 (iz Z)<|sq 2 (le jZ Z)<|pq 3 (iz Z)<|sq 4 (le jZ Z) ?_;refine sq 5 (iC rfl ⟨rfl,ce (by grind[i64,ap])⟩)<|pq 6 (gL (U _ _) rfl) ?_;refine sq 7 (iC rfl ⟨rfl,ce (by grind[i64,ap])⟩)<|qM 108 ((((f8 h.log.bT).length-(h.f9++h.wait).length+k):Nat):Int) rfl (by grind[ap])<|sq 8 (ri (((f8 h.log.bT).length-(h.f9++h.wait).length+k)) jk rfl (bS (by omega)))<|sq 9 (gm (.agg [U _ _,U _ _,U _ _,U _ _,U _ _,U _ _,vB _]) dD rfl)<|vq 10 (dw (.agg [U _ _,U _ _,U _ _,U _ _,U _ _,U _ _,vB _]) dD rfl)<|vq 11 (rd (x:=vB _) (j0 rfl (.inr rfl) rfl rfl oz pe pf pg ?hn2) rfl) ?_;case hn2=>exact⟨rfl,by decide,rfl,⟨_,underlying3⟩,rfl,by decide,rfl,⟨_,underlying3⟩,rfl,by decide,rfl,⟨_,underlying3⟩,rfl,by decide,rfl,⟨_,underlying3⟩,rfl,by decide,rfl,⟨_,underlying3⟩,rfl,by decide,rfl,⟨_,underlying3⟩,by decide,rfl,underlying4,trivial⟩
   refine fD<|gT ?_;refine AW.cond rfl ?_ ?_
   ·intro lg;refine sL<|ar Z<|Y<|aR<|rB<|rT<|rT<|rB<|rT ?_;refine az trivial ?_;refine Eq.symm ?_;rw[wC (by grind) (by grind[aI,fU]) (by grind[aI]) (by grind) (by grind) (by grind) (by grind)];unfold pZ;rw[decide_eq_true sE];rw[qF bZ hk (by have q:=lg;rw[Bool.not_eq_true']at q;rw[List.getElem_drop];exact q)];rfl
   intro lg;refine aK<|gB<|gT<|aL<|bg Z<|ae Z<|Y ?_;refine⟨k+1,hI.next bZ hk (by have q:=lg;rw[Bool.not_eq_false']at q;rw[List.getElem_drop];exact q),by omega,⟨(iq rfl),trivial⟩,trivial,rfl,rfl⟩
  intro ij;refine aE<|eT<|eT<|eB<|gA<|cI Z<|Y<|aR ?_;refine az trivial ?_;refine Eq.symm ?_;rw[wC (by grind) (by grind[aI,fU]) (by grind[aI]) (by grind) (by grind) (by grind) (by grind)];unfold pZ;rw[decide_eq_true sE];rw[hI.all (by grind) (by grind[ap])];rfl
 refine d9.rd (i:=5) (x:=vL _ _ _) rfl (sC rfl tE rfl rfl rfl rfl) rfl rfl (by decide) ?_;refine bn 0 rfl (zS 2082 [] jk jl rfl (by simp)) (.inr rfl)<|fT [2,6,82,84,87] [2001,2003,2007,2008,2082] ?_;refine bn 3 Z (zP 2082 jk jl sD Z (Src.p Z)) (.inl Z)<|bn 6 Z (zP 2082 jk jl sD Z (Src.p Z)) (.inl Z)<|vq 7 (tF Z)<|fD<|gT<|aS<|sL ?_;refine AL.freeze 2082 rfl ?_;refine bm Z<|ba jZ Z<|bm Z<|ba jZ Z<|ak Z<|Y ?_;refine AW.cond rfl ?_ ?_
 ·intro mn;refine sL<|ar Z<|Y<|aR<|rT ?_;refine az trivial ?_;grind[mY,pZ,ap]
 intro mn;refine aK<|gT<|aS<|sL ?_;have sE:(h.f9++h.wait).length<=(f8 h.log.bT).length:=by have q:=mn;simp[ap]at q ⊢;omega
 refine bm Z<|ba jZ Z<|ae Z<|Y<|aB ?_;refine aW [2,6,10,94,95] [2001,2003,2007,2008] (D:=Nat) (fun k=>[(96,int (k:Int))]) (fun k=>[]) (fun k=>ja fR ((f8 h.log.bT).drop ((f8 h.log.bT).length-(h.f9++h.wait).length)) (h.f9++h.wait) k) (fun k=>(h.f9++h.wait).length-k) (0) (ja.zero _ _ _) ⟨rfl,trivial⟩ trivial ?_;intro k hI;refine sL<|ak Z<|Y<|aS ?_;refine AW.cond rfl ?_ ?_
 ·intro m7;refine aK<|gT<|aS<|aB<|sL<|ae Z ?_;have hk:k<(h.f9++h.wait).length:=by have q:=m7;simp[ap]at q ⊢;omega
  have bZ:k<((f8 h.log.bT).drop ((f8 h.log.bT).length-(h.f9++h.wait).length)).length:=by rw[List.length_drop];omega
  refine li k jk rfl ((by rw[List.nil_append,<-fx];exact bS hk))<|d6 (.agg [U _ _,U _ _,U _ _,U _ _,U _ _,U _ _,vB _]) dD Z<|ab (zA 2012 jl rfl) Z<|lT [2,6,10,12,94,95,96,98,100] [2001,2003,2007,2008,2012] ?_;refine ao Z<|ab (zB 2012 mZ m0 Z) Z<|Y<|aS<|aF []<|pq 0 (iz Z)<|pq 1 (iz Z)<|sq 2 (le jZ Z)<|pq 3 (iz Z)<|sq 4 (le jZ Z) ?_;refine sq 5 (iC rfl ⟨rfl,ce (by grind[i64,ap])⟩)<|pq 6 (gL (U _ _) rfl) ?_;refine sq 7 (iC rfl ⟨rfl,ce (by grind[i64,ap])⟩)<|qM 108 ((((f8 h.log.bT).length-(h.f9++h.wait).length+k):Nat):Int) rfl (by grind[ap])<|sq 8 (ri (((f8 h.log.bT).length-(h.f9++h.wait).length+k)) jk rfl (bS (by omega)))<|sq 9 (gm (.agg [U _ _,U _ _,U _ _,U _ _,U _ _,U _ _,vB _]) dD rfl)<|vq 10 (dw (.agg [U _ _,U _ _,U _ _,U _ _,U _ _,U _ _,vB _]) dD rfl)<|vq 11 (rd (x:=vB _) (j0 rfl (.inr rfl) rfl rfl oz pe pf pg ?hn3) rfl) ?_;case hn3=>exact⟨rfl,by decide,rfl,⟨_,underlying3⟩,rfl,by decide,rfl,⟨_,underlying3⟩,rfl,by decide,rfl,⟨_,underlying3⟩,rfl,by decide,rfl,⟨_,underlying3⟩,rfl,by decide,rfl,⟨_,underlying3⟩,rfl,by decide,rfl,⟨_,underlying3⟩,by decide,rfl,underlying4,trivial⟩
  refine fD<|gT ?_;refine AW.cond rfl ?_ ?_
  ·intro mF;refine sL<|ar Z<|Y<|aR<|rB<|rT<|rT<|rB<|rT ?_;refine az trivial ?_;refine Eq.symm ?_;rw[wC (by grind) (by grind[aI,fU]) (by grind[aI]) (by grind) (by grind) (by grind) (by grind)];unfold pZ;rw[decide_eq_true sE];rw[qF bZ hk (by have q:=mF;rw[Bool.not_eq_true']at q;rw[List.getElem_drop];exact q)];rfl
  intro mF;refine aK<|gB<|gT<|aL<|bg Z<|ae Z<|Y ?_;refine⟨k+1,hI.next bZ hk (by have q:=mF;rw[Bool.not_eq_false']at q;rw[List.getElem_drop];exact q),by omega,⟨(iq rfl),trivial⟩,trivial,rfl,rfl⟩
 intro m7;refine aE<|eT<|eT<|eB<|gA<|cI Z<|Y<|aR ?_;refine az trivial ?_;refine Eq.symm ?_;rw[wC (by grind) (by grind[aI,fU]) (by grind[aI]) (by grind) (by grind) (by grind) (by grind)];unfold pZ;rw[decide_eq_true sE];rw[hI.all (by grind) (by grind[ap])];rfl
end Go.Proofs.YtflhgkmhmcfimaaGreat

