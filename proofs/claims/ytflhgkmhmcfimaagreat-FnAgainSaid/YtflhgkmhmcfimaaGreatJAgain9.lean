/- Texts of the proof of FnFnAgain, joined: EO1, EO2, EO3, E31, EO4. -/
import Derived.Test.YtflhgkmhmcfimaaGreatJAgain5
import Derived.Test.YtflhgkmhmcfimaaGreatJAgain8
namespace Go.Proofs.YtflhgkmhmcfimaaGreat
open Tryz
open Go.RowKit
set_option maxHeartbeats 16000000
set_option maxRecDepth 100000
set_option linter.unusedSimpArgs false
set_option linter.unusedVariables false
theorem rR{α:Type}(enc:α->List Value)(xs ys:List α):ah enc (xs++ys)=ah enc xs++ah enc ys:=List.map_append
abbrev iT(l:List Int):AO:=.ai 5 1 (ah dF l)
abbrev yv(n:Int):AV:=.p (.v (.int .u8 n))
theorem Ek(l m:List Int):AO.ai 5 1 (ah dF l++ah dF m)=iT (l++m):=congrArg (AO.ai 5 1) (rR dF l m).symm
theorem wrap_u8(n:Int):IntKind.u8.wrap n=n%256:=by rfl
theorem TU{n:Int}{k j:Nat}(h:j<k):IntKind.u8.wrap (n/2 ^ (8*((k:Int)-1-(j:Int))).toNat)=n/256 ^ (k-1-j)%256:=by
 rw[wrap_u8];have e:(8*((k:Int)-1-(j:Int))).toNat=8*(k-1-j):=by omega
 rw[e,Int.pow_mul];rfl
theorem Ma{l:List Int}{n:Int}{k j:Nat}(h:j<k):iT (l++(cl k n).take j++[n/256 ^ (k-1-j)%256])=iT (l++(cl k n).take (j+1)):=by grind[Tz]
theorem Mb(k:Nat)(n:Int):(cl k n).take k=cl k n:=List.take_of_length_le (by simp[da])
theorem x_83{p:Prop}(c:p:=by exact ⟨(iq rfl),rfl,trivial⟩):p:=c
theorem yS(l:List Int)(n:Int)(k:Nat)(h0:0<=n)(hk:k<=7)(hl:l.length<=200):GC prog 241 [.own 1,int n,int (k:Int)] [(1,iT l)] (.own 1) [(1,iT (l++cl k n))]:=by
 refine gi 6 func241 rfl ntmps241 rfl ?_;intro L O w0;refine sL<|e9 Z<|Y<|aS<|sL<|ae Z<|bg Z<|ao Z<|Y<|aB ?_;refine aW [1,6] [] (D:=Nat) (fun d=>[(7,int ((k:Int)-1-(d:Int))),(0,.own 1)]) (fun d=>[(1,iT (l++(cl k n).take d))]) (fun d=>d<=k) (fun d=>k-d) (0) (Nat.zero_le _) x_83 ⟨(by rw[List.take_zero,List.append_nil];rfl),trivial⟩ ?_;intro j hI;replace hI:j<=k:=hI;refine aS<|sL<|ae Z<|ak Z<|Y<|cE rfl ?_ ?_
 ·intro V;refine aK<|gT<|aS<|aB ?_;have hj:j<k:=by have h:=V;simp only[decide_eq_true_eq]at h;omega
  have vd:((cl k n).take j).length<=7:=by rw[List.length_take,da];omega
  refine aL<|bW Z<|ae Z<|ae Z<|bg Z<|lq (rd (x:=c6) (kg rfl rfl rfl (B7 rfl x_2 x_2 rfl) rfl) rfl)<|lq (rd (x:=c6) (me rfl lM pK rfl) rfl) ?_;refine dC 19 (yv (n/256 ^ (k-1-j)%256)) (Eq.trans (b:=yv _) rfl (congrArg yv (TU hj))) ?_;refine ab (zS 2020 (ah dF [n/256 ^ (k-1-j)%256]) fh ie rfl) Z<|ab (zP 1 fh ie mu rfl x_18 x_69) Z<|lT [1,6,7,21] [1,2020] ?_;refine bD Z<|lN<|gB<|gT<|aL<|ae Z<|bg Z<|ao Z<|Y ?_;refine⟨(j+1),hj,by omega,x_83,⟨(Eq.trans (Ek _ _) (Ma hj)),trivial⟩,rfl,rfl⟩
 intro V;refine aE<|eT<|eT<|eB<|gA<|bW Z<|bD Z<|Y<|aR ?_;have hj:j=k:=by have h:=V;simp only[decide_eq_false_iff_not]at h;omega
 subst hj;refine ax ?_ ⟨(congrArg (fun r=>iT (l++r)) (Mb _ n)),trivial⟩;rfl
theorem x_93{p:Prop}(c:p:=by first|(simp[ah,da];done)|(simp[ah,da];omega)):p:=c
theorem He(l:List Int)(hl:l.length<=2000000):GC prog 229 [gV l] [] (.own 1) [(1,iT l)]:=by
 refine gi 2 func229 rfl ntmps229 rfl ?_;intro L O w0;refine sL<|e9 Z<|nA<|bm Z<|ab (qJ 1 rfl rfl x_3 fh ie rfl x_3 rfl (Src.p rfl) (by first|(simp[ah,maxLen,da];done)|(simp[ah,maxLen,da];omega)) (Nat.le_trans (Nat.mul_le_mul_left _ mu) x_93)) Z<|bD Z<|Y<|aR ?_;trivial
theorem TV(l:List Int)(hl:l.length<=2000000):GC prog 229 [gV l] [] (gV l) []:=(He l hl).ui
theorem acr(l:List Int)(hl:l.length<=2000000):GN prog 229 [gV l] [] [] (L9 5 1 (ah dF l)):=(He l hl).TT yg
theorem TW{a x:Int}(h0:0<=a)(V:a<281474976710656)(h2:0<=x)(h3:x<=255):bits .or .i64 (a*2 ^ (8:Int).toNat) x=a*256+x:=by
 have e:a*2 ^ (8:Int).toNat=a*256:=rfl;rw[e];have:=Mc (a:=a*256) (b:=x) x_2 x_2 x_2 h2 x_2;trivial
def gW(b:List Int)(k size:Nat):Int:=if k+size<=b.length then mO ((b.drop k).take size)else 0
def As(b:List Int)(k size:Nat):Bool:=decide (k+size<=b.length)
theorem xc{b:List Int}{k size:Nat}(h:k+size<=b.length):gW b k size=mO ((b.drop k).take size):=if_pos h
theorem Md{l:List Int}{j:Nat}(h:j<l.length):mO (l.take (j+1))=mO (l.take j)*256+l[j]:=by rw[List.take_succ_eq_append_getElem h,TA]
theorem Me{j:Nat}(h:j<=6):(256:Int) ^ j<=281474976710656:=by
 have:j=0\/j=1\/j=2\/j=3\/j=4\/j=5\/j=6:=by omega
 grind
theorem Mf{l:List Int}{j size:Nat}(hb:fA l)(h:j<size)(hs:size<=7):0<=mO (l.take j)/\mO (l.take j)<281474976710656:=by
 have V:=LV (l.take j) 0 (hb.take j) (Int.le_refl _);have h2:(l.take j).length<=6:=by rw[List.length_take];omega
 have h3:=Me h2;grind[mO]
theorem Hj{b:List Int}{k size:Nat}:((ah dF b).take (k+size)).drop k=ah dF ((b.drop k).take size):=by
 grind[ah,List.map_take,List.map_drop,List.drop_take]
theorem B8(b:List Int)(k size:Nat)(hb:fA b)(wQ:1<=size)(hs:size<=7)(hk:k<=1000)(hl:b.length<=2000000):GC prog 185 [gV b,int (k:Int),int (size:Int)] [] (.au [int (gW b k size),aD (As b k size)]) []:=by
 refine GC.intro (rs:=[.tmp 6,.tmp 7]) func185 rfl ntmps185 x_8 ⟨rfl,rfl,trivial⟩ ?_;intro L O w0;refine sL<|ao Z<|ar Z<|Y<|aS<|sL<|ae Z<|ab (zC [] [] [] func92 (pp) (trivial) Z Z) Z ?_;refine bJ 12 true rfl (cJ.2 x_99)<|ma Z<|dm Z<|ae Z<|ak Z<|bJ 16 false rfl x_19<|bL Z<|dm Z<|ae Z<|bm Z<|ba kE Z<|ae rfl ?_;refine eo rfl ⟨rfl,ce (by grind[ap,i64])⟩<|ak Z<|bj Z<|Y<|cE rfl ?_ ?_
 ·intro V;refine sL<|ao Z<|ar Z<|Y<|aR<|rT ?_;have r7:¬k+size<=b.length:=by have h:=V;simp only[decide_eq_true_eq,ap]at h;omega
  unfold gW As;rw[if_neg r7,decide_eq_false r7];trivial
 intro V;refine aK<|gT<|aS ?_;have r7:k+size<=b.length:=by have h:=V;simp only[decide_eq_false_iff_not,ap]at h;omega
 have hlen:((b.drop k).take size).length=size:=by rw[List.length_take,List.length_drop];omega
 refine aL<|ao Z<|Y<|aS<|sL<|bm Z<|ae Z<|ae Z<|ae Z<|bg Z<|jK 30 ((k+size:Nat):Int) rfl x_2 ?_;refine lq (rd (x:=c7) (p6 (l:=k) (h:=k+size) rfl fh rfl ⟨_,rfl⟩ ⟨_,(by rfl)⟩ x_2 x_14) rfl) ?_;refine dC 31 (gV ((b.drop k).take size)) (Eq.trans (b:=.p (.ab 5 1 (((ah dF b).take (k+size)).drop k))) rfl (congrArg (fun r=>AV.p (.ab 5 1 r)) Hj)) ?_;refine ba kE Z<|jK 32 (size:Int) rfl (by rw[ap,hlen])<|ae Z<|Y<|aB ?_;refine aW [6,7,31,32] [] (D:=Nat) (fun d=>[(33,int (d:Int)),(8,int (mO (((b.drop k).take size).take d)))]) (fun d=>[]) (fun d=>d<=size) (fun d=>size-d) (0) (Nat.zero_le _) ⟨rfl,rfl,trivial⟩ trivial ?_;intro j hI;replace hI:j<=size:=hI;refine sL<|ak Z<|Y<|aS<|cE rfl ?_ ?_
 ·intro h2;refine aK<|gT<|aS<|aB<|aS ?_;have hj:j<size:=by have h:=h2;simp only[decide_eq_true_eq]at h;omega
  have ro:j<((b.drop k).take size).length:=by omega
  have El:=Mf (l:=(b.drop k).take size) ((hb.drop k).take size) hj hs;have hx:=((hb.drop k).take size) _ (List.getElem_mem ro);refine aL<|li j fh Z (bS ro)<|lT [6,7,8,31,32,33,35] [] ?_;refine oy tf Z<|ao Z<|Y<|aL<|ae Z ?_;refine eo rfl ⟨rfl,by decide,by decide,ce x_82⟩<|ae Z<|lq (rd (x:=c6) (me rfl pK lM rfl) rfl)<|jK 40 (((b.drop k).take size)[j]) rfl (by rw[IntKind.wrap_i64];omega)<|lq (rd (x:=c6) (kg rfl rfl rfl (Mg rfl) rfl) rfl)<|jK 41 (mO (((b.drop k).take size).take j)*256+((b.drop k).take size)[j]) rfl (TW El.1 El.2 hx.1 hx.2)<|ao Z<|lN<|gB<|gT<|aL<|bg Z<|ae Z<|Y ?_;refine⟨(j+1),hj,by omega,⟨(iq rfl),(congrArg int (Md ro).symm),trivial⟩,trivial,rfl,rfl⟩
 intro h2;refine aE<|eT<|eT<|eB<|gA<|ae Z<|ao Z<|cI Z<|Y<|aR ?_;have hj:j=size:=by have h:=h2;simp only[decide_eq_false_iff_not]at h;omega
 subst hj;unfold As;rw[xc r7,decide_eq_true r7,List.take_of_length_le (l:=(b.drop k).take j) x_2];trivial
abbrev sV(s:fb):AV:=.agg [int s.seq,int s.dP,gV s.body]
def r8(s:fb):List Int:=if i8 s then oq s else []
theorem At{s:fb}(h:i8 s=true):r8 s=oq s:=if_pos h
theorem Hl{s:fb}(h:i8 s=false):r8 s=[]:=if_neg x_137
theorem Em{s:fb}(h:fA s.body):fA (r8 s):=by
 cases q:i8 s
 ·rw[Hl q];exact .nil
 grind[At,TC,qW]
theorem En(m:Nat):List.replicate m [PV.v (.int .u8 0)]=ah dF (List.replicate m 0):=by grind[ah,List.map_replicate]
theorem TX{s:fb}(h:s.body.length<=100):IntKind.u8.wrap (s.body.length:Int)=(s.body.length:Int):=by rw[wrap_u8];omega
theorem x_132{p:Prop}(c:p:=by exact congrArg (fun n:Nat=>int (n:Int)) (ap _ _)):p:=c
theorem TY(s:fb):GC prog 240 [sV s] [] (aD (i8 s)) []:=by
 refine gi 2 func240 rfl ntmps240 rfl ?_;intro L O w0;refine sL<|ab (zX 2001 Z) Z<|ar Z<|nA<|lf 0 tX Z<|aj ac Z<|ab (zC [] [] [] func92 (pp) (trivial) Z Z) Z<|aQ Z ?_;refine AL.bool (t:=6) rfl ?_ ?_
 ·intro V;refine lf 1 rQ Z<|aj ac Z<|ab (zC [] [] [] func92 (pp) (trivial) Z Z) Z<|bj Z<|aQ Z ?_;refine AL.bool (t:=11) rfl ?_ ?_
  ·intro h2;refine lf 2 u' Z<|bo kb Z<|ba kE Z ?_;refine dC 14 (int (s.body.length:Int)) (congrArg (fun n:Nat=>int (n:Int)) (ap _ _)) ?_;refine ak Z<|bj Z<|bv Z<|Y<|aR ?_;refine az trivial ?_;grind[i8]
  intro h2;refine aa Z<|aa Z<|aa Z<|aa Z<|bL Z<|ar Z<|Y<|aR ?_;refine az trivial ?_;grind[i8]
 intro V;refine aa Z<|aa Z<|aa Z<|bL Z<|dm Z<|aa Z<|aa Z<|aa Z<|aa Z<|bL Z<|ar Z<|Y<|aR ?_;refine az trivial ?_;grind[i8]
theorem x_56{p:Prop}(c:p:=by first|(simp[da];done)|(simp[da];omega)):p:=c
theorem TZ(s:fb):GC prog 173 [sV s] [] (.au [.own 1,aD (i8 s)]) [(1,iT (r8 s))]:=by
 refine GC.intro (rs:=[.tmp 2,.tmp 3]) func173 rfl ntmps173 x_8 ⟨rfl,rfl,trivial⟩ ?_;intro L O w0;refine sL<|ab (zX 2001 Z) Z<|e9 Z<|ar Z<|Y<|aS<|sL<|aP pv nP Z<|ab (zC [] [] [] func240 (TY s) (trivial) Z Z) Z<|bX Z<|Y<|cE rfl ?_ ?_
 ·intro V;refine sL<|e9 Z<|ar Z<|Y ?_;refine AW.oP 1 2 5 1 rfl ?_;refine aR<|rT ?_;have g9:i8 s=false:=by simpa using V
  rw[g9,Hl g9];trivial
 intro V;refine aK<|gT<|aS ?_;have g9:i8 s=true:=by simpa using V
 obtain⟨⟨a1,a2⟩,⟨b1,b2⟩,hl⟩:=qW.1 g9;refine aG 7 [1]<|tq 1 (rf 0 tX rfl)<|tq 2 (aZ ac rfl)<|tq 4 (rf 1 rQ rfl)<|tq 5 (aZ ac rfl)<|cm 0 rfl (zS 1 (ah dF [74]) fh ie rfl)<|cm 3 rfl (zC [(1,1)] [1] [] func241 (yS ([74]) (s.seq) 3 x_2 x_2 x_56) (trivial) rfl rfl)<|gX [1,2,3,11,13] [1,2001] ?_;refine cm 6 rfl (zC [(1,1)] [1] [] func241 (yS ([74]++cl 3 s.seq) (s.dP) 3 x_2 x_2 x_56) (trivial) rfl rfl)<|yq 7 (tF rfl)<|gD<|gT<|aS<|aG 10 [1]<|tq 0 (qo rfl)<|tq 1 (rf 2 u' rfl)<|tq 2 (jj kb rfl)<|tq 3 (le kE rfl) ?_;refine Au 18 (int (s.body.length:Int)) (congrArg (fun n:Nat=>int (n:Int)) (ap _ _)) ?_;refine tq 4 (rd (x:=c6) (me rfl lM pK rfl) rfl) ?_;refine Au 19 (yv (s.body.length:Int)) (Eq.trans (b:=yv _) rfl (congrArg yv (TX hl))) ?_;refine tq 7 (rf 2 u' rfl)<|tq 8 (jj kb rfl)<|cm 5 rfl (zS 2020 (ah dF [(s.body.length:Int)]) fh ie rfl)<|cm 6 rfl (zP 1 fh ie mu rfl x_18 x_93)<|cm 9 rfl (zP 1 fh ie mu rfl (Src.p rfl) x_93)<|yq 10 (tF rfl)<|gD<|gT ?_;refine AW.obj 1 (iT ([74]++cl 3 s.seq++cl 3 s.dP++[(s.body.length:Int)]++s.body)) ((Eq.trans (b:=AO.ai 5 1 (ah dF ([74]++cl 3 s.seq++cl 3 s.dP)++ah dF [(s.body.length:Int)]++ah dF s.body)) rfl (by rw[<-rR,<-rR]))) ?_;refine sL<|bW Z<|bW Z<|ba kE Z ?_;refine dC 27 (int ((8+s.body.length:Nat):Int)) (Eq.trans (b:=int _) rfl (congrArg (fun n:Nat=>int (n:Int)) (by rw[ap];first|(simp[da];done)|(simp[da];omega)))) ?_;refine bg Z<|ab (L8 1 (m:=114-s.body.length) rfl rfl x_3 fh ie rfl lM rfl rfl rfl ?hn1 (by rw[ap];first|(simp;done)|(simp;omega)) x_2 (by rw[ap];simp[da,maxLen];omega) (Nat.le_trans (Nat.mul_le_mul_left _ mu) (by rw[ap];simp[da];omega))) rfl ?_;case hn1=>omega
 refine lT [1,2,3,29] [1,2001,2020] ?_;refine bD Z<|Y ?_;refine AW.obj 1 (iT ([74]++cl 3 s.seq++cl 3 s.dP++[(s.body.length:Int)]++s.body++List.replicate (114-s.body.length) 0)) ((Eq.trans (b:=AO.ai 5 1 (ah dF ([74]++cl 3 s.seq++cl 3 s.dP++[(s.body.length:Int)]++s.body)++List.replicate (114-s.body.length) [PV.v (.int .u8 0)])) rfl (by rw[En,<-rR]))) ?_;refine aS<|aG 8 [1]<|tq 0 (qo rfl)<|tq 1 (rf 0 tX rfl)<|tq 2 (aZ ac rfl)<|tq 4 (rf 1 rQ rfl)<|tq 5 (aZ ac rfl)<|cm 3 rfl (zC [(1,1)] [1] [] func241 (yS ([74]++cl 3 s.seq++cl 3 s.dP++[(s.body.length:Int)]++s.body++List.replicate (114-s.body.length) 0) (s.seq) 3 x_2 x_2 x_56) (trivial) rfl rfl)<|cm 6 rfl (zC [(1,1)] [1] [] func241 (yS ([74]++cl 3 s.seq++cl 3 s.dP++[(s.body.length:Int)]++s.body++List.replicate (114-s.body.length) 0++cl 3 s.seq) (s.dP) 3 x_2 x_2 x_56) (trivial) rfl rfl)<|yq 7 (tF rfl)<|yq 8 (Av rfl)<|gD<|gT<|aR ?_;rw[g9,At g9];trivial
theorem T0(s:fb):GC prog 173 [sV s] [] (.au [gV (r8 s),aD (i8 s)]) []:=(TZ s).Aq
theorem Mh{b:List Int}(h:b.length=128):gW b 1 3=(gu b).seq/\gW b 4 3=(gu b).dP:=⟨xc x_2,xc x_2⟩
theorem B9{b:List Int}(h:7<b.length):b.getD 7 0=b[7]:=by grind
theorem T1{b:List Int}(h:7<b.length):(gu b).body=(b.drop 8).take (b[7]).toNat:=by grind[gu]
theorem Mi{b:List Int}(h:b.length=128)(h7:7<b.length)(V:b[7]<=100)(h2:i8 (gu b)=true)(h3:r8 (gu b)=b):g8 b=true:=oN.2 ⟨h,by grind,h2,by grind[At]⟩
theorem T3{b:List Int}(h:b.length≠128):g8 b=false:=Bool.eq_false_iff.2 fun q=>h (oN.1 q).1
theorem T4{b:List Int}(h7:7<b.length)(h:¬b[7]<=100):g8 b=false:=Bool.eq_false_iff.2 fun q=>h (by grind[oN])
theorem uj{b:List Int}(h:i8 (gu b)=false):g8 b=false:=Bool.eq_false_iff.2 fun q=>by grind[oN]
theorem uk{b:List Int}(h:r8 (gu b)≠b):g8 b=false:=Bool.eq_false_iff.2 fun q=>h (by grind[At,oN])
def Eo(b:List Int):AV->List (Nat×AO)->Prop:=fun y ob=>ob=[]/\(g8 b=true/\y=.au [sV (gu b),aD true]\/g8 b=false/\y=.au [.agg [int 0,int 0,.p (.v (.slice none 0 0))],aD false])
theorem GX.sec{f:FuncId}{b:List Int}(h:GX prog f [gV b] [] (Eo b)):GC prog f [gV b] [] (.au [sV (kP b),aD (g8 b)]) []:=GX.imp h (fun x ob ⟨e1,e2⟩=>by
 subst e1;rcases e2 with⟨e,rfl⟩|⟨e,rfl⟩
 ·rw[dv e,e];exact⟨_,fe.refl _,rfl,rfl⟩
 rw[TD e,e];exact⟨_,fe.au (ff.cons (fe.agg (ff.cons (fe.refl _) (ff.cons (fe.refl _) (ff.cons (fe.nil _ _) ff.nil)))) (ff.cons (fe.refl _) ff.nil)),rfl,rfl⟩)
theorem T5(b:List Int)(hb:fA b)(hl:b.length<=2000000):GX prog 247 [gV b] [] (Eo b):=by
 refine GX.intro (rs:=[.cell 2 141 (some 3),.tmp 3]) func247 rfl ntmps247 x_8 ⟨rfl,rfl,nP,rfl,trivial⟩ ?_;intro L O w0;refine sL<|ab (zA 2002 pB Z) Z<|ar Z<|Y<|aS<|sL<|bm Z<|ba kE Z<|ak Z<|aQ Z ?_;refine AL.bool (t:=14) rfl ?_ ?_
 ·intro V;refine aa Z<|aa Z<|aa Z<|aa Z<|aU Z<|Y<|aY Z<|sL<|lq (rd (x:=.agg [c6,c6,vV _]) (cP Z r9 Z Z Z) Z)<|ab (zB 2002 mL mM Z) Z<|ar Z<|Y<|aR<|rT ?_;have hF:g8 b=false:=T3 x_33;refine fN ((.au [.agg [int 0,int 0,.p (.v (.slice none 0 0))],aD false])) [] ?_ rfl trivial;exact⟨rfl,.inr ⟨hF,rfl⟩⟩
 intro V;refine bm rfl ?_;have h7:7<b.length:=by have h:=V;simp[ap]at h;omega
 refine li 7 fh Z (bS h7)<|oy tf Z<|ak Z<|bj Z<|Y<|cE rfl ?_ ?_
 ·intro h2;refine sL<|lq (rd (x:=.agg [c6,c6,vV _]) (cP Z r9 Z Z Z) Z)<|ab (zB 2002 mL mM Z) Z<|lT [0,2,3] [2002] ?_;refine ar Z<|Y<|aR<|rT ?_;have hF:g8 b=false:=T4 h7 x_14;refine fN ((.au [.agg [int 0,int 0,.p (.v (.slice none 0 0))],aD false])) [] ?_ rfl trivial;exact⟨rfl,.inr ⟨hF,rfl⟩⟩
 intro h2;refine aK<|gT<|aS ?_;have nk:b.length=128:=by have h:=V;simp[ap]at h;omega
 have h7:7<b.length:=by omega
 obtain⟨e1,e2⟩:=Mh nk;have e3:=T1 h7;have hx:=hb _ (List.getElem_mem h7);have hle:b[7]<=100:=by have h:=h2;simp at h;omega
 refine aL<|bm Z<|ab (zC [] [] [] func185 (B8 b 1 3 hb x_3 x_3 x_3 hl) (trivial) rfl rfl) Z<|cT (.au [c6,fy]) Z<|dE rfl ?_;refine dC 24 (int (gu b).seq) (congrArg int e1) ?_;refine eU Z<|ao Z<|bv Z<|nA<|bm Z<|ab (zC [] [] [] func185 (B8 b 4 3 hb x_3 x_3 x_3 hl) (trivial) rfl rfl) Z<|cT (.au [c6,fy]) Z<|dE rfl ?_;refine dC 29 (int (gu b).dP) (congrArg int e2) ?_;refine eU Z<|ao Z<|bv Z<|nA<|ae Z<|ae Z<|bm Z<|bm Z<|li 7 fh rfl (bS h7)<|oy tf Z<|lq (rd (x:=c6) (me rfl pK lM rfl) rfl)<|jK 37 b[7] rfl (by rw[IntKind.wrap_i64];omega)<|bg Z<|jK 38 ((8+(b[7]).toNat:Nat):Int) rfl x_2 ?_;refine lq (rd (x:=c7) (p6 (l:=8) (h:=8+(b[7]).toNat) rfl fh rfl ⟨_,rfl⟩ ⟨_,rfl⟩ x_2 x_14) rfl) ?_;refine dC 39 (gV (gu b).body) (Eq.trans (b:=.p (.ab 5 1 (((ah dF b).take (8+(b[7]).toNat)).drop 8))) rfl (congrArg (fun r=>AV.p (.ab 5 1 r)) (by rw[Hj,e3]))) ?_;refine ab (zC [] [] [] func229 (TV _ x_14) (trivial) rfl rfl) Z<|lT [0,2,3,31,32,40] [2002] ?_;refine lq (rd (x:=pv) (cP Z r9 Z Z Z) Z)<|ab (zA 2008 pB Z) Z<|ab (zB 2008 mL mM Z) Z<|nA<|aP pv nP Z<|ab (zC [] [] [] func173 (T0 (gu b)) (trivial) Z Z) Z<|cT (.au [c7,fy]) Z<|rF Z<|eU Z<|nv Z<|bv Z<|Y<|aS<|sL<|aQ Z<|bX Z<|aQ Z ?_;refine AL.bool (t:=49) rfl ?_ ?_
 ·intro h3;refine aa Z<|aa Z<|aa Z<|aa Z<|aa Z<|aU Z<|Y<|aY Z<|sL<|lq (rd (x:=.agg [c6,c6,vV _]) (cP Z r9 Z Z Z) Z)<|ab (zB 2002 mL mM Z) Z<|lT [2,3,8] [2002,2008] ?_;refine ar Z<|Y<|aR<|rT ?_;have hF:g8 b=false:=by first|grind[uj]|exact uk x_59|exact uj x_28|exact uj x_38|exact uj x_59|exact uk x_28|exact uk x_38|exact uk x_59
  refine fN ((.au [.agg [int 0,int 0,.p (.v (.slice none 0 0))],aD false])) [] ?_ rfl trivial;exact⟨rfl,.inr ⟨hF,rfl⟩⟩
 intro h3;refine bm Z<|lq (rd (x:=vV _) (vv (e:=5) Z underlying76 underlying5 underlying9 Z) Z)<|bm Z<|lq (rd (x:=vV _) (vv (e:=5) Z underlying76 underlying5 underlying9 Z) Z)<|lq (rd (x:=fy) (kg Z Z Z (An underlying9 (Em (LY hb)) hb) Z) Z)<|bj Z<|Y<|cE rfl ?_ ?_
 ·intro h4;refine sL<|lq (rd (x:=.agg [c6,c6,vV _]) (cP Z r9 Z Z Z) Z)<|ab (zB 2002 mL mM Z) Z<|ar Z<|Y<|aR<|rT ?_;have hF:g8 b=false:=by first|exact uj x_86|grind[uk]|exact uj x_28|exact uj x_38|exact uj x_59|exact uj x_86|exact uk x_28|exact uk x_38|exact uk x_59|exact uk x_86
  refine fN ((.au [.agg [int 0,int 0,.p (.v (.slice none 0 0))],aD false])) [] ?_ rfl trivial;exact⟨rfl,.inr ⟨hF,rfl⟩⟩
 intro h4;refine aK<|gA<|aP pv nP Z<|ab (zB 2002 mL mM Z) Z<|cI Z<|Y<|aR ?_;have hF:g8 b=true:=Mi nk h7 hle x_14 x_14;refine fN ((.au [sV (gu b),aD true])) [] ?_ rfl trivial;exact⟨rfl,.inl ⟨hF,rfl⟩⟩
theorem Sr(b:List Int)(hb:fA b)(hl:b.length<=2000000):GC prog 247 [gV b] [] (.au [sV (kP b),aD (g8 b)]) []:=GX.sec (T5 b hb hl)

def tB(e:aV):List Int:=if co e then rY e else []
theorem wo{e:aV}(h:co e=true):tB e=rY e:=if_pos h
theorem I9{e:aV}(h:co e=false):tB e=[]:=if_neg x_137
theorem I'{has:Bool}{n lo hi:Int}(h:gj has n lo hi=true)(h0:0<=lo)(V:0<=hi):0<=n/\n<=hi:=by
 grind[gj,cJ]
theorem Dq{e:aV}(h:co e=true):(1<=e.kind/\e.kind<=11)/\(0<=e.key/\e.key<=1000000)/\(0<=e.ch/\e.ch<=99)/\(0<=e.to/\e.to<=99)/\(0<=e.af/\e.af<=1125899906842624)/\(0<=e.ay/\e.ay<=1125899906842624):=by
 have q:=uu h;rw[cY,cY]at q;unfold co at h;simp only[Bool.and_eq_true]at h;obtain⟨⟨⟨⟨⟨⟨⟨V,h2⟩,h3⟩,h4⟩,_⟩,_⟩,_⟩,_⟩:=h;exact⟨cJ.1 V,I' h2 x_3 x_3,I' h3 x_3 x_3,I' h4 x_3 x_3,q.1,q.2⟩
theorem Zc{e:aV}(h:co e=true):fA (rY e):=by
 obtain⟨a,b,c,d,f,g⟩:=Dq h;unfold rY;refine(((((fA.cons x_2 x_2 (.cons x_2 x_2 .nil)).gJ (wX _ _)).gJ (.cons x_2 x_2 (.cons x_2 x_2 .nil))).gJ (wX _ _)).gJ (wX _ _)).gJ ?_;split
 ·exact .cons x_2 x_2 .nil
 exact .cons x_2 x_2 .nil
theorem Pr(e:aV):fA (tB e):=by
 cases q:co e
 ·rw[I9 q];exact .nil
 grind[wo,Zc]
theorem x_61{p:Prop}(c:p:=by exact Eq.trans (b:=yv _) rfl (congrArg yv (by rw[wrap_u8];omega))):p:=c
theorem x_105{p:Prop}(c:p:=by exact congrArg yv (by rw[wrap_u8];omega)):p:=c
theorem Zd(e:aV):GC prog 186 [ju e] [] (.au [.own 1,aD (co e)]) [(1,iT (tB e))]:=by
 refine GC.intro (rs:=[.tmp 2,.tmp 3]) func186 rfl ntmps186 x_8 ⟨rfl,rfl,trivial⟩ ?_;intro L O w0;refine sL<|ab (zX 2001 Z) Z<|e9 Z<|ar Z<|Y<|aS<|sL<|aP iK dD Z<|ab (zC [] [] [] func110 (Ps e) (trivial) Z Z) Z<|bX Z<|Y<|cE rfl ?_ ?_
 ·intro V;refine sL<|e9 Z<|ar Z<|Y ?_;refine AW.oP 1 2 5 1 rfl ?_;refine aR<|rT ?_;have g9:co e=false:=by simpa using V
  rw[g9,I9 g9];trivial
 intro V;refine aK<|gT<|aS ?_;have g9:co e=true:=by simpa using V
 obtain⟨⟨b1,b2⟩,⟨b3,b4⟩,⟨b5,b6⟩,⟨b7,b8⟩,⟨b9,Ze⟩,⟨Zf,Zg⟩⟩:=Dq g9;refine aL<|lf 0 jz Z<|aj ac Z<|lq (rd (x:=c6) (me Z lM pK Z) Z) ?_;refine dC 10 (yv e.kind) (Eq.trans (b:=yv _) rfl (congrArg yv (by rw[wrap_u8];omega))) ?_;refine ab (zS 1 (ah dF [69,e.kind]) fh ie rfl (by simp[ah])) Z<|lf 1 gE Z<|aj ac Z<|ab (zC [(1,1)] [1] [] func241 (yS ([69,e.kind]) (e.key) 3 x_2 x_2 x_19) (trivial) rfl rfl) Z<|lT [1,2,3,14] [1,2001] ?_;refine bD Z<|Y<|aS<|aG 15 [1]<|tq 0 (qo Z)<|tq 1 (rf 2 dn Z)<|tq 2 (aZ ac Z)<|tq 3 (rd (x:=c6) (me Z lM pK Z) Z) ?_;refine Au 18 (yv e.ch) (Eq.trans (b:=yv _) rfl (congrArg yv (by rw[wrap_u8];omega))) ?_;refine tq 4 (rf 3 fK Z)<|tq 5 (aZ ac Z)<|tq 6 (rd (x:=c6) (me Z lM pK Z) Z) ?_;refine Au 21 (yv e.to) (Eq.trans (b:=yv _) rfl (congrArg yv (by rw[wrap_u8];omega))) ?_;refine tq 9 (rf 4 bN rfl)<|tq 10 (aZ ac rfl)<|tq 12 (rf 5 fC rfl)<|tq 13 (aZ ac rfl)<|cm 7 rfl (zS 2022 (ah dF [e.ch,e.to]) fh ie rfl (by simp[ah]))<|cm 8 rfl (zP 1 fh ie mu rfl x_18 (by grind[ah,da]))<|gX [1,2,3,23,25,28] [1,2001,2022] ?_;refine cm 11 rfl (St.call [(1,1)] [1] [] rfl x_19 rfl func241 rfl rfl (yS ([69,e.kind]++cl 3 e.key++[e.ch,e.to]) (e.af) 7 x_2 x_2 (by grind[da])) ⟨rfl,rfl,rfl⟩ (⟨⟨1,rfl,(Eq.trans (b:=AO.ai 5 1 (ah dF ([69,e.kind]++cl 3 e.key)++ah dF [e.ch,e.to])) rfl (Ek _ _))⟩,trivial⟩) (trivial) rfl)<|cm 14 rfl (zC [(1,1)] [1] [] func241 (yS ([69,e.kind]++cl 3 e.key++[e.ch,e.to]++cl 7 e.af) (e.ay) 7 x_2 x_2 (by grind[da])) (trivial) rfl rfl)<|yq 15 (tF rfl)<|gD<|gT<|aS<|sL<|lf 6 pw Z<|tT jN Z<|Y<|cE rfl ?_ ?_
 ·intro h2;refine sL<|bW Z<|ab (zS 2033 (ah dF [1]) fh ie rfl) Z<|ab (zP 1 fh ie mu rfl x_18 (by grind[ah,da])) Z<|bD Z<|cI Z<|Y<|aR<|rT ?_;rw[g9,wo g9];refine ax ?_ ⟨(Eq.trans (b:=AO.ai 5 1 (ah dF ([69,e.kind]++cl 3 e.key++[e.ch,e.to]++cl 7 e.af++cl 7 e.ay)++ah dF [1])) rfl (by grind[rR,rY])),trivial⟩;rfl
 intro h2;refine aK<|gA<|bW Z<|ab (zS 2036 (ah dF [0]) fh ie rfl) Z<|ab (zP 1 fh ie mu rfl x_18 (by grind[ah,da])) Z<|bD Z<|cI Z<|Y<|aR ?_;rw[g9,wo g9];refine ax ?_ ⟨(Eq.trans (b:=AO.ai 5 1 (ah dF ([69,e.kind]++cl 3 e.key++[e.ch,e.to]++cl 7 e.af++cl 7 e.ay)++ah dF [0])) rfl (by grind[rR,rY])),trivial⟩;rfl
theorem Zh(e:aV):GC prog 186 [ju e] [] (.au [gV (tB e),aD (co e)]) []:=(Zd e).Aq
theorem C1{b:List Int}{i:Nat}(h:i<b.length):b.getD i 0=b[i]:=by grind
theorem uS{b:List Int}:lK b=true↔b.length=22/\co (lJ b)=true/\rY (lJ b)=b:=by grind[lK]
theorem Pt{b:List Int}(h:b.length=22)(V:co (lJ b)=true)(h2:tB (lJ b)=b):lK b=true:=uS.2 ⟨h,V,by grind[wo]⟩
theorem Zi{b:List Int}(h:b.length≠22):lK b=false:=Bool.eq_false_iff.2 fun q=>h (uS.1 q).1
theorem C2{b:List Int}(h:co (lJ b)=false):lK b=false:=Bool.eq_false_iff.2 fun q=>by grind[uS]
theorem C3{b:List Int}(h:tB (lJ b)≠b):lK b=false:=Bool.eq_false_iff.2 fun q=>h (by grind[wo,uS])
def t6(b:List Int):aV:=if lK b then lJ b else ⟨0,0,0,0,0,0,false⟩
theorem Ja{b:List Int}(h:lK b=true):t6 b=lJ b:=if_pos h
theorem C4{b:List Int}(h:lK b=false):t6 b=⟨0,0,0,0,0,0,false⟩:=if_neg x_137
theorem Pu{b:List Int}(h:b.length=22):gW b 2 3=(lJ b).key/\gW b 7 7=(lJ b).af/\gW b 14 7=(lJ b).ay:=⟨xc x_2,xc x_2,xc x_2⟩
theorem Sx(b:List Int)(hb:fA b)(hl:b.length<=2000000):GC prog 99 [gV b] [] (.au [ju (t6 b),aD (lK b)]) []:=by
 refine GC.intro (rs:=[.cell 2 81 (some 7),.tmp 3]) func99 rfl ntmps99 x_8 ⟨rfl,rfl,dD,rfl,trivial⟩ ?_;intro L O w0;refine sL<|ab (zA 2002 jl Z) Z<|ar Z<|Y<|aS<|sL<|bm Z<|ba kE Z<|ak Z<|Y<|cE rfl ?_ ?_
 ·intro V;refine sL<|lq (rd (x:=.agg [c6,c6,c6,c6,c6,c6,vB false]) (cP Z xF Z Z Z) Z)<|ab (zB 2002 mZ m0 Z) Z<|ar Z<|Y<|aR<|rT ?_;have hF:lK b=false:=Zi (by have h:=V;simp[ap]at h;omega);rw[C4 hF,hF];trivial
 intro V;refine aK<|gT<|aS ?_;have wq:b.length=22:=by have h:=V;simp[ap]at h;omega
 have V:1<b.length:=by omega
 have h5:5<b.length:=by omega
 have h6:6<b.length:=by omega
 have wt:21<b.length:=by omega
 obtain⟨e1,e2,e3⟩:=Pu wq;have x1:=hb _ (List.getElem_mem V);have x5:=hb _ (List.getElem_mem h5);have x6:=hb _ (List.getElem_mem h6);have x21:=hb _ (List.getElem_mem wt);refine aF [18]<|pq 0 (iz rfl)<|sq 1 (ri 1 fh rfl (bS V))<|sq 2 (qU tf rfl)<|sq 3 (rd (x:=c6) (me rfl pK lM rfl) rfl)<|qM 14 (lJ b).kind rfl (Eq.trans (show IntKind.i64.wrap b[1]=b[1] by rw[IntKind.wrap_i64];omega) (C1 V).symm)<|pq 4 (iz rfl)<|sq 5 (ri 5 fh rfl (bS h5))<|sq 6 (qU tf rfl)<|sq 7 (rd (x:=c6) (me rfl pK lM rfl) rfl)<|qM 18 (lJ b).ch rfl (Eq.trans (show IntKind.i64.wrap b[5]=b[5] by rw[IntKind.wrap_i64];omega) (C1 h5).symm)<|pq 8 (iz rfl)<|sq 9 (ri 6 fh rfl (bS h6))<|sq 10 (qU tf rfl)<|sq 11 (rd (x:=c6) (me rfl pK lM rfl) rfl)<|qM 22 (lJ b).to rfl (Eq.trans (show IntKind.i64.wrap b[6]=b[6] by rw[IntKind.wrap_i64];omega) (C1 h6).symm)<|pq 12 (iz rfl)<|sq 13 (ri 21 fh rfl (bS wt))<|sq 14 (qU tf rfl)<|sq 15 (dt rfl) ?_;refine DR 26 (aD (lJ b).yes) (congrArg aD (show decide (b[21]=1)=(b.getD 21 0==1) by grind)) ?_;refine sq 16 (rd (x:=iK) (cP Z xF Z Z Z) Z)<|bn 17 Z (zA 2004 jl Z) (.inr Z)<|fT [0,2,3,4,27] [2002,2004] ?_;refine bn 18 rfl (zB 2004 mZ m0 rfl) (.inl rfl)<|fD<|gA<|bm Z<|ab (zC [] [] [] func185 (B8 b 2 3 hb x_3 x_3 x_3 hl) (trivial) rfl rfl) Z<|cT (.au [c6,fy]) Z<|dE rfl ?_;refine dC 31 (int (lJ b).key) (congrArg int e1) ?_;refine eU Z<|lf 1 gE Z<|ab (zB 2004 ca cb rfl) Z<|nA<|bm Z<|ab (zC [] [] [] func185 (B8 b 7 7 hb x_3 x_3 x_3 hl) (trivial) rfl rfl) Z<|cT (.au [c6,fy]) Z<|dE rfl ?_;refine dC 37 (int (lJ b).af) (congrArg int e2) ?_;refine eU Z<|lf 4 bN Z<|ab (zB 2004 ca cb Z) Z<|lT [0,2,3,4] [2002,2004] ?_;refine nA<|bm Z<|ab (zC [] [] [] func185 (B8 b 14 7 hb x_3 x_3 x_3 hl) (trivial) rfl rfl) Z<|cT (.au [c6,fy]) Z<|dE rfl ?_;refine dC 43 (int (lJ b).ay) (congrArg int e3) ?_;refine eU Z<|lf 5 fC Z<|ab (zB 2004 ca cb Z) Z<|nA<|aP iK dD Z<|ab (zC [] [] [] func186 (Zh (lJ b)) (trivial) Z Z) Z<|cT (.au [c7,fy]) Z<|rF Z<|eU Z<|nv Z<|bv Z<|Y<|aS<|sL<|aQ Z<|bX Z<|aQ Z ?_;refine AL.bool (t:=53) rfl ?_ ?_
 ·intro h2;refine aa Z<|aa Z<|aa Z<|aa Z<|aa Z<|aU Z<|Y<|aY Z<|sL<|lq (rd (x:=.agg [c6,c6,c6,c6,c6,c6,vB false]) (cP Z xF Z Z Z) Z)<|ab (zB 2002 mZ m0 Z) Z<|lT [2,3,4] [2002,2004] ?_;refine ar Z<|Y<|aR<|rT ?_;have hF:lK b=false:=by first|exact C2 x_38|exact C3 x_38|exact C2 x_28|exact C3 x_28
  rw[C4 hF,hF];trivial
 intro h2;refine bm Z<|lq (rd (x:=vV _) (vv (e:=5) Z underlying76 underlying5 underlying9 Z) Z)<|bm Z<|lq (rd (x:=vV _) (vv (e:=5) Z underlying76 underlying5 underlying9 Z) Z)<|lq (rd (x:=fy) (kg Z Z Z (An underlying9 (Pr _) hb) Z) Z)<|bj Z<|Y<|cE rfl ?_ ?_
 ·intro h3;refine sL<|lq (rd (x:=.agg [c6,c6,c6,c6,c6,c6,vB false]) (cP Z xF Z Z Z) Z)<|ab (zB 2002 mZ m0 Z) Z<|ar Z<|Y<|aR<|rT ?_;have hF:lK b=false:=by first|exact C2 x_59|exact C3 x_59|exact C2 x_38|exact C3 x_38|exact C2 x_28|exact C3 x_28
  rw[C4 hF,hF];trivial
 intro h3;refine aK<|gA<|aP iK dD Z<|ab (zB 2002 mZ m0 Z) Z<|cI Z<|Y<|aR ?_;have hF:lK b=true:=Pt wq (by first|(simpa using h2)|(simpa using h3)) (by first|(simpa using h2)|(simpa using h3));rw[Ja hF,hF];trivial

theorem Pv(size:Nat)(hs:size<=7):GC prog 270 [int (size:Int)] [] (int (256 ^ size)) []:=by
 refine gi 2 func270 rfl ntmps270 rfl ?_;intro L O w0;refine sL<|ao Z<|nA<|ao Z<|Y<|aS<|sL<|ao Z<|Y<|aB ?_;refine aW [0,2] [] (D:=Nat) (fun d=>[(4,int (d:Int)),(3,int (256 ^ d))]) (fun d=>[]) (fun d=>d<=size) (fun d=>size-d) (0) (Nat.zero_le _) ⟨rfl,rfl,trivial⟩ trivial ?_;intro j hI;replace hI:j<=size:=hI;refine aS<|sL<|ae Z<|ae Z<|ak Z<|Y<|cE rfl ?_ ?_
 ·intro V;refine aK<|gT<|aS<|aB ?_;have hj:j<size:=by have h:=V;simp only[decide_eq_true_eq]at h;omega
  have El:=Me (j:=j) x_2;have wK:(0:Int)<=256 ^ j:=Int.pow_nonneg x_2;refine aL<|ae Z<|bg Z<|ao Z<|lN<|gB<|gT<|aL<|ae Z<|bg Z<|ao Z<|Y ?_;refine⟨(j+1),hj,by omega,⟨(iq rfl),(congrArg int (Int.pow_succ _ _).symm),trivial⟩,trivial,rfl,rfl⟩
 intro V;refine aE<|eT<|eT<|eB<|gA<|ae Z<|ao Z<|Y<|aR ?_;have hj:j=size:=by have h:=V;simp only[decide_eq_false_iff_not]at h;omega
 subst hj;trivial
theorem Zj(l:List Int)(n:Int)(size:Nat)(h0:0<=n)(V:n<256 ^ size)(h7:n<72057594037927936)(wQ:1<=size)(hs:size<=7)(hl:l.length<=200):GC prog 237 [gV l,int n,int (size:Int)] [] (.au [.own 1,aD true]) [(1,iT (l++cl size n))]:=by
 refine GC.intro (rs:=[.tmp 6,.tmp 7]) func237 rfl ntmps237 x_8 ⟨rfl,rfl,trivial⟩ ?_;intro L O w0;refine sL<|e9 Z<|ar Z<|Y<|aS<|sL<|ae Z<|ak Z<|bJ 11 false rfl x_14<|dm Z<|ae Z<|ak Z<|bJ 14 false rfl x_14<|bL Z<|dm Z<|ae Z<|ak Z<|bJ 18 false rfl x_14<|bL Z<|dm Z<|ae Z<|ae Z<|ab (zC [] [] [] func270 (Pv (size) x_2) (trivial) rfl rfl) Z<|lT [0,1,2,6,7,20,21,23] [] ?_;refine ak Z<|bJ 24 false rfl x_14<|bL Z<|Y<|aN Z<|aK<|gA<|ab (zS 1 (ah dF []) fh ie rfl (by trivial)) Z<|bm Z<|ab (zP 1 fh ie mu rfl (Src.p rfl) x_69) Z<|bD Z<|Y<|aS<|sL<|ae Z<|bg Z<|ao Z<|Y<|aB ?_;refine aW [1,6,7] [] (D:=Nat) (fun d=>[(9,int ((size:Int)-1-(d:Int))),(8,.own 1)]) (fun d=>[(1,iT (l++(cl size n).take d))]) (fun d=>d<=size) (fun d=>size-d) (0) (Nat.zero_le _) x_83 ⟨(by rw[List.take_zero,List.append_nil];rfl),trivial⟩ ?_;intro j hI;replace hI:j<=size:=hI;refine aS<|sL<|ae Z<|ak Z<|Y<|cE rfl ?_ ?_
 ·intro V;refine aK<|gT<|aS<|aB ?_;have hj:j<size:=by have h:=V;simp only[ge_iff_le,decide_eq_true_eq]at h;omega
  have vd:((cl size n).take j).length<=7:=by rw[List.length_take,da];omega
  have Zk:(256:Int) ^ (size-1-j)≠0:=Int.ne_of_gt (Int.pow_pos x_2);have Zl:0<=n/256 ^ (size-1-j):=Int.ediv_nonneg h0 (Int.pow_nonneg x_2);have Ba:n/256 ^ (size-1-j)<=n:=Int.ediv_le_self _ h0;refine aL<|bW Z<|ae Z<|ae Z<|jK 37 ((size-1-j:Nat):Int) rfl x_2<|ab (zC [] [] [] func270 (Pv (size-1-j) x_2) (trivial) rfl rfl) Z<|lT [1,6,7,8,9,35,36,38] [1] ?_;refine eo rfl ⟨rfl,Zk,ce x_82⟩<|jK 39 (n/256 ^ (size-1-j)) rfl (Int.tdiv_eq_ediv_of_nonneg h0) ?_;refine eo rfl ⟨rfl,by decide⟩<|jK 40 (n/256 ^ (size-1-j)%256) rfl (Int.tmod_eq_emod_of_nonneg Zl)<|lq (rd (x:=c6) (me rfl lM pK rfl) rfl) ?_;refine dC 41 (yv (n/256 ^ (size-1-j)%256)) (Eq.trans (b:=yv _) rfl (congrArg yv (by simp[wrap_u8]))) ?_;refine ab (zS 2042 (ah dF [n/256 ^ (size-1-j)%256]) fh ie rfl) Z<|ab (zP 1 fh ie mu rfl x_18 x_69) Z<|bD Z<|lN<|gB<|gT<|aL<|ae Z<|bg Z<|ao Z<|Y ?_;refine⟨(j+1),hj,by omega,x_83,⟨(Eq.trans (Ek _ _) (Ma hj)),trivial⟩,rfl,rfl⟩
 intro V;refine aE<|eT<|eT<|eB<|gA<|bW Z<|bD Z<|cI Z<|Y<|aR ?_;have hj:j=size:=by have h:=V;simp only[ge_iff_le,decide_eq_false_iff_not]at h;omega
 subst hj;refine ax ?_ ⟨(congrArg (fun r=>iT (l++r)) (Mb _ n)),trivial⟩;rfl
theorem uN(b:List Int)(k size:Nat)(hb:fA b)(wQ:1<=size)(hs:size<=7)(hk:k<=1000)(hl:b.length<=2000000):GC prog 187 [gV b,int (k:Int),int (size:Int)] [] (.au [int (gW b k size),aD (As b k size)]) []:=by
 refine GC.intro (rs:=[.tmp 6,.tmp 7]) func187 rfl ntmps187 x_8 ⟨rfl,rfl,trivial⟩ ?_;intro L O w0;refine sL<|ao Z<|ar Z<|Y<|aS<|sL<|ae Z<|ak Z<|bJ 11 false rfl x_14<|dm Z<|ae Z<|ak Z<|bJ 14 false rfl x_14<|bL Z<|dm Z<|ae Z<|ak Z<|bJ 18 false rfl x_19<|bL Z<|dm Z<|ae Z<|bm Z<|ba kE Z<|ae rfl ?_;refine eo rfl ⟨rfl,ce (by grind[ap,i64])⟩<|ak Z<|bj Z<|Y<|cE rfl ?_ ?_
 ·intro V;refine sL<|ao Z<|ar Z<|Y<|aR<|rT ?_;have r7:¬k+size<=b.length:=by have h:=V;simp only[gt_iff_lt,decide_eq_true_eq,ap]at h;omega
  unfold gW As;rw[if_neg r7,decide_eq_false r7];trivial
 intro V;refine aK<|gT<|aS ?_;have r7:k+size<=b.length:=by have h:=V;simp only[gt_iff_lt,decide_eq_false_iff_not,ap]at h;omega
 have hlen:((b.drop k).take size).length=size:=by rw[List.length_take,List.length_drop];omega
 refine aL<|ao Z<|Y<|aS<|sL<|ao Z<|Y<|aB ?_;refine aW [0,1,2,6,7] [] (D:=Nat) (fun d=>[(9,int (d:Int)),(8,int (mO (((b.drop k).take size).take d)))]) (fun d=>[]) (fun d=>d<=size) (fun d=>size-d) (0) (Nat.zero_le _) ⟨rfl,rfl,trivial⟩ trivial ?_;intro j hI;replace hI:j<=size:=hI;refine aS<|sL<|ae Z<|ae Z<|ak Z<|Y<|cE rfl ?_ ?_
 ·intro h2;refine aK<|gT<|aS<|aB ?_;have hj:j<size:=by have h:=h2;simp only[decide_eq_true_eq]at h;omega
  have ro:j<((b.drop k).take size).length:=by omega
  have El:=Mf (l:=(b.drop k).take size) ((hb.drop k).take size) hj hs;have hx:=((hb.drop k).take size) _ (List.getElem_mem ro);have Ca:k+j<b.length:=by omega
  have Pw:b[k+j]=((b.drop k).take size)[j]:=by simp
  refine aL<|ae Z<|bg Z<|bm Z<|lT [0,1,2,6,7,8,9,34,35] [] ?_;refine ae Z<|ae Z<|bg Z<|jK 38 ((k+j:Nat):Int) rfl x_2<|li ((k+j)) fh rfl (bS Ca)<|oy tf Z<|lq (rd (x:=c6) (me rfl pK lM rfl) rfl)<|jK 41 (((b.drop k).take size)[j]) rfl (by grind[IntKind.wrap_i64])<|bg Z<|ao Z<|lN<|gB<|gT<|aL<|ae Z<|bg Z<|ao Z<|Y ?_;refine⟨(j+1),hj,by omega,⟨(iq rfl),(congrArg int (Md ro).symm),trivial⟩,trivial,rfl,rfl⟩
 intro h2;refine aE<|eT<|eT<|eB<|gA<|ae Z<|ao Z<|cI Z<|Y<|aR ?_;have hj:j=size:=by have h:=h2;simp only[decide_eq_false_iff_not]at h;omega
 subst hj;unfold As;rw[xc r7,decide_eq_true r7,List.take_of_length_le (l:=(b.drop k).take j) x_2];trivial
theorem x_139{p:Prop}(c:p:=by intro p hp;simp at hp;subst hp;rfl):p:=c
theorem xU(l:List Int)(n:Int)(size:Nat)(h0:0<=n)(V:n<256 ^ size)(h7:n<72057594037927936)(wQ:1<=size)(hs:size<=7)(hl:l.length<=200):GC prog 237 [.own 2,int n,int (size:Int)] [(2,iT l)] (.au [.own 1,aD true]) [(1,iT (l++cl size n)),(2,iT l)]:=
 (Zj l n size h0 V h7 wQ hs hl).Ae rfl rfl (by intro id hid;simp[s7,vN]at hid;subst hid;rfl) x_139 (by intro p hp;simp at hp;subst hp;exact⟨rfl,yg⟩) x_139
theorem Zm(e:aV):GC prog 188 [ju e] [] (.au [.own 1,aD (co e)]) [(1,iT (tB e))]:=by
 refine GC.intro (rs:=[.tmp 2,.tmp 3]) func188 rfl ntmps188 x_8 ⟨rfl,rfl,trivial⟩ ?_;intro L O w0;refine sL<|ab (zX 2001 Z) Z<|e9 Z<|ar Z<|Y<|aS<|sL<|aP iK dD Z<|ab (zC [] [] [] func195 (Px e) (trivial) Z Z) Z<|bX Z<|Y<|cE rfl ?_ ?_
 ·intro V;refine sL<|e9 Z<|ar Z<|Y ?_;refine AW.oP 1 2 5 1 rfl ?_;refine aR<|rT ?_;have g9:co e=false:=by simpa using V
  rw[g9,I9 g9];trivial
 intro V;refine aK<|gT<|aS ?_;have g9:co e=true:=by simpa using V
 obtain⟨⟨b1,b2⟩,⟨b3,b4⟩,⟨b5,b6⟩,⟨b7,b8⟩,⟨b9,Ze⟩,⟨Zf,Zg⟩⟩:=Dq g9;refine aL<|lf 0 jz Z<|aj ac Z<|lq (rd (x:=c6) (me Z lM pK Z) Z) ?_;refine dC 10 (yv e.kind) (Eq.trans (b:=yv _) rfl (congrArg yv (by rw[wrap_u8];omega))) ?_;refine ab (zS 5 (ah dF [69,e.kind]) fh ie rfl (by simp[ah])) Z<|bD Z<|nA<|bW Z<|lf 1 gE Z<|aj ac Z<|ab (zC [(1,6),(2,5)] [6,5] [] func237 (xU ([69,e.kind]) (e.key) 3 x_2 x_2 x_2 x_3 x_3 x_19) (trivial) rfl rfl) Z<|lT [1,2,3,16] [5,6,2001] ?_;refine cT (.au [.own _,vB true]) Z<|qT Z<|iB (vB true) Z<|bD Z<|nA<|bW Z<|lf 2 dn Z<|aj ac Z<|lq (rd (x:=c6) (me Z lM pK Z) Z) ?_;refine dC 22 (yv e.ch) (Eq.trans (b:=yv _) rfl (congrArg yv (by rw[wrap_u8];omega))) ?_;refine lf 3 fK Z<|aj ac Z<|lq (rd (x:=c6) (me Z lM pK Z) Z) ?_;refine dC 25 (yv e.to) (Eq.trans (b:=yv _) rfl (congrArg yv (by rw[wrap_u8];omega))) ?_;refine ab (zS 2026 (ah dF [e.ch,e.to]) fh ie rfl (by simp[ah])) Z<|ab (zP 6 fh ie mu rfl x_18 (by grind[ah,da])) Z<|bD Z<|nA<|bW Z<|lf 4 bN Z<|aj ac rfl ?_;refine ab (St.call [(1,7),(2,6)] [7,6] [] rfl x_19 rfl func237 rfl rfl (xU ([69,e.kind]++cl 3 e.key++[e.ch,e.to]) (e.af) 7 x_2 x_2 x_2 x_3 x_3 (by grind[da])) ⟨rfl,rfl,rfl⟩ (⟨⟨6,rfl,(Eq.trans (b:=AO.ai 5 1 (ah dF ([69,e.kind]++cl 3 e.key)++ah dF [e.ch,e.to])) rfl (Ek _ _))⟩,trivial⟩) (trivial) rfl) Z<|lT [1,2,3,32] [5,6,7,2001,2026] ?_;refine cT (.au [.own _,vB true]) Z<|qT Z<|iB (vB true) Z<|bD Z<|nA<|bW Z<|lf 5 fC Z<|aj ac Z<|ab (zC [(1,1),(2,7)] [1,7] [] func237 (xU ([69,e.kind]++cl 3 e.key++[e.ch,e.to]++cl 7 e.af) (e.ay) 7 x_2 x_2 x_2 x_3 x_3 (by grind[da])) (trivial) rfl rfl) Z<|cT (.au [.own _,vB true]) Z<|qT Z<|iB (vB true) Z<|bD Z<|Y<|aS<|sL<|lf 6 pw Z<|tT jN Z<|Y<|cE rfl ?_ ?_
 ·intro h2;refine sL<|bW Z<|ab (zS 2045 (ah dF [1]) fh ie Z) Z<|lT [2,3,4,44,45] [1,5,6,7,2001,2026,2045] ?_;refine ab (zP 1 fh ie mu rfl x_18 (by grind[ah,da])) Z<|bD Z<|cI Z<|Y<|aR<|rT ?_;rw[g9,wo g9];refine ax ?_ ⟨(Eq.trans (b:=AO.ai 5 1 (ah dF ([69,e.kind]++cl 3 e.key++[e.ch,e.to]++cl 7 e.af++cl 7 e.ay)++ah dF [1])) rfl (by grind[rR,rY])),trivial⟩;rfl
 intro h2;refine aK<|gA<|bW Z<|ab (zS 2048 (ah dF [0]) fh ie rfl) Z<|ab (zP 1 fh ie mu rfl x_18 (by grind[ah,da])) Z<|bD Z<|cI Z<|Y<|aR ?_;rw[g9,wo g9];refine ax ?_ ⟨(Eq.trans (b:=AO.ai 5 1 (ah dF ([69,e.kind]++cl 3 e.key++[e.ch,e.to]++cl 7 e.af++cl 7 e.ay)++ah dF [0])) rfl (by grind[rR,rY])),trivial⟩;rfl
theorem Zn(e:aV):GC prog 188 [ju e] [] (.au [gV (tB e),aD (co e)]) []:=(Zm e).Aq
theorem wu{b:List Int}{k:Nat}(h:k<b.length):gW b k 1=b.getD k 0:=by
 rw[xc x_2,C1 h,List.drop_eq_getElem_cons h,List.take_succ_cons,List.take_zero];show 0*256+b[k]=b[k];omega
def xV(b:List Int):aV:=⟨gW b 1 1,gW b 2 3,gW b 5 1,gW b 6 1,gW b 7 7,gW b 14 7,decide (gW b 21 1=1)⟩
theorem Jb{b:List Int}(h:b.length=22):xV b=lJ b:=by
 grind[Pu,xV,wu,lJ]
theorem Zo{b:List Int}(V:co (xV b)=true)(h2:tB (xV b)=b):lK b=true/\xV b=t6 b:=by
 grind[wo,TF,Jb,Pt,Ja]
theorem Jc{b:List Int}(h:co (xV b)=false):lK b=false:=Bool.eq_false_iff.2 fun q=>by
 grind[uS,Jb]
theorem Jd{b:List Int}(h:tB (xV b)≠b):lK b=false:=Bool.eq_false_iff.2 fun q=>h (by
 grind[uS,Jb,wo])
theorem Zp(b:List Int)(hb:fA b)(hl:b.length<=2000000):GC prog 100 [gV b] [] (.au [ju (t6 b),aD (lK b)]) []:=by
 refine GC.intro (rs:=[.cell 2 81 (some 7),.tmp 3]) func100 rfl ntmps100 x_8 ⟨rfl,rfl,dD,rfl,trivial⟩ ?_;intro L O w0;refine sL<|ab (zA 2002 jl rfl) Z<|ar Z<|nA<|lq (rd (x:=.agg [c6,c6,c6,c6,c6,c6,vB false]) (cP rfl xF rfl rfl rfl) rfl)<|ab (zA 2004 jl rfl) Z<|ab (zB 2004 mZ m0 rfl) Z<|nA<|bm Z<|ab (zC [] [] [] func187 (uN b 1 1 hb x_3 x_3 x_3 hl) (trivial) rfl rfl) Z<|cT (.au [c6,fy]) Z<|dE Z<|eU Z<|lf 0 jz Z<|ab (zB 2004 ca cb rfl) Z<|nA<|bm Z<|ab (zC [] [] [] func187 (uN b 2 3 hb x_3 x_3 x_3 hl) (trivial) rfl rfl) Z<|lT [0,2,3,4,18] [2002,2004] ?_;refine cT (.au [c6,fy]) Z<|dE Z<|eU Z<|lf 1 gE Z<|ab (zB 2004 ca cb rfl) Z<|nA<|bm Z<|ab (zC [] [] [] func187 (uN b 5 1 hb x_3 x_3 x_3 hl) (trivial) rfl rfl) Z<|cT (.au [c6,fy]) Z<|dE Z<|eU Z<|lf 2 dn Z<|ab (zB 2004 ca cb rfl) Z<|nA<|bm Z<|ab (zC [] [] [] func187 (uN b 6 1 hb x_3 x_3 x_3 hl) (trivial) rfl rfl) Z<|lT [0,2,3,4,30] [2002,2004] ?_;refine cT (.au [c6,fy]) Z<|dE Z<|eU Z<|lf 3 fK Z<|ab (zB 2004 ca cb rfl) Z<|nA<|bm Z<|ab (zC [] [] [] func187 (uN b 7 7 hb x_3 x_3 x_3 hl) (trivial) rfl rfl) Z<|cT (.au [c6,fy]) Z<|dE Z<|eU Z<|lf 4 bN Z<|ab (zB 2004 ca cb rfl) Z<|nA<|bm Z<|ab (zC [] [] [] func187 (uN b 14 7 hb x_3 x_3 x_3 hl) (trivial) rfl rfl) Z<|lT [0,2,3,4,42] [2002,2004] ?_;refine cT (.au [c6,fy]) Z<|dE Z<|eU Z<|lf 5 fC Z<|ab (zB 2004 ca cb rfl) Z<|nA<|bm Z<|ab (zC [] [] [] func187 (uN b 21 1 hb x_3 x_3 x_3 hl) (trivial) rfl rfl) Z<|cT (.au [c6,fy]) Z<|dE Z<|eU Z<|ao Z<|bv Z<|nA<|ae Z<|ak Z<|lf 6 pw Z<|ab (zB 2004 ES ET rfl) Z<|lT [0,2,3,4] [2002,2004] ?_;refine nA<|aP iK dD Z<|ab (zC [] [] [] func188 (Zn (xV b)) (trivial) Z Z) Z<|cT (.au [c7,fy]) Z<|rF Z<|eU Z<|nv Z<|bv Z<|Y<|aS<|sL<|aQ Z<|bX Z<|aQ Z ?_;refine AL.bool (t:=61) rfl ?_ ?_
 ·intro V;refine aa Z<|aa Z<|aa Z<|aa Z<|aa Z<|aU Z<|Y<|aY Z<|sL<|lq (rd (x:=.agg [c6,c6,c6,c6,c6,c6,vB false]) (cP Z xF Z Z Z) Z)<|ab (zB 2002 mZ m0 Z) Z<|ar Z<|Y<|aR<|rT ?_;have hF:lK b=false:=by first|exact Jc x_28|exact Jd x_28
  rw[C4 hF,hF];trivial
 intro V;refine bm Z<|lq (rd (x:=vV _) (vv (e:=5) Z underlying76 underlying5 underlying9 Z) Z)<|bm Z<|lq (rd (x:=vV _) (vv (e:=5) Z underlying76 underlying5 underlying9 Z) Z)<|lq (rd (x:=fy) (kg Z Z Z (An underlying9 (Pr _) hb) Z) Z)<|bj Z<|Y<|cE rfl ?_ ?_
 ·intro h2;refine sL<|lq (rd (x:=.agg [c6,c6,c6,c6,c6,c6,vB false]) (cP Z xF Z Z Z) Z)<|ab (zB 2002 mZ m0 Z) Z<|lT [2,3,4] [2002,2004] ?_;refine ar Z<|Y<|aR<|rT ?_;have hF:lK b=false:=by first|exact Jc x_38|exact Jd x_38|exact Jc x_28|exact Jd x_28
  rw[C4 hF,hF];trivial
 intro h2;refine aK<|gA<|aP iK dD Z<|ab (zB 2002 mZ m0 Z) Z<|cI Z<|Y<|aR ?_;obtain⟨hF,hR⟩:=Zo (b:=b) (by first|(simpa using V)|(simpa using h2)) (by first|(simpa using V)|(simpa using h2));rw[<-hR,hF];trivial

section
variable {P:Program}{o:Oper}{τ:Nat->AV}{H:Nat->AO}{X:Nat->Bool}
theorem Je{s d e:TypeId}{x:Operand}{l:List Int}{id:Nat}{e0:ga}(ho:o.op=.convert s d x)(hs:P.underlying s=some (.slice e))(he:P.underlying e=some (.int .u8))(hd:P.underlying d=some .string)(hx:ev τ x=.own id)(hH:H id=.ai e0 1 (ah dF l))(hX:X id=false):Rd P o τ H X (LP l):=by
 constructor;intro L O w0 N ρ fp a w hr;have h:=hr.ev x;rw[hx,RV]at h;have hv:=h.2 x_122;have bY:=hr.ob id;rw[hH]at bY;obtain⟨xs,fr,b1,b2,b3,b4,_⟩:=bY;have gG:=G7 b1;subst gG;refine⟨.string (strOfNums l),fX rfl,fun W hK=>?_⟩;have e1:execOp a.eval o=(do let v <-convert s d (a.eval x);pure (.value v)):=by simp only[execOp,ho]
 rw[e1,hv,Sem.run_bind];rcases b3.2 with⟨q,q2⟩|⟨g,cap,cur,q,_,hg,hnc,bC,_⟩
 ·simp_all[ap,LS]
 obtain⟨hc,eI⟩:=AD (fp:=fp id) b3 q;have hW:W.heap[g]? = w.heap[g]?:=hK.2 g eI (fun j hj q1 q2=>by
  have bO:j≠id:=fun z=>by grind
  exact hr.dj j id bO g ((hr.ob j).top q1 q2) (by grind[Value.ownBlock]))
 have G8:jo W g 0 (l.map (Value.int .u8)):=fun j v hj=>by
  rw[World.cell?_of_block (w:=w) (a:=⟨g,0+j,none⟩) hW];exact hc j v hj
 rw[q,LQ hs he hd (ap _ _).symm G8];rfl
end

theorem Zq(s:fb):GC prog 236 [sV s] [] (aD (i8 s)) []:=by
 refine gi 2 func236 rfl ntmps236 rfl ?_;intro L O w0;refine sL<|ab (zX 2001 Z) Z<|ar Z<|nA<|lf 0 tX Z<|aj ac Z<|ak Z<|aQ Z ?_;refine AL.bool (t:=6) rfl ?_ ?_
 ·intro V;refine lf 0 tX Z<|aj ac Z<|ak Z<|bj Z<|aQ Z ?_;refine AL.bool (t:=11) rfl ?_ ?_
  ·intro h2;refine lf 1 rQ Z<|aj ac Z<|ak Z<|bj Z<|aQ Z ?_;refine AL.bool (t:=16) rfl ?_ ?_
   ·intro h3;refine lf 1 rQ Z<|aj ac Z<|ak Z<|bj Z<|aQ Z ?_;refine AL.bool (t:=21) rfl ?_ ?_
    ·intro h4;refine lf 2 u' Z<|bo kb Z<|ba kE Z ?_;refine dC 24 (int (s.body.length:Int)) (congrArg (fun n:Nat=>int (n:Int)) (ap _ _)) ?_;refine ak Z<|bj Z<|bv Z<|Y<|aR ?_;refine az trivial ?_;unfold i8 aI;grind
    intro h4;refine aa Z<|aa Z<|aa Z<|aa Z<|bL Z<|ar Z<|Y<|aR ?_;refine az trivial ?_;unfold i8 aI;grind
   intro h3;refine aa Z<|aa Z<|aa Z<|bL Z<|lT [1,2,20] [2001] ?_;refine dm Z<|aa Z<|aa Z<|aa Z<|aa Z<|bL Z<|ar Z<|Y<|aR ?_;refine az trivial ?_;unfold i8 aI;grind
  intro h2;refine aa Z<|aa Z<|aa Z<|bL Z<|dm Z<|aa Z<|aa Z<|aa Z<|bL Z<|dm Z<|aa Z<|aa Z<|aa Z<|aa Z<|bL Z<|ar Z<|Y<|aR ?_;refine az trivial ?_;unfold i8 aI;grind
 intro V;refine aa Z<|aa Z<|aa Z<|bL Z<|dm Z<|aa Z<|aa Z<|aa Z<|bL Z<|dm Z<|aa Z<|aa Z<|aa Z<|bL Z<|dm Z<|aa Z<|aa Z<|aa Z<|aa Z<|bL Z<|ar Z<|Y<|aR ?_;refine az trivial ?_;unfold i8 aI;grind
theorem Zr{n:Int}(h0:0<=n)(V:n<=255):cl 1 n=[n]:=by
 show [n/256 ^ 0%256]=[n];grind
theorem Zs(s:fb):GC prog 165 [sV s] [] (.au [.own 1,aD (i8 s)]) [(1,iT (r8 s))]:=by
 refine GC.intro (rs:=[.tmp 2,.tmp 3]) func165 rfl ntmps165 x_8 ⟨rfl,rfl,trivial⟩ ?_;intro L O w0;refine sL<|ab (zX 2001 Z) Z<|e9 Z<|ar Z<|Y<|aS<|sL<|aP pv nP Z<|ab (zC [] [] [] func236 (Zq s) (trivial) Z Z) Z<|bX Z<|Y<|cE rfl ?_ ?_
 ·intro V;refine sL<|e9 Z<|ar Z<|Y ?_;refine AW.oP 1 2 5 1 rfl ?_;refine aR<|rT ?_;have g9:i8 s=false:=by simpa using V
  rw[g9,Hl g9];trivial
 intro V;refine aK<|gT<|aS ?_;have g9:i8 s=true:=by simpa using V
 obtain⟨⟨a1,a2⟩,⟨b1,b2⟩,hl⟩:=qW.1 g9;refine aL<|ab (zS 5 (ah dF [74]) fh ie rfl) Z<|lf 0 tX Z<|aj ac Z<|ab (zC [(1,6),(2,5)] [6,5] [] func237 (xU ([74]) (s.seq) 3 x_2 x_2 x_2 x_3 x_3 x_56) (trivial) rfl rfl) Z<|cT (.au [.own _,vB true]) Z<|qT Z<|iB (vB true) Z<|bD Z<|cI Z<|nA<|bW Z<|lf 1 rQ Z<|aj ac Z<|ab (zC [(1,7),(2,6)] [7,6] [] func237 (xU ([74]++cl 3 s.seq) (s.dP) 3 x_2 x_2 x_2 x_3 x_3 x_56) (trivial) rfl rfl) Z<|lT [1,2,3,20] [5,6,7,2001] ?_;refine cT (.au [.own _,vB true]) Z<|qT Z<|iB (vB true) Z<|bD Z<|nA<|bW Z<|lf 2 u' Z<|bo kb Z<|ba kE Z ?_;refine dC 27 (int (s.body.length:Int)) (congrArg (fun n:Nat=>int (n:Int)) (ap _ _)) ?_;refine ab (zC [(1,8),(2,7)] [8,7] [] func237 (xU ([74]++cl 3 s.seq++cl 3 s.dP) ((s.body.length:Int)) 1 x_2 x_2 x_2 x_3 x_3 x_56) (trivial) rfl rfl) Z<|cT (.au [.own _,vB true]) Z<|qT Z<|iB (vB true) Z<|bD Z<|nA<|bW Z<|lf 2 u' Z<|bo kb Z<|ab (zP 8 fh ie mu rfl (Src.p rfl) x_93) Z<|lT [1,2,3,34] [5,6,7,8,2001] ?_;refine bD Z<|Y ?_;refine AW.obj 8 (iT ([74]++cl 3 s.seq++cl 3 s.dP++[(s.body.length:Int)]++s.body)) ((Eq.trans (b:=AO.ai 5 1 (ah dF ([74]++cl 3 s.seq++cl 3 s.dP++cl 1 (s.body.length:Int))++ah dF s.body)) rfl (by rw[Zr x_2 x_2,<-rR]))) ?_;refine sL<|bW Z<|bW Z<|ba kE Z ?_;refine dC 37 (int ((8+s.body.length:Nat):Int)) (Eq.trans (b:=int _) rfl (congrArg (fun n:Nat=>int (n:Int)) (by rw[ap];first|(simp[da];done)|(simp[da];omega)))) ?_;refine bg Z<|ab (L8 8 (m:=114-s.body.length) rfl rfl x_3 fh ie rfl lM rfl rfl rfl ?hn1 (by rw[ap];first|(simp;done)|(simp;omega)) x_2 (by rw[ap];simp[da,maxLen];omega) (Nat.le_trans (Nat.mul_le_mul_left _ mu) (by rw[ap];simp[da];omega))) rfl ?_;case hn1=>omega
 refine bD Z<|Y ?_;refine AW.obj 8 (iT ([74]++cl 3 s.seq++cl 3 s.dP++[(s.body.length:Int)]++s.body++List.replicate (114-s.body.length) 0)) ((Eq.trans (b:=AO.ai 5 1 (ah dF ([74]++cl 3 s.seq++cl 3 s.dP++[(s.body.length:Int)]++s.body)++List.replicate (114-s.body.length) [PV.v (.int .u8 0)])) rfl (by rw[En,<-rR]))) ?_;refine sL<|bW Z<|lf 0 tX Z<|aj ac Z<|ab (zC [(1,9),(2,8)] [9,8] [] func237 (xU ([74]++cl 3 s.seq++cl 3 s.dP++[(s.body.length:Int)]++s.body++List.replicate (114-s.body.length) 0) (s.seq) 3 x_2 x_2 x_2 x_3 x_3 x_56) (trivial) rfl rfl) Z<|cT (.au [.own _,vB true]) Z<|qT Z<|iB (vB true) Z<|bD Z<|nA<|bW Z<|lf 1 rQ Z<|aj ac Z<|ab (zC [(1,1),(2,9)] [1,9] [] func237 (xU ([74]++cl 3 s.seq++cl 3 s.dP++[(s.body.length:Int)]++s.body++List.replicate (114-s.body.length) 0++cl 3 s.seq) (s.dP) 3 x_2 x_2 x_2 x_3 x_3 x_56) (trivial) rfl rfl) Z<|lT [2,3,50] [1,5,6,7,8,9,2001] ?_;refine qT Z<|iB (vB true) Z<|bD Z<|cI Z<|Y<|aR ?_;rw[g9,At g9];trivial
theorem ad2(s:fb):GC prog 165 [sV s] [] (.au [gV (r8 s),aD (i8 s)]) []:=(Zs s).Aq
theorem Jf{u:Value}(s:fb):GC prog 165 [.agg [int s.seq,int s.dP,.own 2]] [(2,.ai ⟨5,some u⟩ 1 (ah dF s.body))] (.au [.own 1,aD (i8 s)]) [(1,iT (r8 s)),(2,.ai ⟨5,some u⟩ 1 (ah dF s.body))]:=
 (Zs s).Ae rfl rfl (by intro id hid;simp[s7,vN]at hid;subst hid;rfl) x_139 (by intro p hp;simp at hp;subst hp;exact⟨rfl,yg⟩) x_139
def uO(b:List Int):fb:=⟨gW b 1 3,gW b 4 3,(b.drop 8).take (gW b 7 1).toNat⟩
def Fu(b:List Int):fb:=⟨gW b 1 3,gW b 4 3,[]⟩
theorem Fv{b:List Int}(h:b.length=128):uO b=gu b:=by
 obtain⟨e1,e2⟩:=Mh h;unfold uO;rw[wu x_2,e1,e2];rfl
theorem Zt{b:List Int}(h:b.length=128)(hn:gW b 7 1<=100)(V:i8 (uO b)=true)(h2:r8 (uO b)=b):g8 b=true:=by
 grind[Fv,wu,Mi]
theorem zy{b:List Int}(h:b.length=128)(V:i8 (uO b)=false):g8 b=false:=uj (by grind[Fv])
theorem zz{b:List Int}(h:b.length=128)(V:r8 (uO b)≠b):g8 b=false:=uk (by grind[Fv])
theorem Fw{b:List Int}(h:¬(gW b 7 1<=100/\b.length=128)):g8 b=false:=Bool.eq_false_iff.2 fun q=>h (by
 grind[oN,wu])
theorem Py{b:List Int}(V:i8 (Fu b)=true)(h2:r8 (Fu b)=b):gW b 7 1<=100/\b.length=128:=by
 rw[At V]at h2;have hl:b.length=128:=by rw[<-h2];exact TB (by show 0<=100;omega)
 refine⟨?_,hl⟩;have e:=TE V;rw[h2]at e;have e2:((b.drop 8).take (b.getD 7 0).toNat).length=0:=by
  have:(gu b).body=[]:=by rw[e];rfl
  have:=congrArg List.length this;exact this
 grind[wu]
def Pz(b:List Int):AV->List (Nat×AO)->Prop:=fun y ob=>g8 b=true/\y=.au [.agg [int (gu b).seq,int (gu b).dP,.own 1],aD true]/\ob=[(1,iT (gu b).body)]\/g8 b=false/\y=.au [.agg [int 0,int 0,.p (.v (.slice none 0 0))],aD false]/\ob=[]
theorem Zu{f:FuncId}{b:List Int}(h:GX prog f [gV b] [] (Pz b)):GX prog f [gV b] [] (Eo b):=
 (GX.frozen (Z:=fun y=>Eo b y []) h fun x ob q=>by
   rcases q with⟨V,rfl,rfl⟩|⟨V,rfl,rfl⟩
   ·exact⟨_,Still.au (.cons (Still.agg (.cons (Still.p _) (.cons (Still.p _) (.cons (Still.row (e:=⟨5,none⟩) (sz:=1) (rows:=ah dF (gu b).body) rfl) .nil)))) (.cons (Still.p _) .nil)),rfl,.inl ⟨V,rfl⟩⟩
   exact⟨_,Still.au (.cons (Still.agg (.cons (Still.p _) (.cons (Still.p _) (.cons (Still.p _) .nil)))) (.cons (Still.p _) .nil)),rfl,.inr ⟨V,rfl⟩⟩).mono fun y o ⟨e1,e2⟩=>by grind
theorem x_115{p:Prop}(c:p:=by exact ⟨stays.ai rfl,trivial⟩):p:=c
theorem Zv(b:List Int)(hb:fA b)(hl:b.length<=2000000):GX prog 178 [gV b] [] (Pz b):=by
 refine GX.intro (rs:=[.cell 2 141 (some 3),.tmp 3]) func178 rfl ntmps178 x_8 ⟨rfl,rfl,nP,rfl,trivial⟩ ?_;intro L O w0;refine sL<|ab (zA 2002 pB rfl) Z<|ar Z<|nA<|lq (rd (x:=.agg [c6,c6,vV _]) (cP rfl r9 rfl rfl rfl) rfl)<|ab (zA 3 pB rfl) Z<|ab (zB 3 mL mM rfl) Z<|nA<|bm Z<|ab (zC [] [] [] func187 (uN b 1 3 hb x_3 x_3 x_3 hl) (trivial) rfl rfl) Z<|cT (.au [c6,fy]) Z<|dE Z<|eU Z<|lf 0 tX Z<|ab (zB 3 ca cb rfl) Z<|nA<|bm Z<|ab (zC [] [] [] func187 (uN b 4 3 hb x_3 x_3 x_3 hl) (trivial) rfl rfl) Z<|lT [0,2,3,4,18] [3,2002] ?_;refine cT (.au [c6,fy]) Z<|dE Z<|eU Z<|lf 1 rQ Z<|ab (zB 3 ca cb rfl) Z<|nA<|bm Z<|ab (zC [] [] [] func187 (uN b 7 1 hb x_3 x_3 x_3 hl) (trivial) rfl rfl) Z<|cT (.au [c6,fy]) Z<|dE Z<|eU Z<|ao Z<|bv Z<|Y<|aS<|sL<|ae Z<|ak Z<|aQ rfl ?_;refine AL.bool (t:=29) rfl ?_ ?_
 ·intro V;refine bm Z<|ba kE Z<|ak Z<|bj Z<|Y<|cE rfl ?_ ?_
  ·intro h2;have hn:gW b 7 1<=100:=by first|grind|(have h:=h2;simp at h;omega)
   have nk:b.length=128:=by first|grind[ap]|grind[ap]
   have h7:7<b.length:=by omega
   have hg:0<=gW b 7 1:=by rw[wu h7,B9 h7];exact(hb _ (List.getElem_mem h7)).1
   refine aL<|ab (zS 1 (ah dF []) fh ie rfl (by trivial)) Z<|lT [0,2,3,4,5,34] [1,3,2002] ?_;refine bm Z<|ae Z<|bg Z<|jK 37 ((8+(gW b 7 1).toNat:Nat):Int) rfl x_2 ?_;refine lq (rd (x:=c7) (p6 (l:=8) (h:=8+(gW b 7 1).toNat) rfl fh rfl ⟨_,rfl⟩ ⟨_,rfl⟩ x_2 x_14) rfl) ?_;refine dC 38 (gV ((b.drop 8).take (gW b 7 1).toNat)) (Eq.trans (b:=.p (.ab 5 1 (((ah dF b).take (8+(gW b 7 1).toNat)).drop 8))) rfl (congrArg (fun r=>AV.p (.ab 5 1 r)) Hj)) ?_;refine ab (zP 1 fh ie mu rfl (Src.p rfl) x_69) Z<|lf 2 u' Z<|ab (zB 3 Ih Ii rfl) Z<|Y ?_;refine AW.obj 1 (iT ((b.drop 8).take (gW b 7 1).toNat)) ((Eq.trans (b:=AO.ai 5 1 (ah dF []++ah dF ((b.drop 8).take (gW b 7 1).toNat))) rfl rfl)) ?_;refine aS ?_;refine AW.mU 1 rfl ?_;intro u1;refine aL<|aP qu nP Z ?_;refine ab (zC [(1,4),(2,1)] [4] [2] func165 (Jf (uO b)) x_115 rfl rfl) Z<|cT (.au [.own _,fy]) Z<|qT Z<|eU Z<|bD Z<|bv Z<|Y ?_;refine iQ 1 rfl ?_;refine aS<|sL<|aQ Z<|bX Z<|aQ Z ?_;refine AL.bool (t:=48) rfl ?_ ?_
   ·intro h3;refine aa Z<|aa Z<|aa Z<|aa Z<|aa Z<|aU Z<|Y<|aY Z<|sL<|lq (rd (x:=.agg [c6,c6,vV _]) (cP Z r9 Z Z Z) Z)<|ab (zB 2002 mL mM Z) Z<|lT [2,3,4] [1,3,4,2002] ?_;refine ar Z<|Y<|aR<|rT ?_;have hF:g8 b=false:=by first|grind[zy]|exact zz nk x_59|exact zy nk x_38|exact zz nk x_38|exact zy nk x_28|exact zz nk x_28
    refine fN ((.au [.agg [int 0,int 0,.p (.v (.slice none 0 0))],aD false])) [] ?_ rfl trivial;exact .inr ⟨hF,rfl,rfl⟩
   intro h3;refine bW Z<|lq (rd (x:=vV _) (Je (e:=5) rfl underlying76 underlying5 underlying9 rfl rfl rfl) rfl)<|bm Z<|lq (rd (x:=vV _) (vv (e:=5) rfl underlying76 underlying5 underlying9 rfl) rfl)<|lq (rd (x:=fy) (kg rfl rfl rfl (An underlying9 (Em (by first|exact .nil|exact(hb.drop 8).take _)) hb) rfl) rfl)<|bj Z<|Y<|cE rfl ?_ ?_
   ·intro h4;refine sL<|lq (rd (x:=.agg [c6,c6,vV _]) (cP Z r9 Z Z Z) Z)<|ab (zB 2002 mL mM Z) Z<|ar Z<|Y<|aR<|rT ?_;have hF:g8 b=false:=by first|exact zy nk x_86|grind[zz]|exact zy nk x_59|exact zz nk x_59|exact zy nk x_38|exact zz nk x_38|exact zy nk x_28|exact zz nk x_28
    refine fN ((.au [.agg [int 0,int 0,.p (.v (.slice none 0 0))],aD false])) [] ?_ rfl trivial;exact .inr ⟨hF,rfl,rfl⟩
   intro h4;refine aK<|gA<|aP qu nP Z<|ab (zB 2002 mL mM Z) Z<|cI Z<|Y<|aR ?_;have hF:=Zt nk hn x_14 x_14;have hC:=Fv nk;refine fN ((.au [.agg [int (uO b).seq,int (uO b).dP,.own 1],aD true])) [(1,iT (uO b).body)] ?_ rfl ⟨rfl,trivial⟩;exact .inl ⟨hF,by rw[hC],by rw[hC]⟩
  intro h2;refine aK<|gT<|aS ?_;have iY:¬(gW b 7 1<=100/\b.length=128):=by first|grind[ap]
  refine AW.pi 1 3 2 5 1 rfl x_3 rfl ?_;refine AW.mU 1 rfl ?_;intro u1;refine aL<|aP qu nP Z ?_;refine ab (zC [(1,4),(2,1)] [4] [2] func165 (Jf (Fu b)) x_115 rfl rfl) Z<|lT [0,2,3,4,43] [1,3,4,2002] ?_;refine cT (.au [.own _,fy]) Z<|qT Z<|eU Z<|bD Z<|bv Z<|Y ?_;refine iQ 1 rfl ?_;refine aS<|sL<|aQ Z<|bX Z<|aQ Z ?_;refine AL.bool (t:=48) rfl ?_ ?_
  ·intro h5;refine aa Z<|aa Z<|aa Z<|aa Z<|aa Z<|aU Z<|Y<|aY Z<|sL<|lq (rd (x:=.agg [c6,c6,vV _]) (cP Z r9 Z Z Z) Z)<|ab (zB 2002 mL mM Z) Z<|ar Z<|Y<|aR<|rT ?_;have hF:g8 b=false:=Fw iY;refine fN ((.au [.agg [int 0,int 0,.p (.v (.slice none 0 0))],aD false])) [] ?_ rfl trivial;exact .inr ⟨hF,rfl,rfl⟩
  intro h5;refine bW Z<|lq (rd (x:=vV _) (Je (e:=5) rfl underlying76 underlying5 underlying9 rfl rfl rfl) rfl)<|bm Z<|lq (rd (x:=vV _) (vv (e:=5) rfl underlying76 underlying5 underlying9 rfl) rfl)<|lq (rd (x:=fy) (kg rfl rfl rfl (An underlying9 (Em (by first|exact .nil|exact(hb.drop 8).take _)) hb) rfl) rfl)<|bj Z<|Y<|cE rfl ?_ ?_
  ·intro h6;refine sL<|lq (rd (x:=.agg [c6,c6,vV _]) (cP Z r9 Z Z Z) Z)<|ab (zB 2002 mL mM Z) Z<|lT [2,3,4] [1,3,4,2002] ?_;refine ar Z<|Y<|aR<|rT ?_;have hF:g8 b=false:=Fw iY;refine fN ((.au [.agg [int 0,int 0,.p (.v (.slice none 0 0))],aD false])) [] ?_ rfl trivial;exact .inr ⟨hF,rfl,rfl⟩
  intro h6;refine aK<|gA<|aP qu nP Z<|ab (zB 2002 mL mM Z) Z<|cI Z<|Y<|aR ?_;simp_all[Py]
 intro V;refine aa Z<|aa Z<|aa Z<|bL Z<|Y<|aN Z<|aK<|gT<|aS ?_;have iY:¬(gW b 7 1<=100/\b.length=128):=by first|grind
 refine AW.pi 1 3 2 5 1 rfl x_3 rfl ?_;refine AW.mU 1 rfl ?_;intro u1;refine aL<|aP qu nP Z ?_;refine ab (zC [(1,4),(2,1)] [4] [2] func165 (Jf (Fu b)) x_115 rfl rfl) Z<|cT (.au [.own _,fy]) Z<|qT Z<|eU Z<|bD Z<|bv Z<|Y ?_;refine iQ 1 rfl ?_;refine aS<|sL<|aQ Z<|bX Z<|aQ Z ?_;refine AL.bool (t:=48) rfl ?_ ?_
 ·intro h7;refine aa Z<|aa Z<|aa Z<|aa Z<|aa Z<|aU Z<|Y<|aY Z<|sL<|lq (rd (x:=.agg [c6,c6,vV _]) (cP Z r9 Z Z Z) Z)<|ab (zB 2002 mL mM Z) Z<|lT [2,3,4] [1,3,4,2002] ?_;refine ar Z<|Y<|aR<|rT ?_;have hF:g8 b=false:=Fw iY;refine fN ((.au [.agg [int 0,int 0,.p (.v (.slice none 0 0))],aD false])) [] ?_ rfl trivial;exact .inr ⟨hF,rfl,rfl⟩
 intro h7;refine bW Z<|lq (rd (x:=vV _) (Je (e:=5) rfl underlying76 underlying5 underlying9 rfl rfl rfl) rfl)<|bm Z<|lq (rd (x:=vV _) (vv (e:=5) rfl underlying76 underlying5 underlying9 rfl) rfl)<|lq (rd (x:=fy) (kg rfl rfl rfl (An underlying9 (Em (by first|exact .nil|exact(hb.drop 8).take _)) hb) rfl) rfl)<|bj Z<|Y<|cE rfl ?_ ?_
 ·intro h8;refine sL<|lq (rd (x:=.agg [c6,c6,vV _]) (cP Z r9 Z Z Z) Z)<|ab (zB 2002 mL mM Z) Z<|ar Z<|Y<|aR<|rT ?_;have hF:g8 b=false:=Fw iY;refine fN ((.au [.agg [int 0,int 0,.p (.v (.slice none 0 0))],aD false])) [] ?_ rfl trivial;exact .inr ⟨hF,rfl,rfl⟩
 intro h8;refine aK<|gA<|aP qu nP Z<|ab (zB 2002 mL mM Z) Z<|cI Z<|Y<|aR ?_;have hF:=iY (Py (by first|(simpa using V)|(simpa using h7)|(simpa using h8)) (by first|(simpa using V)|(simpa using h7)|(simpa using h8)));grind
theorem Zw(b:List Int)(hb:fA b)(hl:b.length<=2000000):GC prog 178 [gV b] [] (.au [sV (kP b),aD (g8 b)]) []:=GX.sec (Zu (Zv b hb hl))
end Go.Proofs.YtflhgkmhmcfimaaGreat

