/- Texts of the proof of FnFnExactHubOk, joined: EO2, EO3, E31, EO4, EO5, EO6. -/
import Derived.Test.YtflhgkmhmcfimaaGreatJHubOk14
namespace Go.Proofs.YtflhgkmhmcfimaaGreat
open Tryz
open Go.RowKit
set_option maxHeartbeats 16000000
set_option maxRecDepth 100000
set_option linter.unusedSimpArgs false
set_option linter.unusedVariables false
def tB(e:aV):List Int:=if co e then rY e else []
theorem wo{e:aV}(h:co e=true):tB e=rY e:=if_pos h
theorem I9{e:aV}(h:co e=false):tB e=[]:=if_neg (by simp[h])
theorem I'{has:Bool}{n lo hi:Int}(h:gj has n lo hi=true)(h0:0<=lo)(V:0<=hi):0<=n/\n<=hi:=by
 grind[gj,cJ]
theorem Dq{e:aV}(h:co e=true):(1<=e.kind/\e.kind<=11)/\(0<=e.key/\e.key<=1000000)/\(0<=e.ch/\e.ch<=99)/\(0<=e.to/\e.to<=99)/\(0<=e.af/\e.af<=1125899906842624)/\(0<=e.ay/\e.ay<=1125899906842624):=by
 have q:=uu h;rw[cY,cY]at q;unfold co at h;simp only[Bool.and_eq_true]at h;obtain⟨⟨⟨⟨⟨⟨⟨V,h2⟩,h3⟩,h4⟩,_⟩,_⟩,_⟩,_⟩:=h;exact⟨cJ.1 V,I' h2 (by decide) (by decide),I' h3 (by decide) (by decide),I' h4 (by decide) (by decide),q.1,q.2⟩
theorem Zc{e:aV}(h:co e=true):fA (rY e):=by
 obtain⟨a,b,c,d,f,g⟩:=Dq h;unfold rY;refine(((((fA.cons (by omega) (by omega) (.cons (by omega) (by omega) .nil)).gJ (wX _ _)).gJ (.cons (by omega) (by omega) (.cons (by omega) (by omega) .nil))).gJ (wX _ _)).gJ (wX _ _)).gJ ?_;split
 ·exact .cons (by omega) (by omega) .nil
 exact .cons (by omega) (by omega) .nil
theorem Pr(e:aV):fA (tB e):=by
 cases q:co e
 ·rw[I9 q];exact .nil
 grind[wo,Zc]
theorem Zd(e:aV):GC prog 186 [ju e] [] (.au [.own 1,aD (co e)]) [(1,iT (tB e))]:=by
 refine GC.intro (rs:=[.tmp 2,.tmp 3]) func186 rfl ntmps186 (Nat.le_of_ble_eq_true rfl) ⟨rfl,rfl,trivial⟩ ?_;intro L O w0;refine sL<|ab (zX 2001 Z) Z<|e9 Z<|ar Z<|Y<|aS<|sL<|aP (.agg [U _ _,U _ _,U _ _,U _ _,U _ _,U _ _,vB _]) dD Z<|ab (zC [] [] [] func110 (Ps e) (trivial) Z Z) Z<|bX Z<|Y ?_;refine AW.cond rfl ?_ ?_
 ·intro V;refine sL<|e9 Z<|ar Z<|Y ?_;refine AW.oP 1 2 5 1 rfl ?_;refine aR<|rT ?_;have g9:co e=false:=by simpa using V
  rw[g9,I9 g9];trivial
 intro V;refine aK<|gT<|aS ?_;have g9:co e=true:=by simpa using V
 obtain⟨⟨b1,b2⟩,⟨b3,b4⟩,⟨b5,b6⟩,⟨b7,b8⟩,⟨b9,Ze⟩,⟨Zf,Zg⟩⟩:=Dq g9;refine aL<|lf 0 jz Z<|aj ac Z<|lq (rd (x:=U _ _) (me Z lM pK Z) Z) ?_;refine dC 10 (yv e.kind) (Eq.trans (b:=yv _) rfl (congrArg yv (by rw[wrap_u8];omega))) ?_;refine ab (zS 1 (ah dF [69,e.kind]) fh ie rfl (by simp[ah])) Z<|lf 1 gE Z<|aj ac Z<|ab (zC [(1,1)] [1] [] func241 (yS ([69,e.kind]) (e.key) 3 (by omega) (by omega) (by simp)) (trivial) rfl rfl) Z<|lT [1,2,3,14] [1,2001] ?_;refine bD Z<|Y<|aS<|aG 15 [1]<|tq 0 (qo Z)<|tq 1 (rf 2 dn Z)<|tq 2 (aZ ac Z)<|tq 3 (rd (x:=U _ _) (me Z lM pK Z) Z) ?_;refine Au 18 (yv e.ch) (Eq.trans (b:=yv _) rfl (congrArg yv (by rw[wrap_u8];omega))) ?_;refine tq 4 (rf 3 fK Z)<|tq 5 (aZ ac Z)<|tq 6 (rd (x:=U _ _) (me Z lM pK Z) Z) ?_;refine Au 21 (yv e.to) (Eq.trans (b:=yv _) rfl (congrArg yv (by rw[wrap_u8];omega))) ?_;refine tq 9 (rf 4 bN rfl)<|tq 10 (aZ ac rfl)<|tq 12 (rf 5 fC rfl)<|tq 13 (aZ ac rfl)<|cm 7 rfl (zS 2022 (ah dF [e.ch,e.to]) fh ie rfl (by simp[ah]))<|cm 8 rfl (zP 1 fh ie mu rfl (Src.own rfl rfl) (by grind[ah,da]))<|gX [1,2,3,23,25,28] [1,2001,2022] ?_;refine cm 11 rfl (St.call [(1,1)] [1] [] rfl (by simp) rfl func241 rfl rfl (yS ([69,e.kind]++cl 3 e.key++[e.ch,e.to]) (e.af) 7 (by omega) (by omega) (by grind[da])) ⟨rfl,rfl,rfl⟩ (⟨⟨1,rfl,(Eq.trans (b:=AO.ai 5 1 (ah dF ([69,e.kind]++cl 3 e.key)++ah dF [e.ch,e.to])) rfl (Ek _ _))⟩,trivial⟩) (trivial) rfl)<|cm 14 rfl (zC [(1,1)] [1] [] func241 (yS ([69,e.kind]++cl 3 e.key++[e.ch,e.to]++cl 7 e.af) (e.ay) 7 (by omega) (by omega) (by grind[da])) (trivial) rfl rfl)<|yq 15 (tF rfl)<|gD<|gT<|aS<|sL<|lf 6 pw Z<|tT jN Z<|Y ?_;refine AW.cond rfl ?_ ?_
 ·intro h2;refine sL<|bW Z<|ab (zS 2033 (ah dF [1]) fh ie rfl) Z<|ab (zP 1 fh ie mu rfl (Src.own rfl rfl) (by grind[ah,da])) Z<|bD Z<|cI Z<|Y<|aR<|rT ?_;rw[g9,wo g9];refine ax ?_ ⟨(Eq.trans (b:=AO.ai 5 1 (ah dF ([69,e.kind]++cl 3 e.key++[e.ch,e.to]++cl 7 e.af++cl 7 e.ay)++ah dF [1])) rfl (by grind[rR,rY])),trivial⟩;rfl
 intro h2;refine aK<|gA<|bW Z<|ab (zS 2036 (ah dF [0]) fh ie rfl) Z<|ab (zP 1 fh ie mu rfl (Src.own rfl rfl) (by grind[ah,da])) Z<|bD Z<|cI Z<|Y<|aR ?_;rw[g9,wo g9];refine ax ?_ ⟨(Eq.trans (b:=AO.ai 5 1 (ah dF ([69,e.kind]++cl 3 e.key++[e.ch,e.to]++cl 7 e.af++cl 7 e.ay)++ah dF [0])) rfl (by grind[rR,rY])),trivial⟩;rfl
theorem Zh(e:aV):GC prog 186 [ju e] [] (.au [gV (tB e),aD (co e)]) []:=(Zd e).Aq
theorem C1{b:List Int}{i:Nat}(h:i<b.length):b.getD i 0=b[i]:=by grind
theorem uS{b:List Int}:lK b=true↔b.length=22/\co (lJ b)=true/\rY (lJ b)=b:=by grind[lK]
theorem Pt{b:List Int}(h:b.length=22)(V:co (lJ b)=true)(h2:tB (lJ b)=b):lK b=true:=uS.2 ⟨h,V,by grind[wo]⟩
theorem Zi{b:List Int}(h:b.length≠22):lK b=false:=Bool.eq_false_iff.2 fun q=>h (uS.1 q).1
theorem C2{b:List Int}(h:co (lJ b)=false):lK b=false:=Bool.eq_false_iff.2 fun q=>by grind[uS]
theorem C3{b:List Int}(h:tB (lJ b)≠b):lK b=false:=Bool.eq_false_iff.2 fun q=>h (by grind[wo,uS])
def t6(b:List Int):aV:=if lK b then lJ b else ⟨0,0,0,0,0,0,false⟩
theorem Ja{b:List Int}(h:lK b=true):t6 b=lJ b:=if_pos h
theorem C4{b:List Int}(h:lK b=false):t6 b=⟨0,0,0,0,0,0,false⟩:=if_neg (by simp[h])
theorem Pu{b:List Int}(h:b.length=22):gW b 2 3=(lJ b).key/\gW b 7 7=(lJ b).af/\gW b 14 7=(lJ b).ay:=⟨xc (by omega),xc (by omega),xc (by omega)⟩
theorem Sx(b:List Int)(hb:fA b)(hl:b.length<=2000000):GC prog 99 [gV b] [] (.au [ju (t6 b),aD (lK b)]) []:=by
 refine GC.intro (rs:=[.cell 2 81 (some 7),.tmp 3]) func99 rfl ntmps99 (Nat.le_of_ble_eq_true rfl) ⟨rfl,rfl,dD,rfl,trivial⟩ ?_;intro L O w0;refine sL<|ab (zA 2002 jl Z) Z<|ar Z<|Y<|aS<|sL<|bm Z<|ba kE Z<|ak Z<|Y ?_;refine AW.cond rfl ?_ ?_
 ·intro V;refine sL<|lq (rd (x:=.agg [U _ _,U _ _,U _ _,U _ _,U _ _,U _ _,vB false]) (cP Z xF Z Z Z) Z)<|ab (zB 2002 mZ m0 Z) Z<|ar Z<|Y<|aR<|rT ?_;have hF:lK b=false:=Zi (by have h:=V;simp[ap]at h;omega);rw[C4 hF,hF];trivial
 intro V;refine aK<|gT<|aS ?_;have wq:b.length=22:=by have h:=V;simp[ap]at h;omega
 have V:1<b.length:=by omega
 have h5:5<b.length:=by omega
 have h6:6<b.length:=by omega
 have wt:21<b.length:=by omega
 obtain⟨e1,e2,e3⟩:=Pu wq;have x1:=hb _ (List.getElem_mem V);have x5:=hb _ (List.getElem_mem h5);have x6:=hb _ (List.getElem_mem h6);have x21:=hb _ (List.getElem_mem wt);refine aF [18]<|pq 0 (iz rfl)<|sq 1 (ri 1 fh rfl (bS V))<|sq 2 (qU tf rfl)<|sq 3 (rd (x:=U _ _) (me rfl pK lM rfl) rfl)<|qM 14 (lJ b).kind rfl (Eq.trans (show IntKind.i64.wrap b[1]=b[1] by rw[IntKind.wrap_i64];omega) (C1 V).symm)<|pq 4 (iz rfl)<|sq 5 (ri 5 fh rfl (bS h5))<|sq 6 (qU tf rfl)<|sq 7 (rd (x:=U _ _) (me rfl pK lM rfl) rfl)<|qM 18 (lJ b).ch rfl (Eq.trans (show IntKind.i64.wrap b[5]=b[5] by rw[IntKind.wrap_i64];omega) (C1 h5).symm)<|pq 8 (iz rfl)<|sq 9 (ri 6 fh rfl (bS h6))<|sq 10 (qU tf rfl)<|sq 11 (rd (x:=U _ _) (me rfl pK lM rfl) rfl)<|qM 22 (lJ b).to rfl (Eq.trans (show IntKind.i64.wrap b[6]=b[6] by rw[IntKind.wrap_i64];omega) (C1 h6).symm)<|pq 12 (iz rfl)<|sq 13 (ri 21 fh rfl (bS wt))<|sq 14 (qU tf rfl)<|sq 15 (dt rfl) ?_;refine DR 26 (aD (lJ b).yes) (congrArg aD (show decide (b[21]=1)=(b.getD 21 0==1) by grind)) ?_;refine sq 16 (rd (x:=.agg [U _ _,U _ _,U _ _,U _ _,U _ _,U _ _,vB _]) (cP Z xF Z Z Z) Z)<|bn 17 Z (zA 2004 jl Z) (.inr Z)<|fT [0,2,3,4,27] [2002,2004] ?_;refine bn 18 rfl (zB 2004 mZ m0 rfl) (.inl rfl)<|fD<|gA<|bm Z<|ab (zC [] [] [] func185 (B8 b 2 3 hb (by decide) (by decide) (by decide) hl) (trivial) rfl rfl) Z<|cT (.au [U _ _,vB _]) Z<|dE rfl ?_;refine dC 31 (int (lJ b).key) (congrArg int e1) ?_;refine eU Z<|lf 1 gE Z<|ab (zB 2004 ca cb rfl) Z<|nA<|bm Z<|ab (zC [] [] [] func185 (B8 b 7 7 hb (by decide) (by decide) (by decide) hl) (trivial) rfl rfl) Z<|cT (.au [U _ _,vB _]) Z<|dE rfl ?_;refine dC 37 (int (lJ b).af) (congrArg int e2) ?_;refine eU Z<|lf 4 bN Z<|ab (zB 2004 ca cb Z) Z<|lT [0,2,3,4] [2002,2004] ?_;refine nA<|bm Z<|ab (zC [] [] [] func185 (B8 b 14 7 hb (by decide) (by decide) (by decide) hl) (trivial) rfl rfl) Z<|cT (.au [U _ _,vB _]) Z<|dE rfl ?_;refine dC 43 (int (lJ b).ay) (congrArg int e3) ?_;refine eU Z<|lf 5 fC Z<|ab (zB 2004 ca cb Z) Z<|nA<|aP (.agg [U _ _,U _ _,U _ _,U _ _,U _ _,U _ _,vB _]) dD Z<|ab (zC [] [] [] func186 (Zh (lJ b)) (trivial) Z Z) Z<|cT (.au [vL _ _ _,vB _]) Z<|rF Z<|eU Z<|nv Z<|bv Z<|Y<|aS<|sL<|aQ Z<|bX Z<|aQ Z ?_;refine AL.bool (t:=53) rfl ?_ ?_
 ·intro h2;refine aa Z<|aa Z<|aa Z<|aa Z<|aa Z<|aU Z<|Y<|aY Z<|sL<|lq (rd (x:=.agg [U _ _,U _ _,U _ _,U _ _,U _ _,U _ _,vB false]) (cP Z xF Z Z Z) Z)<|ab (zB 2002 mZ m0 Z) Z<|lT [2,3,4] [2002,2004] ?_;refine ar Z<|Y<|aR<|rT ?_;have hF:lK b=false:=by first|exact C2 (by simpa using h2)|exact C3 (by simpa using h2)|exact C2 (by simpa using V)|exact C3 (by simpa using V)
  rw[C4 hF,hF];trivial
 intro h2;refine bm Z<|lq (rd (x:=vV _) (vv (e:=5) Z underlying76 underlying5 underlying9 Z) Z)<|bm Z<|lq (rd (x:=vV _) (vv (e:=5) Z underlying76 underlying5 underlying9 Z) Z)<|lq (rd (x:=vB _) (kg Z Z Z (An underlying9 (Pr _) hb) Z) Z)<|bj Z<|Y ?_;refine AW.cond rfl ?_ ?_
 ·intro h3;refine sL<|lq (rd (x:=.agg [U _ _,U _ _,U _ _,U _ _,U _ _,U _ _,vB false]) (cP Z xF Z Z Z) Z)<|ab (zB 2002 mZ m0 Z) Z<|ar Z<|Y<|aR<|rT ?_;have hF:lK b=false:=by first|exact C2 (by simpa using h3)|exact C3 (by simpa using h3)|exact C2 (by simpa using h2)|exact C3 (by simpa using h2)|exact C2 (by simpa using V)|exact C3 (by simpa using V)
  rw[C4 hF,hF];trivial
 intro h3;refine aK<|gA<|aP (.agg [U _ _,U _ _,U _ _,U _ _,U _ _,U _ _,vB _]) dD Z<|ab (zB 2002 mZ m0 Z) Z<|cI Z<|Y<|aR ?_;have hF:lK b=true:=Pt wq (by first|(simpa using h2)|(simpa using h3)) (by first|(simpa using h2)|(simpa using h3));rw[Ja hF,hF];trivial

theorem Pv(size:Nat)(hs:size<=7):GC prog 270 [int (size:Int)] [] (int (256 ^ size)) []:=by
 refine gi 2 func270 rfl ntmps270 rfl ?_;intro L O w0;refine sL<|ao Z<|nA<|ao Z<|Y<|aS<|sL<|ao Z<|Y<|aB ?_;refine aW [0,2] [] (D:=Nat) (fun d=>[(4,int (d:Int)),(3,int (256 ^ d))]) (fun d=>[]) (fun d=>d<=size) (fun d=>size-d) (0) (Nat.zero_le _) ⟨rfl,rfl,trivial⟩ trivial ?_;intro j hI;replace hI:j<=size:=hI;refine aS<|sL<|ae Z<|ae Z<|ak Z<|Y ?_;refine AW.cond rfl ?_ ?_
 ·intro V;refine aK<|gT<|aS<|aB ?_;have hj:j<size:=by have h:=V;simp only[decide_eq_true_eq]at h;omega
  have El:=Me (j:=j) (by omega);have wK:(0:Int)<=256 ^ j:=Int.pow_nonneg (by omega);refine aL<|ae Z<|bg Z<|ao Z<|lN<|gB<|gT<|aL<|ae Z<|bg Z<|ao Z<|Y ?_;refine⟨(j+1),hj,by omega,⟨(iq rfl),(congrArg int (Int.pow_succ _ _).symm),trivial⟩,trivial,rfl,rfl⟩
 intro V;refine aE<|eT<|eT<|eB<|gA<|ae Z<|ao Z<|Y<|aR ?_;have hj:j=size:=by have h:=V;simp only[decide_eq_false_iff_not]at h;omega
 subst hj;trivial
theorem Zj(l:List Int)(n:Int)(size:Nat)(h0:0<=n)(V:n<256 ^ size)(h7:n<72057594037927936)(wQ:1<=size)(hs:size<=7)(hl:l.length<=200):GC prog 237 [gV l,int n,int (size:Int)] [] (.au [.own 1,aD true]) [(1,iT (l++cl size n))]:=by
 refine GC.intro (rs:=[.tmp 6,.tmp 7]) func237 rfl ntmps237 (Nat.le_of_ble_eq_true rfl) ⟨rfl,rfl,trivial⟩ ?_;intro L O w0;refine sL<|e9 Z<|ar Z<|Y<|aS<|sL<|ae Z<|ak Z<|bJ 11 false rfl (by grind)<|dm Z<|ae Z<|ak Z<|bJ 14 false rfl (by grind)<|bL Z<|dm Z<|ae Z<|ak Z<|bJ 18 false rfl (by grind)<|bL Z<|dm Z<|ae Z<|ae Z<|ab (zC [] [] [] func270 (Pv (size) (by omega)) (trivial) rfl rfl) Z<|lT [0,1,2,6,7,20,21,23] [] ?_;refine ak Z<|bJ 24 false rfl (by grind)<|bL Z<|Y<|aN Z<|aK<|gA<|ab (zS 1 (ah dF []) fh ie rfl (by trivial)) Z<|bm Z<|ab (zP 1 fh ie mu rfl (Src.p rfl) (by grind[ah])) Z<|bD Z<|Y<|aS<|sL<|ae Z<|bg Z<|ao Z<|Y<|aB ?_;refine aW [1,6,7] [] (D:=Nat) (fun d=>[(9,int ((size:Int)-1-(d:Int))),(8,.own 1)]) (fun d=>[(1,iT (l++(cl size n).take d))]) (fun d=>d<=size) (fun d=>size-d) (0) (Nat.zero_le _) ⟨(iq rfl),rfl,trivial⟩ ⟨(by rw[List.take_zero,List.append_nil];rfl),trivial⟩ ?_;intro j hI;replace hI:j<=size:=hI;refine aS<|sL<|ae Z<|ak Z<|Y ?_;refine AW.cond rfl ?_ ?_
 ·intro V;refine aK<|gT<|aS<|aB ?_;have hj:j<size:=by have h:=V;simp only[ge_iff_le,decide_eq_true_eq]at h;omega
  have vd:((cl size n).take j).length<=7:=by rw[List.length_take,da];omega
  have Zk:(256:Int) ^ (size-1-j)≠0:=Int.ne_of_gt (Int.pow_pos (by omega));have Zl:0<=n/256 ^ (size-1-j):=Int.ediv_nonneg h0 (Int.pow_nonneg (by omega));have Ba:n/256 ^ (size-1-j)<=n:=Int.ediv_le_self _ h0;refine aL<|bW Z<|ae Z<|ae Z<|jK 37 ((size-1-j:Nat):Int) rfl (by omega)<|ab (zC [] [] [] func270 (Pv (size-1-j) (by omega)) (trivial) rfl rfl) Z<|lT [1,6,7,8,9,35,36,38] [1] ?_;refine eo rfl ⟨rfl,Zk,ce (by grind[i64])⟩<|jK 39 (n/256 ^ (size-1-j)) rfl (Int.tdiv_eq_ediv_of_nonneg h0) ?_;refine eo rfl ⟨rfl,by decide⟩<|jK 40 (n/256 ^ (size-1-j)%256) rfl (Int.tmod_eq_emod_of_nonneg Zl)<|lq (rd (x:=U _ _) (me rfl lM pK rfl) rfl) ?_;refine dC 41 (yv (n/256 ^ (size-1-j)%256)) (Eq.trans (b:=yv _) rfl (congrArg yv (by simp[wrap_u8]))) ?_;refine ab (zS 2042 (ah dF [n/256 ^ (size-1-j)%256]) fh ie rfl) Z<|ab (zP 1 fh ie mu rfl (Src.own rfl rfl) (by grind[ah])) Z<|bD Z<|lN<|gB<|gT<|aL<|ae Z<|bg Z<|ao Z<|Y ?_;refine⟨(j+1),hj,by omega,⟨(iq rfl),rfl,trivial⟩,⟨(Eq.trans (Ek _ _) (Ma hj)),trivial⟩,rfl,rfl⟩
 intro V;refine aE<|eT<|eT<|eB<|gA<|bW Z<|bD Z<|cI Z<|Y<|aR ?_;have hj:j=size:=by have h:=V;simp only[ge_iff_le,decide_eq_false_iff_not]at h;omega
 subst hj;refine ax ?_ ⟨(congrArg (fun r=>iT (l++r)) (Mb _ n)),trivial⟩;rfl
theorem uN(b:List Int)(k size:Nat)(hb:fA b)(wQ:1<=size)(hs:size<=7)(hk:k<=1000)(hl:b.length<=2000000):GC prog 187 [gV b,int (k:Int),int (size:Int)] [] (.au [int (gW b k size),aD (As b k size)]) []:=by
 refine GC.intro (rs:=[.tmp 6,.tmp 7]) func187 rfl ntmps187 (Nat.le_of_ble_eq_true rfl) ⟨rfl,rfl,trivial⟩ ?_;intro L O w0;refine sL<|ao Z<|ar Z<|Y<|aS<|sL<|ae Z<|ak Z<|bJ 11 false rfl (by grind)<|dm Z<|ae Z<|ak Z<|bJ 14 false rfl (by grind)<|bL Z<|dm Z<|ae Z<|ak Z<|bJ 18 false rfl (by simp)<|bL Z<|dm Z<|ae Z<|bm Z<|ba kE Z<|ae rfl ?_;refine eo rfl ⟨rfl,ce (by grind[ap,i64])⟩<|ak Z<|bj Z<|Y ?_;refine AW.cond rfl ?_ ?_
 ·intro V;refine sL<|ao Z<|ar Z<|Y<|aR<|rT ?_;have r7:¬k+size<=b.length:=by have h:=V;simp only[gt_iff_lt,decide_eq_true_eq,ap]at h;omega
  unfold gW As;rw[if_neg r7,decide_eq_false r7];trivial
 intro V;refine aK<|gT<|aS ?_;have r7:k+size<=b.length:=by have h:=V;simp only[gt_iff_lt,decide_eq_false_iff_not,ap]at h;omega
 have hlen:((b.drop k).take size).length=size:=by rw[List.length_take,List.length_drop];omega
 refine aL<|ao Z<|Y<|aS<|sL<|ao Z<|Y<|aB ?_;refine aW [0,1,2,6,7] [] (D:=Nat) (fun d=>[(9,int (d:Int)),(8,int (mO (((b.drop k).take size).take d)))]) (fun d=>[]) (fun d=>d<=size) (fun d=>size-d) (0) (Nat.zero_le _) ⟨rfl,rfl,trivial⟩ trivial ?_;intro j hI;replace hI:j<=size:=hI;refine aS<|sL<|ae Z<|ae Z<|ak Z<|Y ?_;refine AW.cond rfl ?_ ?_
 ·intro h2;refine aK<|gT<|aS<|aB ?_;have hj:j<size:=by have h:=h2;simp only[decide_eq_true_eq]at h;omega
  have ro:j<((b.drop k).take size).length:=by omega
  have El:=Mf (l:=(b.drop k).take size) ((hb.drop k).take size) hj hs;have hx:=((hb.drop k).take size) _ (List.getElem_mem ro);have Ca:k+j<b.length:=by omega
  have Pw:b[k+j]=((b.drop k).take size)[j]:=by simp
  refine aL<|ae Z<|bg Z<|bm Z<|lT [0,1,2,6,7,8,9,34,35] [] ?_;refine ae Z<|ae Z<|bg Z<|jK 38 ((k+j:Nat):Int) rfl (by omega)<|li ((k+j)) fh rfl (bS Ca)<|oy tf Z<|lq (rd (x:=U _ _) (me rfl pK lM rfl) rfl)<|jK 41 (((b.drop k).take size)[j]) rfl (by grind[IntKind.wrap_i64])<|bg Z<|ao Z<|lN<|gB<|gT<|aL<|ae Z<|bg Z<|ao Z<|Y ?_;refine⟨(j+1),hj,by omega,⟨(iq rfl),(congrArg int (Md ro).symm),trivial⟩,trivial,rfl,rfl⟩
 intro h2;refine aE<|eT<|eT<|eB<|gA<|ae Z<|ao Z<|cI Z<|Y<|aR ?_;have hj:j=size:=by have h:=h2;simp only[decide_eq_false_iff_not]at h;omega
 subst hj;unfold As;rw[xc r7,decide_eq_true r7,List.take_of_length_le (l:=(b.drop k).take j) (by omega)];trivial
theorem xU(l:List Int)(n:Int)(size:Nat)(h0:0<=n)(V:n<256 ^ size)(h7:n<72057594037927936)(wQ:1<=size)(hs:size<=7)(hl:l.length<=200):GC prog 237 [.own 2,int n,int (size:Int)] [(2,iT l)] (.au [.own 1,aD true]) [(1,iT (l++cl size n)),(2,iT l)]:=
 (Zj l n size h0 V h7 wQ hs hl).Ae rfl rfl (by intro id hid;simp[s7,vN]at hid;subst hid;rfl) (by intro p hp;simp at hp;subst hp;rfl) (by intro p hp;simp at hp;subst hp;exact⟨rfl,yg⟩) (by intro p hp;simp at hp;subst hp;rfl)
theorem Zm(e:aV):GC prog 188 [ju e] [] (.au [.own 1,aD (co e)]) [(1,iT (tB e))]:=by
 refine GC.intro (rs:=[.tmp 2,.tmp 3]) func188 rfl ntmps188 (Nat.le_of_ble_eq_true rfl) ⟨rfl,rfl,trivial⟩ ?_;intro L O w0;refine sL<|ab (zX 2001 Z) Z<|e9 Z<|ar Z<|Y<|aS<|sL<|aP (.agg [U _ _,U _ _,U _ _,U _ _,U _ _,U _ _,vB _]) dD Z<|ab (zC [] [] [] func195 (Px e) (trivial) Z Z) Z<|bX Z<|Y ?_;refine AW.cond rfl ?_ ?_
 ·intro V;refine sL<|e9 Z<|ar Z<|Y ?_;refine AW.oP 1 2 5 1 rfl ?_;refine aR<|rT ?_;have g9:co e=false:=by simpa using V
  rw[g9,I9 g9];trivial
 intro V;refine aK<|gT<|aS ?_;have g9:co e=true:=by simpa using V
 obtain⟨⟨b1,b2⟩,⟨b3,b4⟩,⟨b5,b6⟩,⟨b7,b8⟩,⟨b9,Ze⟩,⟨Zf,Zg⟩⟩:=Dq g9;refine aL<|lf 0 jz Z<|aj ac Z<|lq (rd (x:=U _ _) (me Z lM pK Z) Z) ?_;refine dC 10 (yv e.kind) (Eq.trans (b:=yv _) rfl (congrArg yv (by rw[wrap_u8];omega))) ?_;refine ab (zS 5 (ah dF [69,e.kind]) fh ie rfl (by simp[ah])) Z<|bD Z<|nA<|bW Z<|lf 1 gE Z<|aj ac Z<|ab (zC [(1,6),(2,5)] [6,5] [] func237 (xU ([69,e.kind]) (e.key) 3 (by omega) (by omega) (by omega) (by decide) (by decide) (by simp)) (trivial) rfl rfl) Z<|lT [1,2,3,16] [5,6,2001] ?_;refine cT (.au [.own _,vB true]) Z<|qT Z<|iB (vB true) Z<|bD Z<|nA<|bW Z<|lf 2 dn Z<|aj ac Z<|lq (rd (x:=U _ _) (me Z lM pK Z) Z) ?_;refine dC 22 (yv e.ch) (Eq.trans (b:=yv _) rfl (congrArg yv (by rw[wrap_u8];omega))) ?_;refine lf 3 fK Z<|aj ac Z<|lq (rd (x:=U _ _) (me Z lM pK Z) Z) ?_;refine dC 25 (yv e.to) (Eq.trans (b:=yv _) rfl (congrArg yv (by rw[wrap_u8];omega))) ?_;refine ab (zS 2026 (ah dF [e.ch,e.to]) fh ie rfl (by simp[ah])) Z<|ab (zP 6 fh ie mu rfl (Src.own rfl rfl) (by grind[ah,da])) Z<|bD Z<|nA<|bW Z<|lf 4 bN Z<|aj ac rfl ?_;refine ab (St.call [(1,7),(2,6)] [7,6] [] rfl (by simp) rfl func237 rfl rfl (xU ([69,e.kind]++cl 3 e.key++[e.ch,e.to]) (e.af) 7 (by omega) (by omega) (by omega) (by decide) (by decide) (by grind[da])) ⟨rfl,rfl,rfl⟩ (⟨⟨6,rfl,(Eq.trans (b:=AO.ai 5 1 (ah dF ([69,e.kind]++cl 3 e.key)++ah dF [e.ch,e.to])) rfl (Ek _ _))⟩,trivial⟩) (trivial) rfl) Z<|lT [1,2,3,32] [5,6,7,2001,2026] ?_;refine cT (.au [.own _,vB true]) Z<|qT Z<|iB (vB true) Z<|bD Z<|nA<|bW Z<|lf 5 fC Z<|aj ac Z<|ab (zC [(1,1),(2,7)] [1,7] [] func237 (xU ([69,e.kind]++cl 3 e.key++[e.ch,e.to]++cl 7 e.af) (e.ay) 7 (by omega) (by omega) (by omega) (by decide) (by decide) (by grind[da])) (trivial) rfl rfl) Z<|cT (.au [.own _,vB true]) Z<|qT Z<|iB (vB true) Z<|bD Z<|Y<|aS<|sL<|lf 6 pw Z<|tT jN Z<|Y ?_;refine AW.cond rfl ?_ ?_
 ·intro h2;refine sL<|bW Z<|ab (zS 2045 (ah dF [1]) fh ie Z) Z<|lT [2,3,4,44,45] [1,5,6,7,2001,2026,2045] ?_;refine ab (zP 1 fh ie mu rfl (Src.own rfl rfl) (by grind[ah,da])) Z<|bD Z<|cI Z<|Y<|aR<|rT ?_;rw[g9,wo g9];refine ax ?_ ⟨(Eq.trans (b:=AO.ai 5 1 (ah dF ([69,e.kind]++cl 3 e.key++[e.ch,e.to]++cl 7 e.af++cl 7 e.ay)++ah dF [1])) rfl (by grind[rR,rY])),trivial⟩;rfl
 intro h2;refine aK<|gA<|bW Z<|ab (zS 2048 (ah dF [0]) fh ie rfl) Z<|ab (zP 1 fh ie mu rfl (Src.own rfl rfl) (by grind[ah,da])) Z<|bD Z<|cI Z<|Y<|aR ?_;rw[g9,wo g9];refine ax ?_ ⟨(Eq.trans (b:=AO.ai 5 1 (ah dF ([69,e.kind]++cl 3 e.key++[e.ch,e.to]++cl 7 e.af++cl 7 e.ay)++ah dF [0])) rfl (by grind[rR,rY])),trivial⟩;rfl
theorem Zn(e:aV):GC prog 188 [ju e] [] (.au [gV (tB e),aD (co e)]) []:=(Zm e).Aq
theorem wu{b:List Int}{k:Nat}(h:k<b.length):gW b k 1=b.getD k 0:=by
 rw[xc (by omega),C1 h,List.drop_eq_getElem_cons h,List.take_succ_cons,List.take_zero];show 0*256+b[k]=b[k];omega
def xV(b:List Int):aV:=⟨gW b 1 1,gW b 2 3,gW b 5 1,gW b 6 1,gW b 7 7,gW b 14 7,decide (gW b 21 1=1)⟩
theorem Jb{b:List Int}(h:b.length=22):xV b=lJ b:=by
 grind[Pu,xV,wu,lJ]
theorem Zo{b:List Int}(V:co (xV b)=true)(h2:tB (xV b)=b):lK b=true/\xV b=t6 b:=by
 grind[wo,TF,Jb,Pt,Ja]
theorem Jc{b:List Int}(h:co (xV b)=false):lK b=false:=Bool.eq_false_iff.2 fun q=>by
 grind[uS,Jb]
theorem Jd{b:List Int}(h:tB (xV b)≠b):lK b=false:=Bool.eq_false_iff.2 fun q=>h (by
 grind[uS,Jb,wo])
theorem Zp(b:List Int)(hb:fA b)(hl:b.length<=2000000):GC prog 100 [gV b] [] (.au [ju (t6 b),aD (lK b)]) []:=by
 refine GC.intro (rs:=[.cell 2 81 (some 7),.tmp 3]) func100 rfl ntmps100 (Nat.le_of_ble_eq_true rfl) ⟨rfl,rfl,dD,rfl,trivial⟩ ?_;intro L O w0;refine sL<|ab (zA 2002 jl rfl) Z<|ar Z<|nA<|lq (rd (x:=.agg [U _ _,U _ _,U _ _,U _ _,U _ _,U _ _,vB false]) (cP rfl xF rfl rfl rfl) rfl)<|ab (zA 2004 jl rfl) Z<|ab (zB 2004 mZ m0 rfl) Z<|nA<|bm Z<|ab (zC [] [] [] func187 (uN b 1 1 hb (by decide) (by decide) (by decide) hl) (trivial) rfl rfl) Z<|cT (.au [U _ _,vB _]) Z<|dE Z<|eU Z<|lf 0 jz Z<|ab (zB 2004 ca cb rfl) Z<|nA<|bm Z<|ab (zC [] [] [] func187 (uN b 2 3 hb (by decide) (by decide) (by decide) hl) (trivial) rfl rfl) Z<|lT [0,2,3,4,18] [2002,2004] ?_;refine cT (.au [U _ _,vB _]) Z<|dE Z<|eU Z<|lf 1 gE Z<|ab (zB 2004 ca cb rfl) Z<|nA<|bm Z<|ab (zC [] [] [] func187 (uN b 5 1 hb (by decide) (by decide) (by decide) hl) (trivial) rfl rfl) Z<|cT (.au [U _ _,vB _]) Z<|dE Z<|eU Z<|lf 2 dn Z<|ab (zB 2004 ca cb rfl) Z<|nA<|bm Z<|ab (zC [] [] [] func187 (uN b 6 1 hb (by decide) (by decide) (by decide) hl) (trivial) rfl rfl) Z<|lT [0,2,3,4,30] [2002,2004] ?_;refine cT (.au [U _ _,vB _]) Z<|dE Z<|eU Z<|lf 3 fK Z<|ab (zB 2004 ca cb rfl) Z<|nA<|bm Z<|ab (zC [] [] [] func187 (uN b 7 7 hb (by decide) (by decide) (by decide) hl) (trivial) rfl rfl) Z<|cT (.au [U _ _,vB _]) Z<|dE Z<|eU Z<|lf 4 bN Z<|ab (zB 2004 ca cb rfl) Z<|nA<|bm Z<|ab (zC [] [] [] func187 (uN b 14 7 hb (by decide) (by decide) (by decide) hl) (trivial) rfl rfl) Z<|lT [0,2,3,4,42] [2002,2004] ?_;refine cT (.au [U _ _,vB _]) Z<|dE Z<|eU Z<|lf 5 fC Z<|ab (zB 2004 ca cb rfl) Z<|nA<|bm Z<|ab (zC [] [] [] func187 (uN b 21 1 hb (by decide) (by decide) (by decide) hl) (trivial) rfl rfl) Z<|cT (.au [U _ _,vB _]) Z<|dE Z<|eU Z<|ao Z<|bv Z<|nA<|ae Z<|ak Z<|lf 6 pw Z<|ab (zB 2004 ES ET rfl) Z<|lT [0,2,3,4] [2002,2004] ?_;refine nA<|aP (.agg [U _ _,U _ _,U _ _,U _ _,U _ _,U _ _,vB _]) dD Z<|ab (zC [] [] [] func188 (Zn (xV b)) (trivial) Z Z) Z<|cT (.au [vL _ _ _,vB _]) Z<|rF Z<|eU Z<|nv Z<|bv Z<|Y<|aS<|sL<|aQ Z<|bX Z<|aQ Z ?_;refine AL.bool (t:=61) rfl ?_ ?_
 ·intro V;refine aa Z<|aa Z<|aa Z<|aa Z<|aa Z<|aU Z<|Y<|aY Z<|sL<|lq (rd (x:=.agg [U _ _,U _ _,U _ _,U _ _,U _ _,U _ _,vB false]) (cP Z xF Z Z Z) Z)<|ab (zB 2002 mZ m0 Z) Z<|ar Z<|Y<|aR<|rT ?_;have hF:lK b=false:=by first|exact Jc (by simpa using V)|exact Jd (by simpa using V)
  rw[C4 hF,hF];trivial
 intro V;refine bm Z<|lq (rd (x:=vV _) (vv (e:=5) Z underlying76 underlying5 underlying9 Z) Z)<|bm Z<|lq (rd (x:=vV _) (vv (e:=5) Z underlying76 underlying5 underlying9 Z) Z)<|lq (rd (x:=vB _) (kg Z Z Z (An underlying9 (Pr _) hb) Z) Z)<|bj Z<|Y ?_;refine AW.cond rfl ?_ ?_
 ·intro h2;refine sL<|lq (rd (x:=.agg [U _ _,U _ _,U _ _,U _ _,U _ _,U _ _,vB false]) (cP Z xF Z Z Z) Z)<|ab (zB 2002 mZ m0 Z) Z<|lT [2,3,4] [2002,2004] ?_;refine ar Z<|Y<|aR<|rT ?_;have hF:lK b=false:=by first|exact Jc (by simpa using h2)|exact Jd (by simpa using h2)|exact Jc (by simpa using V)|exact Jd (by simpa using V)
  rw[C4 hF,hF];trivial
 intro h2;refine aK<|gA<|aP (.agg [U _ _,U _ _,U _ _,U _ _,U _ _,U _ _,vB _]) dD Z<|ab (zB 2002 mZ m0 Z) Z<|cI Z<|Y<|aR ?_;obtain⟨hF,hR⟩:=Zo (b:=b) (by first|(simpa using V)|(simpa using h2)) (by first|(simpa using V)|(simpa using h2));rw[<-hR,hF];trivial

section
variable {P:Program}{o:Oper}{τ:Nat->AV}{H:Nat->AO}{X:Nat->Bool}
theorem Je{s d e:TypeId}{x:Operand}{l:List Int}{id:Nat}{e0:ga}(ho:o.op=.convert s d x)(hs:P.underlying s=some (.slice e))(he:P.underlying e=some (.int .u8))(hd:P.underlying d=some .string)(hx:ev τ x=.own id)(hH:H id=.ai e0 1 (ah dF l))(hX:X id=false):Rd P o τ H X (LP l):=by
 constructor;intro L O w0 N ρ fp a w hr;have h:=hr.ev x;rw[hx,RV]at h;have hv:=h.2 (by rw[hH];rfl);have bY:=hr.ob id;rw[hH]at bY;obtain⟨xs,fr,b1,b2,b3,b4,_⟩:=bY;have gG:=G7 b1;subst gG;refine⟨.string (strOfNums l),fX rfl,fun W hK=>?_⟩;have e1:execOp a.eval o=(do let v <-convert s d (a.eval x);pure (.value v)):=by simp only[execOp,ho]
 rw[e1,hv,Sem.run_bind];rcases b3.2 with⟨q,q2⟩|⟨g,cap,cur,q,_,hg,hnc,bC,_⟩
 ·simp_all[ap,LS]
 obtain⟨hc,eI⟩:=AD (fp:=fp id) b3 q;have hW:W.heap[g]? = w.heap[g]?:=hK.2 g eI (fun j hj q1 q2=>by
  have bO:j≠id:=fun z=>by grind
  exact hr.dj j id bO g ((hr.ob j).top q1 q2) (by grind[Value.ownBlock]))
 have G8:jo W g 0 (l.map (Value.int .u8)):=fun j v hj=>by
  rw[World.cell?_of_block (w:=w) (a:=⟨g,0+j,none⟩) hW];exact hc j v hj
 rw[q,LQ hs he hd (ap _ _).symm G8];rfl
end

theorem Zq(s:fb):GC prog 236 [sV s] [] (aD (i8 s)) []:=by
 refine gi 2 func236 rfl ntmps236 rfl ?_;intro L O w0;refine sL<|ab (zX 2001 Z) Z<|ar Z<|nA<|lf 0 tX Z<|aj ac Z<|ak Z<|aQ Z ?_;refine AL.bool (t:=6) rfl ?_ ?_
 ·intro V;refine lf 0 tX Z<|aj ac Z<|ak Z<|bj Z<|aQ Z ?_;refine AL.bool (t:=11) rfl ?_ ?_
  ·intro h2;refine lf 1 rQ Z<|aj ac Z<|ak Z<|bj Z<|aQ Z ?_;refine AL.bool (t:=16) rfl ?_ ?_
   ·intro h3;refine lf 1 rQ Z<|aj ac Z<|ak Z<|bj Z<|aQ Z ?_;refine AL.bool (t:=21) rfl ?_ ?_
    ·intro h4;refine lf 2 u' Z<|bo kb Z<|ba kE Z ?_;refine dC 24 (int (s.body.length:Int)) (congrArg (fun n:Nat=>int (n:Int)) (ap _ _)) ?_;refine ak Z<|bj Z<|bv Z<|Y<|aR ?_;refine az trivial ?_;unfold i8 aI;grind
    intro h4;refine aa Z<|aa Z<|aa Z<|aa Z<|bL Z<|ar Z<|Y<|aR ?_;refine az trivial ?_;unfold i8 aI;grind
   intro h3;refine aa Z<|aa Z<|aa Z<|bL Z<|lT [1,2,20] [2001] ?_;refine dm Z<|aa Z<|aa Z<|aa Z<|aa Z<|bL Z<|ar Z<|Y<|aR ?_;refine az trivial ?_;unfold i8 aI;grind
  intro h2;refine aa Z<|aa Z<|aa Z<|bL Z<|dm Z<|aa Z<|aa Z<|aa Z<|bL Z<|dm Z<|aa Z<|aa Z<|aa Z<|aa Z<|bL Z<|ar Z<|Y<|aR ?_;refine az trivial ?_;unfold i8 aI;grind
 intro V;refine aa Z<|aa Z<|aa Z<|bL Z<|dm Z<|aa Z<|aa Z<|aa Z<|bL Z<|dm Z<|aa Z<|aa Z<|aa Z<|bL Z<|dm Z<|aa Z<|aa Z<|aa Z<|aa Z<|bL Z<|ar Z<|Y<|aR ?_;refine az trivial ?_;unfold i8 aI;grind
theorem Zr{n:Int}(h0:0<=n)(V:n<=255):cl 1 n=[n]:=by
 show [n/256 ^ 0%256]=[n];grind
theorem Zs(s:fb):GC prog 165 [sV s] [] (.au [.own 1,aD (i8 s)]) [(1,iT (r8 s))]:=by
 refine GC.intro (rs:=[.tmp 2,.tmp 3]) func165 rfl ntmps165 (Nat.le_of_ble_eq_true rfl) ⟨rfl,rfl,trivial⟩ ?_;intro L O w0;refine sL<|ab (zX 2001 Z) Z<|e9 Z<|ar Z<|Y<|aS<|sL<|aP (.agg [U _ _,U _ _,vL _ _ _]) nP Z<|ab (zC [] [] [] func236 (Zq s) (trivial) Z Z) Z<|bX Z<|Y ?_;refine AW.cond rfl ?_ ?_
 ·intro V;refine sL<|e9 Z<|ar Z<|Y ?_;refine AW.oP 1 2 5 1 rfl ?_;refine aR<|rT ?_;have g9:i8 s=false:=by simpa using V
  rw[g9,Hl g9];trivial
 intro V;refine aK<|gT<|aS ?_;have g9:i8 s=true:=by simpa using V
 obtain⟨⟨a1,a2⟩,⟨b1,b2⟩,hl⟩:=qW.1 g9;refine aL<|ab (zS 5 (ah dF [74]) fh ie rfl) Z<|lf 0 tX Z<|aj ac Z<|ab (zC [(1,6),(2,5)] [6,5] [] func237 (xU ([74]) (s.seq) 3 (by omega) (by omega) (by omega) (by decide) (by decide) (by first|(simp[da];done)|(simp[da];omega))) (trivial) rfl rfl) Z<|cT (.au [.own _,vB true]) Z<|qT Z<|iB (vB true) Z<|bD Z<|cI Z<|nA<|bW Z<|lf 1 rQ Z<|aj ac Z<|ab (zC [(1,7),(2,6)] [7,6] [] func237 (xU ([74]++cl 3 s.seq) (s.dP) 3 (by omega) (by omega) (by omega) (by decide) (by decide) (by first|(simp[da];done)|(simp[da];omega))) (trivial) rfl rfl) Z<|lT [1,2,3,20] [5,6,7,2001] ?_;refine cT (.au [.own _,vB true]) Z<|qT Z<|iB (vB true) Z<|bD Z<|nA<|bW Z<|lf 2 u' Z<|bo kb Z<|ba kE Z ?_;refine dC 27 (int (s.body.length:Int)) (congrArg (fun n:Nat=>int (n:Int)) (ap _ _)) ?_;refine ab (zC [(1,8),(2,7)] [8,7] [] func237 (xU ([74]++cl 3 s.seq++cl 3 s.dP) ((s.body.length:Int)) 1 (by omega) (by omega) (by omega) (by decide) (by decide) (by first|(simp[da];done)|(simp[da];omega))) (trivial) rfl rfl) Z<|cT (.au [.own _,vB true]) Z<|qT Z<|iB (vB true) Z<|bD Z<|nA<|bW Z<|lf 2 u' Z<|bo kb Z<|ab (zP 8 fh ie mu rfl (Src.p rfl) (by first|(simp[ah,da];done)|(simp[ah,da];omega))) Z<|lT [1,2,3,34] [5,6,7,8,2001] ?_;refine bD Z<|Y ?_;refine AW.obj 8 (iT ([74]++cl 3 s.seq++cl 3 s.dP++[(s.body.length:Int)]++s.body)) ((Eq.trans (b:=AO.ai 5 1 (ah dF ([74]++cl 3 s.seq++cl 3 s.dP++cl 1 (s.body.length:Int))++ah dF s.body)) rfl (by rw[Zr (by omega) (by omega),<-rR]))) ?_;refine sL<|bW Z<|bW Z<|ba kE Z ?_;refine dC 37 (int ((8+s.body.length:Nat):Int)) (Eq.trans (b:=int _) rfl (congrArg (fun n:Nat=>int (n:Int)) (by rw[ap];first|(simp[da];done)|(simp[da];omega)))) ?_;refine bg Z<|ab (L8 8 (m:=114-s.body.length) rfl rfl (by decide) fh ie rfl lM rfl rfl rfl ?hn1 (by rw[ap];first|(simp;done)|(simp;omega)) (by omega) (by rw[ap];simp[da,maxLen];omega) (Nat.le_trans (Nat.mul_le_mul_left _ mu) (by rw[ap];simp[da];omega))) rfl ?_;case hn1=>omega
 refine bD Z<|Y ?_;refine AW.obj 8 (iT ([74]++cl 3 s.seq++cl 3 s.dP++[(s.body.length:Int)]++s.body++List.replicate (114-s.body.length) 0)) ((Eq.trans (b:=AO.ai 5 1 (ah dF ([74]++cl 3 s.seq++cl 3 s.dP++[(s.body.length:Int)]++s.body)++List.replicate (114-s.body.length) [PV.v (.int .u8 0)])) rfl (by rw[En,<-rR]))) ?_;refine sL<|bW Z<|lf 0 tX Z<|aj ac Z<|ab (zC [(1,9),(2,8)] [9,8] [] func237 (xU ([74]++cl 3 s.seq++cl 3 s.dP++[(s.body.length:Int)]++s.body++List.replicate (114-s.body.length) 0) (s.seq) 3 (by omega) (by omega) (by omega) (by decide) (by decide) (by first|(simp[da];done)|(simp[da];omega))) (trivial) rfl rfl) Z<|cT (.au [.own _,vB true]) Z<|qT Z<|iB (vB true) Z<|bD Z<|nA<|bW Z<|lf 1 rQ Z<|aj ac Z<|ab (zC [(1,1),(2,9)] [1,9] [] func237 (xU ([74]++cl 3 s.seq++cl 3 s.dP++[(s.body.length:Int)]++s.body++List.replicate (114-s.body.length) 0++cl 3 s.seq) (s.dP) 3 (by omega) (by omega) (by omega) (by decide) (by decide) (by first|(simp[da];done)|(simp[da];omega))) (trivial) rfl rfl) Z<|lT [2,3,50] [1,5,6,7,8,9,2001] ?_;refine qT Z<|iB (vB true) Z<|bD Z<|cI Z<|Y<|aR ?_;rw[g9,At g9];trivial
theorem Jf{u:Value}(s:fb):GC prog 165 [.agg [int s.seq,int s.dP,.own 2]] [(2,.ai ⟨5,some u⟩ 1 (ah dF s.body))] (.au [.own 1,aD (i8 s)]) [(1,iT (r8 s)),(2,.ai ⟨5,some u⟩ 1 (ah dF s.body))]:=
 (Zs s).Ae rfl rfl (by intro id hid;simp[s7,vN]at hid;subst hid;rfl) (by intro p hp;simp at hp;subst hp;rfl) (by intro p hp;simp at hp;subst hp;exact⟨rfl,yg⟩) (by intro p hp;simp at hp;subst hp;rfl)
def uO(b:List Int):fb:=⟨gW b 1 3,gW b 4 3,(b.drop 8).take (gW b 7 1).toNat⟩
def Fu(b:List Int):fb:=⟨gW b 1 3,gW b 4 3,[]⟩
theorem Fv{b:List Int}(h:b.length=128):uO b=gu b:=by
 obtain⟨e1,e2⟩:=Mh h;unfold uO;rw[wu (by omega),e1,e2];rfl
theorem Zt{b:List Int}(h:b.length=128)(hn:gW b 7 1<=100)(V:i8 (uO b)=true)(h2:r8 (uO b)=b):g8 b=true:=by
 grind[Fv,wu,Mi]
theorem zy{b:List Int}(h:b.length=128)(V:i8 (uO b)=false):g8 b=false:=uj (by grind[Fv])
theorem zz{b:List Int}(h:b.length=128)(V:r8 (uO b)≠b):g8 b=false:=uk (by grind[Fv])
theorem Fw{b:List Int}(h:¬(gW b 7 1<=100/\b.length=128)):g8 b=false:=Bool.eq_false_iff.2 fun q=>h (by
 grind[oN,wu])
theorem Py{b:List Int}(V:i8 (Fu b)=true)(h2:r8 (Fu b)=b):gW b 7 1<=100/\b.length=128:=by
 rw[At V]at h2;have hl:b.length=128:=by rw[<-h2];exact TB (by show 0<=100;omega)
 refine⟨?_,hl⟩;have e:=TE V;rw[h2]at e;have e2:((b.drop 8).take (b.getD 7 0).toNat).length=0:=by
  have:(gu b).body=[]:=by rw[e];rfl
  have:=congrArg List.length this;exact this
 grind[wu]
def Pz(b:List Int):AV->List (Nat×AO)->Prop:=fun y ob=>g8 b=true/\y=.au [.agg [int (gu b).seq,int (gu b).dP,.own 1],aD true]/\ob=[(1,iT (gu b).body)]\/g8 b=false/\y=.au [.agg [int 0,int 0,.p (.v (.slice none 0 0))],aD false]/\ob=[]
theorem Zu{f:FuncId}{b:List Int}(h:GX prog f [gV b] [] (Pz b)):GX prog f [gV b] [] (Eo b):=
 (GX.frozen (Z:=fun y=>Eo b y []) h fun x ob q=>by
   rcases q with⟨V,rfl,rfl⟩|⟨V,rfl,rfl⟩
   ·exact⟨_,Still.au (.cons (Still.agg (.cons (Still.p _) (.cons (Still.p _) (.cons (Still.row (e:=⟨5,none⟩) (sz:=1) (rows:=ah dF (gu b).body) rfl) .nil)))) (.cons (Still.p _) .nil)),rfl,.inl ⟨V,rfl⟩⟩
   exact⟨_,Still.au (.cons (Still.agg (.cons (Still.p _) (.cons (Still.p _) (.cons (Still.p _) .nil)))) (.cons (Still.p _) .nil)),rfl,.inr ⟨V,rfl⟩⟩).mono fun y o ⟨e1,e2⟩=>by grind
theorem Zv(b:List Int)(hb:fA b)(hl:b.length<=2000000):GX prog 178 [gV b] [] (Pz b):=by
 refine GX.intro (rs:=[.cell 2 141 (some 3),.tmp 3]) func178 rfl ntmps178 (Nat.le_of_ble_eq_true rfl) ⟨rfl,rfl,nP,rfl,trivial⟩ ?_;intro L O w0;refine sL<|ab (zA 2002 pB rfl) Z<|ar Z<|nA<|lq (rd (x:=.agg [U _ _,U _ _,vV _]) (cP rfl r9 rfl rfl rfl) rfl)<|ab (zA 3 pB rfl) Z<|ab (zB 3 mL mM rfl) Z<|nA<|bm Z<|ab (zC [] [] [] func187 (uN b 1 3 hb (by decide) (by decide) (by decide) hl) (trivial) rfl rfl) Z<|cT (.au [U _ _,vB _]) Z<|dE Z<|eU Z<|lf 0 tX Z<|ab (zB 3 ca cb rfl) Z<|nA<|bm Z<|ab (zC [] [] [] func187 (uN b 4 3 hb (by decide) (by decide) (by decide) hl) (trivial) rfl rfl) Z<|lT [0,2,3,4,18] [3,2002] ?_;refine cT (.au [U _ _,vB _]) Z<|dE Z<|eU Z<|lf 1 rQ Z<|ab (zB 3 ca cb rfl) Z<|nA<|bm Z<|ab (zC [] [] [] func187 (uN b 7 1 hb (by decide) (by decide) (by decide) hl) (trivial) rfl rfl) Z<|cT (.au [U _ _,vB _]) Z<|dE Z<|eU Z<|ao Z<|bv Z<|Y<|aS<|sL<|ae Z<|ak Z<|aQ rfl ?_;refine AL.bool (t:=29) rfl ?_ ?_
 ·intro V;refine bm Z<|ba kE Z<|ak Z<|bj Z<|Y ?_;refine AW.cond rfl ?_ ?_
  ·intro h2;have hn:gW b 7 1<=100:=by first|grind|(have h:=h2;simp at h;omega)
   have nk:b.length=128:=by first|grind[ap]|grind[ap]
   have h7:7<b.length:=by omega
   have hg:0<=gW b 7 1:=by rw[wu h7,B9 h7];exact(hb _ (List.getElem_mem h7)).1
   refine aL<|ab (zS 1 (ah dF []) fh ie rfl (by trivial)) Z<|lT [0,2,3,4,5,34] [1,3,2002] ?_;refine bm Z<|ae Z<|bg Z<|jK 37 ((8+(gW b 7 1).toNat:Nat):Int) rfl (by omega) ?_;refine lq (rd (x:=vL _ _ _) (p6 (l:=8) (h:=8+(gW b 7 1).toNat) rfl fh rfl ⟨_,rfl⟩ ⟨_,rfl⟩ (by omega) (by grind)) rfl) ?_;refine dC 38 (gV ((b.drop 8).take (gW b 7 1).toNat)) (Eq.trans (b:=.p (.ab 5 1 (((ah dF b).take (8+(gW b 7 1).toNat)).drop 8))) rfl (congrArg (fun r=>AV.p (.ab 5 1 r)) Hj)) ?_;refine ab (zP 1 fh ie mu rfl (Src.p rfl) (by grind[ah])) Z<|lf 2 u' Z<|ab (zB 3 Ih Ii rfl) Z<|Y ?_;refine AW.obj 1 (iT ((b.drop 8).take (gW b 7 1).toNat)) ((Eq.trans (b:=AO.ai 5 1 (ah dF []++ah dF ((b.drop 8).take (gW b 7 1).toNat))) rfl rfl)) ?_;refine aS ?_;refine AW.mU 1 rfl ?_;intro u1;refine aL<|aP (.agg [U _ _,U _ _,.own _]) nP Z ?_;refine ab (zC [(1,4),(2,1)] [4] [2] func165 (Jf (uO b)) (⟨stays.ai rfl,trivial⟩) rfl rfl) Z<|cT (.au [.own _,vB _]) Z<|qT Z<|eU Z<|bD Z<|bv Z<|Y ?_;refine iQ 1 rfl ?_;refine aS<|sL<|aQ Z<|bX Z<|aQ Z ?_;refine AL.bool (t:=48) rfl ?_ ?_
   ·intro h3;refine aa Z<|aa Z<|aa Z<|aa Z<|aa Z<|aU Z<|Y<|aY Z<|sL<|lq (rd (x:=.agg [U _ _,U _ _,vV _]) (cP Z r9 Z Z Z) Z)<|ab (zB 2002 mL mM Z) Z<|lT [2,3,4] [1,3,4,2002] ?_;refine ar Z<|Y<|aR<|rT ?_;have hF:g8 b=false:=by first|grind[zy]|exact zz nk (by simpa using h3)|exact zy nk (by simpa using h2)|exact zz nk (by simpa using h2)|exact zy nk (by simpa using V)|exact zz nk (by simpa using V)
    refine fN ((.au [.agg [int 0,int 0,.p (.v (.slice none 0 0))],aD false])) [] ?_ rfl trivial;exact .inr ⟨hF,rfl,rfl⟩
   intro h3;refine bW Z<|lq (rd (x:=vV _) (Je (e:=5) rfl underlying76 underlying5 underlying9 rfl rfl rfl) rfl)<|bm Z<|lq (rd (x:=vV _) (vv (e:=5) rfl underlying76 underlying5 underlying9 rfl) rfl)<|lq (rd (x:=vB _) (kg rfl rfl rfl (An underlying9 (Em (by first|exact .nil|exact(hb.drop 8).take _)) hb) rfl) rfl)<|bj Z<|Y ?_;refine AW.cond rfl ?_ ?_
   ·intro h4;refine sL<|lq (rd (x:=.agg [U _ _,U _ _,vV _]) (cP Z r9 Z Z Z) Z)<|ab (zB 2002 mL mM Z) Z<|ar Z<|Y<|aR<|rT ?_;have hF:g8 b=false:=by first|exact zy nk (by simpa using h4)|grind[zz]|exact zy nk (by simpa using h3)|exact zz nk (by simpa using h3)|exact zy nk (by simpa using h2)|exact zz nk (by simpa using h2)|exact zy nk (by simpa using V)|exact zz nk (by simpa using V)
    refine fN ((.au [.agg [int 0,int 0,.p (.v (.slice none 0 0))],aD false])) [] ?_ rfl trivial;exact .inr ⟨hF,rfl,rfl⟩
   intro h4;refine aK<|gA<|aP (.agg [U _ _,U _ _,.own _]) nP Z<|ab (zB 2002 mL mM Z) Z<|cI Z<|Y<|aR ?_;have hF:=Zt nk hn (by grind) (by grind);have hC:=Fv nk;refine fN ((.au [.agg [int (uO b).seq,int (uO b).dP,.own 1],aD true])) [(1,iT (uO b).body)] ?_ rfl ⟨rfl,trivial⟩;exact .inl ⟨hF,by rw[hC],by rw[hC]⟩
  intro h2;refine aK<|gT<|aS ?_;have iY:¬(gW b 7 1<=100/\b.length=128):=by first|grind[ap]
  refine AW.pi 1 3 2 5 1 rfl (by decide) rfl ?_;refine AW.mU 1 rfl ?_;intro u1;refine aL<|aP (.agg [U _ _,U _ _,.own _]) nP Z ?_;refine ab (zC [(1,4),(2,1)] [4] [2] func165 (Jf (Fu b)) (⟨stays.ai rfl,trivial⟩) rfl rfl) Z<|lT [0,2,3,4,43] [1,3,4,2002] ?_;refine cT (.au [.own _,vB _]) Z<|qT Z<|eU Z<|bD Z<|bv Z<|Y ?_;refine iQ 1 rfl ?_;refine aS<|sL<|aQ Z<|bX Z<|aQ Z ?_;refine AL.bool (t:=48) rfl ?_ ?_
  ·intro h5;refine aa Z<|aa Z<|aa Z<|aa Z<|aa Z<|aU Z<|Y<|aY Z<|sL<|lq (rd (x:=.agg [U _ _,U _ _,vV _]) (cP Z r9 Z Z Z) Z)<|ab (zB 2002 mL mM Z) Z<|ar Z<|Y<|aR<|rT ?_;have hF:g8 b=false:=Fw iY;refine fN ((.au [.agg [int 0,int 0,.p (.v (.slice none 0 0))],aD false])) [] ?_ rfl trivial;exact .inr ⟨hF,rfl,rfl⟩
  intro h5;refine bW Z<|lq (rd (x:=vV _) (Je (e:=5) rfl underlying76 underlying5 underlying9 rfl rfl rfl) rfl)<|bm Z<|lq (rd (x:=vV _) (vv (e:=5) rfl underlying76 underlying5 underlying9 rfl) rfl)<|lq (rd (x:=vB _) (kg rfl rfl rfl (An underlying9 (Em (by first|exact .nil|exact(hb.drop 8).take _)) hb) rfl) rfl)<|bj Z<|Y ?_;refine AW.cond rfl ?_ ?_
  ·intro h6;refine sL<|lq (rd (x:=.agg [U _ _,U _ _,vV _]) (cP Z r9 Z Z Z) Z)<|ab (zB 2002 mL mM Z) Z<|lT [2,3,4] [1,3,4,2002] ?_;refine ar Z<|Y<|aR<|rT ?_;have hF:g8 b=false:=Fw iY;refine fN ((.au [.agg [int 0,int 0,.p (.v (.slice none 0 0))],aD false])) [] ?_ rfl trivial;exact .inr ⟨hF,rfl,rfl⟩
  intro h6;refine aK<|gA<|aP (.agg [U _ _,U _ _,.own _]) nP Z<|ab (zB 2002 mL mM Z) Z<|cI Z<|Y<|aR ?_;simp_all[Py]
 intro V;refine aa Z<|aa Z<|aa Z<|bL Z<|Y<|aN Z<|aK<|gT<|aS ?_;have iY:¬(gW b 7 1<=100/\b.length=128):=by first|grind
 refine AW.pi 1 3 2 5 1 rfl (by decide) rfl ?_;refine AW.mU 1 rfl ?_;intro u1;refine aL<|aP (.agg [U _ _,U _ _,.own _]) nP Z ?_;refine ab (zC [(1,4),(2,1)] [4] [2] func165 (Jf (Fu b)) (⟨stays.ai rfl,trivial⟩) rfl rfl) Z<|cT (.au [.own _,vB _]) Z<|qT Z<|eU Z<|bD Z<|bv Z<|Y ?_;refine iQ 1 rfl ?_;refine aS<|sL<|aQ Z<|bX Z<|aQ Z ?_;refine AL.bool (t:=48) rfl ?_ ?_
 ·intro h7;refine aa Z<|aa Z<|aa Z<|aa Z<|aa Z<|aU Z<|Y<|aY Z<|sL<|lq (rd (x:=.agg [U _ _,U _ _,vV _]) (cP Z r9 Z Z Z) Z)<|ab (zB 2002 mL mM Z) Z<|lT [2,3,4] [1,3,4,2002] ?_;refine ar Z<|Y<|aR<|rT ?_;have hF:g8 b=false:=Fw iY;refine fN ((.au [.agg [int 0,int 0,.p (.v (.slice none 0 0))],aD false])) [] ?_ rfl trivial;exact .inr ⟨hF,rfl,rfl⟩
 intro h7;refine bW Z<|lq (rd (x:=vV _) (Je (e:=5) rfl underlying76 underlying5 underlying9 rfl rfl rfl) rfl)<|bm Z<|lq (rd (x:=vV _) (vv (e:=5) rfl underlying76 underlying5 underlying9 rfl) rfl)<|lq (rd (x:=vB _) (kg rfl rfl rfl (An underlying9 (Em (by first|exact .nil|exact(hb.drop 8).take _)) hb) rfl) rfl)<|bj Z<|Y ?_;refine AW.cond rfl ?_ ?_
 ·intro h8;refine sL<|lq (rd (x:=.agg [U _ _,U _ _,vV _]) (cP Z r9 Z Z Z) Z)<|ab (zB 2002 mL mM Z) Z<|ar Z<|Y<|aR<|rT ?_;have hF:g8 b=false:=Fw iY;refine fN ((.au [.agg [int 0,int 0,.p (.v (.slice none 0 0))],aD false])) [] ?_ rfl trivial;exact .inr ⟨hF,rfl,rfl⟩
 intro h8;refine aK<|gA<|aP (.agg [U _ _,U _ _,.own _]) nP Z<|ab (zB 2002 mL mM Z) Z<|cI Z<|Y<|aR ?_;have hF:=iY (Py (by first|(simpa using V)|(simpa using h7)|(simpa using h8)) (by first|(simpa using V)|(simpa using h7)|(simpa using h8)));grind
theorem Zw(b:List Int)(hb:fA b)(hl:b.length<=2000000):GC prog 178 [gV b] [] (.au [sV (kP b),aD (g8 b)]) []:=Mj (Zu (Zv b hb hl))

theorem Jg{b:List Int}(h:b.length=0):yP b=List.replicate 128 0:=if_pos h
theorem Jh{b:List Int}(h:b.length≠0):yP b=b:=if_neg h
theorem Zx(b:List Int)(hl:b.length<=2000000):GC prog 157 [.agg [gV b]] [] (.own 1) [(1,iT (yP b))]:=by
 refine gi 2 func157 rfl ntmps157 rfl ?_;intro L O w0;refine sL<|ab (zX 2001 Z) Z<|e9 Z<|Y<|aS<|sL<|lf 0 uB Z<|bo kb Z<|ba kE Z<|ak Z<|Y ?_;refine AW.cond rfl ?_ ?_
 ·intro V;refine sL<|ab (uq 1 (m:=128) rfl rfl (by decide) fh ie rfl rfl rfl rfl rfl (Nat.le_trans (Nat.mul_le_mul_right _ mu) (by decide)) (by decide)) Z<|bD Z<|Y ?_;refine AW.obj 1 (iT (List.replicate 128 0)) ((Eq.trans (b:=AO.ai 5 1 (List.replicate 128 [PV.v (.int .u8 0)])) rfl (congrArg (AO.ai 5 1) (En 128)))) ?_;refine aR<|rT ?_;have hz:b.length=0:=by have h:=V;simpa[ap]using h
  rw[Jg hz];trivial
 intro V;refine aK<|gA<|lf 0 uB Z<|bo kb Z<|ab (zC [(1,1)] [1] [] func229 (He b hl) (trivial) Z Z) Z<|bD Z<|Y<|aR ?_;have hz:b.length≠0:=by have h:=V;simpa[ap]using h
 rw[Jh hz];trivial
theorem Zy(b:List Int)(hl:b.length<=2000000):GC prog 154 [gV b] [] (.own 1) [(1,iT (yP b))]:=by
 refine gi 2 func154 rfl ntmps154 rfl ?_;intro L O w0;refine sL<|e9 Z<|Y<|aS<|sL<|bm Z<|ba kE Z<|ak Z<|Y ?_;refine AW.cond rfl ?_ ?_
 ·intro V;refine sL<|ab (uq 1 (m:=128) rfl rfl (by decide) fh ie rfl rfl rfl rfl rfl (Nat.le_trans (Nat.mul_le_mul_right _ mu) (by decide)) (by decide)) Z<|bD Z<|Y ?_;refine AW.obj 1 (iT (List.replicate 128 0)) ((Eq.trans (b:=AO.ai 5 1 (List.replicate 128 [PV.v (.int .u8 0)])) rfl (congrArg (AO.ai 5 1) (En 128)))) ?_;refine aR<|rT ?_;have hz:b.length=0:=by have h:=V;simpa[ap]using h
  rw[Jg hz];trivial
 intro V;refine aK<|gA<|ab (zS 1 (ah dF []) fh ie rfl (by intro r hr;cases hr)) Z<|bm Z<|ab (zP 1 fh ie mu rfl (Src.p rfl) (by first|(simp[ah,da];done)|(simp[ah,da];omega))) Z<|bD Z<|Y<|aR ?_;have hz:b.length≠0:=by have h:=V;simpa[ap]using h
 rw[Jh hz];trivial
theorem Bb{α:Type}{p:α->Bool}{l:List α}{j:Nat}(hj:j<l.length)(h:(l.take j).all p=true)(hp:p l[j]=true):(l.take (j+1)).all p=true:=by grind[List.take_succ_eq_append_getElem]
theorem zD{α:Type}{p:α->Bool}{l:List α}{j:Nat}(hj:j<l.length)(hp:p l[j]=false):l.all p=false:=Bool.eq_false_iff.2 fun q=>by grind
theorem C5{d:du}(h:¬(1<=d.cells.length/\d.cells.length<=600/\d.bu.length<=600)):ik d=false:=by
 unfold ik aI;grind
theorem PA{d:du}(h:d.cells.all lL=false):ik d=false:=by grind[ik]
theorem C6{d:du}(h:d.bu.all (kS d.cells.length)=false):ik d=false:=by grind[ik]
theorem PB{d:du}(h:1<=d.cells.length/\d.cells.length<=600/\d.bu.length<=600)(V:d.cells.all lL=true)(h2:d.bu.all (kS d.cells.length)=true):ik d=true:=by
 grind[ik,aI]
theorem J'(d:du):GC prog 91 [mt d] [] (aD (ik d)) []:=by
 refine gi 2 func91 rfl ntmps91 rfl ?_;intro L O w0;refine sL<|ab (zX 2001 Z) Z<|ar Z<|Y<|aS<|sL<|lf 0 n9 Z<|bo oB Z<|ba po Z ?_;refine dC 9 (int (d.cells.length:Int)) (congrArg (fun n:Nat=>int (n:Int)) (fU _)) ?_;refine ab (zL func92 (pp _ _ _) Z) Z<|bX Z<|aQ Z ?_;refine AL.bool (t:=12) rfl ?_ ?_
 ·intro V;refine aa Z<|aa Z<|aa Z<|aa Z<|aU Z<|Y<|aY Z<|sL<|ar Z<|Y<|aR<|rT ?_;have hF:ik d=false:=C5 (by
   simp[aI]at *;omega)
  rw[hF];trivial
 intro V;refine lf 1 ru Z<|bo sk Z<|ba vT Z ?_;refine dC 15 (int (d.bu.length:Int)) (congrArg (fun n:Nat=>int (n:Int)) (pH _)) ?_;refine ak Z<|bj Z<|Y ?_;refine AW.cond rfl ?_ ?_
 ·intro h2;refine sL<|ar Z<|Y<|aR<|rT ?_;have hF:ik d=false:=C5 (by
   simp[aI]at *;omega)
  rw[hF];trivial
 intro h2;refine aK<|gT<|aS<|aS ?_;have gR:1<=d.cells.length/\d.cells.length<=600/\d.bu.length<=600:=by
  simp[aI]at *;omega
 refine aL<|lf 0 n9 Z<|bo oB Z<|ba po Z ?_;refine dC 20 (int (d.cells.length:Int)) (congrArg (fun n:Nat=>int (n:Int)) (fU _)) ?_;refine ae Z<|Y<|aB ?_;refine aW [1,2,19,20] [2001] (D:=Nat) (fun a=>[(21,int (a:Int))]) (fun a=>[]) (fun a=>a<=d.cells.length/\(d.cells.take a).all lL=true) (fun a=>d.cells.length-a) (0) (⟨Nat.zero_le _,rfl⟩) ⟨rfl,trivial⟩ trivial ?_;intro j hI;replace hI:j<=d.cells.length/\(d.cells.take j).all lL=true:=hI;refine sL<|ak Z<|Y<|aS ?_;refine AW.cond rfl ?_ ?_
 ·intro h3;refine aK<|gT<|aS<|aB<|aS ?_;have hj:j<d.cells.length:=by have h:=h3;simp only[decide_eq_true_eq]at h;omega
  refine aL<|li j xE Z (vw hj)<|d6 (.agg [vL _ _ _]) zn Z<|ab (zA 2004 CB Z) Z<|lT [1,2,4,19,20,21,24] [2001,2004] ?_;refine ab (zB 2004 E2 E3 Z) Z<|nA<|lf 0 uB Z<|bo kb Z<|ba kE Z<|ak Z<|aQ Z ?_;refine AL.bool (t:=29) rfl ?_ ?_
  ·intro h4;refine lf 0 uB Z<|bo kb Z<|ba kE Z<|ak Z<|bj Z<|Y ?_;refine AW.cond rfl ?_ ?_
   ·intro h5;refine sL<|ar Z<|Y<|aR<|rB<|rT<|rT<|rB<|rT ?_;have hc:lL d.cells[j]=false:=by
     unfold lL;try unfold aI
     rw[Bool.eq_iff_iff];simp only[ap,decide_eq_true_eq,decide_eq_false_iff_not,Bool.and_eq_true,Bool.and_eq_false_iff,Bool.or_eq_true,Bool.not_eq_true,Bool.not_eq_false,Bool.not_eq_true',Bool.not_eq_false',Bool.false_eq_true,aI,iff_false,iff_true,ge_iff_le,gt_iff_lt,ne_eq,bne_iff_ne]at *;omega
    rw[PA (zD hj hc)];trivial
   intro h5;refine aK<|gB<|gT<|aL<|bg Z<|ae Z<|Y ?_;have hc:lL d.cells[j]=true:=by
    unfold lL;try unfold aI
    rw[Bool.eq_iff_iff];simp only[ap,decide_eq_true_eq,decide_eq_false_iff_not,Bool.and_eq_true,Bool.and_eq_false_iff,Bool.or_eq_true,Bool.not_eq_true,Bool.not_eq_false,Bool.not_eq_true',Bool.not_eq_false',Bool.false_eq_true,aI,iff_false,iff_true,ge_iff_le,gt_iff_lt,ne_eq,bne_iff_ne]at *;omega
   refine⟨(j+1),⟨hj,Bb hj hI.2 hc⟩,by omega,⟨(iq rfl),trivial⟩,trivial,rfl,rfl⟩
  intro h4;refine aa Z<|aa Z<|aa Z<|aa Z<|bL Z<|Y<|aN Z<|aK<|gB<|gT<|aL<|bg Z<|ae Z<|Y ?_;have hc:lL d.cells[j]=true:=by
   unfold lL;try unfold aI
   rw[Bool.eq_iff_iff];simp only[ap,decide_eq_true_eq,decide_eq_false_iff_not,Bool.and_eq_true,Bool.and_eq_false_iff,Bool.or_eq_true,Bool.not_eq_true,Bool.not_eq_false,Bool.not_eq_true',Bool.not_eq_false',Bool.false_eq_true,aI,iff_false,iff_true,ge_iff_le,gt_iff_lt,ne_eq,bne_iff_ne]at *;omega
  refine⟨(j+1),⟨hj,Bb hj hI.2 hc⟩,by omega,⟨(iq rfl),trivial⟩,trivial,rfl,rfl⟩
 intro h3;refine aE<|eT<|eT<|eB<|gT<|aS<|aS ?_;have Ji:j=d.cells.length:=by have h:=h3;have h2:=hI.1;simp only[decide_eq_false_iff_not]at h;omega
 have hA:d.cells.all lL=true:=by have h:=hI.2;rwa [Ji,List.take_length]at h
 clear hI;refine aL<|lf 1 ru Z<|bo sk Z<|ba vT Z ?_;refine dC 38 (int (d.bu.length:Int)) (congrArg (fun n:Nat=>int (n:Int)) (pH _)) ?_;refine ae Z<|Y<|aB ?_;refine aW [1,2,37,38] [2001] (D:=Nat) (fun a=>[(39,int (a:Int))]) (fun a=>[]) (fun a=>a<=d.bu.length/\(d.bu.take a).all (kS d.cells.length)=true) (fun a=>d.bu.length-a) (0) (⟨Nat.zero_le _,rfl⟩) ⟨rfl,trivial⟩ trivial ?_;intro i hI;have hJ:i<=d.bu.length/\(d.bu.take i).all (kS d.cells.length)=true:=hI;refine sL<|ak Z<|Y<|aS ?_;refine AW.cond rfl ?_ ?_
 ·intro h6;refine aK<|gT<|aS<|aB<|aS ?_;have hi:i<d.bu.length:=by have h:=h6;simp only[decide_eq_true_eq]at h;omega
  refine aL<|li i uz Z (td hi)<|d6 (.agg [U _ _,vL _ _ _]) AY Z<|ab (zA 2006 CA Z) Z<|lT [1,2,6,37,38,39,42] [2001,2006] ?_;refine ab (zB 2006 E0 E1 Z) Z<|nA<|lf 0 xG Z<|aj ac Z<|lf 0 n9 Z<|bo oB Z<|ba po Z ?_;refine dC 47 (int (d.cells.length:Int)) (congrArg (fun n:Nat=>int (n:Int)) (fU _)) ?_;refine bg Z<|ab (zL func92 (pp _ _ _) Z) Z<|bX Z<|aQ Z ?_;refine AL.bool (t:=51) rfl ?_ ?_
  ·intro h7;refine aa Z<|aa Z<|aa Z<|aa Z<|aU Z<|Y<|aY Z<|sL<|ar Z<|Y<|aR<|rB<|rT<|rT<|rB<|rT ?_;have hc:kS d.cells.length d.bu[i]=false:=by
    unfold kS;try unfold aI
    rw[Bool.eq_iff_iff];simp only[ap,decide_eq_true_eq,decide_eq_false_iff_not,Bool.and_eq_true,Bool.and_eq_false_iff,Bool.or_eq_true,Bool.not_eq_true,Bool.not_eq_false,Bool.not_eq_true',Bool.not_eq_false',Bool.false_eq_true,aI,iff_false,iff_true,ge_iff_le,gt_iff_lt,ne_eq,bne_iff_ne]at *;omega
   rw[C6 (zD hi hc)];trivial
  intro h7;refine lf 1 zm Z<|bo kb Z<|ba kE Z<|ak Z<|bj Z<|Y ?_;refine AW.cond rfl ?_ ?_
  ·intro h8;refine sL<|ar Z<|Y<|aR<|rB<|rT<|rT<|rB<|rT ?_;have hc:kS d.cells.length d.bu[i]=false:=by
    unfold kS;try unfold aI
    rw[Bool.eq_iff_iff];simp only[ap,decide_eq_true_eq,decide_eq_false_iff_not,Bool.and_eq_true,Bool.and_eq_false_iff,Bool.or_eq_true,Bool.not_eq_true,Bool.not_eq_false,Bool.not_eq_true',Bool.not_eq_false',Bool.false_eq_true,aI,iff_false,iff_true,ge_iff_le,gt_iff_lt,ne_eq,bne_iff_ne]at *;omega
   rw[C6 (zD hi hc)];trivial
  intro h8;refine aK<|gB<|gT<|aL<|bg Z<|ae Z<|Y ?_;have hc:kS d.cells.length d.bu[i]=true:=by
   unfold kS;try unfold aI
   rw[Bool.eq_iff_iff];simp only[ap,decide_eq_true_eq,decide_eq_false_iff_not,Bool.and_eq_true,Bool.and_eq_false_iff,Bool.or_eq_true,Bool.not_eq_true,Bool.not_eq_false,Bool.not_eq_true',Bool.not_eq_false',Bool.false_eq_true,aI,iff_false,iff_true,ge_iff_le,gt_iff_lt,ne_eq,bne_iff_ne]at *;omega
  refine⟨(i+1),⟨hi,Bb hi hJ.2 hc⟩,by omega,⟨(iq rfl),trivial⟩,trivial,rfl,rfl⟩
 intro h6;refine aE<|eT<|eT<|eB<|gA<|cI Z<|Y<|aR ?_;have Jj:i=d.bu.length:=by have h:=h6;have h2:=hJ.1;simp only[decide_eq_false_iff_not]at h;omega
 have hB:d.bu.all (kS d.cells.length)=true:=by have h:=hJ.2;rwa [Jj,List.take_length]at h
 rw[PB gR hA hB];trivial
theorem FU(d:du):GC prog 87 [mt d] [] (aD (ik d)) []:=by
 refine gi 2 func87 rfl ntmps87 rfl ?_;intro L O w0;refine sL<|ab (zX 2001 Z) Z<|ar Z<|Y<|aS<|sL<|lf 0 n9 Z<|bo oB Z<|ba po Z ?_;refine dC 9 (int (d.cells.length:Int)) (congrArg (fun n:Nat=>int (n:Int)) (fU _)) ?_;refine ak Z<|aQ Z ?_;refine AL.bool (t:=11) rfl ?_ ?_
 ·intro V;refine aa Z<|aa Z<|aa Z<|aa Z<|aU Z<|bM Z<|aa Z<|aa Z<|aa Z<|aa Z<|aU Z<|Y<|aY Z<|sL<|ar Z<|Y<|aR<|rT ?_;have hF:ik d=false:=C5 (by
   simp[aI]at *;omega)
  rw[hF];trivial
 intro V;refine lf 0 n9 Z<|bo oB Z<|ba po Z ?_;refine dC 14 (int (d.cells.length:Int)) (congrArg (fun n:Nat=>int (n:Int)) (fU _)) ?_;refine ak Z<|bj Z<|aQ Z ?_;refine AL.bool (t:=17) rfl ?_ ?_
 ·intro h2;refine aa Z<|aa Z<|aa Z<|aa Z<|aU Z<|Y<|aY Z<|sL<|ar Z<|Y<|aR<|rT ?_;have hF:ik d=false:=C5 (by
   simp[aI]at *;omega)
  rw[hF];trivial
 intro h2;refine lf 1 ru Z<|bo sk Z<|ba vT Z ?_;refine dC 20 (int (d.bu.length:Int)) (congrArg (fun n:Nat=>int (n:Int)) (pH _)) ?_;refine ak Z<|bj Z<|Y ?_;refine AW.cond rfl ?_ ?_
 ·intro h3;refine sL<|ar Z<|Y<|aR<|rT ?_;have hF:ik d=false:=C5 (by
   simp[aI]at *;omega)
  rw[hF];trivial
 intro h3;refine aK<|gT<|aS<|aS ?_;have gR:1<=d.cells.length/\d.cells.length<=600/\d.bu.length<=600:=by
  simp[aI]at *;omega
 refine aL<|lf 0 n9 Z<|bo oB Z<|ba po Z ?_;refine dC 25 (int (d.cells.length:Int)) (congrArg (fun n:Nat=>int (n:Int)) (fU _)) ?_;refine ae Z<|Y<|aB ?_;refine aW [1,2,24,25] [2001] (D:=Nat) (fun a=>[(26,int (a:Int))]) (fun a=>[]) (fun a=>a<=d.cells.length/\(d.cells.take a).all lL=true) (fun a=>d.cells.length-a) (0) (⟨Nat.zero_le _,rfl⟩) ⟨rfl,trivial⟩ trivial ?_;intro j hI;replace hI:j<=d.cells.length/\(d.cells.take j).all lL=true:=hI;refine sL<|ak Z<|lT [1,2,24,25,26,27] [2001] ?_;refine Y<|aS ?_;refine AW.cond rfl ?_ ?_
 ·intro h4;refine aK<|gT<|aS<|aB<|aS ?_;have hj:j<d.cells.length:=by have h:=h4;simp only[decide_eq_true_eq]at h;omega
  refine aL<|li j xE Z (vw hj)<|d6 (.agg [vL _ _ _]) zn Z<|ab (zA 2004 CB Z) Z<|ab (zB 2004 E2 E3 Z) Z<|nA<|lf 0 uB Z<|bo kb Z<|ba kE Z<|ak Z<|aQ Z ?_;refine AL.bool (t:=34) rfl ?_ ?_
  ·intro h5;refine lf 0 uB Z<|bo kb Z<|ba kE Z<|ak Z<|bj Z<|Y ?_;refine AW.cond rfl ?_ ?_
   ·intro h6;refine sL<|ar Z<|Y<|aR<|rB<|rT<|rT<|rB<|rT ?_;have hc:lL d.cells[j]=false:=by
     unfold lL;try unfold aI
     rw[Bool.eq_iff_iff];simp only[ap,decide_eq_true_eq,decide_eq_false_iff_not,Bool.and_eq_true,Bool.and_eq_false_iff,Bool.or_eq_true,Bool.not_eq_true,Bool.not_eq_false,Bool.not_eq_true',Bool.not_eq_false',Bool.false_eq_true,aI,iff_false,iff_true,ge_iff_le,gt_iff_lt,ne_eq,bne_iff_ne]at *;omega
    rw[PA (zD hj hc)];trivial
   intro h6;refine aK<|gB<|gT<|aL<|bg Z<|ae Z<|Y ?_;have hc:lL d.cells[j]=true:=by
    unfold lL;try unfold aI
    rw[Bool.eq_iff_iff];simp only[ap,decide_eq_true_eq,decide_eq_false_iff_not,Bool.and_eq_true,Bool.and_eq_false_iff,Bool.or_eq_true,Bool.not_eq_true,Bool.not_eq_false,Bool.not_eq_true',Bool.not_eq_false',Bool.false_eq_true,aI,iff_false,iff_true,ge_iff_le,gt_iff_lt,ne_eq,bne_iff_ne]at *;omega
   refine⟨(j+1),⟨hj,Bb hj hI.2 hc⟩,by omega,⟨(iq rfl),trivial⟩,trivial,rfl,rfl⟩
  intro h5;refine aa Z<|aa Z<|aa Z<|aa Z<|bL Z<|Y<|aN Z<|aK<|gB<|gT<|aL<|bg Z<|ae Z<|Y ?_;have hc:lL d.cells[j]=true:=by
   unfold lL;try unfold aI
   rw[Bool.eq_iff_iff];simp only[ap,decide_eq_true_eq,decide_eq_false_iff_not,Bool.and_eq_true,Bool.and_eq_false_iff,Bool.or_eq_true,Bool.not_eq_true,Bool.not_eq_false,Bool.not_eq_true',Bool.not_eq_false',Bool.false_eq_true,aI,iff_false,iff_true,ge_iff_le,gt_iff_lt,ne_eq,bne_iff_ne]at *;omega
  refine⟨(j+1),⟨hj,Bb hj hI.2 hc⟩,by omega,⟨(iq rfl),trivial⟩,trivial,rfl,rfl⟩
 intro h4;refine aE<|eT<|eT<|eB<|gT<|aS<|aS ?_;have Ji:j=d.cells.length:=by have h:=h4;have h2:=hI.1;simp only[decide_eq_false_iff_not]at h;omega
 have hA:d.cells.all lL=true:=by have h:=hI.2;rwa [Ji,List.take_length]at h
 clear hI;refine aL<|lf 1 ru Z<|bo sk Z<|ba vT Z ?_;refine dC 43 (int (d.bu.length:Int)) (congrArg (fun n:Nat=>int (n:Int)) (pH _)) ?_;refine ae Z<|Y<|aB ?_;refine aW [1,2,42,43] [2001] (D:=Nat) (fun a=>[(44,int (a:Int))]) (fun a=>[]) (fun a=>a<=d.bu.length/\(d.bu.take a).all (kS d.cells.length)=true) (fun a=>d.bu.length-a) (0) (⟨Nat.zero_le _,rfl⟩) ⟨rfl,trivial⟩ trivial ?_;intro i hI;have hJ:i<=d.bu.length/\(d.bu.take i).all (kS d.cells.length)=true:=hI;refine sL<|ak Z<|Y<|aS ?_;refine AW.cond rfl ?_ ?_
 ·intro h7;refine aK<|gT<|aS<|aB<|aS ?_;have hi:i<d.bu.length:=by have h:=h7;simp only[decide_eq_true_eq]at h;omega
  refine aL<|li i uz Z (td hi)<|d6 (.agg [U _ _,vL _ _ _]) AY Z<|ab (zA 2006 CA Z) Z<|lT [1,2,6,42,43,44,47] [2001,2006] ?_;refine ab (zB 2006 E0 E1 Z) Z<|nA<|lf 0 xG Z<|aj ac Z<|ak Z<|aQ Z ?_;refine AL.bool (t:=51) rfl ?_ ?_
  ·intro h8;refine aa Z<|aa Z<|aa Z<|aa Z<|aa Z<|aa Z<|aU Z<|bM Z<|aa Z<|aa Z<|aa Z<|aa Z<|aU Z<|Y<|aY Z<|sL<|ar Z<|Y<|aR<|rB<|rT<|rT<|rB<|rT ?_;have hc:kS d.cells.length d.bu[i]=false:=by
    unfold kS;try unfold aI
    rw[Bool.eq_iff_iff];simp only[ap,decide_eq_true_eq,decide_eq_false_iff_not,Bool.and_eq_true,Bool.and_eq_false_iff,Bool.or_eq_true,Bool.not_eq_true,Bool.not_eq_false,Bool.not_eq_true',Bool.not_eq_false',Bool.false_eq_true,aI,iff_false,iff_true,ge_iff_le,gt_iff_lt,ne_eq,bne_iff_ne]at *;omega
   rw[C6 (zD hi hc)];trivial
  intro h8;refine lf 0 xG Z<|aj ac Z<|lf 0 n9 Z<|bo oB Z<|ba po Z ?_;refine dC 56 (int (d.cells.length:Int)) (congrArg (fun n:Nat=>int (n:Int)) (fU _)) ?_;refine ak Z<|bj Z<|aQ Z ?_;refine AL.bool (t:=59) rfl ?_ ?_
  ·intro h9;refine aa Z<|aa Z<|aa Z<|aa Z<|aU Z<|Y<|aY Z<|sL<|ar Z<|Y<|aR<|rB<|rT<|rT<|rB<|rT ?_;have hc:kS d.cells.length d.bu[i]=false:=by
    unfold kS;try unfold aI
    rw[Bool.eq_iff_iff];simp only[ap,decide_eq_true_eq,decide_eq_false_iff_not,Bool.and_eq_true,Bool.and_eq_false_iff,Bool.or_eq_true,Bool.not_eq_true,Bool.not_eq_false,Bool.not_eq_true',Bool.not_eq_false',Bool.false_eq_true,aI,iff_false,iff_true,ge_iff_le,gt_iff_lt,ne_eq,bne_iff_ne]at *;omega
   rw[C6 (zD hi hc)];trivial
  intro h9;refine lf 1 zm Z<|bo kb Z<|ba kE Z<|ak Z<|bj Z<|Y ?_;refine AW.cond rfl ?_ ?_
  ·intro dh;refine sL<|ar Z<|Y<|aR<|rB<|rT<|rT<|rB<|rT ?_;have hc:kS d.cells.length d.bu[i]=false:=by
    unfold kS;try unfold aI
    rw[Bool.eq_iff_iff];simp only[ap,decide_eq_true_eq,decide_eq_false_iff_not,Bool.and_eq_true,Bool.and_eq_false_iff,Bool.or_eq_true,Bool.not_eq_true,Bool.not_eq_false,Bool.not_eq_true',Bool.not_eq_false',Bool.false_eq_true,aI,iff_false,iff_true,ge_iff_le,gt_iff_lt,ne_eq,bne_iff_ne]at *;omega
   rw[C6 (zD hi hc)];trivial
  intro dh;refine aK<|gB<|gT<|aL<|bg Z<|ae Z<|Y ?_;have hc:kS d.cells.length d.bu[i]=true:=by
   unfold kS;try unfold aI
   rw[Bool.eq_iff_iff];simp only[ap,decide_eq_true_eq,decide_eq_false_iff_not,Bool.and_eq_true,Bool.and_eq_false_iff,Bool.or_eq_true,Bool.not_eq_true,Bool.not_eq_false,Bool.not_eq_true',Bool.not_eq_false',Bool.false_eq_true,aI,iff_false,iff_true,ge_iff_le,gt_iff_lt,ne_eq,bne_iff_ne]at *;omega
  refine⟨(i+1),⟨hi,Bb hi hJ.2 hc⟩,by omega,⟨(iq rfl),trivial⟩,trivial,rfl,rfl⟩
 intro h7;refine aE<|eT<|eT<|eB<|gA<|cI Z<|Y<|aR ?_;have Jj:i=d.bu.length:=by have h:=h7;have h2:=hJ.1;simp only[decide_eq_false_iff_not]at h;omega
 have hB:d.bu.all (kS d.cells.length)=true:=by have h:=hJ.2;rwa [Jj,List.take_length]at h
 rw[PB gR hA hB];trivial
theorem wL{d:du}(h:ik d=true):(1<=d.cells.length/\d.cells.length<=600/\d.bu.length<=600)/\d.cells.all lL=true/\d.bu.all (kS d.cells.length)=true:=by
 unfold ik aI at h;grind
theorem Jk{d:du}(h:ik d=true){j:Nat}(hj:j<d.bu.length):d.bu[j].bytes.length=128:=by
 have:=List.all_eq_true.1 (wL h).2.2 _ (List.getElem_mem hj);simp_all[kS]
theorem PC{d:du}(h:ik d=true){j:Nat}(hj:j<d.cells.length):d.cells[j].bytes.length<=128:=by
 have:=List.all_eq_true.1 (wL h).2.1 _ (List.getElem_mem hj);unfold lL at this;grind
theorem PD{i:Int}{b:List Int}:∀(ws:List gq) (j:Nat),kD (ws.drop j) i=some b->kD ws i=some b
 |_,0,h=>h
 |[],_+1,h=>h
 |w::r,j+1,h=>by
  have:=PD r j h;show (match kD r i with|some b=>some b|none=>_)=some b;rw[this]
theorem PE{ws:List gq}{i:Int}{j:Nat}(hj:j<ws.length)(h:kD (ws.drop (j+1)) i=none)(he:ws[j].at_=i):kD ws i=some ws[j].bytes:=PD ws j (by
 rw[List.drop_eq_getElem_cons hj];simp_all[kD])
theorem PF{ws:List gq}{i:Int}{j:Nat}(hj:j<ws.length)(h:kD (ws.drop (j+1)) i=none)(he:ws[j].at_≠i):kD (ws.drop j) i=none:=by
 rw[List.drop_eq_getElem_cons hj];simp_all[kD]
theorem Fx{d:du}{i:Nat}{b:List Int}(h:kD d.bu i=some b):io d i=b:=by grind[io]
theorem Fy{d:du}{i:Nat}(hi:i<d.cells.length)(h:kD d.bu i=none):io d i=yP d.cells[i].bytes:=by grind[io]
theorem Zz(d:du)(i:Nat)(hd:ik d=true)(hi:i<d.cells.length):GC prog 248 [mt d,int (i:Int)] [] (.own 1) [(1,iT (io d i))]:=by
 refine gi 4 func248 rfl ntmps248 rfl ?_;intro L O w0;refine sL<|ab (zX 2002 Z) Z<|e9 Z<|Y<|aS<|aS ?_;have gR:=(wL hd).1;refine aL<|lf 1 ru Z<|bo sk Z<|ba vT Z ?_;refine dC 8 (int (d.bu.length:Int)) (congrArg (fun n:Nat=>int (n:Int)) (pH _)) ?_;refine bg Z<|ao Z<|Y<|aB ?_;refine aW [1,2,4] [2002] (D:=Nat) (fun a=>[(5,int ((d.bu.length:Int)-1-(a:Int)))]) (fun a=>[]) (fun a=>a<=d.bu.length/\kD (d.bu.drop (d.bu.length-a)) i=none) (fun a=>d.bu.length-a) (0) (⟨Nat.zero_le _,by rw[Nat.sub_zero,List.drop_length];rfl⟩) ⟨(iq rfl),trivial⟩ trivial ?_;intro k hI;replace hI:k<=d.bu.length/\kD (d.bu.drop (d.bu.length-k)) i=none:=hI;refine aS<|sL<|ae Z<|ak Z<|Y ?_;refine AW.cond rfl ?_ ?_
 ·intro V;refine aK<|gT<|aS<|aB<|aS ?_;have hk:k<d.bu.length:=by have h:=V;simp only[ge_iff_le,decide_eq_true_eq]at h;omega
  have hj:(d.bu.length-1-k)<d.bu.length:=by omega
  have hJ:d.bu.length-(k+1)=(d.bu.length-1-k):=by omega
  have hK:kD (d.bu.drop ((d.bu.length-1-k)+1)) i=none:=by have h:=hI.2;rwa [show d.bu.length-k=(d.bu.length-1-k)+1 by omega]at h
  refine aL<|lf 1 ru Z<|bo sk Z<|ae Z<|jK 16 ((d.bu.length-1-k:Nat):Int) rfl (by omega)<|li ((d.bu.length-1-k)) uz rfl (td hj)<|lq (rd (x:=.rp _) (nM xG rfl) rfl)<|oy ac Z<|ae Z<|ak Z<|Y ?_;refine AW.cond rfl ?_ ?_
  ·intro h2;refine sL<|lf 1 ru Z<|bo sk Z<|ae Z<|jK 24 ((d.bu.length-1-k:Nat):Int) rfl (by omega)<|li ((d.bu.length-1-k)) uz rfl (td hj)<|lq (rd (x:=.rp _) (nM zm rfl) rfl)<|DO kb Z<|ab (zC [(1,1)] [1] [] func229 (He d.bu[(d.bu.length-1-k)].bytes (by rw[Jk hd hj];decide)) (trivial) rfl rfl) Z<|lT [1,2,4,5,28] [1,2002] ?_;refine bD Z<|Y<|aR<|rB<|rT<|rT<|rB<|rT ?_;rw[Fx (PE hj hK (by have h:=h2;simpa using h))];trivial
  intro h2;refine aK<|gB<|gT<|aL<|ae Z<|bg Z<|ao Z<|Y ?_;refine⟨(k+1),⟨by omega,by grind[PF]⟩,by omega,⟨(iq rfl),trivial⟩,trivial,rfl,rfl⟩
 intro V;refine aE<|eT<|eT<|eB<|gT<|aS ?_;have dZ:k=d.bu.length:=by have h:=V;have h2:=hI.1;simp only[ge_iff_le,decide_eq_false_iff_not]at h;omega
 have hN:kD d.bu i=none:=by have h:=hI.2;rwa [dZ,Nat.sub_self,List.drop_zero]at h
 refine aL<|lf 0 n9 Z<|bo oB Z<|ae Z<|li i xE rfl (vw hi)<|d6 (.agg [vL _ _ _]) zn Z<|ab (zC [(1,1)] [1] [] func157 (Zx d.cells[i].bytes (Nat.le_trans (PC hd hi) (by decide))) (trivial) rfl rfl) Z<|bD Z<|Y<|aR ?_;rw[Fy hi hN];trivial
theorem Sq(d:du)(i:Nat)(hd:ik d=true)(hi:i<d.cells.length):GC prog 248 [mt d,int (i:Int)] [] (gV (io d i)) []:=(Zz d i hd hi).ui
theorem ZA(d:du)(i:Nat)(hd:ik d=true)(hi:i<d.cells.length):GC prog 177 [mt d,int (i:Int)] [] (.au [.own 1,aD true]) [(1,iT (io d i))]:=by
 refine GC.intro (rs:=[.tmp 4,.tmp 5]) func177 rfl ntmps177 (Nat.le_of_ble_eq_true rfl) ⟨rfl,rfl,trivial⟩ ?_;intro L O w0;refine sL<|ab (zX 2002 rfl) Z<|e9 Z<|ar Z<|Y<|aS<|sL<|aP (.agg [vL _ _ _,vL _ _ _]) mE Z<|ab (zC [] [] [] func87 (FU d) (trivial) rfl rfl) Z<|bJ 8 true rfl (hd)<|ma Z<|dm Z<|ae Z<|ak Z<|bJ 12 false rfl (by simp)<|bL Z<|dm Z<|ae Z<|lf 0 n9 Z<|bo oB Z<|ba po rfl ?_;refine dC 18 (int (d.cells.length:Int)) (congrArg (fun n:Nat=>int (n:Int)) (fU _)) ?_;refine ak Z<|bJ 19 false rfl (by grind)<|bL Z<|Y<|aN Z<|aK<|gT<|aS<|aS ?_;have gR:=(wL hd).1;refine aL<|lf 1 ru Z<|bo sk Z<|ba vT Z ?_;refine dC 23 (int (d.bu.length:Int)) (congrArg (fun n:Nat=>int (n:Int)) (pH _)) ?_;refine bg Z<|ao Z<|Y<|aB ?_;refine aW [1,2,4,5] [2002] (D:=Nat) (fun a=>[(6,int ((d.bu.length:Int)-1-(a:Int)))]) (fun a=>[]) (fun a=>a<=d.bu.length/\kD (d.bu.drop (d.bu.length-a)) i=none) (fun a=>d.bu.length-a) (0) (⟨Nat.zero_le _,by rw[Nat.sub_zero,List.drop_length];rfl⟩) ⟨(iq rfl),trivial⟩ trivial ?_;intro k hI;replace hI:k<=d.bu.length/\kD (d.bu.drop (d.bu.length-k)) i=none:=hI;refine aS<|sL<|ae Z<|ak Z<|Y ?_;refine AW.cond rfl ?_ ?_
 ·intro V;refine aK<|gT<|aS<|aB<|aS ?_;have hk:k<d.bu.length:=by have h:=V;simp only[ge_iff_le,decide_eq_true_eq]at h;omega
  have hj:(d.bu.length-1-k)<d.bu.length:=by omega
  have hJ:d.bu.length-(k+1)=(d.bu.length-1-k):=by omega
  have hK:kD (d.bu.drop ((d.bu.length-1-k)+1)) i=none:=by have h:=hI.2;rwa [show d.bu.length-k=(d.bu.length-1-k)+1 by omega]at h
  refine aL<|lf 1 ru Z<|bo sk Z<|ae Z<|jK 31 ((d.bu.length-1-k:Nat):Int) rfl (by omega)<|li ((d.bu.length-1-k)) uz rfl (td hj)<|lq (rd (x:=.rp _) (nM xG rfl) rfl)<|oy ac Z<|lT [1,2,4,5,6,34] [2002] ?_;refine ae Z<|ak Z<|Y ?_;refine AW.cond rfl ?_ ?_
  ·intro h2;refine sL<|ab (zS 1 (ah dF []) fh ie rfl (by intro r hr;cases hr)) Z<|lf 1 ru Z<|bo sk Z<|ae Z<|jK 40 ((d.bu.length-1-k:Nat):Int) rfl (by omega)<|li ((d.bu.length-1-k)) uz rfl (td hj)<|lq (rd (x:=.rp _) (nM zm rfl) rfl)<|DO kb Z<|ab (zP 1 fh ie mu rfl (Src.p rfl) (by have:=Jk hd hj;simp[ah];omega)) Z<|bD Z<|cI Z<|Y<|aR<|rB<|rT<|rT<|rB<|rT ?_;rw[Fx (PE hj hK (by have h:=h2;simpa using h))];trivial
  intro h2;refine aK<|gB<|gT<|aL<|ae Z<|bg Z<|ao Z<|Y ?_;refine⟨(k+1),⟨by omega,by grind[PF]⟩,by omega,⟨(iq rfl),trivial⟩,trivial,rfl,rfl⟩
 intro V;refine aE<|eT<|eT<|eB<|gT<|aS ?_;have dZ:k=d.bu.length:=by have h:=V;have h2:=hI.1;simp only[ge_iff_le,decide_eq_false_iff_not]at h;omega
 have hN:kD d.bu i=none:=by have h:=hI.2;rwa [dZ,Nat.sub_self,List.drop_zero]at h
 refine aL<|lf 0 n9 Z<|bo oB Z<|ae Z<|li i xE rfl (vw hi)<|lq (rd (x:=.rp _) (nM uB rfl) rfl)<|DO kb Z<|ab (zC [(1,1)] [1] [] func154 (Zy d.cells[i].bytes (Nat.le_trans (PC hd hi) (by decide))) (trivial) rfl rfl) Z<|lT [4,5,51] [1,2002] ?_;refine bD Z<|cI Z<|Y<|aR ?_;rw[Fy hi hN];trivial
theorem ZB(d:du)(i:Nat)(hd:ik d=true)(hi:i<d.cells.length):GC prog 177 [mt d,int (i:Int)] [] (.au [gV (io d i),aD true]) []:=(ZA d i hd hi).Aq

def oO(l:List fb):List (List PV):=l.map fun s=>[.v (.int .i64 s.seq),.v (.int .i64 s.dP),nQ s.body]
abbrev qg(l:List fb):AO:=.ai 141 3 (oO l)
theorem sX(l:List fb):(oO l).length=l.length:=List.length_map _
theorem Gi(l:List fb)(s:fb):oO l++[[.v (.int .i64 s.seq),.v (.int .i64 s.dP),nQ s.body]]=oO (l++[s]):=by grind[oO]
def yu(l:List fb):Int:=match l.getLast? with|some s=>s.dP|none=>0
theorem ZC(l:List fb)(s:fb):yu (l++[s])=s.dP:=by grind[yu]
theorem sW{acc:List fb}{b:List Int}:pA acc b=true↔g8 b=true/\(gu b).seq=(acc.length:Int)/\yu acc<=(gu b).dP:=by
 unfold pA yu;cases h:acc.getLast? with
 |some s=>grind
 |none=>
  simp only[Bool.and_true,Bool.and_eq_true,beq_iff_eq];grind[qW,oN]
theorem Jl(d:du):(oh d).length=d.cells.length:=by grind[oh]
theorem PG{d:du}{i:Nat}(h:i<d.cells.length):(oh d).drop i=io d i::(oh d).drop (i+1):=by
 grind[List.drop_eq_getElem_cons,oh]
theorem K4{d:du}{acc:List fb}(h:acc.length<d.cells.length)(hg:pA acc (io d acc.length)=true):og ((oh d).drop acc.length) acc=og ((oh d).drop (acc++[gu (io d acc.length)]).length) (acc++[gu (io d acc.length)]):=by
 simp_all[PG,og]
theorem BR{d:du}{acc:List fb}(h:acc.length<d.cells.length)(hg:pA acc (io d acc.length)=false):og ((oh d).drop acc.length) acc=acc:=by
 simp_all[PG,og]
theorem BS{d:du}{acc:List fb}(h:acc.length=d.cells.length):og ((oh d).drop acc.length) acc=acc:=by
 rw[List.drop_of_length_le (by rw[Jl];omega)];rfl
theorem DP{d:du}(h:ik d=true):dH d=og (oh d) []:=if_pos h
theorem DQ{d:du}(h:ik d=false):dH d=[]:=if_neg (by simp[h])
def qK(d:du):Prop:=(∀c∈d.cells,fA c.bytes)/\∀w∈d.bu,fA w.bytes
theorem Jm{i:Int}{b:List Int}:∀ {ws:List gq},kD ws i=some b->∃w∈ws,w.bytes=b
 |[],h=>by cases h
 |w::r,h=>by
  rw[kD]at h;cases q:kD r i with
  |some b'=>
   rw[q]at h;injection h with h;subst h;obtain⟨w',V,h2⟩:=Jm q;exact⟨w',List.mem_cons_of_mem _ V,h2⟩
  |none=>
   rw[q]at h;dsimp only at h;split at h
   ·injection h with h;exact⟨w,List.mem_cons_self,h⟩
   cases h
theorem Gj{d:du}(hb:qK d){i:Nat}(hi:i<d.cells.length):fA (io d i):=by
 cases q:kD d.bu i with
 |some b=>rw[Fx q];obtain⟨w,V,h2⟩:=Jm q;rw[<-h2];exact hb.2 w V
 |none=>
  rw[Fy hi q];unfold yP;split
  ·exact .zero _
  exact hb.1 _ (List.getElem_mem hi)
theorem K3{d:du}(h:ik d=true){i:Nat}(hi:i<d.cells.length):(io d i).length=128:=by
 cases q:kD d.bu i with
 |some b=>
  rw[Fx q];obtain⟨w,V,h2⟩:=Jm q;obtain⟨j,hj,rfl⟩:=List.getElem_of_mem V;grind[Jk]
 |none=>
  rw[Fy hi q];have:=List.all_eq_true.1 (wL h).2.1 _ (List.getElem_mem hi);unfold lL at this;simp only[Bool.or_eq_true,decide_eq_true_eq]at this;grind[Jg,Jh]
theorem ZD(d:du)(hb:qK d):GC prog 88 [mt d] [] (.au [.own 1,int ((dH d).length:Int)]) [(1,qg (dH d))]:=by
 refine GC.intro (rs:=[.tmp 2,.tmp 3]) func88 rfl ntmps88 (Nat.le_of_ble_eq_true rfl) ⟨rfl,rfl,trivial⟩ ?_;intro L O w0;refine sL<|ab (zX 2001 rfl) Z<|e9 Z<|ao Z<|nA<|ab (zS 1 (oO []) tY pB rfl (by trivial)) Z<|bD Z<|Y<|aS<|sL<|aP (.agg [vL _ _ _,vL _ _ _]) mE Z<|ab (zC [] [] [] func87 (FU d) (trivial) rfl rfl) Z<|bX Z<|Y ?_;refine AW.cond rfl ?_ ?_
 ·intro V;refine sL<|bW Z<|bD Z<|ao Z<|Y<|aR<|rT ?_;have hd:ik d=false:=by simpa using V
  rw[DQ hd];trivial
 intro V;refine aK<|gT<|aS ?_;have hd:ik d=true:=by simpa using V
 have gR:=(wL hd).1;refine aL<|ao Z<|Y<|aS<|sL<|ao Z<|Y<|aB ?_;refine aW [1,2,3] [2001] (D:=List fb) (fun l=>[(6,int (l.length:Int)),(5,int (yu l)),(4,.own 1)]) (fun l=>[(1,qg l)]) (fun l=>l.length<=d.cells.length/\og ((oh d).drop l.length) l=dH d) (fun l=>d.cells.length-l.length) ([]) (⟨Nat.zero_le _,(DP hd).symm⟩) ⟨rfl,rfl,rfl,trivial⟩ ⟨rfl,trivial⟩ ?_;intro acc hI;replace hI:acc.length<=d.cells.length/\og ((oh d).drop acc.length) acc=dH d:=hI;refine aS<|sL<|ae Z<|lf 0 n9 Z<|bo oB Z<|ba po Z ?_;refine dC 19 (int (d.cells.length:Int)) (congrArg (fun n:Nat=>int (n:Int)) (fU _)) ?_;refine ak Z<|Y ?_;refine AW.cond rfl ?_ ?_
 ·intro h2;refine aK<|gT<|aS<|aB<|aS ?_;have hj:acc.length<d.cells.length:=by have h:=h2;simp only[decide_eq_true_eq]at h;omega
  refine aL<|aP (.agg [vL _ _ _,vL _ _ _]) mE Z<|ae Z<|ab (zC [] [] [] func177 (ZB d acc.length hd hj) (trivial) Z Z) Z<|lT [1,2,3,4,5,6,26] [1,2001] ?_;refine cT (.au [vL _ _ _,vB true]) Z<|rF Z<|iB (vB true) Z<|nv Z<|cI Z<|nA<|bm Z<|ab (zC [] [] [] func178 (Zw (io d acc.length) (Gj hb hj) (by grind[K3])) (trivial) rfl rfl) Z<|cT (.au [.agg [U _ _,U _ _,vL _ _ _],vB _]) Z<|iB (.agg [U _ _,U _ _,vL _ _ _]) Z<|eU Z<|ab (zA 2009 pB rfl) Z<|ab (zB 2009 mL mM rfl) Z<|bv Z<|Y<|aS<|sL<|aQ Z<|bX Z<|aQ rfl ?_;refine AL.bool (t:=36) rfl ?_ ?_
  ·intro h3;refine aa Z<|aa Z<|aa Z<|aa Z<|aU Z<|bM Z<|aa Z<|aa Z<|aa Z<|aa Z<|aU Z<|Y<|aY Z<|aE<|eT<|eO<|eT<|eT<|eB<|gT<|aS ?_;have hE:acc=dH d:=by first|(rw[<-hI.2];exact(BS (by have h:=h3;simp only[decide_eq_false_iff_not]at h;omega)).symm)|(rw[<-hI.2];refine(BR hj (Bool.eq_false_iff.2 fun q=>?_)).symm;obtain⟨q1,q2,q3⟩:=sW.1 q;first|(have h:=V;rw[dv q1]at h;simp only[decide_eq_true_eq]at h;omega)|(have h:=V;rw[q1]at h;exact absurd h (by decide))|(have h:=V;rw[dv q1]at h;simp[q2]at h;done)|(have h:=h2;rw[dv q1]at h;simp only[decide_eq_true_eq]at h;omega)|(have h:=h2;rw[q1]at h;exact absurd h (by decide))|(have h:=h2;rw[dv q1]at h;simp[q2]at h;done)|(have h:=h3;rw[dv q1]at h;simp only[decide_eq_true_eq]at h;omega)|(have h:=h3;rw[q1]at h;exact absurd h (by decide))|(have h:=h3;rw[dv q1]at h;simp[q2]at h;done))
   refine aL<|bW Z<|bW Z<|ba yw Z ?_;refine dC 56 (int ((dH d).length:Int)) (Eq.trans (b:=int ((oO acc).length:Int)) rfl (congrArg (fun n:Nat=>int (n:Int)) (by rw[sX,hE]))) ?_;refine bD Z<|ao Z<|Y<|aR ?_;rw[hE];trivial
  intro h3;refine lf 0 tX Z<|aj ac Z<|ae Z<|ak Z<|bj Z<|aQ Z<|lT [1,2,3,4,5,6,9,42] [1,2001,2009] ?_;refine AL.bool (t:=42) rfl ?_ ?_
  ·intro h4;refine aa Z<|aa Z<|aa Z<|aa Z<|aU Z<|Y<|aY Z<|aE<|eT<|eO<|eT<|eT<|eB<|gT<|aS ?_;have hE:acc=dH d:=by first|(rw[<-hI.2];exact(BS (by have h:=h4;simp only[decide_eq_false_iff_not]at h;omega)).symm)|(rw[<-hI.2];refine(BR hj (Bool.eq_false_iff.2 fun q=>?_)).symm;obtain⟨q1,q2,q3⟩:=sW.1 q;first|(have h:=V;rw[dv q1]at h;simp only[decide_eq_true_eq]at h;omega)|(have h:=V;rw[q1]at h;exact absurd h (by decide))|(have h:=V;rw[dv q1]at h;simp[q2]at h;done)|(have h:=h2;rw[dv q1]at h;simp only[decide_eq_true_eq]at h;omega)|(have h:=h2;rw[q1]at h;exact absurd h (by decide))|(have h:=h2;rw[dv q1]at h;simp[q2]at h;done)|(have h:=h3;rw[dv q1]at h;simp only[decide_eq_true_eq]at h;omega)|(have h:=h3;rw[q1]at h;exact absurd h (by decide))|(have h:=h3;rw[dv q1]at h;simp[q2]at h;done)|(have h:=h4;rw[dv q1]at h;simp only[decide_eq_true_eq]at h;omega)|(have h:=h4;rw[q1]at h;exact absurd h (by decide))|(have h:=h4;rw[dv q1]at h;simp[q2]at h;done))
   refine aL<|bW Z<|bW Z<|ba yw Z ?_;refine dC 56 (int ((dH d).length:Int)) (Eq.trans (b:=int ((oO acc).length:Int)) rfl (congrArg (fun n:Nat=>int (n:Int)) (by rw[sX,hE]))) ?_;refine bD Z<|ao Z<|Y<|aR ?_;rw[hE];trivial
  intro h4;refine lf 1 rQ Z<|aj ac Z<|ae Z<|ak Z<|bj Z<|Y ?_;refine AW.cond rfl ?_ ?_
  ·intro h5;refine aE<|eT<|eO<|eT<|eT<|eB<|gT<|aS ?_;have hE:acc=dH d:=by first|(rw[<-hI.2];exact(BS (by have h:=h5;simp only[decide_eq_false_iff_not]at h;omega)).symm)|(rw[<-hI.2];refine(BR hj (Bool.eq_false_iff.2 fun q=>?_)).symm;obtain⟨q1,q2,q3⟩:=sW.1 q;first|(have h:=V;rw[dv q1]at h;simp only[decide_eq_true_eq]at h;omega)|(have h:=V;rw[q1]at h;exact absurd h (by decide))|(have h:=V;rw[dv q1]at h;simp[q2]at h;done)|(have h:=h2;rw[dv q1]at h;simp only[decide_eq_true_eq]at h;omega)|(have h:=h2;rw[q1]at h;exact absurd h (by decide))|(have h:=h2;rw[dv q1]at h;simp[q2]at h;done)|(have h:=h3;rw[dv q1]at h;simp only[decide_eq_true_eq]at h;omega)|(have h:=h3;rw[q1]at h;exact absurd h (by decide))|(have h:=h3;rw[dv q1]at h;simp[q2]at h;done)|(have h:=h4;rw[dv q1]at h;simp only[decide_eq_true_eq]at h;omega)|(have h:=h4;rw[q1]at h;exact absurd h (by decide))|(have h:=h4;rw[dv q1]at h;simp[q2]at h;done)|(have h:=h5;rw[dv q1]at h;simp only[decide_eq_true_eq]at h;omega)|(have h:=h5;rw[q1]at h;exact absurd h (by decide))|(have h:=h5;rw[dv q1]at h;simp[q2]at h;done))
   refine aL<|bW Z<|bW Z<|ba yw Z ?_;refine dC 56 (int ((dH d).length:Int)) (Eq.trans (b:=int ((oO acc).length:Int)) rfl (congrArg (fun n:Nat=>int (n:Int)) (by rw[sX,hE]))) ?_;refine bD Z<|ao Z<|Y<|aR ?_;rw[hE];trivial
  intro h5;refine aK<|gT<|aS ?_;have hF:g8 (io d acc.length)=true:=by first|grind|grind|grind|(simpa using h4)|(simpa using h5)
  have hg:pA acc (io d acc.length)=true:=sW.2 ⟨hF,by grind[dv],by grind[dv]⟩;refine aL<|lf 1 rQ Z<|aj ac Z<|ao Z<|Y<|aL<|bW Z<|aP (.agg [U _ _,U _ _,vL _ _ _]) nP Z<|ab (zS 2052 [[.v (.int .i64 (kP (io d acc.length)).seq),.v (.int .i64 (kP (io d acc.length)).dP),nQ (kP (io d acc.length)).body]] tY pB rfl (by simp)) Z<|lT [1,2,3,4,5,6,50,52] [1,2001,2009,2052] ?_;refine ab (zP 1 tY pB Gh rfl (Src.own rfl rfl) (by grind[sX])) Z<|bD Z<|lN<|gB<|gT<|aL<|ae Z<|bg Z<|ao Z<|Y ?_;refine⟨(acc++[gu (io d acc.length)]),⟨by grind,by grind[K4]⟩,by grind,⟨(Eq.trans (b:=int _) rfl (congrArg int (by simp))),(Eq.trans (b:=int (kP (io d acc.length)).dP) rfl (congrArg int (by rw[ZC,dv hF]))),rfl,trivial⟩,⟨(Eq.trans (b:=AO.ai 141 3 (oO acc++[[.v (.int .i64 (kP (io d acc.length)).seq),.v (.int .i64 (kP (io d acc.length)).dP),nQ (kP (io d acc.length)).body]])) rfl (by rw[dv hF,Gi])),trivial⟩,rfl,rfl⟩
 intro h2;refine aE<|eT<|eT<|eB<|gT<|aS ?_;have hE:acc=dH d:=by first|(rw[<-hI.2];exact(BS (by have h:=h2;simp only[decide_eq_false_iff_not]at h;omega)).symm)|(rw[<-hI.2];refine(BR hj (Bool.eq_false_iff.2 fun q=>?_)).symm;obtain⟨q1,q2,q3⟩:=sW.1 q;first|(have h:=V;rw[dv q1]at h;simp only[decide_eq_true_eq]at h;omega)|(have h:=V;rw[q1]at h;exact absurd h (by decide))|(have h:=V;rw[dv q1]at h;simp[q2]at h;done)|(have h:=h2;rw[dv q1]at h;simp only[decide_eq_true_eq]at h;omega)|(have h:=h2;rw[q1]at h;exact absurd h (by decide))|(have h:=h2;rw[dv q1]at h;simp[q2]at h;done))
 refine aL<|bW Z<|bW Z<|ba yw Z ?_;refine dC 56 (int ((dH d).length:Int)) (Eq.trans (b:=int ((oO acc).length:Int)) rfl (congrArg (fun n:Nat=>int (n:Int)) (by rw[sX,hE]))) ?_;refine bD Z<|ao Z<|Y<|aR ?_;rw[hE];trivial
theorem Kc(d:du)(hb:qK d):GC prog 88 [mt d] [] (.au [.p (.ab 141 3 (oO (dH d))),int ((dH d).length:Int)]) []:=(ZD d hb).Aq
theorem PH{s:fb}:∀ {bs:List (List Int)} {acc:List fb},s∈og bs acc->s∈acc\/∃b∈bs,g8 b=true/\s=gu b
 |[],acc,h=>.inl h
 |b::r,acc,h=>by
  rw[og]at h;split at h
  ·rename_i hg;rcases PH h with q|⟨b',q1,q2⟩
   ·rcases List.mem_append.1 q with q|q
    ·exact .inl q
    exact .inr ⟨b,List.mem_cons_self,(sW.1 hg).1,List.mem_singleton.1 q⟩
   exact .inr ⟨b',List.mem_cons_of_mem _ q1,q2⟩
  exact .inl h
theorem K5{d:du}(hb:qK d){s:fb}(h:s∈dH d):fA s.body/\s.body.length<=100:=by
 cases hd:ik d
 ·grind[DQ]
 rw[DP hd]at h;rcases PH h with q|⟨b,q1,q2,rfl⟩
 ·cases q
 unfold oh at q1;obtain⟨i,hi,rfl⟩:=List.mem_map.1 q1;grind[LY,Gj,qW,oN]
theorem PI:∀ {bs:List (List Int)} {acc:List fb},(og bs acc).length<=acc.length+bs.length
 |[],acc=>by show acc.length<=_;omega
 |b::r,acc=>by
  rw[og];split
  ·have:=PI (bs:=r) (acc:=acc++[gu b]);simp at this ⊢;omega
  omega
theorem Gk(d:du):(dH d).length<=600:=by
 grind[ik,DQ,DP,PI,Jl,wL]
theorem Gg{l:List fb}{i:Nat}(h:i<l.length):(oO l)[i]? = some [.v (.int .i64 l[i].seq),.v (.int .i64 l[i].dP),nQ l[i].body]:=bS h
theorem K6{l:List fb}{k:Nat}(hk:k<l.length)(h:lK l[k].body=true):pj (l.take k)++[t6 l[k].body]=pj (l.take (k+1)):=by
 grind[List.take_succ_eq_append_getElem,Ja,pj]
theorem K7{l:List fb}{k:Nat}(hk:k<l.length)(h:lK l[k].body=false):pj (l.take k)=pj (l.take (k+1)):=by
 grind[List.take_succ_eq_append_getElem,pj]
theorem Gl(l:List fb):(pj l).length<=l.length:=List.length_filterMap_le _ _
abbrev uT(l:List aV):AO:=.ai 81 7 (ah fR l)
theorem QW(d:du)(hb:qK d):GC prog 34 [mt d] [] (.own 1) [(1,uT (f8 d))]:=by
 refine gi 2 func34 rfl ntmps34 rfl ?_;intro L O w0;refine sL<|ab (zX 2001 rfl) Z<|e9 Z<|nA<|ab (zS 1 (ah fR []) jk jl rfl (by trivial)) Z<|bD Z<|nA<|aP (.agg [vL _ _ _,vL _ _ _]) mE Z<|ab (zC [] [] [] func88 (Kc d hb) (trivial) rfl rfl) Z<|cT (.au [vL _ _ _,U _ _]) Z<|rF Z<|dE Z<|nv Z<|ao Z<|Y<|aS<|sL<|bm Z<|ba yw rfl ?_;refine dC 17 (int ((dH d).length:Int)) (congrArg (fun n:Nat=>int (n:Int)) (sX _)) ?_;refine ae Z<|Y<|aB ?_;refine aW [2,16,17] [2001] (D:=Nat) (fun a=>[(18,int (a:Int)),(3,.own 1)]) (fun a=>[(1,uT (pj ((dH d).take a)))]) (fun a=>a<=(dH d).length) (fun a=>(dH d).length-a) (0) (Nat.zero_le _) ⟨rfl,rfl,trivial⟩ ⟨rfl,trivial⟩ ?_;intro k hI;replace hI:k<=(dH d).length:=hI;refine sL<|ak Z<|Y<|aS ?_;refine AW.cond rfl ?_ ?_
 ·intro V;refine aK<|gT<|aS<|aB<|aS ?_;have hk:k<(dH d).length:=by have h:=V;simp only[decide_eq_true_eq]at h;omega
  have hS:=K5 hb (List.getElem_mem hk);have hL:=Gk d;have Sv:=Gl ((dH d).take k);have Sw:((dH d).take k).length<=600:=by rw[List.length_take];omega
  refine aL<|li k tY Z (Gg hk)<|d6 (.agg [U _ _,U _ _,vL _ _ _]) nP Z<|ab (zA 2007 pB Z) Z<|lT [2,3,7,16,17,18,21] [1,2001,2007] ?_;refine ab (zB 2007 mL mM rfl) Z<|nA<|lf 2 u' Z<|bo kb Z<|ab (zC [] [] [] func100 (Zp (dH d)[k].body hS.1 (by omega)) (trivial) rfl rfl) Z<|cT (.au [.agg [U _ _,U _ _,U _ _,U _ _,U _ _,U _ _,vB _],vB _]) Z<|iB (.agg [U _ _,U _ _,U _ _,U _ _,U _ _,U _ _,vB _]) Z<|eU Z<|ab (zA 2008 jl rfl) Z<|ab (zB 2008 mZ m0 rfl) Z<|bv Z<|nA<|aQ Z<|Y ?_;refine AW.cond rfl ?_ ?_
  ·intro h2;refine aL<|bW Z<|aP (.agg [U _ _,U _ _,U _ _,U _ _,U _ _,U _ _,vB _]) dD Z<|ab (zS 2031 (ah fR [t6 (dH d)[k].body]) jk jl Z) Z<|lT [2,3,16,17,18,29,31] [1,2001,2007,2008,2031] ?_;refine ab (zP 1 jk jl sD rfl (Src.own rfl rfl) (by grind[ah])) Z<|bD Z<|lN<|gB<|gT<|aL<|bg Z<|ae Z<|Y ?_;refine⟨(k+1),hk,by omega,⟨(iq rfl),rfl,trivial⟩,⟨(Eq.trans (b:=AO.ai 81 7 (ah fR (pj ((dH d).take k))++ah fR [t6 (dH d)[k].body])) rfl (congrArg (AO.ai 81 7) (Eq.trans (rR _ _ _).symm (congrArg (ah fR) (K6 hk h2))))),trivial⟩,rfl,rfl⟩
  intro h2;refine aK<|gB<|gT<|aL<|bg Z<|ae Z<|Y ?_;refine⟨(k+1),hk,by omega,⟨(iq rfl),rfl,trivial⟩,⟨(congrArg uT (K7 hk h2)),trivial⟩,rfl,rfl⟩
 intro V;refine aE<|eT<|eT<|eB<|gA<|bW Z<|bD Z<|Y<|aR ?_;have hk:k=(dH d).length:=by have h:=V;simp only[decide_eq_false_iff_not]at h;omega
 refine ax ?_ ⟨(congrArg (fun l=>uT (pj l)) (List.take_of_length_le (by omega))),trivial⟩;rfl
end Go.Proofs.YtflhgkmhmcfimaaGreat

