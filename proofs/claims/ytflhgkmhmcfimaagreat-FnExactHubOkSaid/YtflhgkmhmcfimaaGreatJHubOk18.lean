/- Texts of the proof of FnFnExactHubOk, joined: MkD, EL1, EP2, EV1, EV2. -/
import Derived.Test.YtflhgkmhmcfimaaGreatJHubOk14
import Derived.Test.YtflhgkmhmcfimaaGreatJHubOk16
import Derived.Test.YtflhgkmhmcfimaaGreatJHubOk17
namespace Go.Proofs.YtflhgkmhmcfimaaGreat
open Tryz
open Go.RowKit
set_option linter.unusedSimpArgs false
set_option linter.unusedVariables false
section
variable {α:Type}(n:α->Int)(g:α->Int->α)
def mT:List α->Int
 |[]=>0
 |x::l=>n x+mT l
def nq:List α->Int->Int
 |[],l=>l
 |x::r,l=>if l-n x<0 then -1 else nq r (l-n x)
variable {n g}
theorem A0(h:∀x,0<=n x):∀(l:List α),0<=mT n l
 |[]=>by simp[mT]
 |x::l=>by rw[mT];have:=h x;have:=A0 h l;omega
theorem Ij(h:∀x,0<=n x):∀ {l:List α} {x:α},x∈l->n x<=mT n l
 |y::l,x,hx=>by
  rw[mT];have:=A0 h l;rcases List.mem_cons.1 hx with rfl|hx
  ·omega
  have:=Ij h hx;grind
theorem Ik(h:∀x,0<=n x):∀(l:List α) (x:Int),-1<=x->-1<=nq n l x
 |[],x,hx=>hx
 |y::l,x,hx=>by
  unfold nq;split
  ·omega
  exact Ik h l _ (by omega)
theorem Il(h:∀x,0<=n x):∀(l:List α) (x:Int),0<=x->0<=nq n l x->mT n l<=x/\nq n l x=x-mT n l
 |[],x,hx,_=>by simp[mT,nq,hx]
 |y::l,x,hx,hs=>by
  unfold nq at hs ⊢;split at hs
  ·omega
  rename_i q;rw[if_neg q,mT];have:=Il h l (x-n y) (by omega) hs;omega
theorem E5{l:List α}{j:Nat}(h:j<l.length)(x:Int):nq n (l.drop j) x=if x-n l[j]<0 then -1 else nq n (l.drop (j+1)) (x-n l[j]):=by
 rw[List.drop_eq_getElem_cons h];rfl
end
abbrev uD(c:Cell):Int:=(c.bytes.length:Int)
abbrev E6(w:gq):Int:=1+(w.bytes.length:Int)
abbrev uE(w:gq):Int:=(w.bytes.length:Int)
theorem CC(c:Cell):0<=uD c:=Int.natCast_nonneg _
theorem CD(w:gq):0<=uE w:=Int.natCast_nonneg _
def pP(m:Nat)(l:Int):Int:=if l-(m:Int)<0 then -1 else l-(m:Int)
def ow(cs:List Cell)(l:Int):Int:=if l-(cs.length:Int)<0 then -1 else nq uD cs (l-(cs.length:Int))
def sl(ws:List gq)(l:Int):Int:=if l-(ws.length:Int)<0 then -1 else nq uE ws (l-(ws.length:Int))
def qu(d:du)(l:Int):Int:=if ow d.cells l<0 then -1 else sl d.bu (ow d.cells l)
theorem Im{cs:List Cell}{l:Int}(h:0<=ow cs l):(cs.length:Int)+mT uD cs<=l/\ow cs l<=l:=by
 unfold ow at *;split at h
 ·omega
 rename_i q;rw[if_neg q];have:=Il CC cs _ (by omega) h;have:=A0 CC cs;omega
theorem NK{ws:List gq}{l:Int}(h:0<=sl ws l):(ws.length:Int)+mT uE ws<=l/\sl ws l<=l:=by
 unfold sl at *;split at h
 ·omega
 rename_i q;rw[if_neg q];have:=Il CD ws _ (by omega) h;have:=A0 CD ws;omega
theorem Wp(cs:List Cell)(l:Int):-1<=ow cs l:=by
 unfold ow;split
 ·omega
 exact Ik CC cs _ (by omega)
theorem In(ws:List gq)(l:Int):-1<=sl ws l:=by
 unfold sl;split
 ·omega
 exact Ik CD ws _ (by omega)
theorem NL:∀(ws:List gq),mT E6 ws=(ws.length:Int)+mT uE ws
 |[]=>rfl
 |w::ws=>by rw[mT,mT,NL ws,List.length_cons];grind
structure vU(d:du):Prop where
 lc:d.cells.length<=1048576
 lw:d.bu.length<=1048576
 bc:∀c∈d.cells,c.bytes.length<=1048576
 bw:∀w∈d.bu,w.bytes.length<=1048576
 cc:mT uD d.cells<=1048576
 cw:mT E6 d.bu<=1048576
theorem Wq{d:du}(h:0<=qu d 1048576):vU d:=by
 unfold qu at h;split at h
 ·omega
 rename_i q;have V:=Im (cs:=d.cells) (l:=1048576) (by omega);have h2:=NK h;have h3:=A0 CC d.cells;have h4:=A0 CD d.bu;refine⟨by omega,by omega,fun c hc=>?_,fun w hw=>?_,by omega,by rw[NL];omega⟩
 ·have:(c.bytes.length:Int)<=_:=Ij CC hc;omega
 have:(w.bytes.length:Int)<=_:=Ij CD hw;omega
theorem dS.set{F:List AO}{j:Nat}{o:AO}(h:dS F)(ho:nr o=true):dS (F.set j o):=fun x hx=>by
 rcases List.mem_or_eq_of_mem_set hx with q|rfl
 ·exact h x q
 omega
section
variable {L:Nat->Prop}{ρ:Nat->Value}{H:Nat->AO}
theorem bI.each{α:Type}{row:α->List PV}{sz:Nat}{dg:World->Nat->Nat->List Value->α->Prop}{w:World}{lo hi b:Nat}(hr:∀cs x,dg w lo hi cs x->cs.length=sz/\∃fp,bP w false (row x) cs fp)(hs:∀x,(row x).length=sz) :
 ∀ {xs:List α} {off:Nat},uF sz dg w lo hi b off xs->∃cs fp,bI w false sz (xs.map row) cs fp/\jo w b off cs/\cs.length=sz*xs.length
 |[],off,_=>⟨[],[],by trivial,fun j v hj=>by grind,rfl⟩
 |x::xs,off,h=>by
  obtain⟨cs,V,h2⟩:=h 0 (by simp);obtain⟨hl,fp,h3⟩:=hr cs _ V;have ht:uF sz dg w lo hi b (off+sz) xs:=fun i hU=>by
   obtain⟨c,k1,k2⟩:=h (i+1) (by simpa using hU);grind
  obtain⟨uU,EC,q1,q2,q3⟩:=bI.each hr hs ht;refine⟨cs++uU,fp++EC,?_,fun j v hj=>?_,by grind⟩
  ·rw[List.map_cons,bI];grind
  rcases Nat.lt_or_ge j cs.length with z|z
  ·rw[List.getElem?_append_left z]at hj;have:=h2 j v hj;grind
  rw[List.getElem?_append_right z]at hj;have:=q2 _ v hj;grind
theorem NM{α:Type}{row:α->List PV}{sz:Nat}{dg:World->Nat->Nat->List Value->α->Prop}{w:World}{lo hi:Nat}{v:Value}{xs:List α}{e:TypeId}(h:dd sz dg w lo hi v xs)(hr:∀cs x,dg w lo hi cs x->cs.length=sz/\∃fp,bP w false (row x) cs fp)(hs:∀x,(row x).length=sz)
 (un:hi<=w.heap.size):∃fp,RW w false (.ab e sz (xs.map row)) v fp:=by
 obtain⟨a,cap,rfl,c1,c2,ml⟩:=h
 rcases ml with hz|⟨b,off,rfl,b1,b2,hel⟩
 ·have:xs=[]:=List.length_eq_zero_iff.1 (by grind)
  subst this
  refine⟨[]++[],?_⟩
  rw[RW]
  refine⟨[],[],[],by trivial,?_,rfl⟩
  unfold iF
  simp only[Bool.false_eq_true,if_false]
  exact⟨_,_,rfl,by simp,c2,.inl ⟨rfl,trivial⟩⟩
 obtain⟨cs,fp,q1,q2,q3⟩:=bI.each hr hs hel
 refine⟨[b]++fp,?_⟩
 rw[RW]
 refine⟨cs,[b],fp,q1,?_,rfl⟩
 unfold iF
 simp only[Bool.false_eq_true,if_false]
 exact⟨_,_,by simp,by grind,c2,.inr ⟨b,off,rfl,q2,by omega,rfl⟩⟩
end

set_option maxHeartbeats 16000000
set_option maxRecDepth 100000
theorem Wr(x:Acc):GC prog 268 [.agg [int x.kind,int x.ch]] [] (.agg [int x.kind,int x.ch]) []:=by
 refine GC.intro (rs:=[.cell 2 165 (some 2)]) func268 rfl ntmps268 (Nat.le_of_ble_eq_true rfl) ⟨rfl,rfl,i0,trivial⟩ ?_;intro L O w0;refine sL<|ab (zX 2001 Z) Z<|ab (zA 2002 NE Z) Z<|nA<|ab (zA 2003 NE Z) Z<|nA<|lf 0 Wi Z<|aj ac Z<|lf 0 oW Z<|ab (zB 2003 ca cb Z) Z<|nA<|lf 1 Wj Z<|aj ac Z<|lf 1 rV Z<|ab (zB 2003 ca cb Z) Z<|nA<|aP (.agg [U _ _,U _ _]) i0 Z ?_;refine ab (zB 2002 Dm ND Z) Z<|Y<|aR ?_;trivial
theorem Ws(x:aO):GC prog 228 [.agg [int x.acc.kind,int x.acc.ch,int x.af]] [] (.agg [int x.acc.kind,int x.acc.ch,int x.af]) []:=by
 refine GC.intro (rs:=[.cell 2 167 (some 3)]) func228 rfl ntmps228 (Nat.le_of_ble_eq_true rfl) ⟨rfl,rfl,iV,trivial⟩ ?_;intro L O w0;refine sL<|ab (zX 2001 Z) Z<|ab (zA 2002 eP Z) Z<|nA<|ab (zA 2003 eP Z) Z<|nA<|lf 0 Wm Z<|aP (.agg [U _ _,U _ _]) Wh Z<|ab (zL func268 (Wr _) Z) Z<|lf 0 jf Z<|ab (zB 2003 Dm ND Z) Z<|nA<|lf 2 Wn Z<|aj ac Z<|lf 2 ni Z<|ab (zB 2003 ca cb Z) Z<|nA ?_;refine aP (.agg [U _ _,U _ _,U _ _]) iV Z<|ab (zB 2002 vf vg Z) Z<|lT [2] [2001,2002,2003] ?_;refine Y<|aR ?_;trivial
theorem Wt(x:aV):GC prog 138 [.agg [int x.kind,int x.key,int x.ch,int x.to,int x.af,int x.ay,aD x.yes]] [] (.agg [int x.kind,int x.key,int x.ch,int x.to,int x.af,int x.ay,aD x.yes]) []:=by
 refine GC.intro (rs:=[.cell 2 81 (some 7)]) func138 rfl ntmps138 (Nat.le_of_ble_eq_true rfl) ⟨rfl,rfl,dD,trivial⟩ ?_;intro L O w0;refine sL<|ab (zX 2001 Z) Z<|ab (zA 2002 jl Z) Z<|nA<|ab (zA 2003 jl Z) Z<|nA<|lf 0 VL Z<|aj ac Z<|lf 0 jz Z<|ab (zB 2003 ca cb Z) Z<|nA<|lf 1 VM Z<|aj ac Z<|lf 1 gE Z<|ab (zB 2003 ca cb Z) Z<|nA<|lf 2 VN Z ?_;refine aj ac Z<|lf 2 dn Z<|ab (zB 2003 ca cb Z) Z<|lT [1,2,3] [2001,2002,2003] ?_;refine nA<|lf 3 VO Z<|aj ac Z<|lf 3 fK Z<|ab (zB 2003 ca cb Z) Z<|nA<|lf 4 VP Z<|aj ac Z<|lf 4 bN Z<|ab (zB 2003 ca cb Z) Z<|nA<|lf 5 VQ Z<|aj ac Z<|lf 5 fC Z<|ab (zB 2003 ca cb Z) Z<|nA<|lf 6 VR Z<|tT jN Z ?_;refine lf 6 pw Z<|ab (zB 2003 ES ET Z) Z<|lT [2,3] [2001,2002,2003] ?_;refine nA<|aP (.agg [U _ _,U _ _,U _ _,U _ _,U _ _,U _ _,vB _]) dD Z<|ab (zB 2002 mZ m0 Z) Z<|Y<|aR ?_;trivial
theorem Wu(x:be):GC prog 225 [.agg [int x.id,int x.size,int x.loc,int x.aC,int x.base,int x.br,int x.cM]] [] (.agg [int x.id,int x.size,int x.loc,int x.aC,int x.base,int x.br,int x.cM]) []:=by
 refine GC.intro (rs:=[.cell 2 159 (some 7)]) func225 rfl ntmps225 (Nat.le_of_ble_eq_true rfl) ⟨rfl,rfl,fF,trivial⟩ ?_;intro L O w0;refine sL<|ab (zX 2001 Z) Z<|ab (zA 2002 dy Z) Z<|nA<|ab (zA 2003 dy Z) Z<|nA<|lf 0 VX Z<|aj ac Z<|lf 0 kM Z<|ab (zB 2003 ca cb Z) Z<|nA<|lf 1 VY Z<|aj ac Z<|lf 1 qS Z<|ab (zB 2003 ca cb Z) Z<|nA<|lf 2 VZ Z ?_;refine aj ac Z<|lf 2 fH Z<|ab (zB 2003 ca cb Z) Z<|lT [1,2,3] [2001,2002,2003] ?_;refine nA<|lf 3 V0 Z<|aj ac Z<|lf 3 ic Z<|ab (zB 2003 ca cb Z) Z<|nA<|lf 4 V1 Z<|aj ac Z<|lf 4 nE Z<|ab (zB 2003 ca cb Z) Z<|nA<|lf 5 V2 Z<|aj ac Z<|lf 5 mH Z<|ab (zB 2003 ca cb Z) Z<|nA<|lf 6 V3 Z<|aj ac Z ?_;refine lf 6 ms Z<|ab (zB 2003 ca cb Z) Z<|lT [2,3] [2001,2002,2003] ?_;refine nA<|aP (.agg [U _ _,U _ _,U _ _,U _ _,U _ _,U _ _,U _ _]) fF Z<|ab (zB 2002 lu lv Z) Z<|Y<|aR ?_;trivial
theorem Wv(x:eV):GC prog 226 [.agg [int x.key,int x.gh,int x.out,int x.cW,int x.c9,aD x.kept,int x.jP]] [] (.agg [int x.key,int x.gh,int x.out,int x.cW,int x.c9,aD x.kept,int x.jP]) []:=by
 refine GC.intro (rs:=[.cell 2 218 (some 7)]) func226 rfl ntmps226 (Nat.le_of_ble_eq_true rfl) ⟨rfl,rfl,kZ,trivial⟩ ?_;intro L O w0;refine sL<|ab (zX 2001 Z) Z<|ab (zA 2002 iu Z) Z<|nA<|ab (zA 2003 iu Z) Z<|nA<|lf 0 V5 Z<|aj ac Z<|lf 0 u7 Z<|ab (zB 2003 ca cb Z) Z<|nA<|lf 1 V6 Z<|aj ac Z<|lf 1 oM Z<|ab (zB 2003 ca cb Z) Z<|nA<|lf 2 V7 Z ?_;refine aj ac Z<|lf 2 mJ Z<|ab (zB 2003 ca cb Z) Z<|lT [1,2,3] [2001,2002,2003] ?_;refine nA<|lf 3 V8 Z<|aj ac Z<|lf 3 n3 Z<|ab (zB 2003 ca cb Z) Z<|nA<|lf 4 V9 Z<|aj ac Z<|lf 4 kw Z<|ab (zB 2003 ca cb Z) Z<|nA<|lf 5 V' Z<|tT jN Z<|lf 5 BF Z<|ab (zB 2003 ES ET Z) Z<|nA<|lf 6 Wa Z<|aj ac Z ?_;refine lf 6 tV Z<|ab (zB 2003 ca cb Z) Z<|lT [2,3] [2001,2002,2003] ?_;refine nA<|aP (.agg [U _ _,U _ _,U _ _,U _ _,U _ _,vB _,U _ _]) kZ Z<|ab (zB 2002 nJ nL Z) Z<|Y<|aR ?_;trivial
theorem Ww(x:gz):GC prog 227 [.agg [int x.key,int x.fI,int x.to,int x.af,int x.ay]] [] (.agg [int x.key,int x.fI,int x.to,int x.af,int x.ay]) []:=by
 refine GC.intro (rs:=[.cell 2 220 (some 5)]) func227 rfl ntmps227 (Nat.le_of_ble_eq_true rfl) ⟨rfl,rfl,l5,trivial⟩ ?_;intro L O w0;refine sL<|ab (zX 2001 Z) Z<|ab (zA 2002 jO Z) Z<|nA<|ab (zA 2003 jO Z) Z<|nA<|lf 0 Wc Z<|aj ac Z<|lf 0 u9 Z<|ab (zB 2003 ca cb Z) Z<|nA<|lf 1 Wd Z<|aj ac Z<|lf 1 nO Z<|ab (zB 2003 ca cb Z) Z<|nA<|lf 2 We Z ?_;refine aj ac Z<|lf 2 py Z<|ab (zB 2003 ca cb Z) Z<|lT [1,2,3] [2001,2002,2003] ?_;refine nA<|lf 3 Wf Z<|aj ac Z<|lf 3 lO Z<|ab (zB 2003 ca cb Z) Z<|nA<|lf 4 Wg Z<|aj ac Z<|lf 4 pO Z<|ab (zB 2003 ca cb Z) Z<|nA<|aP (.agg [U _ _,U _ _,U _ _,U _ _,U _ _]) l5 Z<|ab (zB 2002 oK oL Z) Z<|Y<|aR ?_;trivial
theorem Wx(l:List aO)(hm:l.length<=1048576):GC prog 137 [.p (.ab 262 3 (ah ct l))] [] (.own 2007) [(2007,.ai 167 3 (ah ct l))]:=by
 refine gi 2 func137 rfl ntmps137 rfl ?_;intro L O w0;refine sL<|e9 Z<|nA<|bm Z<|ba Ie Z<|ab (uq 2007 (m:=l.length) rfl rfl (by decide) cV eP rfl rfl rfl ?hn1 ?hn2 (Nat.le_trans (Nat.mul_le_mul_right _ lE) (by omega)) (by grind[maxLen])) rfl ?_;case hn1=>rw[ap]
 case hn2=>rw[ap]
 refine bD Z<|Y<|aS<|sL<|ao Z<|Y<|aB ?_;refine aW [0,2,3] [] (D:=Nat) (fun k=>[(4,int (k:Int))]) (fun k=>[(2007,.ai 167 3 (fill (ah ct l) [.v (.int .i64 0),.v (.int .i64 0),.v (.int .i64 0)] k))]) (fun k=>k<=l.length) (fun k=>l.length-k) (0) (Nat.zero_le _) ⟨rfl,trivial⟩ ⟨(congrArg (fun q=>AO.ai 167 3 q) (by rw[Ai,ap];rfl)),trivial⟩ ?_;intro k hI;refine aS<|sL<|ae Z<|bm Z<|ba Ie Z<|ak Z<|Y ?_;refine AW.cond rfl ?_ ?_
 ·intro V;refine aK<|gT<|aS<|aB<|aL<|bW Z<|ae Z<|bm Z<|ae Z ?_;have hk:k<l.length:=by simpa[ap]using V
  refine li k VC Z (bS hk)<|d6 (.agg [U _ _,U _ _,U _ _]) Wk Z<|ab (zL func228 (Ws _) Z) Z<|lT [0,2,3,4,14,15,20] [2007] ?_;have hk:k<l.length:=by simpa[ap]using V
  refine lq (rj k cV rfl (by grind[Ak]))<|ab (zQ 2007 [.v (.int .i64 l[k].acc.kind),.v (.int .i64 l[k].acc.ch),.v (.int .i64 l[k].af)] vf vg rfl (Al (by grind))) Z<|lN<|gB<|gT<|aL<|ae Z<|bg Z<|ao Z<|Y ?_;refine⟨k+1,hk,by omega,⟨(iq rfl),trivial⟩,⟨(Eq.trans (b:=AO.ai 167 3 ((fill (ah ct l) [.v (.int .i64 0),.v (.int .i64 0),.v (.int .i64 0)] k).set k ((ct l[k]).map PV.v))) rfl (congrArg (fun q=>AO.ai 167 3 q) (Am (bS hk)))),trivial⟩,rfl,rfl⟩
 intro V;refine aE<|eT<|eT<|eB<|gA<|bW Z<|bD Z<|Y<|aR ?_;refine ax ?_ ⟨(congrArg (fun q=>AO.ai 167 3 q) (by grind[ah,Aj])),trivial⟩;rfl
theorem NN(l:List aV)(hm:l.length<=1048576):GC prog 54 [.p (.ab 181 7 (ah fR l))] [] (.own 2007) [(2007,.ai 81 7 (ah fR l))]:=by
 refine gi 2 func54 rfl ntmps54 rfl ?_;intro L O w0;refine sL<|e9 Z<|nA<|bm Z<|ba If Z<|ab (uq 2007 (m:=l.length) rfl rfl (by decide) jk jl rfl rfl rfl ?hn1 ?hn2 (Nat.le_trans (Nat.mul_le_mul_right _ sD) (by omega)) (by grind[maxLen])) rfl ?_;case hn1=>rw[ap]
 case hn2=>rw[ap]
 refine bD Z<|Y<|aS<|sL<|ao Z<|Y<|aB ?_;refine aW [0,2,3] [] (D:=Nat) (fun k=>[(4,int (k:Int))]) (fun k=>[(2007,.ai 81 7 (fill (ah fR l) [.v (.int .i64 0),.v (.int .i64 0),.v (.int .i64 0),.v (.int .i64 0),.v (.int .i64 0),.v (.int .i64 0),.v (.bool false)] k))]) (fun k=>k<=l.length) (fun k=>l.length-k) (0) (Nat.zero_le _) ⟨rfl,trivial⟩ ⟨(congrArg (fun q=>AO.ai 81 7 q) (by rw[Ai,ap];rfl)),trivial⟩ ?_;intro k hI;refine aS<|sL<|ae Z<|bm Z<|ba If Z<|ak Z<|Y ?_;refine AW.cond rfl ?_ ?_
 ·intro V;refine aK<|gT<|aS<|aB<|aL<|bW Z<|ae Z<|bm Z<|ae Z ?_;have hk:k<l.length:=by simpa[ap]using V
  refine li k VE Z (bS hk)<|d6 (.agg [U _ _,U _ _,U _ _,U _ _,U _ _,U _ _,vB _]) VK Z<|ab (zL func138 (Wt _) Z) Z<|lT [0,2,3,4,14,15,20] [2007] ?_;have hk:k<l.length:=by simpa[ap]using V
  refine lq (rj k jk rfl (by grind[Ak]))<|ab (zQ 2007 [.v (.int .i64 l[k].kind),.v (.int .i64 l[k].key),.v (.int .i64 l[k].ch),.v (.int .i64 l[k].to),.v (.int .i64 l[k].af),.v (.int .i64 l[k].ay),.v (.bool l[k].yes)] mZ m0 rfl (Al (by grind))) Z<|lN<|gB<|gT<|aL<|ae Z<|bg Z<|ao Z<|Y ?_;refine⟨k+1,hk,by omega,⟨(iq rfl),trivial⟩,⟨(Eq.trans (b:=AO.ai 81 7 ((fill (ah fR l) [.v (.int .i64 0),.v (.int .i64 0),.v (.int .i64 0),.v (.int .i64 0),.v (.int .i64 0),.v (.int .i64 0),.v (.bool false)] k).set k ((fR l[k]).map PV.v))) rfl (congrArg (fun q=>AO.ai 81 7 q) (Am (bS hk)))),trivial⟩,rfl,rfl⟩
 intro V;refine aE<|eT<|eT<|eB<|gA<|bW Z<|bD Z<|Y<|aR ?_;refine ax ?_ ⟨(congrArg (fun q=>AO.ai 81 7 q) (by grind[ah,Aj])),trivial⟩;rfl
theorem Wy(l:List be)(hm:l.length<=1048576):GC prog 134 [.p (.ab 254 7 (ah aX l))] [] (.own 2007) [(2007,.ai 159 7 (ah aX l))]:=by
 refine gi 2 func134 rfl ntmps134 rfl ?_;intro L O w0;refine sL<|e9 Z<|nA<|bm Z<|ba Ib Z<|ab (uq 2007 (m:=l.length) rfl rfl (by decide) cz dy rfl rfl rfl ?hn1 ?hn2 (Nat.le_trans (Nat.mul_le_mul_right _ jL) (by omega)) (by grind[maxLen])) rfl ?_;case hn1=>rw[ap]
 case hn2=>rw[ap]
 refine bD Z<|Y<|aS<|sL<|ao Z<|Y<|aB ?_;refine aW [0,2,3] [] (D:=Nat) (fun k=>[(4,int (k:Int))]) (fun k=>[(2007,.ai 159 7 (fill (ah aX l) [.v (.int .i64 0),.v (.int .i64 0),.v (.int .i64 0),.v (.int .i64 0),.v (.int .i64 0),.v (.int .i64 0),.v (.int .i64 0)] k))]) (fun k=>k<=l.length) (fun k=>l.length-k) (0) (Nat.zero_le _) ⟨rfl,trivial⟩ ⟨(congrArg (fun q=>AO.ai 159 7 q) (by rw[Ai,ap];rfl)),trivial⟩ ?_;intro k hI;refine aS<|sL<|ae Z<|bm Z<|ba Ib Z<|ak Z<|Y ?_;refine AW.cond rfl ?_ ?_
 ·intro V;refine aK<|gT<|aS<|aB<|aL<|bW Z<|ae Z<|bm Z<|ae Z ?_;have hk:k<l.length:=by simpa[ap]using V
  refine li k Vw Z (bS hk)<|d6 (.agg [U _ _,U _ _,U _ _,U _ _,U _ _,U _ _,U _ _]) VW Z<|ab (zL func225 (Wu _) Z) Z<|lT [0,2,3,4,14,15,20] [2007] ?_;have hk:k<l.length:=by simpa[ap]using V
  refine lq (rj k cz rfl (by grind[Ak]))<|ab (zQ 2007 [.v (.int .i64 l[k].id),.v (.int .i64 l[k].size),.v (.int .i64 l[k].loc),.v (.int .i64 l[k].aC),.v (.int .i64 l[k].base),.v (.int .i64 l[k].br),.v (.int .i64 l[k].cM)] lu lv rfl (Al (by grind))) Z<|lN<|gB<|gT<|aL<|ae Z<|bg Z<|ao Z<|Y ?_;refine⟨k+1,hk,by omega,⟨(iq rfl),trivial⟩,⟨(Eq.trans (b:=AO.ai 159 7 ((fill (ah aX l) [.v (.int .i64 0),.v (.int .i64 0),.v (.int .i64 0),.v (.int .i64 0),.v (.int .i64 0),.v (.int .i64 0),.v (.int .i64 0)] k).set k ((aX l[k]).map PV.v))) rfl (congrArg (fun q=>AO.ai 159 7 q) (Am (bS hk)))),trivial⟩,rfl,rfl⟩
 intro V;refine aE<|eT<|eT<|eB<|gA<|bW Z<|bD Z<|Y<|aR ?_;refine ax ?_ ⟨(congrArg (fun q=>AO.ai 159 7 q) (by grind[ah,Aj])),trivial⟩;rfl
theorem Wz(l:List eV)(hm:l.length<=1048576):GC prog 135 [.p (.ab 256 7 (ah go l))] [] (.own 2007) [(2007,.ai 218 7 (ah go l))]:=by
 refine gi 2 func135 rfl ntmps135 rfl ?_;intro L O w0;refine sL<|e9 Z<|nA<|bm Z<|ba Ic Z<|ab (uq 2007 (m:=l.length) rfl rfl (by decide) f7 iu rfl rfl rfl ?hn1 ?hn2 (Nat.le_trans (Nat.mul_le_mul_right _ sQ) (by omega)) (by grind[maxLen])) rfl ?_;case hn1=>rw[ap]
 case hn2=>rw[ap]
 refine bD Z<|Y<|aS<|sL<|ao Z<|Y<|aB ?_;refine aW [0,2,3] [] (D:=Nat) (fun k=>[(4,int (k:Int))]) (fun k=>[(2007,.ai 218 7 (fill (ah go l) [.v (.int .i64 0),.v (.int .i64 0),.v (.int .i64 0),.v (.int .i64 0),.v (.int .i64 0),.v (.bool false),.v (.int .i64 0)] k))]) (fun k=>k<=l.length) (fun k=>l.length-k) (0) (Nat.zero_le _) ⟨rfl,trivial⟩ ⟨(congrArg (fun q=>AO.ai 218 7 q) (by rw[Ai,ap];rfl)),trivial⟩ ?_;intro k hI;refine aS<|sL<|ae Z<|bm Z<|ba Ic Z<|ak Z<|Y ?_;refine AW.cond rfl ?_ ?_
 ·intro V;refine aK<|gT<|aS<|aB<|aL<|bW Z<|ae Z<|bm Z<|ae Z ?_;have hk:k<l.length:=by simpa[ap]using V
  refine li k Vx Z (bS hk)<|d6 (.agg [U _ _,U _ _,U _ _,U _ _,U _ _,vB _,U _ _]) V4 Z<|ab (zL func226 (Wv _) Z) Z<|lT [0,2,3,4,14,15,20] [2007] ?_;have hk:k<l.length:=by simpa[ap]using V
  refine lq (rj k f7 rfl (by grind[Ak]))<|ab (zQ 2007 [.v (.int .i64 l[k].key),.v (.int .i64 l[k].gh),.v (.int .i64 l[k].out),.v (.int .i64 l[k].cW),.v (.int .i64 l[k].c9),.v (.bool l[k].kept),.v (.int .i64 l[k].jP)] nJ nL rfl (Al (by grind))) Z<|lN<|gB<|gT<|aL<|ae Z<|bg Z<|ao Z<|Y ?_;refine⟨k+1,hk,by omega,⟨(iq rfl),trivial⟩,⟨(Eq.trans (b:=AO.ai 218 7 ((fill (ah go l) [.v (.int .i64 0),.v (.int .i64 0),.v (.int .i64 0),.v (.int .i64 0),.v (.int .i64 0),.v (.bool false),.v (.int .i64 0)] k).set k ((go l[k]).map PV.v))) rfl (congrArg (fun q=>AO.ai 218 7 q) (Am (bS hk)))),trivial⟩,rfl,rfl⟩
 intro V;refine aE<|eT<|eT<|eB<|gA<|bW Z<|bD Z<|Y<|aR ?_;refine ax ?_ ⟨(congrArg (fun q=>AO.ai 218 7 q) (by grind[ah,Aj])),trivial⟩;rfl
theorem WA(l:List gz)(hm:l.length<=1048576):GC prog 136 [.p (.ab 258 5 (ah iX l))] [] (.own 2007) [(2007,.ai 220 5 (ah iX l))]:=by
 refine gi 2 func136 rfl ntmps136 rfl ?_;intro L O w0;refine sL<|e9 Z<|nA<|bm Z<|ba Id Z<|ab (uq 2007 (m:=l.length) rfl rfl (by decide) iI jO rfl rfl rfl ?hn1 ?hn2 (Nat.le_trans (Nat.mul_le_mul_right _ wI) (by omega)) (by grind[maxLen])) rfl ?_;case hn1=>rw[ap]
 case hn2=>rw[ap]
 refine bD Z<|Y<|aS<|sL<|ao Z<|Y<|aB ?_;refine aW [0,2,3] [] (D:=Nat) (fun k=>[(4,int (k:Int))]) (fun k=>[(2007,.ai 220 5 (fill (ah iX l) [.v (.int .i64 0),.v (.int .i64 0),.v (.int .i64 0),.v (.int .i64 0),.v (.int .i64 0)] k))]) (fun k=>k<=l.length) (fun k=>l.length-k) (0) (Nat.zero_le _) ⟨rfl,trivial⟩ ⟨(congrArg (fun q=>AO.ai 220 5 q) (by rw[Ai,ap];rfl)),trivial⟩ ?_;intro k hI;refine aS<|sL<|ae Z<|bm Z<|ba Id Z<|ak Z<|Y ?_;refine AW.cond rfl ?_ ?_
 ·intro V;refine aK<|gT<|aS<|aB<|aL<|bW Z<|ae Z<|bm Z<|ae Z ?_;have hk:k<l.length:=by simpa[ap]using V
  refine li k Vy Z (bS hk)<|d6 (.agg [U _ _,U _ _,U _ _,U _ _,U _ _]) Wb Z<|ab (zL func227 (Ww _) Z) Z<|lT [0,2,3,4,14,15,20] [2007] ?_;have hk:k<l.length:=by simpa[ap]using V
  refine lq (rj k iI rfl (by grind[Ak]))<|ab (zQ 2007 [.v (.int .i64 l[k].key),.v (.int .i64 l[k].fI),.v (.int .i64 l[k].to),.v (.int .i64 l[k].af),.v (.int .i64 l[k].ay)] oK oL rfl (Al (by grind))) Z<|lN<|gB<|gT<|aL<|ae Z<|bg Z<|ao Z<|Y ?_;refine⟨k+1,hk,by omega,⟨(iq rfl),trivial⟩,⟨(Eq.trans (b:=AO.ai 220 5 ((fill (ah iX l) [.v (.int .i64 0),.v (.int .i64 0),.v (.int .i64 0),.v (.int .i64 0),.v (.int .i64 0)] k).set k ((iX l[k]).map PV.v))) rfl (congrArg (fun q=>AO.ai 220 5 q) (Am (bS hk)))),trivial⟩,rfl,rfl⟩
 intro V;refine aE<|eT<|eT<|eB<|gA<|bW Z<|bD Z<|Y<|aR ?_;refine ax ?_ ⟨(congrArg (fun q=>AO.ai 220 5 q) (by grind[ah,Aj])),trivial⟩;rfl
theorem WB(x:Acc):GC prog 269 [.agg [int x.kind,int x.ch],.agg [int x.kind,int x.ch]] [] (aD true) []:=by
 refine gi 4 func269 rfl ntmps269 rfl ?_;intro L O w0;refine sL<|ab (zX 2002 rfl) Z<|ab (zX 2003 rfl) Z<|ar Z<|Y<|aS<|sL<|lf 0 oW Z<|aj ac Z<|lf 0 oW Z<|aj ac Z<|ak Z<|bJ 9 false rfl (by simp)<|Y<|aN Z<|aK<|gT<|aS<|sL<|lf 1 rV Z<|aj ac Z<|lf 1 rV Z<|aj ac Z<|ak Z<|bJ 14 false rfl (by simp) ?_;refine Y<|aN Z<|aK<|gA<|cI Z<|Y<|aR ?_;trivial
theorem WC(x:aO):GC prog 233 [.agg [int x.acc.kind,int x.acc.ch,int x.af],.agg [int x.acc.kind,int x.acc.ch,int x.af]] [] (aD true) []:=by
 refine gi 4 func233 rfl ntmps233 rfl ?_;intro L O w0;refine sL<|ab (zX 2002 rfl) Z<|ab (zX 2003 rfl) Z<|ar Z<|Y<|aS<|sL<|lf 0 jf Z<|aP (.agg [U _ _,U _ _]) i0 Z<|lf 0 jf Z<|aP (.agg [U _ _,U _ _]) i0 Z<|ab (zL func269 (WB _) rfl) Z<|ma Z<|bJ 10 false rfl (by simp)<|Y<|aN Z<|aK<|gT<|aS<|sL<|lf 2 ni Z<|aj ac Z<|lf 2 ni Z<|aj ac Z<|ak rfl ?_;refine bJ 15 false rfl (by simp)<|Y<|aN Z<|aK<|gA<|cI Z<|Y<|aR ?_;trivial
theorem WD(x:aV):GC prog 145 [.agg [int x.kind,int x.key,int x.ch,int x.to,int x.af,int x.ay,aD x.yes],.agg [int x.kind,int x.key,int x.ch,int x.to,int x.af,int x.ay,aD x.yes]] [] (aD true) []:=by
 refine gi 4 func145 rfl ntmps145 rfl ?_;intro L O w0;refine sL<|ab (zX 2002 rfl) Z<|ab (zX 2003 rfl) Z<|ar Z<|Y<|aS<|sL<|lf 0 jz Z<|aj ac Z<|lf 0 jz Z<|aj ac Z<|ak Z<|bJ 9 false rfl (by simp)<|Y<|aN Z<|aK<|gT<|aS<|sL<|lf 1 gE Z<|aj ac Z<|lf 1 gE Z<|aj ac Z<|ak Z<|bJ 14 false rfl (by simp) ?_;refine Y<|aN Z<|aK<|gT<|aS<|sL<|lf 2 dn Z<|aj ac Z<|lf 2 dn Z<|aj ac Z<|ak Z<|bJ 19 false rfl (by simp)<|Y<|aN Z<|aK<|gT<|aS<|sL<|lf 3 fK Z<|aj ac Z<|lf 3 fK Z<|aj ac Z<|ak Z<|bJ 24 false rfl (by simp)<|Y ?_;refine aN Z<|aK<|gT<|aS<|sL<|lf 4 bN Z<|aj ac Z<|lf 4 bN Z<|aj ac Z<|ak Z<|bJ 29 false rfl (by simp)<|Y<|aN Z<|aK<|gT<|aS<|sL<|lf 5 fC Z<|aj ac Z<|lT [2,3,4,31] [2002,2003] ?_;refine lf 5 fC Z<|aj ac Z<|ak Z<|bJ 34 false rfl (by simp)<|Y<|aN Z<|aK<|gT<|aS<|sL<|lf 6 pw Z<|tT jN Z<|lf 6 pw Z<|tT jN Z<|lq (rd (x:=vB _) (G6 rfl rfl rfl underlying4) rfl)<|bJ 39 false rfl (by simp)<|Y<|aN Z<|aK<|gA<|cI Z<|Y<|aR ?_;trivial
theorem WE(x:be):GC prog 230 [.agg [int x.id,int x.size,int x.loc,int x.aC,int x.base,int x.br,int x.cM],.agg [int x.id,int x.size,int x.loc,int x.aC,int x.base,int x.br,int x.cM]] [] (aD true) []:=by
 refine gi 4 func230 rfl ntmps230 rfl ?_;intro L O w0;refine sL<|ab (zX 2002 rfl) Z<|ab (zX 2003 rfl) Z<|ar Z<|Y<|aS<|sL<|lf 0 kM Z<|aj ac Z<|lf 0 kM Z<|aj ac Z<|ak Z<|bJ 9 false rfl (by simp)<|Y<|aN Z<|aK<|gT<|aS<|sL<|lf 1 qS Z<|aj ac Z<|lf 1 qS Z<|aj ac Z<|ak Z<|bJ 14 false rfl (by simp) ?_;refine Y<|aN Z<|aK<|gT<|aS<|sL<|lf 2 fH Z<|aj ac Z<|lf 2 fH Z<|aj ac Z<|ak Z<|bJ 19 false rfl (by simp)<|Y<|aN Z<|aK<|gT<|aS<|sL<|lf 3 ic Z<|aj ac Z<|lf 3 ic Z<|aj ac Z<|ak Z<|bJ 24 false rfl (by simp)<|Y ?_;refine aN Z<|aK<|gT<|aS<|sL<|lf 4 nE Z<|aj ac Z<|lf 4 nE Z<|aj ac Z<|ak Z<|bJ 29 false rfl (by simp)<|Y<|aN Z<|aK<|gT<|aS<|sL<|lf 5 mH Z<|aj ac Z<|lT [2,3,4,31] [2002,2003] ?_;refine lf 5 mH Z<|aj ac Z<|ak Z<|bJ 34 false rfl (by simp)<|Y<|aN Z<|aK<|gT<|aS<|sL<|lf 6 ms Z<|aj ac Z<|lf 6 ms Z<|aj ac Z<|ak Z<|bJ 39 false rfl (by simp)<|Y<|aN Z<|aK<|gA<|cI Z<|Y<|aR ?_;trivial
theorem WF(x:eV):GC prog 231 [.agg [int x.key,int x.gh,int x.out,int x.cW,int x.c9,aD x.kept,int x.jP],.agg [int x.key,int x.gh,int x.out,int x.cW,int x.c9,aD x.kept,int x.jP]] [] (aD true) []:=by
 refine gi 4 func231 rfl ntmps231 rfl ?_;intro L O w0;refine sL<|ab (zX 2002 rfl) Z<|ab (zX 2003 rfl) Z<|ar Z<|Y<|aS<|sL<|lf 0 u7 Z<|aj ac Z<|lf 0 u7 Z<|aj ac Z<|ak Z<|bJ 9 false rfl (by simp)<|Y<|aN Z<|aK<|gT<|aS<|sL<|lf 1 oM Z<|aj ac Z<|lf 1 oM Z<|aj ac Z<|ak Z<|bJ 14 false rfl (by simp) ?_;refine Y<|aN Z<|aK<|gT<|aS<|sL<|lf 2 mJ Z<|aj ac Z<|lf 2 mJ Z<|aj ac Z<|ak Z<|bJ 19 false rfl (by simp)<|Y<|aN Z<|aK<|gT<|aS<|sL<|lf 3 n3 Z<|aj ac Z<|lf 3 n3 Z<|aj ac Z<|ak Z<|bJ 24 false rfl (by simp)<|Y ?_;refine aN Z<|aK<|gT<|aS<|sL<|lf 4 kw Z<|aj ac Z<|lf 4 kw Z<|aj ac Z<|ak Z<|bJ 29 false rfl (by simp)<|Y<|aN Z<|aK<|gT<|aS<|sL<|lf 5 BF Z<|tT jN Z<|lT [2,3,4,31] [2002,2003] ?_;refine lf 5 BF Z<|tT jN Z<|lq (rd (x:=vB _) (G6 rfl rfl rfl underlying4) rfl)<|bJ 34 false rfl (by simp)<|Y<|aN Z<|aK<|gT<|aS<|sL<|lf 6 tV Z<|aj ac Z<|lf 6 tV Z<|aj ac Z<|ak Z<|bJ 39 false rfl (by simp)<|Y<|aN Z<|aK<|gA<|cI Z<|Y<|aR ?_;trivial
theorem WG(x:gz):GC prog 232 [.agg [int x.key,int x.fI,int x.to,int x.af,int x.ay],.agg [int x.key,int x.fI,int x.to,int x.af,int x.ay]] [] (aD true) []:=by
 refine gi 4 func232 rfl ntmps232 rfl ?_;intro L O w0;refine sL<|ab (zX 2002 rfl) Z<|ab (zX 2003 rfl) Z<|ar Z<|Y<|aS<|sL<|lf 0 u9 Z<|aj ac Z<|lf 0 u9 Z<|aj ac Z<|ak Z<|bJ 9 false rfl (by simp)<|Y<|aN Z<|aK<|gT<|aS<|sL<|lf 1 nO Z<|aj ac Z<|lf 1 nO Z<|aj ac Z<|ak Z<|bJ 14 false rfl (by simp) ?_;refine Y<|aN Z<|aK<|gT<|aS<|sL<|lf 2 py Z<|aj ac Z<|lf 2 py Z<|aj ac Z<|ak Z<|bJ 19 false rfl (by simp)<|Y<|aN Z<|aK<|gT<|aS<|sL<|lf 3 lO Z<|aj ac Z<|lf 3 lO Z<|aj ac Z<|ak Z<|bJ 24 false rfl (by simp)<|Y ?_;refine aN Z<|aK<|gT<|aS<|sL<|lf 4 pO Z<|aj ac Z<|lf 4 pO Z<|aj ac Z<|ak Z<|bJ 29 false rfl (by simp)<|Y<|aN Z<|aK<|gA<|cI Z<|Y<|aR ?_;trivial
theorem WH(l:List aO)(hm:l.length<=1000000000):GC prog 144 [.p (.ab 167 3 (ah ct l)),.p (.ab 167 3 (ah ct l))] [] (aD true) []:=by
 refine gi 4 func144 rfl ntmps144 rfl ?_;intro L O w0;refine sL<|ar Z<|Y<|aS<|sL<|bm Z<|ba hZ Z<|bm Z<|ba hZ Z<|ak Z<|bJ 10 false rfl (by simp)<|Y<|aN Z<|aK<|gT<|aS<|sL<|ao Z<|Y<|aB ?_;refine aW [0,1,4] [] (D:=Nat) (fun k=>[(5,int (k:Int))]) (fun k=>[]) (fun k=>k<=l.length) (fun k=>l.length-k) (0) (Nat.zero_le _) ⟨rfl,trivial⟩ trivial ?_;intro k hI;refine aS<|sL<|ae Z<|bm Z<|ba hZ Z<|ak Z<|Y ?_;refine AW.cond rfl ?_ ?_
 ·intro V;refine aK<|gT<|aS<|aB<|aS<|aF []<|pq 0 (iz Z)<|pq 1 (gL (U _ _) Z) ?_;have hk:k<l.length:=by simpa[ap]using V
  refine sq 2 (ri k cV Z (bS hk))<|sq 3 (gm (.agg [U _ _,U _ _,U _ _]) iV Z)<|pq 4 (iz Z)<|vq 5 (dW Z) ?_;have hk:k<l.length:=by simpa[ap]using V
  refine vq 6 (ri k cV Z (bS hk))<|vq 7 (gm (.agg [U _ _,U _ _,U _ _]) iV Z)<|bn 8 Z (zL func233 (WC _) Z) (.inr Z)<|fT [0,1,4,5,25] [] ?_;refine vq 9 (tJ rfl)<|nw 26 false rfl (by simp)<|fD<|gT<|aN Z<|aK<|gB<|gT<|aL<|ae Z<|bg Z<|ao Z<|Y ?_;refine⟨k+1,hk,by omega,⟨(iq rfl),trivial⟩,trivial,rfl,rfl⟩
 intro V;refine aE<|eT<|eT<|eB<|gA<|cI Z<|Y<|aR ?_;trivial
theorem NO(l:List aV)(hm:l.length<=1000000000):GC prog 62 [.p (.ab 81 7 (ah fR l)),.p (.ab 81 7 (ah fR l))] [] (aD true) []:=by
 refine gi 4 func62 rfl ntmps62 rfl ?_;intro L O w0;refine sL<|ar Z<|Y<|aS<|sL<|bm Z<|ba jZ Z<|bm Z<|ba jZ Z<|ak Z<|bJ 10 false rfl (by simp)<|Y<|aN Z<|aK<|gT<|aS<|sL<|ao Z<|Y<|aB ?_;refine aW [0,1,4] [] (D:=Nat) (fun k=>[(5,int (k:Int))]) (fun k=>[]) (fun k=>k<=l.length) (fun k=>l.length-k) (0) (Nat.zero_le _) ⟨rfl,trivial⟩ trivial ?_;intro k hI;refine aS<|sL<|ae Z<|bm Z<|ba jZ Z<|ak Z<|Y ?_;refine AW.cond rfl ?_ ?_
 ·intro V;refine aK<|gT<|aS<|aB<|aS<|aF []<|pq 0 (iz Z)<|pq 1 (gL (U _ _) Z) ?_;have hk:k<l.length:=by simpa[ap]using V
  refine sq 2 (ri k jk Z (bS hk))<|sq 3 (gm (.agg [U _ _,U _ _,U _ _,U _ _,U _ _,U _ _,vB _]) dD Z)<|pq 4 (iz Z)<|vq 5 (dW Z) ?_;have hk:k<l.length:=by simpa[ap]using V
  refine vq 6 (ri k jk Z (bS hk))<|vq 7 (gm (.agg [U _ _,U _ _,U _ _,U _ _,U _ _,U _ _,vB _]) dD Z)<|bn 8 Z (zL func145 (WD _) Z) (.inr Z)<|fT [0,1,4,5,25] [] ?_;refine vq 9 (tJ rfl)<|nw 26 false rfl (by simp)<|fD<|gT<|aN Z<|aK<|gB<|gT<|aL<|ae Z<|bg Z<|ao Z<|Y ?_;refine⟨k+1,hk,by omega,⟨(iq rfl),trivial⟩,trivial,rfl,rfl⟩
 intro V;refine aE<|eT<|eT<|eB<|gA<|cI Z<|Y<|aR ?_;trivial
theorem WI(l:List be)(hm:l.length<=1000000000):GC prog 141 [.p (.ab 159 7 (ah aX l)),.p (.ab 159 7 (ah aX l))] [] (aD true) []:=by
 refine gi 4 func141 rfl ntmps141 rfl ?_;intro L O w0;refine sL<|ar Z<|Y<|aS<|sL<|bm Z<|ba kJ Z<|bm Z<|ba kJ Z<|ak Z<|bJ 10 false rfl (by simp)<|Y<|aN Z<|aK<|gT<|aS<|sL<|ao Z<|Y<|aB ?_;refine aW [0,1,4] [] (D:=Nat) (fun k=>[(5,int (k:Int))]) (fun k=>[]) (fun k=>k<=l.length) (fun k=>l.length-k) (0) (Nat.zero_le _) ⟨rfl,trivial⟩ trivial ?_;intro k hI;refine aS<|sL<|ae Z<|bm Z<|ba kJ Z<|ak Z<|Y ?_;refine AW.cond rfl ?_ ?_
 ·intro V;refine aK<|gT<|aS<|aB<|aS<|aF []<|pq 0 (iz Z)<|pq 1 (gL (U _ _) Z) ?_;have hk:k<l.length:=by simpa[ap]using V
  refine sq 2 (ri k cz Z (bS hk))<|sq 3 (gm (.agg [U _ _,U _ _,U _ _,U _ _,U _ _,U _ _,U _ _]) fF Z)<|pq 4 (iz Z)<|vq 5 (dW Z) ?_;have hk:k<l.length:=by simpa[ap]using V
  refine vq 6 (ri k cz Z (bS hk))<|vq 7 (gm (.agg [U _ _,U _ _,U _ _,U _ _,U _ _,U _ _,U _ _]) fF Z)<|bn 8 Z (zL func230 (WE _) Z) (.inr Z)<|fT [0,1,4,5,25] [] ?_;refine vq 9 (tJ rfl)<|nw 26 false rfl (by simp)<|fD<|gT<|aN Z<|aK<|gB<|gT<|aL<|ae Z<|bg Z<|ao Z<|Y ?_;refine⟨k+1,hk,by omega,⟨(iq rfl),trivial⟩,trivial,rfl,rfl⟩
 intro V;refine aE<|eT<|eT<|eB<|gA<|cI Z<|Y<|aR ?_;trivial
theorem WJ(l:List eV)(hm:l.length<=1000000000):GC prog 142 [.p (.ab 218 7 (ah go l)),.p (.ab 218 7 (ah go l))] [] (aD true) []:=by
 refine gi 4 func142 rfl ntmps142 rfl ?_;intro L O w0;refine sL<|ar Z<|Y<|aS<|sL<|bm Z<|ba jb Z<|bm Z<|ba jb Z<|ak Z<|bJ 10 false rfl (by simp)<|Y<|aN Z<|aK<|gT<|aS<|sL<|ao Z<|Y<|aB ?_;refine aW [0,1,4] [] (D:=Nat) (fun k=>[(5,int (k:Int))]) (fun k=>[]) (fun k=>k<=l.length) (fun k=>l.length-k) (0) (Nat.zero_le _) ⟨rfl,trivial⟩ trivial ?_;intro k hI;refine aS<|sL<|ae Z<|bm Z<|ba jb Z<|ak Z<|Y ?_;refine AW.cond rfl ?_ ?_
 ·intro V;refine aK<|gT<|aS<|aB<|aS<|aF []<|pq 0 (iz Z)<|pq 1 (gL (U _ _) Z) ?_;have hk:k<l.length:=by simpa[ap]using V
  refine sq 2 (ri k f7 Z (bS hk))<|sq 3 (gm (.agg [U _ _,U _ _,U _ _,U _ _,U _ _,vB _,U _ _]) kZ Z)<|pq 4 (iz Z)<|vq 5 (dW Z) ?_;have hk:k<l.length:=by simpa[ap]using V
  refine vq 6 (ri k f7 Z (bS hk))<|vq 7 (gm (.agg [U _ _,U _ _,U _ _,U _ _,U _ _,vB _,U _ _]) kZ Z)<|bn 8 Z (zL func231 (WF _) Z) (.inr Z)<|fT [0,1,4,5,25] [] ?_;refine vq 9 (tJ rfl)<|nw 26 false rfl (by simp)<|fD<|gT<|aN Z<|aK<|gB<|gT<|aL<|ae Z<|bg Z<|ao Z<|Y ?_;refine⟨k+1,hk,by omega,⟨(iq rfl),trivial⟩,trivial,rfl,rfl⟩
 intro V;refine aE<|eT<|eT<|eB<|gA<|cI Z<|Y<|aR ?_;trivial
theorem WK(l:List gz)(hm:l.length<=1000000000):GC prog 143 [.p (.ab 220 5 (ah iX l)),.p (.ab 220 5 (ah iX l))] [] (aD true) []:=by
 refine gi 4 func143 rfl ntmps143 rfl ?_;intro L O w0;refine sL<|ar Z<|Y<|aS<|sL<|bm Z<|ba j7 Z<|bm Z<|ba j7 Z<|ak Z<|bJ 10 false rfl (by simp)<|Y<|aN Z<|aK<|gT<|aS<|sL<|ao Z<|Y<|aB ?_;refine aW [0,1,4] [] (D:=Nat) (fun k=>[(5,int (k:Int))]) (fun k=>[]) (fun k=>k<=l.length) (fun k=>l.length-k) (0) (Nat.zero_le _) ⟨rfl,trivial⟩ trivial ?_;intro k hI;refine aS<|sL<|ae Z<|bm Z<|ba j7 Z<|ak Z<|Y ?_;refine AW.cond rfl ?_ ?_
 ·intro V;refine aK<|gT<|aS<|aB<|aS<|aF []<|pq 0 (iz Z)<|pq 1 (gL (U _ _) Z) ?_;have hk:k<l.length:=by simpa[ap]using V
  refine sq 2 (ri k iI Z (bS hk))<|sq 3 (gm (.agg [U _ _,U _ _,U _ _,U _ _,U _ _]) l5 Z)<|pq 4 (iz Z)<|vq 5 (dW Z) ?_;have hk:k<l.length:=by simpa[ap]using V
  refine vq 6 (ri k iI Z (bS hk))<|vq 7 (gm (.agg [U _ _,U _ _,U _ _,U _ _,U _ _]) l5 Z)<|bn 8 Z (zL func232 (WG _) Z) (.inr Z)<|fT [0,1,4,5,25] [] ?_;refine vq 9 (tJ rfl)<|nw 26 false rfl (by simp)<|fD<|gT<|aN Z<|aK<|gB<|gT<|aL<|ae Z<|bg Z<|ao Z<|Y ?_;refine⟨k+1,hk,by omega,⟨(iq rfl),trivial⟩,trivial,rfl,rfl⟩
 intro V;refine aE<|eT<|eT<|eB<|gA<|cI Z<|Y<|aR ?_;trivial

abbrev Io(d:du):AV:=.agg [.p (.ab 202 1 (oS d.cells)),.p (.ab 204 2 (oT d.bu))]
abbrev NQ(l:uW):AV:=.agg [.p (.ab 202 1 (oS l.bT.cells)),.p (.ab 204 2 (oT l.bT.bu)),int l.next,int l.dP]
theorem WL(b:List Int)(hl:b.length<=1048576):GC prog 238 [gV b] [] (.own 1) [(1,iT b)]:=by
 refine gi 2 func238 rfl ntmps238 rfl ?_;intro L O w0;refine sL<|e9 Z<|nA<|bm Z<|ba kE Z<|ab (uq 1 (m:=b.length) rfl rfl (by decide) fh ie rfl rfl rfl ?hn1 ?hn2 (Nat.le_trans (Nat.mul_le_mul_right _ mu) (by omega)) (by grind[maxLen])) rfl ?_;case hn1=>rw[ap]
 case hn2=>rw[ap]
 refine bD Z<|Y<|aS<|sL<|ao Z<|Y<|aB ?_;refine aW [0,2,3] [] (D:=Nat) (fun k=>[(4,int (k:Int))]) (fun k=>[(1,.ai 5 1 (fill (ah dF b) [.v (.int .u8 0)] k))]) (fun k=>k<=b.length) (fun k=>b.length-k) (0) (Nat.zero_le _) ⟨rfl,trivial⟩ ⟨(congrArg (fun q=>AO.ai 5 1 q) (by rw[Ai,ap];rfl)),trivial⟩ ?_;intro k hI;refine aS<|sL<|ae Z<|bm Z<|ba kE Z<|ak Z<|Y ?_;refine AW.cond rfl ?_ ?_
 ·intro V;refine aK<|gT<|aS<|aB ?_;have hk:k<b.length:=by have h:=V;simp only[ap,decide_eq_true_eq]at h;omega
  refine aL<|bW Z<|ae Z<|bm Z<|ae Z<|li k fh rfl (bS hk)<|oy tf Z<|lq (rj k fh rfl (by grind[Ak]))<|ab (zQ 1 [.v (.int .u8 b[k])] Vs Vt rfl (Al (by grind))) Z<|lT [0,2,3,4] [1] ?_;refine lN<|gB<|gT<|aL<|ae Z<|bg Z<|ao Z<|Y ?_;refine⟨k+1,hk,by omega,⟨(iq rfl),trivial⟩,⟨(Eq.trans (b:=AO.ai 5 1 ((fill (ah dF b) [.v (.int .u8 0)] k).set k ((dF b[k]).map PV.v))) rfl (congrArg (fun q=>AO.ai 5 1 q) (Am (bS hk)))),trivial⟩,rfl,rfl⟩
 intro V;refine aE<|eT<|eT<|eB<|gA<|bW Z<|bD Z<|Y<|aR ?_;refine ax ?_ ⟨(congrArg (fun q=>AO.ai 5 1 q) (by have h:=V;simp only[ap,decide_eq_false_iff_not]at h;rw[show k=(ah dF b).length by rw[ap];omega,Aj])),trivial⟩;rfl
theorem NR(b:List Int)(hl:b.length<=1048576):GN prog 238 [gV b] [] [] (L9 5 1 (ah dF b)):=(WL b hl).TT yg
def WM(c:Cell):AV->List (Nat×AO)->List AO->Prop:=fun y l1 F1=>∃u,y=.agg [.p (.v u)]/\l1=[]/\F1=[qX u c.bytes]
def WN(c:gq):AV->List (Nat×AO)->List AO->Prop:=fun y l1 F1=>∃u,y=.agg [int c.at_,.p (.v u)]/\l1=[]/\F1=[qX u c.bytes]
theorem WO{vs:List Value}{n k:Nat}{z c:List PV}(hv:vs.length=k)(hk:k<n):(oR vs++List.replicate (n-k) z).set k c=oR vs++[c]++List.replicate (n-(k+1)) z:=by
 rw[List.set_append_right _ _ (by rw[Ao];omega),Ao,hv,Nat.sub_self,show n-k=(n-(k+1))+1 by omega,List.replicate_succ,List.set_cons_zero,List.append_assoc];rfl
theorem WP{vs:List Value}{ws:List gq}{n k:Nat}{z c:List PV}(hv:(lW vs ws).length=k)(hk:k<n):(lW vs ws++List.replicate (n-k) z).set k c=lW vs ws++[c]++List.replicate (n-(k+1)) z:=by
 rw[List.set_append_right _ _ (by omega),hv,Nat.sub_self,show n-k=(n-(k+1))+1 by omega,List.replicate_succ,List.set_cons_zero,List.append_assoc];rfl
theorem WQ(c:Cell)(hl:c.bytes.length<=1048576):GN prog 170 [.agg [gV c.bytes]] [] ([]) (WM c):=by
 refine GN.intro (rs:=[.cell 2 195 (some 1)]) func170 rfl ntmps170 (Nat.le_of_ble_eq_true rfl) ⟨rfl,rfl,zn,trivial⟩ rfl ?_;intro L O w0;refine sL<|ab (zX 2001 Z) Z<|ab (zA 2002 CB Z) Z<|nA<|ab (zA 2003 CB Z) Z<|nA<|lf 0 NH Z<|bo kb Z ?_;refine A1 (A2 (F:=[]) [] [] [] ([]).length func238 (NR c.bytes hl) ki List.drop_length List.take_length (Nat.le_refl _) ((by simp)) (fun _ _ _ _=>trivial) rfl rfl) rfl ?_;rintro _ _ ⟨xz1,oz1,Fz1,fa,hF1,hM1,rfl,rfl⟩;obtain⟨u1,rfl,rfl,rfl⟩:=fa;have E7:dS ([]++[qX u1 c.bytes]):=dS.gJ (by grind[dS.nil]) hF1;refine lf 0 uB Z<|ab (zB 2003 Ih Ii Z) Z<|nA<|aP (.agg [vV _]) zn Z<|ab (zB 2002 E2 E3 Z) Z<|Y<|aR ?_;skip;refine vW (F1:=([]++[qX u1 c.bytes])) (.agg [.p (.v u1)]) ([]) ?_ (by simp) rfl rfl trivial ki;exact⟨u1,rfl,rfl,rfl⟩
theorem WS(c:gq)(hl:c.bytes.length<=1048576):GN prog 171 [.agg [int c.at_,gV c.bytes]] [] ([]) (WN c):=by
 refine GN.intro (rs:=[.cell 2 192 (some 2)]) func171 rfl ntmps171 (Nat.le_of_ble_eq_true rfl) ⟨rfl,rfl,AY,trivial⟩ rfl ?_;intro L O w0;refine sL<|ab (zX 2001 Z) Z<|ab (zA 2002 CA Z) Z<|nA<|ab (zA 2003 CA Z) Z<|nA<|lf 0 VU Z<|aj ac Z<|lf 0 xG Z<|ab (zB 2003 ca cb Z) Z<|nA<|lf 1 NJ Z<|bo kb Z ?_;refine A1 (A2 (F:=[]) [] [] [] ([]).length func238 (NR c.bytes hl) ki List.drop_length List.take_length (Nat.le_refl _) ((by simp)) (fun _ _ _ _=>trivial) rfl rfl) rfl ?_;rintro _ _ ⟨xz1,oz1,Fz1,fa,hF1,hM1,rfl,rfl⟩;obtain⟨u1,rfl,rfl,rfl⟩:=fa;have E7:dS ([]++[qX u1 c.bytes]):=dS.gJ (by grind[dS.nil]) hF1;refine lf 1 zm Z<|ab (zB 2003 Ih Ii Z) Z<|nA<|aP (.agg [U _ _,vV _]) AY Z<|ab (zB 2002 E0 E1 Z) Z ?_;refine xH (([]++[qX u1 c.bytes])) [2] [2001,2002,2003] ?_;refine Y<|aR ?_;skip;refine vW (F1:=([]++[qX u1 c.bytes])) (.agg [int c.at_,.p (.v u1)]) ([]) ?_ (by simp) rfl rfl trivial ki;exact⟨u1,rfl,rfl,rfl⟩
def WT(cs:List Cell):AV->List (Nat×AO)->List AO->Prop:=fun y l1 F1=>∃vs:List Value,vs.length=cs.length/\y=.own 1/\l1=[(1,.ai 195 1 (oR vs))]/\F1=fY vs (l9 cs)
def WU(ws:List gq):AV->List (Nat×AO)->List AO->Prop:=fun y l1 F1=>∃vs:List Value,vs.length=ws.length/\y=.own 1/\l1=[(1,.ai 192 2 (lW vs ws))]/\F1=fY vs (oQ ws)
theorem WV(cs:List Cell)(hm:cs.length<=1048576)(hb:∀c∈cs,c.bytes.length<=1048576):GN prog 83 [.p (.ab 202 1 (oS cs))] [] ([]) (WT cs):=by
 refine GN.intro (rs:=[.tmp 2]) func83 rfl ntmps83 (Nat.le_of_ble_eq_true rfl) ⟨rfl,trivial⟩ rfl ?_;intro L O w0;refine sL<|e9 Z<|nA<|bm Z<|ba EU Z ?_;refine dC 6 (int (cs.length:Int)) (congrArg (fun n:Nat=>int (n:Int)) (fU _)) ?_;refine ab (uq 1 (m:=cs.length) rfl rfl (by decide) xE CB rfl rfl rfl rfl rfl (Nat.le_trans (Nat.mul_le_mul_right _ VT) (by omega)) (by grind[maxLen])) Z<|bD Z<|Y<|aS<|sL<|ao Z<|Y<|aB ?_;refine E8 (D:=Nat×List Value) [(0,vL _ _ _),(2,vV _),(3,.own _)] [] (fun a=>[(4,int (a.1:Int))]) (fun a=>[(1,.ai 195 1 (oR a.2++List.replicate (cs.length-a.1) [PV.v (.slice none 0 0)]))]) (fun a=>fY a.2 (l9 (cs.take a.1))) (fun a=>a.1<=cs.length/\a.2.length=a.1) (fun a=>cs.length-a.1) ((0,[])) (⟨Nat.zero_le _,rfl⟩) ⟨rfl,trivial⟩ ⟨rfl,trivial⟩ ⟨rfl,rfl,rfl,trivial⟩ trivial (by rw[List.take_zero];exact ki) ?_;intro ⟨k,vs⟩ hI;obtain⟨eN,gl⟩:=hI;replace eN:k<=cs.length:=eN;replace gl:vs.length=k:=gl;have ke:dS (fY vs (l9 (cs.take k))):=Ap;have jC:(fY vs (l9 (cs.take k))).length=k:=by rw[Aa (by grind),List.length_map,List.length_take];omega
 refine aS<|sL<|ae Z<|bm Z<|ba EU Z ?_;refine dC 10 (int (cs.length:Int)) (congrArg (fun n:Nat=>int (n:Int)) (fU _)) ?_;refine ak Z<|Y ?_;refine AW.cond rfl ?_ ?_
 ·intro V;refine aK<|gT<|aS<|aB ?_;have hk:k<cs.length:=by have h:=V;simp only[decide_eq_true_eq]at h;omega
  refine aL<|bW Z<|ae Z<|bm Z<|ae Z<|li k M8 Z (vw hk)<|d6 (.agg [vL _ _ _]) NG Z ?_;refine A1 (A2 (F:=fY vs (l9 (cs.take k))) [] [] [] (fY vs (l9 (cs.take k))).length func170 (WQ cs[k] (hb _ (List.getElem_mem hk))) ki List.drop_length List.take_length (Nat.le_refl _) ((by omega)) (fun _ _ _ _=>trivial) rfl rfl) rfl ?_;rintro _ _ ⟨xz1,oz1,Fz1,fa,hF1,hM1,rfl,rfl⟩;obtain⟨u1,rfl,rfl,rfl⟩:=fa;have E7:dS (fY vs (l9 (cs.take k))++[qX u1 cs[k].bytes]):=dS.gJ (by omega) hF1;refine xH ((fY vs (l9 (cs.take k))++[qX u1 cs[k].bytes])) [0,2,3,4,14,15,20] [1] ?_;refine lq (rj k xE rfl (by grind[Ao]))<|ab (zQ 1 [.v u1] E2 E3 rfl ((show (oR vs++List.replicate (cs.length-k) [PV.v (.slice none 0 0)])[k]? = _ by rw[List.getElem?_append_right (by rw[Ao];omega),Ao,gl,Nat.sub_self,List.getElem?_replicate,if_pos (by omega)]))) Z<|lN<|gB<|gT<|aL<|ae Z<|bg Z<|ao Z<|Y ?_;refine⟨(k+1,vs++[u1]),⟨hk,by grind⟩,by omega,⟨(iq rfl),trivial⟩,⟨(Eq.trans (b:=AO.ai 195 1 ((oR vs++List.replicate (cs.length-k) [PV.v (.slice none 0 0)]).set k [.v u1])) rfl (congrArg (AO.ai 195 1) (by rw[WO gl hk,TG]))),trivial⟩,⟨rfl,rfl,rfl,trivial⟩,trivial,(by rw[Sy hk gl];exact ki)⟩
 intro V;refine aE<|eT<|eT<|eB<|gT<|aS ?_;have dZ:k=cs.length:=by have h:=V;simp only[decide_eq_false_iff_not]at h;omega
 subst dZ;rw[List.take_length]at ke jC ⊢;refine AW.obj 1 (.ai 195 1 (oR vs)) (congrArg (AO.ai 195 1) (by simp)) ?_;refine aL<|bW Z<|bD Z<|Y<|aR ?_;skip;refine vW (F1:=(fY vs (l9 cs))) (.own 1) ([(1,.ai 195 1 (oR vs))]) ?_ (by omega) rfl rfl ⟨rfl,trivial⟩ ki;exact⟨vs,gl,rfl,rfl,rfl⟩
theorem WW(ws:List gq)(hm:ws.length<=1048576)(hb:∀c∈ws,c.bytes.length<=1048576):GN prog 84 [.p (.ab 204 2 (oT ws))] [] ([]) (WU ws):=by
 refine GN.intro (rs:=[.tmp 2]) func84 rfl ntmps84 (Nat.le_of_ble_eq_true rfl) ⟨rfl,trivial⟩ rfl ?_;intro L O w0;refine sL<|e9 Z<|nA<|bm Z<|ba EV Z ?_;refine dC 6 (int (ws.length:Int)) (congrArg (fun n:Nat=>int (n:Int)) (pH _)) ?_;refine ab (uq 1 (m:=ws.length) rfl rfl (by decide) uz CA rfl rfl rfl rfl rfl (Nat.le_trans (Nat.mul_le_mul_right _ VS) (by omega)) (by grind[maxLen])) Z<|bD Z<|Y<|aS<|sL<|ao Z<|Y<|aB ?_;refine E8 (D:=Nat×List Value) [(0,vL _ _ _),(2,vV _),(3,.own _)] [] (fun a=>[(4,int (a.1:Int))]) (fun a=>[(1,.ai 192 2 (lW a.2 (ws.take a.1)++List.replicate (ws.length-a.1) [PV.v (.int .i64 0),PV.v (.slice none 0 0)]))]) (fun a=>[]++fY a.2 (oQ (ws.take a.1))) (fun a=>a.1<=ws.length/\a.2.length=a.1) (fun a=>ws.length-a.1) ((0,[])) (⟨Nat.zero_le _,rfl⟩) ⟨rfl,trivial⟩ ⟨rfl,trivial⟩ ⟨rfl,rfl,rfl,trivial⟩ trivial (by rw[List.take_zero];exact ki) ?_;intro ⟨k,vs⟩ hI;obtain⟨eN,gl⟩:=hI;replace eN:k<=ws.length:=eN;replace gl:vs.length=k:=gl;have ke:dS ([]++fY vs (oQ (ws.take k))):=dS.gJ dS.nil Ap;have vX:=SC gl eN;have jC:([]++fY vs (oQ (ws.take k))).length=k:=by rw[List.nil_append,Aa (by grind),List.length_map,List.length_take];omega
 refine aS<|sL<|ae Z<|bm Z<|ba EV Z ?_;refine dC 10 (int (ws.length:Int)) (congrArg (fun n:Nat=>int (n:Int)) (pH _)) ?_;refine ak Z<|Y ?_;refine AW.cond rfl ?_ ?_
 ·intro V;refine aK<|gT<|aS<|aB ?_;have hk:k<ws.length:=by have h:=V;simp only[decide_eq_true_eq]at h;omega
  refine aL<|bW Z<|ae Z<|bm Z<|ae Z<|li k M' Z (td hk)<|d6 (.agg [U _ _,vL _ _ _]) NI Z ?_;refine A1 (A2 (F:=([]++fY vs (oQ (ws.take k)))) [] [] [] (([]++fY vs (oQ (ws.take k)))).length func171 (WS ws[k] (hb _ (List.getElem_mem hk))) ki List.drop_length List.take_length (Nat.le_refl _) ((by omega)) (fun _ _ _ _=>trivial) rfl rfl) rfl ?_;rintro _ _ ⟨xz1,oz1,Fz1,fa,hF1,hM1,rfl,rfl⟩;obtain⟨u1,rfl,rfl,rfl⟩:=fa;have E7:dS (([]++fY vs (oQ (ws.take k)))++[qX u1 ws[k].bytes]):=dS.gJ (by omega) hF1;refine xH ((([]++fY vs (oQ (ws.take k)))++[qX u1 ws[k].bytes])) [0,2,3,4,14,15,20] [1] ?_;refine lq (rj k uz rfl (by grind))<|ab (zQ 1 [.v (.int .i64 ws[k].at_),.v u1] E0 E1 rfl ((show (lW vs (ws.take k)++List.replicate (ws.length-k) [PV.v (.int .i64 0),PV.v (.slice none 0 0)])[k]? = _ by rw[List.getElem?_append_right (by omega),vX,Nat.sub_self,List.getElem?_replicate,if_pos (by omega)]))) Z<|lN<|gB<|gT<|aL<|ae Z<|bg Z<|ao Z<|Y ?_;refine⟨(k+1,vs++[u1]),⟨hk,by grind⟩,by omega,⟨(iq rfl),trivial⟩,⟨(Eq.trans (b:=AO.ai 192 2 ((lW vs (ws.take k)++List.replicate (ws.length-k) [PV.v (.int .i64 0),PV.v (.slice none 0 0)]).set k [.v (.int .i64 ws[k].at_),.v u1])) rfl (congrArg (AO.ai 192 2) (by grind[WP,SA]))),trivial⟩,⟨rfl,rfl,rfl,trivial⟩,trivial,(by rw[Sz (A:=[]) hk gl];exact ki)⟩
 intro V;refine aE<|eT<|eT<|eB<|gT<|aS ?_;have dZ:k=ws.length:=by have h:=V;simp only[decide_eq_false_iff_not]at h;omega
 subst dZ;rw[List.take_length,List.nil_append]at ke jC;rw[List.take_length,List.nil_append];refine AW.obj 1 (.ai 192 2 (lW vs ws)) (congrArg (AO.ai 192 2) (by simp)) ?_;refine aL<|bW Z<|bD Z<|Y<|aR ?_;skip;refine vW (F1:=(fY vs (oQ ws))) (.own 1) ([(1,.ai 192 2 (lW vs ws))]) ?_ (by omega) rfl rfl ⟨rfl,trivial⟩ ki;exact⟨vs,gl,rfl,rfl,rfl⟩
theorem WX(d:du)(hz:vU d):GN prog 28 [Io d] [] ([]) (La d):=by
 refine GN.intro (rs:=[.cell 2 43 (some 2)]) func28 rfl ntmps28 (Nat.le_of_ble_eq_true rfl) ⟨rfl,rfl,mE,trivial⟩ rfl ?_;intro L O w0;refine sL<|ab (zX 2001 Z) Z<|ab (zA 2002 Du Z) Z<|nA<|ab (zA 2003 Du Z) Z<|nA<|lf 0 Nb Z<|bo M7 Z ?_;refine A1 (A2 (F:=[]) [(1,1)] [1] [] ([]).length func83 (WV d.cells hz.lc hz.bc) ki List.drop_length List.take_length (Nat.le_refl _) ((by simp)) (fun _ _ _ _=>trivial) rfl rfl) rfl ?_;rintro _ _ ⟨xz1,oz1,Fz1,fa,hF1,hM1,rfl,rfl⟩;obtain⟨vs,gl,rfl,rfl,rfl⟩:=fa;have E7:dS ([]++fY vs (l9 d.cells)):=dS.gJ (by grind[dS.nil]) hF1;refine lf 0 n9 Z<|ab (zB 2003 VF VG Z) Z<|Y<|aS ?_;rw[List.nil_append];have abs:dS (fY vs (l9 d.cells)):=Ap;have oF:=hz.lc;have hlw:=hz.lw;have jC:(fY vs (l9 d.cells)).length=d.cells.length:=by rw[Aa (by grind),List.length_map]
 refine aL<|lf 1 Nc Z<|bo M9 Z ?_;refine A1 (A2 (F:=(fY vs (l9 d.cells))) [(1,2)] [2] [] ((fY vs (l9 d.cells))).length func84 (WW d.bu hz.lw hz.bw) ki List.drop_length List.take_length (Nat.le_refl _) ((by omega)) (fun _ _ _ _=>trivial) rfl rfl) rfl ?_;rintro _ _ ⟨xz2,oz2,Fz2,hz2,hF2,hM2,rfl,rfl⟩;obtain⟨us,NS,rfl,rfl,rfl⟩:=hz2;have abt:dS ((fY vs (l9 d.cells))++fY us (oQ d.bu)):=dS.gJ (by omega) hF2;refine lf 1 ru Z<|ab (zB 2003 VH VI Z) Z<|nA<|aP (.agg [.own _,.own _]) mE Z<|ab (zB 2002 Dv Dw Z) Z ?_;refine xH (((fY vs (l9 d.cells))++fY us (oQ d.bu))) [2] [1,2,2001,2002,2003] ?_;refine Y<|aR ?_;have abu:dS (sY vs us d):=TJ;refine vW (F1:=(sY vs us d)) (Gn) (DS vs us d) ?_ (by grind[SD]) rfl rfl ⟨rfl,rfl,trivial⟩ ki;exact⟨vs,us,gl,NS,rfl,rfl,rfl⟩
theorem NT(b:List Int)(v:Int)(v0:0<=v)(v1:v<=1048576)(hb:b.length<=9223372036854775807):GC prog 235 [gV b,int v] [] (int (pP b.length v)) []:=by
 refine gi 4 func235 rfl ntmps235 rfl ?_;intro L O w0;refine sL<|ao Z<|nA<|ae Z<|bm Z<|ba kE Z ?_;refine eo rfl ⟨rfl,ce (by grind[ap,i64])⟩<|ao Z<|Y<|aS<|sL<|ae Z<|ak Z<|Y ?_;refine AW.cond rfl ?_ ?_
 ·intro V;refine sL<|ao Z<|Y<|aR<|rT ?_;unfold pP;refine ax ?_ trivial;have h:=V;rw[ap]at *;simp only[decide_eq_true_eq,decide_eq_false_iff_not]at h;first|rw[if_pos h]|rw[if_neg h]
  try rfl
 intro V;refine aK<|gA<|ae Z<|ao Z<|Y<|aR ?_;unfold pP;refine ax ?_ trivial;have h:=V;rw[ap]at *;simp only[decide_eq_true_eq,decide_eq_false_iff_not]at h;first|rw[if_pos h]|rw[if_neg h]
 try rfl
theorem WY(c:Cell)(v:Int)(v0:0<=v)(v1:v<=1048576)(hb:c.bytes.length<=9223372036854775807):GC prog 162 [.agg [gV c.bytes],int v] [] (int (pP c.bytes.length v)) []:=by
 refine gi 4 func162 rfl ntmps162 rfl ?_;intro L O w0;refine sL<|ab (zX 2002 Z) Z<|ao Z<|nA<|lf 0 NH Z<|bo kb Z<|ae Z<|ab (zL func235 (NT c.bytes v v0 v1 hb) Z) Z<|ao Z<|Y<|aS<|sL<|ae Z<|ak Z<|Y ?_;refine AW.cond rfl ?_ ?_
 ·intro V;refine sL<|ao Z<|Y<|aR<|rT ?_;have h:=V;refine ax ?_ trivial;unfold pP at h ⊢;first|(split at h<;>simp only[decide_eq_true_eq,decide_eq_false_iff_not]at h<;>first|omega|(rename_i q;first|rw[if_pos q]|rw[if_neg q];try rfl))
  try rfl
 intro V;refine aK<|gA<|ae Z<|ao Z<|Y<|aR ?_;trivial
theorem WZ(c:gq)(v:Int)(v0:0<=v)(v1:v<=1048576)(hb:c.bytes.length<=9223372036854775807):GC prog 163 [.agg [int c.at_,gV c.bytes],int v] [] (int (pP c.bytes.length v)) []:=by
 refine gi 4 func163 rfl ntmps163 rfl ?_;intro L O w0;refine sL<|ab (zX 2002 Z) Z<|ao Z<|nA<|lf 1 NJ Z<|bo kb Z<|ae Z<|ab (zL func235 (NT c.bytes v v0 v1 hb) Z) Z<|ao Z<|Y<|aS<|sL<|ae Z<|ak Z<|Y ?_;refine AW.cond rfl ?_ ?_
 ·intro V;refine sL<|ao Z<|Y<|aR<|rT ?_;have h:=V;refine ax ?_ trivial;unfold pP at h ⊢;first|(split at h<;>simp only[decide_eq_true_eq,decide_eq_false_iff_not]at h<;>first|omega|(rename_i q;first|rw[if_pos q]|rw[if_neg q];try rfl))
  try rfl
 intro V;refine aK<|gA<|ae Z<|ao Z<|Y<|aR ?_;trivial
theorem W0(cs:List Cell)(l:Int)(l1:-1<=l)(l2:l<=1048576)(hm:cs.length<=9223372036854775807)(hb:∀c∈cs,c.bytes.length<=9223372036854775807):GC prog 79 [.p (.ab 202 1 (oS cs)),int l] [] (int (ow cs l)) []:=by
 refine gi 4 func79 rfl ntmps79 rfl ?_;intro L O w0;refine sL<|ao Z<|nA<|ae Z<|bm Z<|ba EU Z ?_;refine dC 8 (int (cs.length:Int)) (congrArg (fun n:Nat=>int (n:Int)) (fU _)) ?_;refine bg Z<|ao Z<|Y<|aS<|sL<|ae Z<|ak Z<|Y ?_;refine AW.cond rfl ?_ ?_
 ·intro V;refine sL<|ao Z<|Y<|aR<|rT ?_;have dY:l-(cs.length:Int)<0:=by have h:=V;simpa using h
  refine ax ?_ trivial;unfold ow;rw[if_pos dY];try rfl
 intro V;refine aK<|gT<|aS<|aS ?_;have dY:¬l-(cs.length:Int)<0:=by have h:=V;simpa using h
 refine aL<|ao Z<|Y<|aB ?_;refine aW [0,4] [] (D:=Nat×Int) (fun a=>[(5,int (a.1:Int)),(1,int a.2)]) (fun a=>[]) (fun a=>a.1<=cs.length/\0<=a.2/\a.2<=1048576/\nq uD (cs.drop a.1) a.2=nq uD cs (l-(cs.length:Int))) (fun a=>cs.length-a.1) ((0,l-(cs.length:Int))) (⟨Nat.zero_le _,by omega,by omega,rfl⟩) ⟨rfl,rfl,trivial⟩ trivial ?_;intro ⟨k,v⟩ hI;obtain⟨eN,rZ,vC,pJ⟩:=hI;replace eN:k<=cs.length:=eN;replace rZ:0<=v:=rZ;replace vC:v<=1048576:=vC;replace pJ:nq uD (cs.drop k) v=nq uD cs (l-(cs.length:Int)):=pJ;refine aS<|sL<|ae Z<|bm Z<|ba EU Z ?_;refine dC 14 (int (cs.length:Int)) (congrArg (fun n:Nat=>int (n:Int)) (fU _)) ?_;refine ak Z<|Y ?_;refine AW.cond rfl ?_ ?_
 ·intro h2;refine aK<|gT<|aS<|aB<|aS ?_;have hk:k<cs.length:=by have h:=h2;simp only[decide_eq_true_eq]at h;omega
  have jr:=hb _ (List.getElem_mem hk);refine aL<|bm Z<|ae Z<|li k M8 Z (vw hk)<|d6 (.agg [vL _ _ _]) NG Z<|ae Z<|ab (zL func162 (WY cs[k] v rZ vC jr) Z) Z<|lT [0,1,4,5,23] [] ?_;refine ao Z<|nA<|ae Z<|ak Z<|Y ?_;refine AW.cond rfl ?_ ?_
  ·intro h3;refine sL<|ao Z<|Y<|aR<|rB<|rT<|rT<|rB<|rT ?_;have hq:v-(cs[k].bytes.length:Int)<0:=by have h:=h3;unfold pP at h;split at h<;>simp only[decide_eq_true_eq]at h<;>omega
   refine ax ?_ trivial;unfold ow;rw[if_neg dY,<-pJ,E5 hk,if_pos hq];try rfl
  intro h3;refine aK<|gB<|gT ?_;have hq:0<=v-(cs[k].bytes.length:Int):=by have h:=h3;unfold pP at h;split at h<;>simp only[decide_eq_false_iff_not]at h<;>omega
  have gR:pP cs[k].bytes.length v=v-(cs[k].bytes.length:Int):=if_neg (by omega);refine aL<|ae Z<|bg Z<|ao Z<|Y ?_;refine⟨(k+1,v-(cs[k].bytes.length:Int)),⟨hk,hq,by omega,by simp_all[E5,if_neg]⟩,by omega,⟨(iq rfl),(Eq.trans (b:=int _) rfl (congrArg int gR)),trivial⟩,trivial,rfl,rfl⟩
 intro h2;refine aE<|eT<|eT<|eB<|gA<|ae Z<|ao Z<|Y<|aR ?_;have dZ:k=cs.length:=by have h:=h2;simp only[decide_eq_false_iff_not]at h;omega
 refine ax ?_ trivial;unfold ow;rw[if_neg dY,<-pJ,dZ,List.drop_length];try rfl
theorem W1(ws:List gq)(l:Int)(l1:-1<=l)(l2:l<=1048576)(hm:ws.length<=9223372036854775807)(hb:∀c∈ws,c.bytes.length<=9223372036854775807):GC prog 80 [.p (.ab 204 2 (oT ws)),int l] [] (int (sl ws l)) []:=by
 refine gi 4 func80 rfl ntmps80 rfl ?_;intro L O w0;refine sL<|ao Z<|nA<|ae Z<|bm Z<|ba EV Z ?_;refine dC 8 (int (ws.length:Int)) (congrArg (fun n:Nat=>int (n:Int)) (pH _)) ?_;refine bg Z<|ao Z<|Y<|aS<|sL<|ae Z<|ak Z<|Y ?_;refine AW.cond rfl ?_ ?_
 ·intro V;refine sL<|ao Z<|Y<|aR<|rT ?_;have dY:l-(ws.length:Int)<0:=by have h:=V;simpa using h
  refine ax ?_ trivial;unfold sl;rw[if_pos dY];try rfl
 intro V;refine aK<|gT<|aS<|aS ?_;have dY:¬l-(ws.length:Int)<0:=by have h:=V;simpa using h
 refine aL<|ao Z<|Y<|aB ?_;refine aW [0,4] [] (D:=Nat×Int) (fun a=>[(5,int (a.1:Int)),(1,int a.2)]) (fun a=>[]) (fun a=>a.1<=ws.length/\0<=a.2/\a.2<=1048576/\nq uE (ws.drop a.1) a.2=nq uE ws (l-(ws.length:Int))) (fun a=>ws.length-a.1) ((0,l-(ws.length:Int))) (⟨Nat.zero_le _,by omega,by omega,rfl⟩) ⟨rfl,rfl,trivial⟩ trivial ?_;intro ⟨k,v⟩ hI;obtain⟨eN,rZ,vC,pJ⟩:=hI;replace eN:k<=ws.length:=eN;replace rZ:0<=v:=rZ;replace vC:v<=1048576:=vC;replace pJ:nq uE (ws.drop k) v=nq uE ws (l-(ws.length:Int)):=pJ;refine aS<|sL<|ae Z<|bm Z<|ba EV Z ?_;refine dC 14 (int (ws.length:Int)) (congrArg (fun n:Nat=>int (n:Int)) (pH _)) ?_;refine ak Z<|Y ?_;refine AW.cond rfl ?_ ?_
 ·intro h2;refine aK<|gT<|aS<|aB<|aS ?_;have hk:k<ws.length:=by have h:=h2;simp only[decide_eq_true_eq]at h;omega
  have jr:=hb _ (List.getElem_mem hk);refine aL<|bm Z<|ae Z<|li k M' Z (td hk)<|d6 (.agg [U _ _,vL _ _ _]) NI Z<|ae Z<|ab (zL func163 (WZ ws[k] v rZ vC jr) Z) Z<|lT [0,1,4,5,23] [] ?_;refine ao Z<|nA<|ae Z<|ak Z<|Y ?_;refine AW.cond rfl ?_ ?_
  ·intro h3;refine sL<|ao Z<|Y<|aR<|rB<|rT<|rT<|rB<|rT ?_;have hq:v-(ws[k].bytes.length:Int)<0:=by have h:=h3;unfold pP at h;split at h<;>simp only[decide_eq_true_eq]at h<;>omega
   refine ax ?_ trivial;unfold sl;rw[if_neg dY,<-pJ,E5 hk,if_pos hq];try rfl
  intro h3;refine aK<|gB<|gT ?_;have hq:0<=v-(ws[k].bytes.length:Int):=by have h:=h3;unfold pP at h;split at h<;>simp only[decide_eq_false_iff_not]at h<;>omega
  have gR:pP ws[k].bytes.length v=v-(ws[k].bytes.length:Int):=if_neg (by omega);refine aL<|ae Z<|bg Z<|ao Z<|Y ?_;refine⟨(k+1,v-(ws[k].bytes.length:Int)),⟨hk,hq,by omega,by simp_all[E5,if_neg]⟩,by omega,⟨(iq rfl),(Eq.trans (b:=int _) rfl (congrArg int gR)),trivial⟩,trivial,rfl,rfl⟩
 intro h2;refine aE<|eT<|eT<|eB<|gA<|ae Z<|ao Z<|Y<|aR ?_;have dZ:k=ws.length:=by have h:=h2;simp only[decide_eq_false_iff_not]at h;omega
 refine ax ?_ trivial;unfold sl;rw[if_neg dY,<-pJ,dZ,List.drop_length];try rfl
theorem W2(d:du)(l:Int)(l1:-1<=l)(l2:l<=1048576)(lr:d.cells.length<=9223372036854775807)(Ip:∀c∈d.cells,c.bytes.length<=9223372036854775807)(Iq:d.bu.length<=9223372036854775807)(Ir:∀c∈d.bu,c.bytes.length<=9223372036854775807):GC prog 26 [Io d,int l] [] (int (qu d l)) []:=by
 refine gi 4 func26 rfl ntmps26 rfl ?_;intro L O w0;refine sL<|ab (zX 2002 Z) Z<|ao Z<|nA<|lf 0 Nb Z<|bo M7 Z<|ae Z<|ab (zL func79 (W0 d.cells l l1 l2 lr Ip) Z) Z<|ao Z<|Y<|aS<|sL<|ae Z<|ak Z<|Y ?_;refine AW.cond rfl ?_ ?_
 ·intro V;refine sL<|ao Z<|Y<|aR<|rT ?_;have V:=V;simp only[decide_eq_true_eq]at V;refine ax ?_ trivial;unfold qu;rw[if_pos V];try rfl
 intro V;refine aK<|gT<|aS ?_;have dY:¬ow d.cells l<0:=by have h:=V;simpa using h
 refine aL<|lf 1 Nc Z<|bo M9 Z<|ae Z<|ab (zL func80 (W1 d.bu (ow d.cells l) (Wp _ _) (by have:=Im (cs:=d.cells) (l:=l) (by omega);omega) Iq Ir) rfl) Z<|lT [1,4,14] [2002] ?_;refine ao Z<|Y<|aS<|sL<|ae Z<|ak Z<|Y ?_;refine AW.cond rfl ?_ ?_
 ·intro h2;refine sL<|ao Z<|Y<|aR<|rT ?_;have V:=h2;simp only[decide_eq_true_eq]at V;have h3:=In d.bu (ow d.cells l);refine ax ?_ trivial;unfold qu;rw[if_neg dY,show sl d.bu (ow d.cells l)=-1 by omega];try rfl
 intro h2;refine aK<|gA<|ae Z<|ao Z<|Y<|aR ?_;skip;refine ax ?_ trivial;unfold qu;rw[if_neg dY];try rfl
theorem W3(d:du)(l:Int):-1<=qu d l:=by
 unfold qu;split;all_goals simp[In]
theorem W4(d:uW)(l:Int)(l1:-1<=l)(l2:l<=1048576)(lr:d.bT.cells.length<=9223372036854775807)(Ip:∀c∈d.bT.cells,c.bytes.length<=9223372036854775807)(Iq:d.bT.bu.length<=9223372036854775807)(Ir:∀c∈d.bT.bu,c.bytes.length<=9223372036854775807):GC prog 45 [NQ d,int l] [] (int (qu d.bT l)) []:=by
 refine gi 4 func45 rfl ntmps45 rfl ?_;intro L O w0;refine sL<|ab (zX 2002 Z) Z<|ao Z<|nA<|lf 0 Nf Z<|aP (.agg [vL _ _ _,vL _ _ _]) Na Z<|ae Z<|ab (zL func26 (W2 d.bT l l1 l2 lr Ip Iq Ir) Z) Z<|ao Z<|Y<|aS<|sL<|ae Z<|ak Z<|Y ?_;refine AW.cond rfl ?_ ?_
 ·intro V;refine sL<|ao Z<|Y<|aR<|rT ?_;have V:=V;simp only[decide_eq_true_eq]at V;have h2:=W3 d.bT l;refine ax ?_ trivial;rw[show qu d.bT l=-1 by omega];try rfl
 intro V;refine aK<|gA<|ae Z<|ao Z<|Y<|aR ?_;trivial
theorem NU(b:List Int)(hm:b.length<=1000000000):GC prog 234 [gV b,gV b] [] (aD true) []:=by
 refine gi 4 func234 rfl ntmps234 rfl ?_;intro L O w0;refine sL<|ar Z<|Y<|aS<|sL<|bm Z<|ba kE Z<|bm Z<|ba kE Z<|ak Z<|bJ 10 false rfl (by simp)<|Y<|aN Z<|aK<|gT<|aS<|sL<|ao Z<|Y<|aB ?_;refine aW [0,1,4] [] (D:=Nat) (fun k=>[(5,int (k:Int))]) (fun k=>[]) (fun k=>k<=b.length) (fun k=>b.length-k) (0) (Nat.zero_le _) ⟨rfl,trivial⟩ trivial ?_;intro k hI;refine aS<|sL<|ae Z<|bm Z<|ba kE Z<|ak Z<|Y ?_;refine AW.cond rfl ?_ ?_
 ·intro V;refine aK<|gT<|aS<|aB<|aS<|aF []<|pq 0 (iz Z)<|pq 1 (gL (U _ _) Z) ?_;have hk:k<b.length:=by have h:=V;simp only[ap,decide_eq_true_eq]at h;omega
  refine sq 2 (ri k fh rfl (bS hk))<|sq 3 (qU tf rfl)<|pq 4 (iz rfl)<|vq 5 (dW rfl)<|vq 6 (ri k fh rfl (bS hk))<|vq 7 (qU tf rfl)<|vq 8 (dt rfl)<|nw 25 false rfl (by simp)<|fD<|gT<|aN Z<|aK<|gB<|gT<|aL<|ae Z<|bg Z<|ao Z<|Y ?_;refine⟨k+1,hk,by omega,⟨(iq rfl),trivial⟩,trivial,rfl,rfl⟩
 intro V;refine aE<|eT<|eT<|eB<|gA<|cI Z<|Y<|aR ?_;trivial
theorem W5(c:Cell)(hm:c.bytes.length<=1000000000):GC prog 158 [.agg [gV c.bytes],.agg [gV c.bytes]] [] (aD true) []:=by
 refine gi 4 func158 rfl ntmps158 rfl ?_;intro L O w0;refine sL<|ab (zX 2002 rfl) Z<|ab (zX 2003 rfl) Z<|ar Z<|Y<|aS<|sL<|lf 0 uB Z<|bo kb Z<|lf 0 uB Z<|bo kb Z<|ab (zL func234 (NU _ (by omega)) rfl) Z<|ma Z<|bJ 10 false rfl (by simp)<|Y<|aN Z<|aK<|gA<|cI Z<|Y<|aR ?_;trivial
theorem W6(c:gq)(hm:c.bytes.length<=1000000000):GC prog 159 [.agg [int c.at_,gV c.bytes],.agg [int c.at_,gV c.bytes]] [] (aD true) []:=by
 refine gi 4 func159 rfl ntmps159 rfl ?_;intro L O w0;refine sL<|ab (zX 2002 rfl) Z<|ab (zX 2003 rfl) Z<|ar Z<|Y<|aS<|sL<|lf 0 xG Z<|aj ac Z<|lf 0 xG Z<|aj ac Z<|ak Z<|bJ 9 false rfl (by simp)<|Y<|aN Z<|aK<|gT<|aS<|sL<|lf 1 zm Z<|bo kb Z<|lf 1 zm Z<|bo kb Z<|ab (zL func234 (NU _ (by omega)) rfl) Z<|ma rfl ?_;refine bJ 15 false rfl (by simp)<|Y<|aN Z<|aK<|gA<|cI Z<|Y<|aR ?_;trivial
theorem W7(cs:List Cell)(hm:cs.length<=1000000000)(hb:∀c∈cs,c.bytes.length<=1000000000):GC prog 73 [.p (.ab 195 1 (oS cs)),.p (.ab 195 1 (oS cs))] [] (aD true) []:=by
 refine gi 4 func73 rfl ntmps73 rfl ?_;intro L O w0;refine sL<|ar Z<|Y<|aS<|sL<|bm Z<|ba po Z ?_;refine dC 7 (int (cs.length:Int)) (congrArg (fun n:Nat=>int (n:Int)) (fU _)) ?_;refine bm Z<|ba po Z ?_;refine dC 9 (int (cs.length:Int)) (congrArg (fun n:Nat=>int (n:Int)) (fU _)) ?_;refine ak Z<|bJ 10 false rfl (by simp)<|Y<|aN Z<|aK<|gT<|aS<|sL<|ao Z<|Y<|aB ?_;refine aW [0,1,4] [] (D:=Nat) (fun k=>[(5,int (k:Int))]) (fun k=>[]) (fun k=>k<=cs.length) (fun k=>cs.length-k) (0) (Nat.zero_le _) ⟨rfl,trivial⟩ trivial ?_;intro k hI;refine aS<|sL<|ae Z<|bm Z<|ba po Z ?_;refine dC 13 (int (cs.length:Int)) (congrArg (fun n:Nat=>int (n:Int)) (fU _)) ?_;refine ak Z<|Y ?_;refine AW.cond rfl ?_ ?_
 ·intro V;refine aK<|gT<|aS<|aB<|aS ?_;have hk:k<cs.length:=by have h:=V;simp only[decide_eq_true_eq]at h;omega
  refine aF []<|pq 0 (iz Z)<|pq 1 (gL (U _ _) Z)<|sq 2 (ri k xE Z (vw hk))<|sq 3 (gm (.agg [vL _ _ _]) zn Z)<|pq 4 (iz Z)<|vq 5 (dW Z)<|vq 6 (ri k xE Z (vw hk))<|vq 7 (gm (.agg [vL _ _ _]) zn Z)<|bn 8 Z (zL func158 (W5 cs[k] (hb _ (List.getElem_mem hk))) Z) (.inr Z)<|fT [0,1,4,5,25] [] ?_;refine vq 9 (tJ rfl)<|nw 26 false rfl (by simp)<|fD<|gT<|aN Z<|aK<|gB<|gT<|aL<|ae Z<|bg Z<|ao Z<|Y ?_;refine⟨k+1,hk,by omega,⟨(iq rfl),trivial⟩,trivial,rfl,rfl⟩
 intro V;refine aE<|eT<|eT<|eB<|gA<|cI Z<|Y<|aR ?_;trivial
theorem W8(cs:List gq)(hm:cs.length<=1000000000)(hb:∀c∈cs,c.bytes.length<=1000000000):GC prog 74 [.p (.ab 192 2 (oT cs)),.p (.ab 192 2 (oT cs))] [] (aD true) []:=by
 refine gi 4 func74 rfl ntmps74 rfl ?_;intro L O w0;refine sL<|ar Z<|Y<|aS<|sL<|bm Z<|ba vT Z ?_;refine dC 7 (int (cs.length:Int)) (congrArg (fun n:Nat=>int (n:Int)) (pH _)) ?_;refine bm Z<|ba vT Z ?_;refine dC 9 (int (cs.length:Int)) (congrArg (fun n:Nat=>int (n:Int)) (pH _)) ?_;refine ak Z<|bJ 10 false rfl (by simp)<|Y<|aN Z<|aK<|gT<|aS<|sL<|ao Z<|Y<|aB ?_;refine aW [0,1,4] [] (D:=Nat) (fun k=>[(5,int (k:Int))]) (fun k=>[]) (fun k=>k<=cs.length) (fun k=>cs.length-k) (0) (Nat.zero_le _) ⟨rfl,trivial⟩ trivial ?_;intro k hI;refine aS<|sL<|ae Z<|bm Z<|ba vT Z ?_;refine dC 13 (int (cs.length:Int)) (congrArg (fun n:Nat=>int (n:Int)) (pH _)) ?_;refine ak Z<|Y ?_;refine AW.cond rfl ?_ ?_
 ·intro V;refine aK<|gT<|aS<|aB<|aS ?_;have hk:k<cs.length:=by have h:=V;simp only[decide_eq_true_eq]at h;omega
  refine aF []<|pq 0 (iz Z)<|pq 1 (gL (U _ _) Z)<|sq 2 (ri k uz Z (td hk))<|sq 3 (gm (.agg [U _ _,vL _ _ _]) AY Z)<|pq 4 (iz Z)<|vq 5 (dW Z)<|vq 6 (ri k uz Z (td hk))<|vq 7 (gm (.agg [U _ _,vL _ _ _]) AY Z)<|bn 8 Z (zL func159 (W6 cs[k] (hb _ (List.getElem_mem hk))) Z) (.inr Z)<|fT [0,1,4,5,25] [] ?_;refine vq 9 (tJ rfl)<|nw 26 false rfl (by simp)<|fD<|gT<|aN Z<|aK<|gB<|gT<|aL<|ae Z<|bg Z<|ao Z<|Y ?_;refine⟨k+1,hk,by omega,⟨(iq rfl),trivial⟩,trivial,rfl,rfl⟩
 intro V;refine aE<|eT<|eT<|eB<|gA<|cI Z<|Y<|aR ?_;trivial
structure Is(d:du):Prop where
 lc:d.cells.length<=1000000000
 lw:d.bu.length<=1000000000
 bc:∀c∈d.cells,c.bytes.length<=1000000000
 bw:∀w∈d.bu,w.bytes.length<=1000000000
theorem vU.e{d:du}(h:vU d):Is d:=⟨Nat.le_trans h.lc (by decide),Nat.le_trans h.lw (by decide),fun c hc=>Nat.le_trans (h.bc c hc) (by decide),fun c hc=>Nat.le_trans (h.bw c hc) (by decide)⟩
theorem W9(d:du)(he:Is d):GC prog 21 [mt d,mt d] [] (aD true) []:=by
 refine gi 4 func21 rfl ntmps21 rfl ?_;intro L O w0;refine sL<|ab (zX 2002 rfl) Z<|ab (zX 2003 rfl) Z<|ar Z<|Y<|aS<|sL<|lf 0 n9 Z<|bo oB Z<|lf 0 n9 Z<|bo oB Z<|ab (zL func73 (W7 d.cells he.lc he.bc) rfl) Z<|ma Z<|bJ 10 false rfl (by simp)<|Y<|aN Z<|aK<|gT<|aS<|sL<|lf 1 ru Z<|bo sk Z<|lf 1 ru Z<|bo sk Z<|ab (zL func74 (W8 d.bu he.lw he.bw) rfl) rfl ?_;refine lT [4,15] [2002,2003] ?_;refine ma Z<|bJ 16 false rfl (by simp)<|Y<|aN Z<|aK<|gA<|cI Z<|Y<|aR ?_;trivial
theorem Xa(d:uW)(he:Is d.bT):GC prog 59 [G9 d,G9 d] [] (aD true) []:=by
 refine gi 4 func59 rfl ntmps59 rfl ?_;intro L O w0;refine sL<|ab (zX 2002 rfl) Z<|ab (zX 2003 rfl) Z<|ar Z<|Y<|aS<|sL<|lf 0 Bv Z<|aP (.agg [vL _ _ _,vL _ _ _]) mE Z<|lf 0 Bv Z<|aP (.agg [vL _ _ _,vL _ _ _]) mE Z<|ab (zL func21 (W9 d.bT he) rfl) Z<|ma Z<|bJ 10 false rfl (by simp)<|Y<|aN Z<|aK<|gT<|aS<|sL<|lf 2 wD Z<|aj ac Z<|lf 2 wD Z<|aj ac Z<|ak rfl ?_;refine bJ 15 false rfl (by simp)<|Y<|aN Z<|aK<|gT<|aS<|sL<|lf 3 zW Z<|aj ac Z<|lf 3 zW Z<|aj ac Z<|ak Z<|bJ 20 false rfl (by simp)<|Y<|aN Z<|aK<|gA<|cI Z<|Y<|aR ?_;trivial
structure Xb(d:du):Prop where
 lc:d.cells.length<=100000000
 lw:d.bu.length<=100000000
 cc:mT uD d.cells<=100000000
 cw:mT E6 d.bu<=100000000
theorem vU.m{d:du}(h:vU d):Xb d:=⟨Nat.le_trans h.lc (by decide),Nat.le_trans h.lw (by decide),Int.le_trans h.cc (by decide),Int.le_trans h.cw (by decide)⟩

theorem Xc(d:du)(hz:vU d):GC prog 28 [Io d] [] (mt d) []:=SE (WX d hz)
theorem sn{n:Nat}{l:Int}(h:l<=1048576):-1<=kj n l/\kj n l<=1048576:=by grind[kj]
theorem NV{l:Int}{k:Int->Int}(hl:l<=1048576)(hk:∀m,m<=1048576->-1<=k m/\k m<=1048576):-1<=jG l k/\jG l k<=1048576:=by
 grind[jG]
def vY(x:aw)(l:Int):Int:=jG (kj x.ag.length l) fun l=>jG (kj x.an.length l) fun l=>jG (kj x.aq.length l) fun l=>l
def xI(x:cH)(l:Int):Int:=jG (kj x.lines.length l) fun l=>l
def vZ(h:mm)(l:Int):Int:=jG (qu h.log.bT l) fun l=>jG (vY h.book l) fun l=>jG (xI h.ia l) fun l=>jG (kj h.wait.length l) fun l=>jG (kj h.f9.length l) fun l=>l
theorem zo{x:aw}{l:Int}(h:l<=1048576):-1<=vY x l/\vY x l<=1048576:=NV (sn h).2 fun m h=>NV (sn h).2 fun m h=>by
 unfold jG;have:=sn (n:=x.aq.length) h;grind
theorem CE{x:cH}{l:Int}(h:l<=1048576):-1<=xI x l/\xI x l<=1048576:=by
 unfold xI jG;have:=sn (n:=x.lines.length) h;grind
theorem v8{d:du}{l:Int}(h:l<=1048576):-1<=qu d l/\qu d l<=1048576:=by
 unfold qu;split
 ·omega
 have V:=Im (cs:=d.cells) (l:=l) (by omega);have h2:=In d.bu (ow d.cells l);refine⟨h2,?_⟩;by_cases q:0<=sl d.bu (ow d.cells l)
 ·have:=NK q;omega
 omega
structure E9(h:mm):Prop where
 d:vU h.log.bT
 lc:h.book.ag.length<=1048576
 lh:h.book.an.length<=1048576
 li:h.book.aq.length<=1048576
 ll:h.ia.lines.length<=1048576
 lw:h.wait.length<=1048576
 ls:h.f9.length<=1048576
theorem Xd{h:mm}(q:0<=vZ h 1048576):E9 h:=by
 unfold vZ at q;obtain⟨a0,a1,_⟩:=wa q;obtain⟨b0,b1,_⟩:=wa a1;obtain⟨c0,c1,_⟩:=wa b1;obtain⟨d0,d1,_⟩:=wa c1;obtain⟨e0,e1,_⟩:=wa d1;have b2:=b0;have c2:=c0;unfold vY at b2;obtain⟨p0,p1,_⟩:=wa b2;obtain⟨q0,q1,_⟩:=wa p1;obtain⟨r0,r1,_⟩:=wa q1;unfold xI at c2;obtain⟨s0,s1,_⟩:=wa c2;have k1:=(v8 (d:=h.log.bT) (l:=1048576) (by omega)).2;have k2:=(zo (x:=h.book) k1).2;have k3:=(CE (x:=h.ia) k2).2;have m1:=A3 _ _ p0;have m2:=A3 _ _ q0;have m3:=A3 _ _ r0;have m4:=A3 _ _ s0;have m5:=A3 _ _ d0;have m6:=A3 _ _ e0;exact⟨Wq a0,by omega,by omega,by omega,by omega,by omega,by omega⟩
abbrev NW(x:aw):AV:=.agg [int x.tick,int x.next,int x.aA,.p (.ab 254 7 (ah aX x.ag)),.p (.ab 256 7 (ah go x.an)),.p (.ab 258 5 (ah iX x.aq))]
abbrev NX(l:cH):AV:=.agg [int l.last,.p (.ab 262 3 (ah ct l.lines))]
abbrev E'(h:mm):AV:=.agg [.p (.ab 202 1 (oS h.log.bT.cells)),.p (.ab 204 2 (oT h.log.bT.bu)),int h.log.next,int h.log.dP,int h.book.tick,int h.book.next,int h.book.aA,.p (.ab 254 7 (ah aX h.book.ag)),.p (.ab 256 7 (ah go h.book.an)),.p (.ab 258 5 (ah iX h.book.aq)),int h.ia.last,.p (.ab 262 3 (ah ct h.ia.lines)),.p (.ab 181 7 (ah fR h.wait)),.p (.ab 181 7 (ah fR h.f9))]
theorem Xe(es:List be)(l:Int)(l1:-1<=l)(l2:l<=1048576)(hm:es.length<=9223372036854775807):GC prog 127 [.p (.ab 254 7 (ah aX es)),int l] [] (int (kj es.length l)) []:=by
 refine gi 4 func127 rfl ntmps127 rfl ?_;intro L O w0;refine sL<|ao Z<|nA<|ae Z<|bm Z<|ba Ib Z ?_;refine eo rfl ⟨rfl,ce (by grind[ap,i64])⟩<|ao Z<|Y<|aS<|sL<|ae Z<|ak Z<|Y ?_;refine AW.cond rfl ?_ ?_
 ·intro V;refine sL<|ao Z<|Y<|aR<|rT ?_;unfold kj;refine ax ?_ trivial;have h:=V;rw[ap]at *;simp only[decide_eq_true_eq,decide_eq_false_iff_not]at h;first|rw[if_pos h]|rw[if_neg h]
  try rfl
 intro V;refine aK<|gA<|ae Z<|ao Z<|Y<|aR ?_;unfold kj;refine ax ?_ trivial;have h:=V;rw[ap]at *;simp only[decide_eq_true_eq,decide_eq_false_iff_not]at h;first|rw[if_pos h]|rw[if_neg h]
 try rfl
theorem Xf(es:List eV)(l:Int)(l1:-1<=l)(l2:l<=1048576)(hm:es.length<=9223372036854775807):GC prog 128 [.p (.ab 256 7 (ah go es)),int l] [] (int (kj es.length l)) []:=by
 refine gi 4 func128 rfl ntmps128 rfl ?_;intro L O w0;refine sL<|ao Z<|nA<|ae Z<|bm Z<|ba Ic Z ?_;refine eo rfl ⟨rfl,ce (by grind[ap,i64])⟩<|ao Z<|Y<|aS<|sL<|ae Z<|ak Z<|Y ?_;refine AW.cond rfl ?_ ?_
 ·intro V;refine sL<|ao Z<|Y<|aR<|rT ?_;unfold kj;refine ax ?_ trivial;have h:=V;rw[ap]at *;simp only[decide_eq_true_eq,decide_eq_false_iff_not]at h;first|rw[if_pos h]|rw[if_neg h]
  try rfl
 intro V;refine aK<|gA<|ae Z<|ao Z<|Y<|aR ?_;unfold kj;refine ax ?_ trivial;have h:=V;rw[ap]at *;simp only[decide_eq_true_eq,decide_eq_false_iff_not]at h;first|rw[if_pos h]|rw[if_neg h]
 try rfl
theorem Xg(es:List gz)(l:Int)(l1:-1<=l)(l2:l<=1048576)(hm:es.length<=9223372036854775807):GC prog 129 [.p (.ab 258 5 (ah iX es)),int l] [] (int (kj es.length l)) []:=by
 refine gi 4 func129 rfl ntmps129 rfl ?_;intro L O w0;refine sL<|ao Z<|nA<|ae Z<|bm Z<|ba Id Z ?_;refine eo rfl ⟨rfl,ce (by grind[ap,i64])⟩<|ao Z<|Y<|aS<|sL<|ae Z<|ak Z<|Y ?_;refine AW.cond rfl ?_ ?_
 ·intro V;refine sL<|ao Z<|Y<|aR<|rT ?_;unfold kj;refine ax ?_ trivial;have h:=V;rw[ap]at *;simp only[decide_eq_true_eq,decide_eq_false_iff_not]at h;first|rw[if_pos h]|rw[if_neg h]
  try rfl
 intro V;refine aK<|gA<|ae Z<|ao Z<|Y<|aR ?_;unfold kj;refine ax ?_ trivial;have h:=V;rw[ap]at *;simp only[decide_eq_true_eq,decide_eq_false_iff_not]at h;first|rw[if_pos h]|rw[if_neg h]
 try rfl
theorem Xh(es:List aO)(l:Int)(l1:-1<=l)(l2:l<=1048576)(hm:es.length<=9223372036854775807):GC prog 130 [.p (.ab 262 3 (ah ct es)),int l] [] (int (kj es.length l)) []:=by
 refine gi 4 func130 rfl ntmps130 rfl ?_;intro L O w0;refine sL<|ao Z<|nA<|ae Z<|bm Z<|ba Ie Z ?_;refine eo rfl ⟨rfl,ce (by grind[ap,i64])⟩<|ao Z<|Y<|aS<|sL<|ae Z<|ak Z<|Y ?_;refine AW.cond rfl ?_ ?_
 ·intro V;refine sL<|ao Z<|Y<|aR<|rT ?_;unfold kj;refine ax ?_ trivial;have h:=V;rw[ap]at *;simp only[decide_eq_true_eq,decide_eq_false_iff_not]at h;first|rw[if_pos h]|rw[if_neg h]
  try rfl
 intro V;refine aK<|gA<|ae Z<|ao Z<|Y<|aR ?_;unfold kj;refine ax ?_ trivial;have h:=V;rw[ap]at *;simp only[decide_eq_true_eq,decide_eq_false_iff_not]at h;first|rw[if_pos h]|rw[if_neg h]
 try rfl
theorem NY(es:List aV)(l:Int)(l1:-1<=l)(l2:l<=1048576)(hm:es.length<=9223372036854775807):GC prog 48 [.p (.ab 181 7 (ah fR es)),int l] [] (int (kj es.length l)) []:=by
 refine gi 4 func48 rfl ntmps48 rfl ?_;intro L O w0;refine sL<|ao Z<|nA<|ae Z<|bm Z<|ba If Z ?_;refine eo rfl ⟨rfl,ce (by grind[ap,i64])⟩<|ao Z<|Y<|aS<|sL<|ae Z<|ak Z<|Y ?_;refine AW.cond rfl ?_ ?_
 ·intro V;refine sL<|ao Z<|Y<|aR<|rT ?_;unfold kj;refine ax ?_ trivial;have h:=V;rw[ap]at *;simp only[decide_eq_true_eq,decide_eq_false_iff_not]at h;first|rw[if_pos h]|rw[if_neg h]
  try rfl
 intro V;refine aK<|gA<|ae Z<|ao Z<|Y<|aR ?_;unfold kj;refine ax ?_ trivial;have h:=V;rw[ap]at *;simp only[decide_eq_true_eq,decide_eq_false_iff_not]at h;first|rw[if_pos h]|rw[if_neg h]
 try rfl
theorem Xi(x:aw)(l:Int)(l1:-1<=l)(l2:l<=1048576)(hc:x.ag.length<=9223372036854775807)(hh:x.an.length<=9223372036854775807)(hi:x.aq.length<=9223372036854775807):GC prog 46 [NW x,int l] [] (int (vY x l)) []:=by
 refine gi 4 func46 rfl ntmps46 rfl ?_;intro L O w0;refine sL<|ab (zX 2002 Z) Z<|ao Z<|nA<|lf 3 Nk Z<|bo Ng Z<|ae Z<|ab (zL func127 (Xe x.ag l l1 l2 hc) Z) Z<|ao Z<|Y<|aS<|sL<|ae Z<|ak Z<|Y ?_;refine AW.cond rfl ?_ ?_
 ·intro V;refine sL<|ao Z<|Y<|aR<|rT ?_;refine ax ?_ trivial;refine congrArg (fun n=>some (int n)) ?_;simp_all[vY,jG]
 intro V;refine aK<|gA<|lf 4 Nl Z<|bo Nh Z<|ae Z<|ab (zL func128 (Xf x.an _ (sn l2).1 (sn l2).2 hh) Z) Z<|lT [1,2,4,14] [2002] ?_;refine ao Z<|Y<|aS<|sL<|ae Z<|ak Z<|Y ?_;refine AW.cond rfl ?_ ?_
 ·intro h2;refine sL<|ao Z<|Y<|aR<|rT ?_;refine ax ?_ trivial;refine congrArg (fun n=>some (int n)) ?_;simp_all[vY,jG]
 intro h2;refine aK<|gA<|lf 5 Nm Z<|bo Ni Z<|ae Z<|ab (zL func129 (Xg x.aq _ (sn (sn l2).2).1 (sn (sn l2).2).2 hi) Z) Z<|ao Z<|Y<|aS<|sL<|ae Z<|ak Z<|Y ?_;refine AW.cond rfl ?_ ?_
 ·intro h3;refine sL<|ao Z<|Y<|aR<|rT ?_;refine ax ?_ trivial;refine congrArg (fun n=>some (int n)) ?_;simp_all[vY,jG]
 intro h3;refine aK<|gA<|ae Z<|ao Z<|Y<|aR ?_;refine ax ?_ trivial;refine congrArg (fun n=>some (int n)) ?_;simp_all[vY,jG,if_neg]
theorem Xj(x:cH)(l:Int)(l1:-1<=l)(l2:l<=1048576)(hm:x.lines.length<=9223372036854775807):GC prog 47 [NX x,int l] [] (int (xI x l)) []:=by
 refine gi 4 func47 rfl ntmps47 rfl ?_;intro L O w0;refine sL<|ab (zX 2002 Z) Z<|ao Z<|nA<|lf 1 Np Z<|bo Nn Z<|ae Z<|ab (zL func130 (Xh x.lines l l1 l2 hm) Z) Z<|ao Z<|Y<|aS<|sL<|ae Z<|ak Z<|Y ?_;refine AW.cond rfl ?_ ?_
 ·intro V;refine sL<|ao Z<|Y<|aR<|rT ?_;refine ax ?_ trivial;refine congrArg (fun n=>some (int n)) ?_;simp_all[xI,jG]
 intro V;refine aK<|gA<|ae Z<|ao Z<|Y<|aR ?_;refine ax ?_ trivial;refine congrArg (fun n=>some (int n)) ?_;simp_all[xI,jG,if_neg]
structure It(h:mm):Prop where
 mc:h.log.bT.cells.length<=9223372036854775807
 bc:∀c∈h.log.bT.cells,c.bytes.length<=9223372036854775807
 mw:h.log.bT.bu.length<=9223372036854775807
 bw:∀c∈h.log.bT.bu,c.bytes.length<=9223372036854775807
 lc:h.book.ag.length<=9223372036854775807
 lh:h.book.an.length<=9223372036854775807
 li:h.book.aq.length<=9223372036854775807
 ll:h.ia.lines.length<=9223372036854775807
 lw:h.wait.length<=9223372036854775807
 ls:h.f9.length<=9223372036854775807
 db:qK h.log.bT
 wc:∀c∈h.book.ag,qn c
 wh:∀c∈h.book.an,ue c
 wi:∀c∈h.book.aq,vo c
theorem Xk(h:mm)(hk:It h):GC prog 11 [E' h,int 1048576] [] (int (vZ h 1048576)) []:=by
 refine gi 4 func11 rfl ntmps11 rfl ?_;intro L O w0;refine sL<|ab (zX 2002 rfl) Z<|ao Z<|nA<|lf 0 Nq Z<|aP (.agg [vL _ _ _,vL _ _ _,U _ _,U _ _]) Nd Z<|ae Z<|ab (zL func45 (W4 h.log 1048576 (by omega) (by omega) hk.mc hk.bc hk.mw hk.bw) rfl) Z<|ao Z<|Y<|aS<|sL<|ae Z<|ak Z<|Y ?_;refine AW.cond rfl ?_ ?_
 ·intro V;refine sL<|ao Z<|Y<|aR<|rT ?_;refine ax ?_ trivial;refine congrArg (fun n=>some (int n)) ?_;simp_all[vZ,jG]
 intro V;refine aK<|gA<|lf 4 Nr Z<|aP (.agg [U _ _,U _ _,U _ _,vL _ _ _,vL _ _ _,vL _ _ _]) Nj Z<|ae Z<|ab (zL func46 (Xi h.book _ (v8 (d:=h.log.bT) (l:=1048576) (by omega)).1 (v8 (d:=h.log.bT) (l:=1048576) (by omega)).2 hk.lc hk.lh hk.li) rfl) Z<|lT [1,2,4,14] [2002] ?_;refine ao Z<|Y<|aS<|sL<|ae Z<|ak Z<|Y ?_;refine AW.cond rfl ?_ ?_
 ·intro h2;refine sL<|ao Z<|Y<|aR<|rT ?_;refine ax ?_ trivial;refine congrArg (fun n=>some (int n)) ?_;simp_all[vZ,jG]
 intro h2;refine aK<|gA<|lf 10 Ns Z<|aP (.agg [U _ _,vL _ _ _]) No Z<|ae Z<|ab (zL func47 (Xj h.ia _ (zo (x:=h.book) (v8 (d:=h.log.bT) (l:=1048576) (by omega)).2).1 (zo (x:=h.book) (v8 (d:=h.log.bT) (l:=1048576) (by omega)).2).2 hk.ll) rfl) Z<|ao Z<|Y<|aS<|sL<|ae Z<|ak Z<|Y ?_;refine AW.cond rfl ?_ ?_
 ·intro h3;refine sL<|ao Z<|Y<|aR<|rT ?_;refine ax ?_ trivial;refine congrArg (fun n=>some (int n)) ?_;simp_all[vZ,jG]
 intro h3;refine aK<|gA<|lf 12 Nt Z<|bo EW Z<|ae Z<|ab (zL func48 (NY h.wait _ (CE (x:=h.ia) (zo (x:=h.book) (v8 (d:=h.log.bT) (l:=1048576) (by omega)).2).2).1 (CE (x:=h.ia) (zo (x:=h.book) (v8 (d:=h.log.bT) (l:=1048576) (by omega)).2).2).2 hk.lw) rfl) Z<|lT [1,2,4,26] [2002] ?_;refine ao Z<|Y<|aS<|sL<|ae Z<|ak Z<|Y ?_;refine AW.cond rfl ?_ ?_
 ·intro h4;refine sL<|ao Z<|Y<|aR<|rT ?_;refine ax ?_ trivial;refine congrArg (fun n=>some (int n)) ?_;simp_all[vZ,jG]
 intro h4;refine aK<|gA<|lf 13 Nu Z<|bo EW Z<|ae Z<|ab (zL func48 (NY h.f9 _ (sn (n:=h.wait.length) (CE (x:=h.ia) (zo (x:=h.book) (v8 (d:=h.log.bT) (l:=1048576) (by omega)).2).2).2).1 (sn (n:=h.wait.length) (CE (x:=h.ia) (zo (x:=h.book) (v8 (d:=h.log.bT) (l:=1048576) (by omega)).2).2).2).2 hk.ls) rfl) Z<|ao Z<|Y<|aS<|sL<|ae Z<|ak Z<|Y ?_;refine AW.cond rfl ?_ ?_
 ·intro h5;refine sL<|ao Z<|Y<|aR<|rT ?_;refine ax ?_ trivial;refine congrArg (fun n=>some (int n)) ?_;simp_all[vZ,jG]
 intro h5;refine aK<|gA<|ae Z<|ao Z<|Y<|aR ?_;refine ax ?_ trivial;refine congrArg (fun n=>some (int n)) ?_;simp_all[vZ,jG,if_neg]
theorem Xl(d:uW)(hz:vU d.bT):GC prog 51 [NQ d] [] (G9 d) []:=by
 refine GC.intro (rs:=[.cell 2 45 (some 4)]) func51 rfl ntmps51 (Nat.le_of_ble_eq_true rfl) ⟨rfl,rfl,EY,trivial⟩ ?_;intro L O w0;refine sL<|ab (zX 2001 Z) Z<|ab (zA 2002 Nx Z) Z<|nA<|ab (zA 2003 Nx Z) Z<|nA<|lf 0 Nf Z<|aP (.agg [vL _ _ _,vL _ _ _]) Na Z<|ab (zC [] [] [] func28 (Xc d.bT hz) (trivial) Z Z) Z<|lf 0 Bv Z<|ab (zB 2003 Dv Dw Z) Z<|nA<|lf 2 Vu Z<|aj ac Z<|lf 2 wD Z<|ab (zB 2003 ca cb Z) Z<|nA ?_;refine lf 3 Vv Z<|aj ac Z<|lf 3 zW Z<|ab (zB 2003 ca cb Z) Z<|lT [2,3] [2001,2002,2003] ?_;refine nA<|aP (.agg [vL _ _ _,vL _ _ _,U _ _,U _ _]) EY Z<|ab (zB 2002 Nv Nw Z) Z<|Y<|aR ?_;trivial
theorem Xm(x:aw)(hc:x.ag.length<=1048576)(hh:x.an.length<=1048576)(hi:x.aq.length<=1048576):GC prog 52 [NW x] [] (cj x) []:=by
 refine GC.intro (rs:=[.cell 2 50 (some 6)]) func52 rfl ntmps52 (Nat.le_of_ble_eq_true rfl) ⟨rfl,rfl,cu,trivial⟩ ?_;intro L O w0;refine sL<|ab (zX 2001 Z) Z<|ab (zA 2002 mD Z) Z<|nA<|ab (zA 2003 mD Z) Z<|nA<|lf 0 Vz Z<|aj ac Z<|lf 0 mB Z<|ab (zB 2003 ca cb Z) Z<|nA<|lf 1 VA Z<|aj ac Z<|lf 1 mW Z<|ab (zB 2003 ca cb Z) Z<|nA<|lf 2 VB Z ?_;refine aj ac Z<|lf 2 iW Z<|ab (zB 2003 ca cb Z) Z<|lT [1,2,3] [2001,2002,2003] ?_;refine nA<|lf 3 Nk Z<|bo Ng Z<|ab (zC [] [] [] func134 ((Wy x.ag hc).ui) (trivial) Z Z) Z<|lf 3 dr Z<|ab (zB 2003 sM sN Z) Z<|nA<|lf 4 Nl Z<|bo Nh Z<|ab (zC [] [] [] func135 ((Wz x.an hh).ui) (trivial) Z Z) Z<|lf 4 eF Z<|ab (zB 2003 tQ tR Z) Z<|nA<|lf 5 Nm Z<|bo Ni Z<|ab (zC [] [] [] func136 ((WA x.aq hi).ui) (trivial) Z Z) Z<|lf 5 gn Z<|ab (zB 2003 yh yk Z) Z<|lT [2,3] [2001,2002,2003] ?_;refine nA<|aP (.agg [U _ _,U _ _,U _ _,vL _ _ _,vL _ _ _,vL _ _ _]) cu Z<|ab (zB 2002 eu ew Z) Z<|Y<|aR ?_;trivial
theorem Xn(x:cH)(hc:x.lines.length<=1048576):GC prog 53 [NX x] [] (cR x) []:=by
 refine GC.intro (rs:=[.cell 2 53 (some 2)]) func53 rfl ntmps53 (Nat.le_of_ble_eq_true rfl) ⟨rfl,rfl,eZ,trivial⟩ ?_;intro L O w0;refine sL<|ab (zX 2001 Z) Z<|ab (zA 2002 ld Z) Z<|nA<|ab (zA 2003 ld Z) Z<|nA<|lf 0 VD Z<|aj ac Z<|lf 0 pW Z<|ab (zB 2003 ca cb Z) Z<|nA<|lf 1 Np Z<|bo Nn Z<|ab (zC [] [] [] func137 ((Wx x.lines hc).ui) (trivial) Z Z) Z<|lf 1 jY Z<|ab (zB 2003 z8 z' Z) Z<|nA ?_;refine aP (.agg [U _ _,vL _ _ _]) eZ Z<|ab (zB 2002 cA cB Z) Z<|lT [2] [2001,2002,2003] ?_;refine Y<|aR ?_;trivial
theorem Iu(h:mm)(hz:E9 h):GC prog 13 [E' h] [] (Bu h) []:=by
 refine GC.intro (rs:=[.cell 2 56 (some 14)]) func13 rfl ntmps13 (Nat.le_of_ble_eq_true rfl) ⟨rfl,rfl,EZ,trivial⟩ ?_;intro L O w0;refine sL<|ab (zX 2001 Z) Z<|ab (zA 2002 Ig Z) Z<|nA<|ab (zA 2003 Ig Z) Z<|nA<|lf 0 Nq Z<|aP (.agg [vL _ _ _,vL _ _ _,U _ _,U _ _]) Nd Z<|ab (zC [] [] [] func51 (Xl h.log hz.d) (trivial) Z Z) Z<|lf 0 qL Z<|ab (zB 2003 Nv Nw Z) Z<|nA<|lf 4 Nr Z<|aP (.agg [U _ _,U _ _,U _ _,vL _ _ _,vL _ _ _,vL _ _ _]) Nj Z<|ab (zC [] [] [] func52 (Xm h.book hz.lc hz.lh hz.li) (trivial) Z Z) Z<|lf 4 Bw Z<|ab (zB 2003 eu ew Z) Z<|Y<|aS ?_;refine aL<|lf 10 Ns Z<|aP (.agg [U _ _,vL _ _ _]) No Z<|ab (zC [] [] [] func53 (Xn h.ia hz.ll) (trivial) Z Z) Z<|lT [1,2,3,14] [2001,2002,2003] ?_;refine lf 10 Bx Z<|ab (zB 2003 cA cB Z) Z<|nA<|lf 12 Nt Z<|bo EW Z<|ab (zC [] [] [] func54 ((NN h.wait hz.lw).ui) (trivial) Z Z) Z<|lf 12 Bz Z<|ab (zB 2003 Ny Nz Z) Z<|nA<|lf 13 Nu Z<|bo EW Z<|ab (zC [] [] [] func54 ((NN h.f9 hz.ls).ui) (trivial) Z Z) Z<|lf 13 By Z<|ab (zB 2003 Ny Nz Z) Z<|nA<|aP (.agg [vL _ _ _,vL _ _ _,U _ _,U _ _,U _ _,U _ _,U _ _,vL _ _ _,vL _ _ _,vL _ _ _,U _ _,vL _ _ _,vL _ _ _,vL _ _ _]) EZ Z<|ab (zB 2002 NA NB Z) Z<|lT [2] [2001,2002,2003] ?_;refine Y<|aR ?_;trivial
theorem Xo(x:aw)(hc:x.ag.length<=1048576)(hh:x.an.length<=1048576)(hi:x.aq.length<=1048576):GC prog 60 [cj x,cj x] [] (aD true) []:=by
 refine gi 4 func60 rfl ntmps60 rfl ?_;intro L O w0;refine sL<|ab (zX 2002 rfl) Z<|ab (zX 2003 rfl) Z<|ar Z<|Y<|aS<|sL<|lf 0 mB Z<|aj ac Z<|lf 0 mB Z<|aj ac Z<|ak Z<|bJ 9 false rfl (by simp)<|Y<|aN Z<|aK<|gT<|aS<|sL<|lf 1 mW Z<|aj ac Z<|lf 1 mW Z<|aj ac Z<|ak Z<|bJ 14 false rfl (by simp) ?_;refine Y<|aN Z<|aK<|gT<|aS<|sL<|lf 2 iW Z<|aj ac Z<|lf 2 iW Z<|aj ac Z<|ak Z<|bJ 19 false rfl (by simp)<|Y<|aN Z<|aK<|gT<|aS<|sL<|lf 3 dr Z<|bo eg Z<|lf 3 dr Z<|bo eg Z<|ab (zL func141 (WI _ (by omega)) rfl) Z<|lT [2,3,4,24] [2002,2003] ?_;refine ma Z<|bJ 25 false rfl (by simp)<|Y<|aN Z<|aK<|gT<|aS<|sL<|lf 4 eF Z<|bo fS Z<|lf 4 eF Z<|bo fS Z<|ab (zL func142 (WJ _ (by omega)) rfl) Z<|ma Z<|bJ 31 false rfl (by simp)<|Y<|aN Z<|aK<|gT<|aS<|sL<|lf 5 gn Z<|bo ii Z<|lf 5 gn Z<|bo ii Z<|ab (zL func143 (WK _ (by omega)) rfl) rfl ?_;refine ma Z<|bJ 37 false rfl (by simp)<|Y<|aN Z<|aK<|gA<|cI Z<|Y<|aR ?_;trivial
theorem Xp(x:cH)(hc:x.lines.length<=1048576):GC prog 61 [cR x,cR x] [] (aD true) []:=by
 refine gi 4 func61 rfl ntmps61 rfl ?_;intro L O w0;refine sL<|ab (zX 2002 rfl) Z<|ab (zX 2003 rfl) Z<|ar Z<|Y<|aS<|sL<|lf 0 pW Z<|aj ac Z<|lf 0 pW Z<|aj ac Z<|ak Z<|bJ 9 false rfl (by simp)<|Y<|aN Z<|aK<|gT<|aS<|sL<|lf 1 jY Z<|bo gY Z<|lf 1 jY Z<|bo gY Z<|ab (zL func144 (WH _ (by omega)) rfl) Z<|ma rfl ?_;refine bJ 15 false rfl (by simp)<|Y<|aN Z<|aK<|gA<|cI Z<|Y<|aR ?_;trivial
theorem Xq(h:mm)(hz:E9 h):GC prog 15 [Bu h,Bu h] [] (aD true) []:=by
 refine gi 4 func15 rfl ntmps15 rfl ?_;intro L O w0;refine sL<|ab (zX 2002 rfl) Z<|ab (zX 2003 rfl) Z<|ar Z<|Y<|aS<|sL<|lf 0 qL Z<|aP (.agg [vL _ _ _,vL _ _ _,U _ _,U _ _]) EY Z<|lf 0 qL Z<|aP (.agg [vL _ _ _,vL _ _ _,U _ _,U _ _]) EY Z<|ab (zL func59 (Xa h.log hz.d.e) rfl) Z<|ma Z<|bJ 10 false rfl (by simp)<|Y<|aN Z<|aK<|gT<|aS<|sL<|lf 4 Bw Z<|aP (.agg [U _ _,U _ _,U _ _,vL _ _ _,vL _ _ _,vL _ _ _]) cu Z<|lf 4 Bw Z<|aP (.agg [U _ _,U _ _,U _ _,vL _ _ _,vL _ _ _,vL _ _ _]) cu Z<|ab (zL func60 (Xo h.book hz.lc hz.lh hz.li) rfl) rfl ?_;refine lT [2,3,4,15] [2002,2003] ?_;refine ma Z<|bJ 16 false rfl (by simp)<|Y<|aN Z<|aK<|gT<|aS<|sL<|lf 10 Bx Z<|aP (.agg [U _ _,vL _ _ _]) eZ Z<|lf 10 Bx Z<|aP (.agg [U _ _,vL _ _ _]) eZ Z<|ab (zL func61 (Xp h.ia hz.ll) rfl) Z<|ma Z<|bJ 22 false rfl (by simp)<|Y<|aN Z<|aK<|gT<|aS<|sL<|lf 12 Bz Z<|bo tE Z<|lf 12 Bz Z<|bo tE Z<|ab (zL func62 (NO h.wait (by have:=hz.lw;have:=hz.ls;omega)) rfl) rfl ?_;refine ma Z<|bJ 28 false rfl (by simp)<|Y<|aN Z<|aK<|gT<|aS<|sL<|lf 13 By Z<|bo tE Z<|lf 13 By Z<|bo tE Z<|ab (zL func62 (NO h.f9 (by have:=hz.lw;have:=hz.ls;omega)) rfl) Z<|lT [4,33] [2002,2003] ?_;refine ma Z<|bJ 34 false rfl (by simp)<|Y<|aN Z<|aK<|gA<|cI Z<|Y<|aR ?_;trivial

theorem Xr(h:mm)(hk:It h):GC prog 6 [E' h] [] (aD true) []:=by
 refine gi 2 func6 rfl ntmps6 rfl ?_;intro L O w0;refine sL<|ab (zX 2001 Z) Z<|ar Z<|nA<|ao Z<|nA<|aP (.agg [vL _ _ _,vL _ _ _,U _ _,U _ _,U _ _,U _ _,U _ _,vL _ _ _,vL _ _ _,vL _ _ _,U _ _,vL _ _ _,vL _ _ _,vL _ _ _]) EX Z<|ae Z<|ab (zL func11 (Xk h hk) Z) Z<|ao Z<|Y<|aS<|sL<|ae Z<|ak Z<|Y ?_;refine AW.cond rfl ?_ ?_
 ·intro V;refine sL<|cI Z<|Y<|aR<|rT ?_;trivial
 intro V;refine aK<|gT<|aS ?_;have hz:E9 h:=Xd (by have q:=V;simp only[decide_eq_false_iff_not]at q;omega);refine aL<|aP (.agg [vL _ _ _,vL _ _ _,U _ _,U _ _,U _ _,U _ _,U _ _,vL _ _ _,vL _ _ _,vL _ _ _,U _ _,vL _ _ _,vL _ _ _,vL _ _ _]) EX Z<|ab (zC [] [] [] func13 (Iu h hz) (trivial) Z Z) Z ?_;refine ab (zC [] [] [] func30 (QV h hk.db ⟨hk.wc,hk.wh,hk.wi,hz.lc⟩ ⟨hz.lc,hz.lh,hz.li⟩ hz.ll hz.lw hz.ls) (trivial) rfl rfl) Z<|bv Z<|nA<|aP (.agg [vL _ _ _,vL _ _ _,U _ _,U _ _,U _ _,U _ _,U _ _,vL _ _ _,vL _ _ _,vL _ _ _,U _ _,vL _ _ _,vL _ _ _,vL _ _ _]) EX Z<|ab (zC [] [] [] func13 (Iu h hz) (trivial) rfl rfl) Z<|lT [1,2,4,16] [2001] ?_;refine ab (zA 2005 Ig Z) Z<|ab (zB 2005 NA NB Z) Z<|nA<|aP (.agg [vL _ _ _,vL _ _ _,U _ _,U _ _,U _ _,U _ _,U _ _,vL _ _ _,vL _ _ _,vL _ _ _,U _ _,vL _ _ _,vL _ _ _,vL _ _ _]) EZ Z ?_;refine ab (zC [] [] [] func31 (QS h hk.db ⟨hk.wc,hk.wh,hk.wi,hz.lc⟩ ⟨hz.lc,hz.lh,hz.li⟩ hz.ll hz.lw hz.ls) (trivial) rfl rfl) Z<|bv Z<|Y<|aS<|sL<|aQ Z<|aQ Z<|lq (rd (x:=vB _) (G6 rfl rfl rfl underlying4) rfl)<|bJ 21 false rfl (by first|(simp;done)|(simp;omega))<|Y<|aN Z<|aK<|gT<|aS<|aS<|aF []<|sq 0 (dw (.agg [vL _ _ _,vL _ _ _,U _ _,U _ _,U _ _,U _ _,U _ _,vL _ _ _,vL _ _ _,vL _ _ _,U _ _,vL _ _ _,vL _ _ _,vL _ _ _]) EZ rfl)<|vq 1 (dw (.agg [vL _ _ _,vL _ _ _,U _ _,U _ _,U _ _,U _ _,U _ _,vL _ _ _,vL _ _ _,vL _ _ _,U _ _,vL _ _ _,vL _ _ _,vL _ _ _]) EX rfl)<|bn 2 rfl (zC [] [] [] func13 (Iu h hz) (trivial) rfl rfl) (.inr rfl)<|bn 3 rfl (zL func15 (Xq h hz) rfl) (.inr rfl)<|vq 4 (tJ rfl)<|nw 26 false rfl (by first|(simp;done)|(simp;omega))<|fD<|gT<|aN Z<|aK<|gT ?_;refine sL<|cI Z<|Y<|aR ?_;trivial
end Go.Proofs.YtflhgkmhmcfimaaGreat

