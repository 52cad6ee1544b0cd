/- Texts of the proof of FnFnExactHubOk, joined: EA8, EA9, ES1. -/
import Derived.Test.YtflhgkmhmcfimaaGreatJHubOk7
import Derived.Test.YtflhgkmhmcfimaaGreatJHubOk8
import Derived.Test.YtflhgkmhmcfimaaGreatJHubOk3
namespace Go.Proofs.YtflhgkmhmcfimaaGreat
open Tryz
open Go.RowKit
set_option maxHeartbeats 16000000
set_option maxRecDepth 100000
set_option linter.unusedSimpArgs false
set_option linter.unusedVariables false
def kX(b:Bool):List Value:=[.bool b]
def hK(k:Int):Bool:=!decide (k=1\/k=2\/k=3\/k=4\/k=8)
def hC(k:Int):Bool:=decide (k=2\/k=3\/k=4\/k=5\/k=9)
def hT(k:Int):Bool:=decide (k=5\/k=9)
def hA(k:Int):Bool:=decide (k=1\/k=2\/k=4\/k=5\/k=9)
def hF(k:Int):Bool:=decide (k=2\/k=3\/k=4\/k=9)
def hY(k:Int):Bool:=decide (k=5)
def gj(has:Bool)(n lo hi:Int):Bool:=if has then aI n lo hi else n==0
def co(e:aV):Bool:=aI e.kind 1 11&&gj (hK e.kind) e.key 1 1000000&&gj (hC e.kind) e.ch 1 99&&gj (hT e.kind) e.to 1 99&&!(hT e.kind&&e.ch==e.to) &&
 gj (hA e.kind) e.af (if e.kind=4 then 0 else 1) 1125899906842624&&gj (hF e.kind) e.ay 0 (if e.kind=4 then 1000000 else 1125899906842624)&&(hY e.kind||!e.yes)
theorem uu{e:aV}(h:co e=true):bb e.af=true/\bb e.ay=true:=by
 unfold co at h;simp only[Bool.and_eq_true]at h;grind[cY,gj,cJ]
theorem P2{e:aV}(h:¬(1<=e.kind/\e.kind<=11)):co e=false:=by
 grind[co,Kv]
theorem Bf(n:Int):GC prog 210 [int n] [] (aD (fE n)) []:=PJ n
theorem zF(n:Int):GC prog 191 [int n] [] (aD (gf n)) []:=PK n
theorem zG(has:Bool)(n lo hi:Int):GC prog 251 [aD has,int n,int lo,int hi] [] (aD (gj has n lo hi)) []:=by
 refine gi 8 func251 rfl ntmps251 rfl ?_;intro L O w0;refine sL<|ar Z<|Y<|aS<|sL<|aQ Z<|bX Z<|Y ?_;refine AW.cond rfl ?_ ?_
 ·intro V;refine sL<|ae Z<|ak Z<|bv Z<|Y<|aR<|rT ?_;refine az trivial ?_;simp_all[gj,vi]
 intro V;refine aK<|gA<|ae Z<|ae Z<|ak Z<|aQ Z ?_;refine AL.bool (t:=16) rfl ?_ ?_
 ·intro h2;refine ae Z<|ae Z<|ak Z<|bj Z<|bv Z<|Y<|aR ?_;refine az trivial ?_;simp_all[gj,aI]
 intro h2;refine aa Z<|aa Z<|aa Z<|bL Z<|ar Z<|Y<|aR ?_;refine az trivial ?_;unfold gj aI;grind
theorem Z4(k:Int):GC prog 194 [int k] [] (.own 60) [(60,.ai 4 1 (ah kX [hK k,hC k,hT k,hA k,hF k,hY k]))]:=by
 refine gi 2 func194 rfl ntmps194 rfl ?_;intro L O w0;refine sL<|e9 Z<|Y<|aS<|sL<|ae Z<|Y<|aB<|sL<|ak Z<|bv Z<|Y ?_;refine AW.cond rfl ?_ ?_
 ·intro V;refine sL<|ab (zS 60 (ah kX [false,false,false,true,false,false]) n4 xD rfl (by trivial)) Z<|bD Z<|Y<|aR<|rB<|rT ?_;refine ax ?_ ⟨(congrArg (fun l=>AO.ai 4 1 (ah kX l)) (by grind[hK,hC,hT,hA,hF,hY])),trivial⟩;rfl
 intro V;refine aS<|sL<|ak Z<|bv Z<|Y ?_;refine AW.cond rfl ?_ ?_
 ·intro h2;refine qt 7 true rfl h2<|aK<|gT<|aY Z<|sL<|ab (zS 60 (ah kX [false,true,false,true,true,false]) n4 xD rfl (by trivial)) Z<|bD Z<|Y<|aR<|rB<|rT ?_;refine ax ?_ ⟨(congrArg (fun l=>AO.ai 4 1 (ah kX l)) (by grind[hK,hC,hT,hA,hF,hY])),trivial⟩;rfl
 intro h2;refine qt 7 false Z h2<|aL<|ak Z<|bv Z<|Y ?_;refine AW.cond rfl ?_ ?_
 ·intro h3;refine sL<|ab (zS 60 (ah kX [false,true,false,true,true,false]) n4 xD rfl (by trivial)) Z<|bD Z<|Y<|aR<|rB<|rT ?_;refine ax ?_ ⟨(congrArg (fun l=>AO.ai 4 1 (ah kX l)) (by grind[hK,hC,hT,hA,hF,hY])),trivial⟩;rfl
 intro h3;refine sL<|ak Z<|bv Z<|Y ?_;refine AW.cond rfl ?_ ?_
 ·intro h4;refine sL<|ab (zS 60 (ah kX [false,true,false,false,true,false]) n4 xD rfl (by trivial)) Z<|lT [2,13] [60] ?_;refine bD Z<|Y<|aR<|rB<|rT ?_;refine ax ?_ ⟨(congrArg (fun l=>AO.ai 4 1 (ah kX l)) (by grind[hK,hC,hT,hA,hF,hY])),trivial⟩;rfl
 intro h4;refine sL<|ak Z<|bv Z<|Y ?_;refine AW.cond rfl ?_ ?_
 ·intro h5;refine sL<|ab (zS 60 (ah kX [true,true,true,true,false,true]) n4 xD rfl (by trivial)) Z<|bD Z<|Y<|aR<|rB<|rT ?_;refine ax ?_ ⟨(congrArg (fun l=>AO.ai 4 1 (ah kX l)) (by grind[hK,hC,hT,hA,hF,hY])),trivial⟩;rfl
 intro h5;refine sL<|ak Z<|bv Z<|Y ?_;refine AW.cond rfl ?_ ?_
 ·intro h6;refine sL<|ab (zS 60 (ah kX [true,true,true,true,true,false]) n4 xD rfl (by trivial)) Z<|bD Z<|Y<|aR<|rB<|rT ?_;refine ax ?_ ⟨(congrArg (fun l=>AO.ai 4 1 (ah kX l)) (by grind[hK,hC,hT,hA,hF,hY])),trivial⟩;rfl
 intro h6;refine sL<|ak Z<|bv Z<|Y ?_;refine AW.cond rfl ?_ ?_
 ·intro h7;refine sL<|ab (zS 60 (ah kX [false,false,false,false,false,false]) n4 xD rfl (by trivial)) Z<|bD Z<|Y<|aR<|rB<|rT ?_;refine ax ?_ ⟨(congrArg (fun l=>AO.ai 4 1 (ah kX l)) (by grind[hK,hC,hT,hA,hF,hY])),trivial⟩;rfl
 intro h7;refine aK<|gB<|gA<|ab (zS 60 (ah kX [true,false,false,false,false,false]) n4 xD rfl (by trivial)) Z<|lT [2,23] [60] ?_;refine bD Z<|Y<|aR ?_;refine ax ?_ ⟨(congrArg (fun l=>AO.ai 4 1 (ah kX l)) (by grind[hK,hC,hT,hA,hF,hY])),trivial⟩;rfl
theorem Px(e:aV):GC prog 195 [ju e] [] (aD (co e)) []:=by
 refine gi 2 func195 rfl ntmps195 rfl ?_;intro L O w0;refine sL<|ab (zX 2001 Z) Z<|ar Z<|Y<|aS<|sL<|lf 0 jz Z<|aj ac Z<|ak Z<|aQ Z ?_;refine AL.bool (t:=9) rfl ?_ ?_
 ·intro V;refine aa Z<|aa Z<|aa Z<|aU Z<|Y<|aY Z<|sL<|ar Z<|Y<|aR<|rT ?_;refine az trivial ?_;grind[co,aI]
 intro V;refine lf 0 jz Z<|aj ac Z<|ak Z<|bj Z<|Y ?_;refine AW.cond rfl ?_ ?_
 ·intro h2;refine sL<|ar Z<|Y<|aR<|rT ?_;refine az trivial ?_;grind[co,aI]
 intro h2;refine aK<|gA<|lf 0 jz Z<|aj ac Z<|ab (zC [(60,60)] [60] [] func194 (Z4 _) (trivial) Z Z) Z<|lT [1,2,16] [60,2001] ?_;refine bD Z<|nA<|ao Z<|nA<|ao Z<|Y ?_;refine aJ [1,2,3] [60,2001] (D:=Unit) (fun jd=>[(4,int (if e.kind=4 then 0 else 1)),(5,int (if e.kind=4 then 1000000 else 1125899906842624))]) (fun jd=>[]) (fun jd=>True) ?_ ?_
 ·refine sL<|lf 0 jz Z<|aj ac Z<|ak Z<|Y ?_;refine AW.cond rfl ?_ ?_
  ·intro h3;refine sL<|ao Z<|Y<|aL<|ao Z<|Y ?_;refine⟨(),trivial,⟨(Eq.trans (b:=int _) rfl (congrArg int (by grind))),(Eq.trans (b:=int _) rfl (congrArg int (by grind))),trivial⟩,trivial,rfl,rfl⟩
  intro h3;refine aK<|gT ?_;refine⟨(),trivial,⟨(Eq.trans (b:=int _) rfl (congrArg int (by grind))),(Eq.trans (b:=int _) rfl (congrArg int (by grind))),trivial⟩,trivial,rfl,rfl⟩
 intro jd hJ;refine aS<|aS<|aG 36 []<|tq 0 (qo rfl)<|tq 1 (rj 0 n4 rfl (by show 0<6;decide))<|tq 2 (rd (x:=vB _) (dT rfl jN rfl rfl rfl (rfl) rfl) rfl)<|yq 3 (rf 1 gE rfl)<|yq 4 (aZ ac rfl)<|cm 5 rfl (zL func251 (zG _ _ _ _) rfl)<|yq 6 (gQ rfl)<|yq 7 (dx rfl) ?_;refine AG.bool (t:=27) rfl ?_ ?_
 ·intro h4;refine ep 8 Z<|ep 9 Z<|ep 10 Z<|bt 11 Z<|bt 12 Z<|bt 13 Z<|bt 14 Z<|yq 15 (bA Z)<|yq 16 (cF Z)<|ep 17 Z<|ep 18 Z<|ep 19 Z<|bt 20 Z<|bt 21 Z<|bt 22 Z<|bt 23 Z<|yq 24 (bA Z)<|yq 25 (cF Z)<|bt 26 Z<|bt 27 Z<|bt 28 Z<|bt 29 Z<|ep 30 Z<|ep 31 Z<|bt 32 Z<|bt 33 Z<|bt 34 Z<|bt 35 Z<|yq 36 (bA Z)<|gD ?_;refine gT<|aY Z<|sL<|ar Z<|Y<|aR<|rT ?_;refine az trivial ?_;grind[co]
 intro h4;refine tq 8 (qo rfl)<|tq 9 (rj 1 n4 rfl (by show 1<6;decide))<|tq 10 (rd (x:=vB _) (dT rfl jN rfl rfl rfl (rfl) rfl) rfl)<|yq 11 (rf 2 dn rfl)<|yq 12 (aZ ac rfl)<|cm 13 rfl (zL func251 (zG _ _ _ _) rfl)<|gX [1,2,3,4,5,27,33] [60,2001] ?_;refine yq 14 (gQ Z)<|yq 15 (cv Z)<|yq 16 (dx Z) ?_;refine AG.bool (t:=36) rfl ?_ ?_
 ·intro h5;refine ep 17 Z<|ep 18 Z<|ep 19 Z<|bt 20 Z<|bt 21 Z<|bt 22 Z<|bt 23 Z<|yq 24 (bA Z)<|yq 25 (cF Z)<|bt 26 Z<|bt 27 Z<|bt 28 Z<|bt 29 Z<|ep 30 Z<|ep 31 Z<|bt 32 Z<|bt 33 Z<|bt 34 Z<|bt 35 Z<|yq 36 (bA Z)<|gD<|gT<|aY Z<|sL<|ar Z<|Y<|aR<|rT ?_;refine az trivial ?_;grind[co]
 intro h5;refine tq 17 (qo rfl)<|tq 18 (rj 2 n4 rfl (by show 2<6;decide))<|tq 19 (rd (x:=vB _) (dT rfl jN rfl rfl rfl (rfl) rfl) rfl)<|yq 20 (rf 3 fK rfl)<|yq 21 (aZ ac rfl)<|cm 22 rfl (zL func251 (zG _ _ _ _) rfl)<|yq 23 (gQ rfl)<|yq 24 (cv rfl)<|yq 25 (dx rfl) ?_;refine AG.bool (t:=45) rfl ?_ ?_
 ·intro h6;refine bt 26 Z<|bt 27 Z<|bt 28 Z<|bt 29 Z<|ep 30 Z<|ep 31 Z<|bt 32 Z<|bt 33 Z<|bt 34 Z<|bt 35 Z<|yq 36 (bA Z)<|gD<|gT<|aY Z<|sL<|ar Z<|Y<|aR<|rT ?_;refine az trivial ?_;grind[co]
 intro h6;refine yq 26 (qo rfl)<|yq 27 (rj 2 n4 rfl (by show 2<6;decide))<|yq 28 (rd (x:=vB _) (dT rfl jN rfl rfl rfl (rfl) rfl) rfl)<|yq 29 (dx rfl) ?_;refine AG.bool (t:=49) rfl ?_ ?_
 ·intro h7;refine tq 30 (rf 2 dn Z)<|tq 31 (aZ ac Z)<|yq 32 (rf 3 fK Z)<|yq 33 (aZ ac Z)<|yq 34 (dt Z)<|yq 35 (cv Z)<|yq 36 (cv Z)<|gD<|gT ?_;refine AW.cond rfl ?_ ?_
  ·intro h8;refine sL<|ar Z<|lT [1,2,3,4,5] [60,2001] ?_;refine Y<|aR<|rT ?_;refine az trivial ?_;grind[co]
  intro h8;refine aK<|gT<|aS<|aG 26 []<|tq 0 (qo rfl)<|tq 1 (rj 3 n4 rfl (by show 3<6;decide))<|tq 2 (rd (x:=vB _) (dT rfl jN rfl rfl rfl (rfl) rfl) rfl)<|tq 3 (rf 4 bN rfl)<|tq 4 (aZ ac rfl)<|yq 5 (dW rfl)<|cm 6 rfl (zL func251 (zG _ _ _ _) rfl)<|yq 7 (dx rfl) ?_;refine AG.bool (t:=64) rfl ?_ ?_
  ·intro h9;refine tq 8 (qo rfl)<|tq 9 (rj 4 n4 rfl (by show 4<6;decide))<|tq 10 (rd (x:=vB _) (dT rfl jN rfl rfl rfl (rfl) rfl) rfl)<|tq 11 (rf 5 fC rfl)<|tq 12 (aZ ac rfl)<|yq 13 (dW rfl)<|cm 14 rfl (zL func251 (zG _ _ _ _) rfl)<|gX [1,2,3,64,71] [60,2001] ?_;refine yq 15 (cv Z)<|yq 16 (dx Z) ?_;refine AG.bool (t:=73) rfl ?_ ?_
   ·intro dh;refine yq 17 (qo rfl)<|yq 18 (rj 5 n4 rfl (by show 5<6;decide))<|yq 19 (rd (x:=vB _) (dT rfl jN rfl rfl rfl (rfl) rfl) rfl)<|yq 20 (dx rfl) ?_;refine AG.bool (t:=77) rfl ?_ ?_
    ·intro gp;refine bt 21 Z<|bt 22 Z<|bt 23 Z<|yq 24 (bA Z)<|yq 25 (bA Z)<|yq 26 (Av Z)<|gD<|gT<|aR ?_;refine az trivial ?_;grind[co,aI]
    intro gp;refine yq 21 (rf 6 pw Z)<|yq 22 (uY jN Z)<|yq 23 (gQ Z)<|yq 24 (cv Z)<|yq 25 (cv Z)<|yq 26 (fk Z)<|gD<|gT<|aR ?_;refine az trivial ?_;grind[co,aI]
   intro dh;refine bt 17 Z<|bt 18 Z<|bt 19 Z<|bt 20 Z<|bt 21 Z<|bt 22 Z<|bt 23 Z<|bt 24 Z<|yq 25 (kK Z)<|yq 26 (oA Z)<|gD<|gT<|aR ?_;refine az trivial ?_;grind[co]
  intro h9;refine ep 8 Z<|ep 9 Z<|ep 10 Z<|ep 11 Z<|ep 12 Z<|bt 13 Z<|bt 14 Z<|yq 15 (kK Z)<|yq 16 (rG Z)<|bt 17 Z<|bt 18 Z<|bt 19 Z<|bt 20 Z<|bt 21 Z<|bt 22 Z<|bt 23 Z<|bt 24 Z<|yq 25 (kK Z)<|yq 26 (oA Z)<|gD<|gT<|aR ?_;refine az trivial ?_;grind[co]
 intro h7;refine ep 30 Z<|ep 31 Z<|bt 32 Z<|bt 33 Z<|bt 34 Z<|yq 35 (kK rfl)<|yq 36 (kK rfl)<|gD<|gT<|aN Z<|aK<|gT<|aS<|aG 26 []<|tq 0 (qo rfl)<|tq 1 (rj 3 n4 rfl (by show 3<6;decide))<|tq 2 (rd (x:=vB _) (dT rfl jN rfl rfl rfl (rfl) rfl) rfl)<|tq 3 (rf 4 bN rfl)<|tq 4 (aZ ac rfl)<|yq 5 (dW rfl)<|cm 6 rfl (zL func251 (zG _ _ _ _) rfl)<|gX [1,2,3,5,63] [60,2001] ?_;refine yq 7 (dx rfl) ?_;refine AG.bool (t:=64) rfl ?_ ?_
 ·intro gM;refine tq 8 (qo rfl)<|tq 9 (rj 4 n4 rfl (by show 4<6;decide))<|tq 10 (rd (x:=vB _) (dT rfl jN rfl rfl rfl (rfl) rfl) rfl)<|tq 11 (rf 5 fC rfl)<|tq 12 (aZ ac rfl)<|yq 13 (dW rfl)<|cm 14 rfl (zL func251 (zG _ _ _ _) rfl)<|yq 15 (cv rfl)<|yq 16 (dx rfl) ?_;refine AG.bool (t:=73) rfl ?_ ?_
  ·intro dO;refine yq 17 (qo rfl)<|yq 18 (rj 5 n4 rfl (by show 5<6;decide))<|yq 19 (rd (x:=vB _) (dT rfl jN rfl rfl rfl (rfl) rfl) rfl)<|yq 20 (dx rfl) ?_;refine AG.bool (t:=77) rfl ?_ ?_
   ·intro ij;refine bt 21 Z<|bt 22 Z<|bt 23 Z<|yq 24 (bA Z)<|yq 25 (bA Z)<|yq 26 (Av Z)<|gD<|gT<|aR ?_;refine az trivial ?_;grind[co,aI]
   intro ij;refine yq 21 (rf 6 pw Z)<|yq 22 (uY jN Z)<|yq 23 (gQ Z)<|yq 24 (cv Z)<|yq 25 (cv Z)<|yq 26 (fk Z)<|gD<|gT<|aR ?_;refine az trivial ?_;grind[co,aI]
  intro dO;refine bt 17 Z<|bt 18 Z<|bt 19 Z<|bt 20 Z<|bt 21 Z<|bt 22 Z<|bt 23 Z<|bt 24 Z<|yq 25 (kK Z)<|yq 26 (oA Z)<|gD<|gT<|aR ?_;refine az trivial ?_;grind[co]
 intro gM;refine ep 8 Z<|ep 9 Z<|ep 10 Z<|ep 11 Z<|ep 12 Z<|bt 13 Z<|bt 14 Z<|yq 15 (kK Z)<|yq 16 (rG Z)<|bt 17 Z<|bt 18 Z<|bt 19 Z<|bt 20 Z<|bt 21 Z<|bt 22 Z<|bt 23 Z<|bt 24 Z<|yq 25 (kK Z)<|yq 26 (oA Z)<|gD<|gT<|aR ?_;refine az trivial ?_;grind[co]
theorem Ps(e:aV):GC prog 110 [ju e] [] (aD (co e)) []:=by
 refine gi 2 func110 rfl ntmps110 rfl ?_;intro L O w0;refine sL<|ab (zX 2001 Z) Z<|ar Z<|Y<|aS<|sL<|lf 4 bN Z<|aj ac Z<|ab (zL func189 (wM _) Z) Z<|bX Z<|aQ Z ?_;refine AL.bool (t:=9) rfl ?_ ?_
 ·intro V;refine aa Z<|aa Z<|aa Z<|aa Z<|aU Z<|Y<|aY Z<|sL<|ar Z<|Y<|aR<|rT ?_;refine az trivial ?_;grind[uu]
 intro V;refine lf 5 fC Z<|aj ac Z<|ab (zL func189 (wM _) Z) Z<|bX Z<|bj Z<|Y ?_;refine AW.cond rfl ?_ ?_
 ·intro h2;refine sL<|ar Z<|Y<|aR<|rT ?_;refine az trivial ?_;grind[uu]
 intro h2;refine aK<|gA<|lf 0 jz Z<|aj ac Z<|lq (rd (x:=.agg [U _ _,U _ _,U _ _,U _ _,U _ _,U _ _,vB false]) (cP Z xF Z Z Z) Z)<|ab (zA 2003 jl Z) Z<|lT [1,2,3,17] [2001,2003] ?_;refine ab (zB 2003 mZ m0 Z) Z<|nA<|cI Z<|Y<|aS<|sL<|lf 0 jz Z<|aj ac Z<|Y<|aB<|sL<|ak Z<|bv Z<|Y ?_;refine AW.cond rfl ?_ ?_
 ·intro h3;refine sL<|lf 4 bN Z<|aj ac Z<|lf 4 bN Z<|ab (zB 2003 ca cb Z) Z<|Y<|aL<|lf 4 bN Z<|aj ac Z<|ak Z<|bv Z<|lN<|gB<|gA<|aQ Z<|aQ Z ?_;refine AL.bool (t:=175) rfl ?_ ?_
  ·intro h4;refine aP (.agg [U _ _,U _ _,U _ _,U _ _,U _ _,U _ _,vB _]) dD Z<|aP (.agg [U _ _,U _ _,U _ _,U _ _,U _ _,U _ _,vB false]) dD Z<|lq (rd (x:=vB _) (j0 rfl (.inl rfl) rfl rfl oz pe pf pg ?hn1) rfl) ?_;case hn1=>exact⟨rfl,by decide,rfl,⟨_,underlying3⟩,rfl,by decide,rfl,⟨_,underlying3⟩,rfl,by decide,rfl,⟨_,underlying3⟩,rfl,by decide,rfl,⟨_,underlying3⟩,rfl,by decide,rfl,⟨_,underlying3⟩,rfl,by decide,rfl,⟨_,underlying3⟩,by decide,rfl,underlying4,trivial⟩
   refine bj Z<|bv Z<|Y<|aR ?_;refine az trivial ?_;have bZ:e.kind=1:=by simpa using h3
   have js:bb e.af=true:=by simpa using V
   have ip:bb e.ay=true:=by simpa using h2
   clear V h2 h3;unfold co;rw[bZ];rcases hy:e.yes with _|_<;>refine Bool.eq_iff_iff.2 ?_<;>simp[gj,hK,hC,hT,hA,hF,hY,aI,dA,bb,fE,gf]at * <;> omega
  intro h4;refine aa Z<|aa Z<|aa Z<|bL Z<|ar Z<|Y<|aR ?_;refine az trivial ?_;have bZ:e.kind=1:=by simpa using h3
  have js:bb e.af=true:=by simpa using V
  have ip:bb e.ay=true:=by simpa using h2
  clear V h2 h3;unfold co;rw[bZ];rcases hy:e.yes with _|_<;>refine Bool.eq_iff_iff.2 ?_<;>simp[gj,hK,hC,hT,hA,hF,hY,aI,dA,bb,fE,gf]at * <;> omega
 intro h3;refine sL<|ak Z<|bv Z<|Y ?_;refine AW.cond rfl ?_ ?_
 ·intro h5;refine aS<|aG 11 [2003]<|tq 0 (rf 2 dn Z)<|tq 1 (aZ ac Z)<|tq 2 (rf 4 bN Z)<|tq 3 (aZ ac Z)<|tq 4 (rf 5 fC Z)<|gX [1,2,3,4,31,33,34] [2001,2003] ?_;refine tq 5 (aZ ac Z)<|yq 6 (rf 2 dn Z)<|cm 7 Z (zB 2003 ca cb Z)<|yq 8 (rf 4 bN Z)<|cm 9 Z (zB 2003 ca cb Z)<|yq 10 (rf 5 fC Z)<|yl Z (zB 2003 ca cb Z)<|gT<|aL<|lf 2 dn Z<|aj ac Z<|ab (zL func191 (zF _) Z) Z<|aQ Z ?_;refine AL.bool (t:=42) rfl ?_ ?_
  ·intro h6;refine lf 4 bN Z<|aj ac Z<|ak Z<|bj Z<|bv Z<|lN<|gB<|gA<|aQ Z<|aQ Z ?_;refine AL.bool (t:=175) rfl ?_ ?_
   ·intro h7;refine aP (.agg [U _ _,U _ _,U _ _,U _ _,U _ _,U _ _,vB _]) dD Z<|aP (.agg [U _ _,U _ _,U _ _,U _ _,U _ _,U _ _,vB false]) dD Z<|lq (rd (x:=vB _) (j0 rfl (.inl rfl) rfl rfl oz pe pf pg ?hn2) rfl) ?_;case hn2=>exact⟨rfl,by decide,rfl,⟨_,underlying3⟩,rfl,by decide,rfl,⟨_,underlying3⟩,rfl,by decide,rfl,⟨_,underlying3⟩,rfl,by decide,rfl,⟨_,underlying3⟩,rfl,by decide,rfl,⟨_,underlying3⟩,rfl,by decide,rfl,⟨_,underlying3⟩,by decide,rfl,underlying4,trivial⟩
    refine bj Z<|bv Z<|Y<|aR ?_;refine az trivial ?_;have bZ:e.kind=2:=by simpa using h5
    have js:bb e.af=true:=by simpa using V
    have ip:bb e.ay=true:=by simpa using h2
    clear V h2 h3 h5;unfold co;rw[bZ];rcases hy:e.yes with _|_<;>refine Bool.eq_iff_iff.2 ?_<;>simp[gj,hK,hC,hT,hA,hF,hY,aI,dA,bb,fE,gf]at * <;> omega
   intro h7;refine aa Z<|aa Z<|aa Z<|bL Z<|ar Z<|Y<|aR ?_;refine az trivial ?_;have bZ:e.kind=2:=by simpa using h5
   have js:bb e.af=true:=by simpa using V
   have ip:bb e.ay=true:=by simpa using h2
   clear V h2 h3 h5;unfold co;rw[bZ];rcases hy:e.yes with _|_<;>refine Bool.eq_iff_iff.2 ?_<;>simp[gj,hK,hC,hT,hA,hF,hY,aI,dA,bb,fE,gf]at * <;> omega
  intro h6;refine aa Z<|aa Z<|aa Z<|bL Z<|ar Z<|lN<|gB<|gA<|dm Z<|dm Z<|aa Z<|aa Z<|aa Z<|bL Z<|lT [2,179] [2001,2003] ?_;refine ar Z<|Y<|aR ?_;refine az trivial ?_;have bZ:e.kind=2:=by simpa using h5
  have js:bb e.af=true:=by simpa using V
  have ip:bb e.ay=true:=by simpa using h2
  clear V h2 h3 h5;unfold co;rw[bZ];rcases hy:e.yes with _|_<;>refine Bool.eq_iff_iff.2 ?_<;>simp[gj,hK,hC,hT,hA,hF,hY,aI,dA,bb,fE,gf]at * <;> omega
 intro h5;refine sL<|ak Z<|bv Z<|Y ?_;refine AW.cond rfl ?_ ?_
 ·intro h8;refine aS<|aG 7 [2003]<|tq 0 (rf 2 dn Z)<|tq 1 (aZ ac Z)<|tq 2 (rf 5 fC Z)<|tq 3 (aZ ac Z)<|yq 4 (rf 2 dn Z)<|cm 5 Z (zB 2003 ca cb Z)<|yq 6 (rf 5 fC Z)<|yl Z (zB 2003 ca cb Z)<|gT<|aL<|lf 2 dn Z<|aj ac Z<|ab (zL func191 (zF _) Z) Z<|lT [1,2,3,4,57] [2001,2003] ?_;refine bv Z<|lN<|gB<|gA<|aQ Z<|aQ Z ?_;refine AL.bool (t:=175) rfl ?_ ?_
  ·intro h9;refine aP (.agg [U _ _,U _ _,U _ _,U _ _,U _ _,U _ _,vB _]) dD Z<|aP (.agg [U _ _,U _ _,U _ _,U _ _,U _ _,U _ _,vB false]) dD Z<|lq (rd (x:=vB _) (j0 rfl (.inl rfl) rfl rfl oz pe pf pg ?hn3) rfl) ?_;case hn3=>exact⟨rfl,by decide,rfl,⟨_,underlying3⟩,rfl,by decide,rfl,⟨_,underlying3⟩,rfl,by decide,rfl,⟨_,underlying3⟩,rfl,by decide,rfl,⟨_,underlying3⟩,rfl,by decide,rfl,⟨_,underlying3⟩,rfl,by decide,rfl,⟨_,underlying3⟩,by decide,rfl,underlying4,trivial⟩
   refine bj Z<|bv Z<|Y<|aR ?_;refine az trivial ?_;have bZ:e.kind=3:=by simpa using h8
   have js:bb e.af=true:=by simpa using V
   have ip:bb e.ay=true:=by simpa using h2
   clear V h2 h3 h5 h8;unfold co;rw[bZ];rcases hy:e.yes with _|_<;>refine Bool.eq_iff_iff.2 ?_<;>simp[gj,hK,hC,hT,hA,hF,hY,aI,dA,bb,fE,gf]at * <;> omega
  intro h9;refine aa Z<|aa Z<|aa Z<|bL Z<|ar Z<|Y<|aR ?_;refine az trivial ?_;have bZ:e.kind=3:=by simpa using h8
  have js:bb e.af=true:=by simpa using V
  have ip:bb e.ay=true:=by simpa using h2
  clear V h2 h3 h5 h8;unfold co;rw[bZ];rcases hy:e.yes with _|_<;>refine Bool.eq_iff_iff.2 ?_<;>simp[gj,hK,hC,hT,hA,hF,hY,aI,dA,bb,fE,gf]at * <;> omega
 intro h8;refine sL<|ak Z<|bv Z<|Y ?_;refine AW.cond rfl ?_ ?_
 ·intro dh;refine aS<|aG 11 [2003]<|tq 0 (rf 2 dn Z)<|tq 1 (aZ ac Z)<|tq 2 (rf 4 bN Z)<|tq 3 (aZ ac Z)<|tq 4 (rf 5 fC Z)<|tq 5 (aZ ac Z)<|yq 6 (rf 2 dn Z)<|cm 7 Z (zB 2003 ca cb Z)<|gX [1,2,3,4,63,65] [2001,2003] ?_;refine yq 8 (rf 4 bN Z)<|cm 9 Z (zB 2003 ca cb Z)<|yq 10 (rf 5 fC Z)<|yl Z (zB 2003 ca cb Z)<|gT<|aL<|lf 2 dn Z<|aj ac Z<|ab (zL func191 (zF _) Z) Z<|aQ Z ?_;refine AL.bool (t:=72) rfl ?_ ?_
  ·intro gp;refine lf 5 fC Z<|aj ac Z<|ak Z<|bj Z<|bv Z<|lN<|gB<|gA<|aQ Z<|aQ Z ?_;refine AL.bool (t:=175) rfl ?_ ?_
   ·intro gM;refine aP (.agg [U _ _,U _ _,U _ _,U _ _,U _ _,U _ _,vB _]) dD Z<|aP (.agg [U _ _,U _ _,U _ _,U _ _,U _ _,U _ _,vB false]) dD Z<|lq (rd (x:=vB _) (j0 rfl (.inl rfl) rfl rfl oz pe pf pg ?hn4) rfl) ?_;case hn4=>exact⟨rfl,by decide,rfl,⟨_,underlying3⟩,rfl,by decide,rfl,⟨_,underlying3⟩,rfl,by decide,rfl,⟨_,underlying3⟩,rfl,by decide,rfl,⟨_,underlying3⟩,rfl,by decide,rfl,⟨_,underlying3⟩,rfl,by decide,rfl,⟨_,underlying3⟩,by decide,rfl,underlying4,trivial⟩
    refine bj Z<|bv Z<|Y<|aR ?_;refine az trivial ?_;have bZ:e.kind=4:=by simpa using dh
    have js:bb e.af=true:=by simpa using V
    have ip:bb e.ay=true:=by simpa using h2
    clear V h2 h3 h5 h8 dh;unfold co;rw[bZ];rcases hy:e.yes with _|_<;>refine Bool.eq_iff_iff.2 ?_<;>simp[gj,hK,hC,hT,hA,hF,hY,aI,dA,bb,fE,gf]at * <;> omega
   intro gM;refine aa Z<|aa Z<|aa Z<|bL Z<|ar Z<|Y<|aR ?_;refine az trivial ?_;have bZ:e.kind=4:=by simpa using dh
   have js:bb e.af=true:=by simpa using V
   have ip:bb e.ay=true:=by simpa using h2
   clear V h2 h3 h5 h8 dh;unfold co;rw[bZ];rcases hy:e.yes with _|_<;>refine Bool.eq_iff_iff.2 ?_<;>simp[gj,hK,hC,hT,hA,hF,hY,aI,dA,bb,fE,gf]at * <;> omega
  intro gp;refine aa Z<|aa Z<|aa Z<|bL Z<|ar Z<|lN<|gB<|gA<|dm Z<|dm Z<|aa Z<|aa Z<|aa Z<|bL Z<|ar Z<|Y<|aR ?_;refine az trivial ?_;have bZ:e.kind=4:=by simpa using dh
  have js:bb e.af=true:=by simpa using V
  have ip:bb e.ay=true:=by simpa using h2
  clear V h2 h3 h5 h8 dh;unfold co;rw[bZ];rcases hy:e.yes with _|_<;>refine Bool.eq_iff_iff.2 ?_<;>simp[gj,hK,hC,hT,hA,hF,hY,aI,dA,bb,fE,gf]at * <;> omega
 intro dh;refine sL<|ak Z<|bv Z<|lT [1,2,3,4,19,77] [2001,2003] ?_;refine Y ?_;refine AW.cond rfl ?_ ?_
 ·intro dO;refine aS<|aG 19 [2003]<|tq 0 (rf 1 gE Z)<|tq 1 (aZ ac Z)<|tq 2 (rf 2 dn Z)<|tq 3 (aZ ac Z)<|tq 4 (rf 3 fK Z)<|tq 5 (aZ ac Z)<|tq 6 (rf 4 bN Z)<|tq 7 (aZ ac Z)<|tq 8 (rf 6 pw Z)<|tq 9 (uY jN Z)<|yq 10 (rf 1 gE Z)<|cm 11 Z (zB 2003 ca cb Z)<|yq 12 (rf 2 dn Z)<|cm 13 Z (zB 2003 ca cb Z)<|gX [1,2,3,4,84,86,88] [2001,2003] ?_;refine yq 14 (rf 3 fK Z)<|cm 15 Z (zB 2003 ca cb Z)<|yq 16 (rf 4 bN Z)<|cm 17 Z (zB 2003 ca cb Z)<|yq 18 (rf 6 pw Z)<|yl Z (zB 2003 ES ET Z)<|gT<|aL<|lf 1 gE Z<|aj ac Z<|ab (zL func210 (Bf _) Z) Z<|aQ Z ?_;refine AL.bool (t:=97) rfl ?_ ?_
  ·intro ij;refine lf 2 dn Z<|aj ac Z<|ab (zL func191 (zF _) Z) Z<|bj Z<|aQ Z ?_;refine AL.bool (t:=102) rfl ?_ ?_
   ·intro lg;refine lf 3 fK Z<|aj ac Z<|ab (zL func191 (zF _) Z) Z<|lT [1,2,3,4,102,105] [2001,2003] ?_;refine bj Z<|aQ Z ?_;refine AL.bool (t:=107) rfl ?_ ?_
    ·intro mn;refine lf 2 dn Z<|aj ac Z<|lf 3 fK Z<|aj ac Z<|ak Z<|bj Z<|aQ Z ?_;refine AL.bool (t:=114) rfl ?_ ?_
     ·intro m7;refine lf 4 bN Z<|aj ac Z<|ak Z<|bj Z<|bv Z<|lN<|gB<|gA<|aQ Z<|aQ Z ?_;refine AL.bool (t:=175) rfl ?_ ?_
      ·intro mF;refine aP (.agg [U _ _,U _ _,U _ _,U _ _,U _ _,U _ _,vB _]) dD Z<|aP (.agg [U _ _,U _ _,U _ _,U _ _,U _ _,U _ _,vB _]) dD Z<|lq (rd (x:=vB _) (j0 rfl (.inl rfl) rfl rfl oz pe pf pg ?hn5) rfl) ?_;case hn5=>exact⟨rfl,by decide,rfl,⟨_,underlying3⟩,rfl,by decide,rfl,⟨_,underlying3⟩,rfl,by decide,rfl,⟨_,underlying3⟩,rfl,by decide,rfl,⟨_,underlying3⟩,rfl,by decide,rfl,⟨_,underlying3⟩,rfl,by decide,rfl,⟨_,underlying3⟩,by decide,rfl,underlying4,trivial⟩
       refine bj Z<|bv Z<|Y<|aR ?_;refine az trivial ?_;have bZ:e.kind=5:=by simpa using dO
       have js:bb e.af=true:=by simpa using V
       have ip:bb e.ay=true:=by simpa using h2
       clear V h2 h3 h5 h8 dh dO;unfold co;rw[bZ];rcases hy:e.yes with _|_<;>refine Bool.eq_iff_iff.2 ?_<;>simp[gj,hK,hC,hT,hA,hF,hY,aI,dA,bb,fE,gf]at * <;> omega
      intro mF;refine aa Z<|aa Z<|aa Z<|bL Z<|ar Z<|Y<|aR ?_;refine az trivial ?_;have bZ:e.kind=5:=by simpa using dO
      have js:bb e.af=true:=by simpa using V
      have ip:bb e.ay=true:=by simpa using h2
      clear V h2 h3 h5 h8 dh dO;unfold co;rw[bZ];rcases hy:e.yes with _|_<;>refine Bool.eq_iff_iff.2 ?_<;>simp[gj,hK,hC,hT,hA,hF,hY,aI,dA,bb,fE,gf]at * <;> omega
     intro m7;refine aa Z<|aa Z<|aa Z<|bL Z<|ar Z<|lN<|gB<|gA<|dm Z<|dm Z<|aa Z<|aa Z<|aa Z<|bL Z<|ar Z<|Y<|aR ?_;refine az trivial ?_;have bZ:e.kind=5:=by simpa using dO
     have js:bb e.af=true:=by simpa using V
     have ip:bb e.ay=true:=by simpa using h2
     clear V h2 h3 h5 h8 dh dO;unfold co;rw[bZ];rcases hy:e.yes with _|_<;>refine Bool.eq_iff_iff.2 ?_<;>simp[gj,hK,hC,hT,hA,hF,hY,aI,dA,bb,fE,gf]at * <;> omega
    intro mn;refine aa Z<|aa Z<|aa Z<|aa Z<|aa Z<|bL Z<|lT [1,2,3,4,113] [2001,2003] ?_;refine dm Z<|aa Z<|aa Z<|aa Z<|bL Z<|ar Z<|lN<|gB<|gA<|dm Z<|dm Z<|aa Z<|aa Z<|aa Z<|bL Z<|ar Z<|Y<|aR ?_;refine az trivial ?_;have bZ:e.kind=5:=by simpa using dO
    have js:bb e.af=true:=by simpa using V
    have ip:bb e.ay=true:=by simpa using h2
    clear V h2 h3 h5 h8 dh dO;unfold co;rw[bZ];rcases hy:e.yes with _|_<;>refine Bool.eq_iff_iff.2 ?_<;>simp[gj,hK,hC,hT,hA,hF,hY,aI,dA,bb,fE,gf]at * <;> omega
   intro lg;refine aa Z<|aa Z<|aa Z<|bL Z<|dm Z<|aa Z<|aa Z<|aa Z<|aa Z<|aa Z<|bL Z<|dm Z<|aa Z<|aa Z<|aa Z<|bL Z<|ar Z<|lN<|gB<|gA<|dm Z<|dm Z<|aa Z<|aa Z<|aa Z<|bL Z<|ar Z<|lN ?_;refine gT<|aR ?_;refine az trivial ?_;have bZ:e.kind=5:=by simpa using dO
   have js:bb e.af=true:=by simpa using V
   have ip:bb e.ay=true:=by simpa using h2
   clear V h2 h3 h5 h8 dh dO;unfold co;rw[bZ];rcases hy:e.yes with _|_<;>refine Bool.eq_iff_iff.2 ?_<;>simp[gj,hK,hC,hT,hA,hF,hY,aI,dA,bb,fE,gf]at * <;> omega
  intro ij;refine aa Z<|aa Z<|aa Z<|bL Z<|dm Z<|aa Z<|aa Z<|aa Z<|bL Z<|dm Z<|aa Z<|aa Z<|aa Z<|aa Z<|aa Z<|bL Z<|dm Z<|aa Z<|aa Z<|aa Z<|bL Z<|ar Z<|lN<|gB<|gA<|dm Z<|dm Z<|aa Z ?_;refine aa Z<|aa Z<|bL Z<|ar Z<|Y<|aR ?_;refine az trivial ?_;have bZ:e.kind=5:=by simpa using dO
  have js:bb e.af=true:=by simpa using V
  have ip:bb e.ay=true:=by simpa using h2
  clear V h2 h3 h5 h8 dh dO;unfold co;rw[bZ];rcases hy:e.yes with _|_<;>refine Bool.eq_iff_iff.2 ?_<;>simp[gj,hK,hC,hT,hA,hF,hY,aI,dA,bb,fE,gf]at * <;> omega
 intro dO;refine sL<|ak Z<|lT [1,2,3,4,19,120] [2001,2003] ?_;refine bv Z<|Y ?_;refine AW.cond rfl ?_ ?_
 ·intro jn;refine aS<|aG 19 [2003]<|tq 0 (rf 1 gE Z)<|tq 1 (aZ ac Z)<|tq 2 (rf 2 dn Z)<|tq 3 (aZ ac Z)<|tq 4 (rf 3 fK Z)<|tq 5 (aZ ac Z)<|tq 6 (rf 4 bN Z)<|tq 7 (aZ ac Z)<|tq 8 (rf 5 fC Z)<|tq 9 (aZ ac Z)<|yq 10 (rf 1 gE Z)<|cm 11 Z (zB 2003 ca cb Z)<|yq 12 (rf 2 dn Z)<|cm 13 Z (zB 2003 ca cb Z)<|gX [1,2,3,4,126,128,130] [2001,2003] ?_;refine yq 14 (rf 3 fK Z)<|cm 15 Z (zB 2003 ca cb Z)<|yq 16 (rf 4 bN Z)<|cm 17 Z (zB 2003 ca cb Z)<|yq 18 (rf 5 fC Z)<|yl Z (zB 2003 ca cb Z)<|gT<|aL<|lf 1 gE Z<|aj ac Z<|ab (zL func210 (Bf _) Z) Z<|aQ Z ?_;refine AL.bool (t:=139) rfl ?_ ?_
  ·intro Dd;refine lf 2 dn Z<|aj ac Z<|ab (zL func191 (zF _) Z) Z<|bj Z<|aQ Z ?_;refine AL.bool (t:=144) rfl ?_ ?_
   ·intro wt;refine lf 3 fK Z<|aj ac Z<|ab (zL func191 (zF _) Z) Z<|lT [1,2,3,4,144,147] [2001,2003] ?_;refine bj Z<|aQ Z ?_;refine AL.bool (t:=149) rfl ?_ ?_
    ·intro wq;refine lf 2 dn Z<|aj ac Z<|lf 3 fK Z<|aj ac Z<|ak Z<|bj Z<|aQ Z ?_;refine AL.bool (t:=156) rfl ?_ ?_
     ·intro Bd;refine lf 4 bN Z<|aj ac Z<|ak Z<|bj Z<|bv Z<|lN<|gB<|gA<|aQ Z<|aQ Z ?_;refine AL.bool (t:=175) rfl ?_ ?_
      ·intro Js;refine aP (.agg [U _ _,U _ _,U _ _,U _ _,U _ _,U _ _,vB _]) dD Z<|aP (.agg [U _ _,U _ _,U _ _,U _ _,U _ _,U _ _,vB false]) dD Z<|lq (rd (x:=vB _) (j0 rfl (.inl rfl) rfl rfl oz pe pf pg ?hn6) rfl) ?_;case hn6=>exact⟨rfl,by decide,rfl,⟨_,underlying3⟩,rfl,by decide,rfl,⟨_,underlying3⟩,rfl,by decide,rfl,⟨_,underlying3⟩,rfl,by decide,rfl,⟨_,underlying3⟩,rfl,by decide,rfl,⟨_,underlying3⟩,rfl,by decide,rfl,⟨_,underlying3⟩,by decide,rfl,underlying4,trivial⟩
       refine bj Z<|bv Z<|Y<|aR ?_;refine az trivial ?_;have bZ:e.kind=9:=by simpa using jn
       have js:bb e.af=true:=by simpa using V
       have ip:bb e.ay=true:=by simpa using h2
       clear V h2 h3 h5 h8 dh dO jn;unfold co;rw[bZ];rcases hy:e.yes with _|_<;>refine Bool.eq_iff_iff.2 ?_<;>simp[gj,hK,hC,hT,hA,hF,hY,aI,dA,bb,fE,gf]at * <;> omega
      intro Js;refine aa Z<|aa Z<|aa Z<|bL Z<|ar Z<|Y<|aR ?_;refine az trivial ?_;have bZ:e.kind=9:=by simpa using jn
      have js:bb e.af=true:=by simpa using V
      have ip:bb e.ay=true:=by simpa using h2
      clear V h2 h3 h5 h8 dh dO jn;unfold co;rw[bZ];rcases hy:e.yes with _|_<;>refine Bool.eq_iff_iff.2 ?_<;>simp[gj,hK,hC,hT,hA,hF,hY,aI,dA,bb,fE,gf]at * <;> omega
     intro Bd;refine aa Z<|aa Z<|aa Z<|bL Z<|ar Z<|lN<|gB<|gA<|dm Z<|dm Z<|aa Z<|aa Z<|aa Z<|bL Z<|ar Z<|Y<|aR ?_;refine az trivial ?_;have bZ:e.kind=9:=by simpa using jn
     have js:bb e.af=true:=by simpa using V
     have ip:bb e.ay=true:=by simpa using h2
     clear V h2 h3 h5 h8 dh dO jn;unfold co;rw[bZ];rcases hy:e.yes with _|_<;>refine Bool.eq_iff_iff.2 ?_<;>simp[gj,hK,hC,hT,hA,hF,hY,aI,dA,bb,fE,gf]at * <;> omega
    intro wq;refine aa Z<|aa Z<|aa Z<|aa Z<|aa Z<|bL Z<|lT [1,2,3,4,155] [2001,2003] ?_;refine dm Z<|aa Z<|aa Z<|aa Z<|bL Z<|ar Z<|lN<|gB<|gA<|dm Z<|dm Z<|aa Z<|aa Z<|aa Z<|bL Z<|ar Z<|Y<|aR ?_;refine az trivial ?_;have bZ:e.kind=9:=by simpa using jn
    have js:bb e.af=true:=by simpa using V
    have ip:bb e.ay=true:=by simpa using h2
    clear V h2 h3 h5 h8 dh dO jn;unfold co;rw[bZ];rcases hy:e.yes with _|_<;>refine Bool.eq_iff_iff.2 ?_<;>simp[gj,hK,hC,hT,hA,hF,hY,aI,dA,bb,fE,gf]at * <;> omega
   intro wt;refine aa Z<|aa Z<|aa Z<|bL Z<|dm Z<|aa Z<|aa Z<|aa Z<|aa Z<|aa Z<|bL Z<|dm Z<|aa Z<|aa Z<|aa Z<|bL Z<|ar Z<|lN<|gB<|gA<|dm Z<|dm Z<|aa Z<|aa Z<|aa Z<|bL Z<|ar Z<|lN ?_;refine gT<|aR ?_;refine az trivial ?_;have bZ:e.kind=9:=by simpa using jn
   have js:bb e.af=true:=by simpa using V
   have ip:bb e.ay=true:=by simpa using h2
   clear V h2 h3 h5 h8 dh dO jn;unfold co;rw[bZ];rcases hy:e.yes with _|_<;>refine Bool.eq_iff_iff.2 ?_<;>simp[gj,hK,hC,hT,hA,hF,hY,aI,dA,bb,fE,gf]at * <;> omega
  intro Dd;refine aa Z<|aa Z<|aa Z<|bL Z<|dm Z<|aa Z<|aa Z<|aa Z<|bL Z<|dm Z<|aa Z<|aa Z<|aa Z<|aa Z<|aa Z<|bL Z<|dm Z<|aa Z<|aa Z<|aa Z<|bL Z<|ar Z<|lN<|gB<|gA<|dm Z<|dm Z<|aa Z ?_;refine aa Z<|aa Z<|bL Z<|ar Z<|Y<|aR ?_;refine az trivial ?_;have bZ:e.kind=9:=by simpa using jn
  have js:bb e.af=true:=by simpa using V
  have ip:bb e.ay=true:=by simpa using h2
  clear V h2 h3 h5 h8 dh dO jn;unfold co;rw[bZ];rcases hy:e.yes with _|_<;>refine Bool.eq_iff_iff.2 ?_<;>simp[gj,hK,hC,hT,hA,hF,hY,aI,dA,bb,fE,gf]at * <;> omega
 intro jn;refine aS<|sL<|ak Z<|lT [1,2,3,4,19,162] [2001,2003] ?_;refine bv Z<|Y ?_;refine AW.cond rfl ?_ ?_
 ·intro pd;refine qt 161 true Z pd<|aK<|gT<|aY Z<|sL<|lf 1 gE Z<|aj ac Z<|lf 1 gE Z<|ab (zB 2003 ca cb Z) Z<|Y<|aL<|lf 1 gE Z<|aj ac Z<|ab (zL func210 (Bf _) Z) Z<|bv Z<|lN<|gB<|gA<|aQ Z<|aQ Z ?_;refine AL.bool (t:=175) rfl ?_ ?_
  ·intro Jt;refine aP (.agg [U _ _,U _ _,U _ _,U _ _,U _ _,U _ _,vB _]) dD Z<|aP (.agg [U _ _,U _ _,U _ _,U _ _,U _ _,U _ _,vB false]) dD Z<|lq (rd (x:=vB _) (j0 rfl (.inl rfl) rfl rfl oz pe pf pg ?hn7) rfl) ?_;case hn7=>exact⟨rfl,by decide,rfl,⟨_,underlying3⟩,rfl,by decide,rfl,⟨_,underlying3⟩,rfl,by decide,rfl,⟨_,underlying3⟩,rfl,by decide,rfl,⟨_,underlying3⟩,rfl,by decide,rfl,⟨_,underlying3⟩,rfl,by decide,rfl,⟨_,underlying3⟩,by decide,rfl,underlying4,trivial⟩
   refine bj Z<|bv Z<|Y<|aR ?_;refine az trivial ?_;have bZ:e.kind=6:=by simpa using pd
   have js:bb e.af=true:=by simpa using V
   have ip:bb e.ay=true:=by simpa using h2
   clear V h2 h3 h5 h8 dh dO jn pd;unfold co;rw[bZ];rcases hy:e.yes with _|_<;>refine Bool.eq_iff_iff.2 ?_<;>simp[gj,hK,hC,hT,hA,hF,hY,aI,dA,bb,fE,gf]at * <;> omega
  intro Jt;refine aa Z<|aa Z<|aa Z<|bL Z<|ar Z<|Y<|aR ?_;refine az trivial ?_;have bZ:e.kind=6:=by simpa using pd
  have js:bb e.af=true:=by simpa using V
  have ip:bb e.ay=true:=by simpa using h2
  clear V h2 h3 h5 h8 dh dO jn pd;unfold co;rw[bZ];rcases hy:e.yes with _|_<;>refine Bool.eq_iff_iff.2 ?_<;>simp[gj,hK,hC,hT,hA,hF,hY,aI,dA,bb,fE,gf]at * <;> omega
 intro pd;refine qt 161 false Z pd<|sL<|ak Z<|bv Z<|Y ?_;refine AW.cond rfl ?_ ?_
 ·intro qB;refine qt 161 true Z qB<|aK<|gT<|aY Z<|sL<|lf 1 gE Z<|aj ac Z<|lf 1 gE Z<|ab (zB 2003 ca cb Z) Z<|lT [1,2,3,4] [2001,2003] ?_;refine Y<|aL<|lf 1 gE Z<|aj ac Z<|ab (zL func210 (Bf _) Z) Z<|bv Z<|lN<|gB<|gA<|aQ Z<|aQ Z ?_;refine AL.bool (t:=175) rfl ?_ ?_
  ·intro Ju;refine aP (.agg [U _ _,U _ _,U _ _,U _ _,U _ _,U _ _,vB _]) dD Z<|aP (.agg [U _ _,U _ _,U _ _,U _ _,U _ _,U _ _,vB false]) dD Z<|lq (rd (x:=vB _) (j0 rfl (.inl rfl) rfl rfl oz pe pf pg ?hn8) rfl) ?_;case hn8=>exact⟨rfl,by decide,rfl,⟨_,underlying3⟩,rfl,by decide,rfl,⟨_,underlying3⟩,rfl,by decide,rfl,⟨_,underlying3⟩,rfl,by decide,rfl,⟨_,underlying3⟩,rfl,by decide,rfl,⟨_,underlying3⟩,rfl,by decide,rfl,⟨_,underlying3⟩,by decide,rfl,underlying4,trivial⟩
   refine bj Z<|bv Z<|Y<|aR ?_;refine az trivial ?_;have bZ:e.kind=7:=by simpa using qB
   have js:bb e.af=true:=by simpa using V
   have ip:bb e.ay=true:=by simpa using h2
   clear V h2 h3 h5 h8 dh dO jn pd qB;unfold co;rw[bZ];rcases hy:e.yes with _|_<;>refine Bool.eq_iff_iff.2 ?_<;>simp[gj,hK,hC,hT,hA,hF,hY,aI,dA,bb,fE,gf]at * <;> omega
  intro Ju;refine aa Z<|aa Z<|aa Z<|bL Z<|ar Z<|Y<|aR ?_;refine az trivial ?_;have bZ:e.kind=7:=by simpa using qB
  have js:bb e.af=true:=by simpa using V
  have ip:bb e.ay=true:=by simpa using h2
  clear V h2 h3 h5 h8 dh dO jn pd qB;unfold co;rw[bZ];rcases hy:e.yes with _|_<;>refine Bool.eq_iff_iff.2 ?_<;>simp[gj,hK,hC,hT,hA,hF,hY,aI,dA,bb,fE,gf]at * <;> omega
 intro qB;refine qt 161 false Z qB<|sL<|ak Z<|bv Z<|Y ?_;refine AW.cond rfl ?_ ?_
 ·intro sv;refine qt 161 true Z sv<|aK<|gT<|aY Z<|sL<|lf 1 gE Z<|aj ac Z<|lf 1 gE Z<|ab (zB 2003 ca cb Z) Z<|lT [1,2,3,4] [2001,2003] ?_;refine Y<|aL<|lf 1 gE Z<|aj ac Z<|ab (zL func210 (Bf _) Z) Z<|bv Z<|lN<|gB<|gA<|aQ Z<|aQ Z ?_;refine AL.bool (t:=175) rfl ?_ ?_
  ·intro Z5;refine aP (.agg [U _ _,U _ _,U _ _,U _ _,U _ _,U _ _,vB _]) dD Z<|aP (.agg [U _ _,U _ _,U _ _,U _ _,U _ _,U _ _,vB false]) dD Z<|lq (rd (x:=vB _) (j0 rfl (.inl rfl) rfl rfl oz pe pf pg ?hn9) rfl) ?_;case hn9=>exact⟨rfl,by decide,rfl,⟨_,underlying3⟩,rfl,by decide,rfl,⟨_,underlying3⟩,rfl,by decide,rfl,⟨_,underlying3⟩,rfl,by decide,rfl,⟨_,underlying3⟩,rfl,by decide,rfl,⟨_,underlying3⟩,rfl,by decide,rfl,⟨_,underlying3⟩,by decide,rfl,underlying4,trivial⟩
   refine bj Z<|bv Z<|Y<|aR ?_;refine az trivial ?_;have bZ:e.kind=10:=by simpa using sv
   have js:bb e.af=true:=by simpa using V
   have ip:bb e.ay=true:=by simpa using h2
   clear V h2 h3 h5 h8 dh dO jn pd qB sv;unfold co;rw[bZ];rcases hy:e.yes with _|_<;>refine Bool.eq_iff_iff.2 ?_<;>simp[gj,hK,hC,hT,hA,hF,hY,aI,dA,bb,fE,gf]at * <;> omega
  intro Z5;refine aa Z<|aa Z<|aa Z<|bL Z<|ar Z<|Y<|aR ?_;refine az trivial ?_;have bZ:e.kind=10:=by simpa using sv
  have js:bb e.af=true:=by simpa using V
  have ip:bb e.ay=true:=by simpa using h2
  clear V h2 h3 h5 h8 dh dO jn pd qB sv;unfold co;rw[bZ];rcases hy:e.yes with _|_<;>refine Bool.eq_iff_iff.2 ?_<;>simp[gj,hK,hC,hT,hA,hF,hY,aI,dA,bb,fE,gf]at * <;> omega
 intro sv;refine qt 161 false Z sv<|aL<|ak Z<|bv Z<|Y ?_;refine AW.cond rfl ?_ ?_
 ·intro Bg;refine sL<|lf 1 gE Z<|aj ac Z<|lf 1 gE Z<|ab (zB 2003 ca cb Z) Z<|lT [1,2,3,4] [2001,2003] ?_;refine Y<|aL<|lf 1 gE Z<|aj ac Z<|ab (zL func210 (Bf _) Z) Z<|bv Z<|lN<|gB<|gA<|aQ Z<|aQ Z ?_;refine AL.bool (t:=175) rfl ?_ ?_
  ·intro Z6;refine aP (.agg [U _ _,U _ _,U _ _,U _ _,U _ _,U _ _,vB _]) dD Z<|aP (.agg [U _ _,U _ _,U _ _,U _ _,U _ _,U _ _,vB false]) dD Z<|lq (rd (x:=vB _) (j0 rfl (.inl rfl) rfl rfl oz pe pf pg ?hn10) rfl) ?_;case hn10=>exact⟨rfl,by decide,rfl,⟨_,underlying3⟩,rfl,by decide,rfl,⟨_,underlying3⟩,rfl,by decide,rfl,⟨_,underlying3⟩,rfl,by decide,rfl,⟨_,underlying3⟩,rfl,by decide,rfl,⟨_,underlying3⟩,rfl,by decide,rfl,⟨_,underlying3⟩,by decide,rfl,underlying4,trivial⟩
   refine bj Z<|bv Z<|Y<|aR ?_;refine az trivial ?_;have bZ:e.kind=11:=by simpa using Bg
   have js:bb e.af=true:=by simpa using V
   have ip:bb e.ay=true:=by simpa using h2
   clear V h2 h3 h5 h8 dh dO jn pd qB sv Bg;unfold co;rw[bZ];rcases hy:e.yes with _|_<;>refine Bool.eq_iff_iff.2 ?_<;>simp[gj,hK,hC,hT,hA,hF,hY,aI,dA,bb,fE,gf]at * <;> omega
  intro Z6;refine aa Z<|aa Z<|aa Z<|bL Z<|ar Z<|Y<|aR ?_;refine az trivial ?_;have bZ:e.kind=11:=by simpa using Bg
  have js:bb e.af=true:=by simpa using V
  have ip:bb e.ay=true:=by simpa using h2
  clear V h2 h3 h5 h8 dh dO jn pd qB sv Bg;unfold co;rw[bZ];rcases hy:e.yes with _|_<;>refine Bool.eq_iff_iff.2 ?_<;>simp[gj,hK,hC,hT,hA,hF,hY,aI,dA,bb,fE,gf]at * <;> omega
 intro Bg;refine sL<|ak Z<|bv Z<|Y ?_;refine AW.cond rfl ?_ ?_
 ·intro Jy;refine aK<|gB<|gA<|bM Z<|bM Z<|aP (.agg [U _ _,U _ _,U _ _,U _ _,U _ _,U _ _,vB _]) dD Z<|aP (.agg [U _ _,U _ _,U _ _,U _ _,U _ _,U _ _,vB false]) dD Z<|lq (rd (x:=vB _) (j0 rfl (.inl rfl) rfl rfl oz pe pf pg ?hn11) rfl) ?_;case hn11=>exact⟨rfl,by decide,rfl,⟨_,underlying3⟩,rfl,by decide,rfl,⟨_,underlying3⟩,rfl,by decide,rfl,⟨_,underlying3⟩,rfl,by decide,rfl,⟨_,underlying3⟩,rfl,by decide,rfl,⟨_,underlying3⟩,rfl,by decide,rfl,⟨_,underlying3⟩,by decide,rfl,underlying4,trivial⟩
  refine bj Z<|bv Z<|Y<|aR ?_;refine az trivial ?_;have bZ:e.kind=8:=by simpa using Jy
  have js:bb e.af=true:=by simpa using V
  have ip:bb e.ay=true:=by simpa using h2
  clear V h2 h3 h5 h8 dh dO jn pd qB sv Bg Jy;unfold co;rw[bZ];rcases hy:e.yes with _|_<;>refine Bool.eq_iff_iff.2 ?_<;>simp[gj,hK,hC,hT,hA,hF,hY,aI,dA,bb,fE,gf]at * <;> omega
 intro Jy;refine sL<|ar Z<|Y<|aR<|rB<|rT ?_;refine az trivial ?_;refine(P2 ?_).symm;grind

theorem I1{x:aw}(h:wy x=true){k:Nat}(hk:k<x.ag.length):pS x.ag[k]=true/\su x.ag k=true/\ss x x.ag[k]=true:=by
 simp_all[wy,n5]
theorem I0{l:List be}(h:∀k,k<l.length->su l k=true):∀(j i:Nat) (hj:j<l.length) (hi:i<j),(l[i]'(by omega)).id<l[j].id
 |0,i,hj,hi=>by omega
 |j+1,i,hj,hi=>by
  have V:=h (j+1) hj;unfold su at V;dsimp only at V;rw[List.getElem?_eq_getElem (by omega:j<l.length),List.getElem?_eq_getElem hj]at V;have h2:(l[j]'(by omega)).id<l[j+1].id:=by simpa using V
  rcases Nat.lt_or_ge i j with q|q
  ·have:=I0 h j i (by omega) q;omega
  have:i=j:=by omega
  subst this;exact h2
theorem OT{ks:List Int}(h:wj ks=true):ks.Pairwise (·≠·):=by
 rw[List.pairwise_iff_getElem];intro i j hi hj gF e;unfold wj at h;have V:=List.all_eq_true.1 h j (by simpa using hj);unfold kV at V;simp only[Bool.and_eq_true,Bool.not_eq_true']at V;have e1:ks.getD j 0=ks[j]:=by simp[List.getD_eq_getElem?_getD,List.getElem?_eq_getElem hj]
 rw[e1]at V;have h2:wm (ks.take j) ks[j]=true:=Jn (k:=i) (by simp;omega) (by rw[List.getElem_take];exact e);grind
theorem xO{x:aw}(h:eG x=true):bb x.tick=true/\bb x.aA=true/\aI x.next 1 1125899906842624=true/\x.ag.length<=20/\kW x=true/\wy x=true:=by
 simp_all[eG]
theorem CV{x:aw}(h:kW x=true):x.an.length<=60/\x.aq.length<=20/\(∀h∈x.an,qz x.ag h=true)/\(∀h∈x.aq,qA x.ag h=true)/\wj (dN x)=true:=by
 simp_all[kW]
theorem Fq{x:aw}(h:wy x=true){c:be}(hc:c∈x.ag):pS c=true/\ss x c=true:=by
 obtain⟨k,hk,rfl⟩:=List.getElem_of_mem hc;grind[I1]
theorem BC{l:List be}{a b:Int}(h:two l a b=true):a≠b/\0<=eS l a/\0<=eS l b:=by
 simp_all[two]
theorem IZ{c:be}(h:pS c=true):(1<=c.id/\c.id<=99)/\(0<=c.loc/\c.loc<=1125899906842624)/\(0<=c.aC/\c.aC<=1125899906842624)/\(0<=c.base/\c.base<=1125899906842624)/\(0<=c.br/\c.br<=1000000)/\(-100<=c.cM/\c.cM<=100)/\(0<=c.size/\c.size<=1125899906842624):=by
 simp_all[pS,gf,xQ,cY,cJ]
theorem CT{x:aw}(h:eG x=true):sO x:=by
 obtain⟨V,h2,h3,h4,h5,h6⟩:=xO h;obtain⟨p1,p2,p3,p4,p5⟩:=CV h5;have pD:=cY.1 V;have Cr:=cY.1 h2;have h3':=cJ.1 h3;have hp:=OT p5;unfold dN at hp;rw[List.pairwise_append]at hp;refine⟨⟨by grind[bk],by grind[bk],by grind[bk],fun c hc=>?_,fun y hy=>?_,fun y hy=>?_,h4,p1,p2⟩,?_,?_,?_,fun y hy=>?_,fun y hy=>?_⟩
 ·have:=IZ (Fq h6 hc).1;grind[bk]
 ·grind[xR,cY,bk]
 ·grind[wn,cY,bk]
 ·rw[List.pairwise_iff_getElem];intro i j hi hj gF;have:=I0 (fun k hk=>(I1 h6 hk).2.1) j i hj gF;omega
 ·grind
 ·grind
 ·have:=BC (xR.1 (p3 y hy)).2.2.2.2;omega
 have:=BC (wn.1 (p4 y hy)).2.2.2;omega
theorem ED{e:aV}(h:co e=true):m8 e/\0<=e.af/\0<=e.ay:=by
 have:=uu h;rw[cY,cY]at this;exact⟨⟨by grind[bk],by grind[bk]⟩,by omega,by omega⟩
theorem AI{e:aV}(h:co e=true)(hk:e.kind=5\/e.kind=9):e.ch≠e.to:=by
 simp_all[co,hT]
theorem y8{e:aV}(h:co e=true):1<=e.kind/\e.kind<=11:=by
 rcases Classical.em (1<=e.kind/\e.kind<=11)with q|q;all_goals grind[P2]
theorem De{x:aw}(h:eG x=true):(∀h∈x.an,h.c9<=h.cW)/\∀h∈x.aq,0<=h.af/\0<=h.ay:=by
 obtain⟨_,_,_,_,h5,_⟩:=xO h;obtain⟨_,_,p3,p4,_⟩:=CV h5;grind[xR,wn,cY]
theorem EH{x:aw}(h:eG x=true):∀y∈x.aq,0<=y.af/\0<=y.ay/\y.af+y.ay<=1125899906842624:=fun y hy=>by
 obtain⟨V,h2,h3,h4,h5,h6⟩:=xO h;obtain⟨p1,p2,p3,p4,p5⟩:=CV h5;have ha:=(De h).2 y hy;refine⟨ha.1,ha.2,?_⟩;obtain⟨i,c,q1,q2,q3,q4⟩:=p9 (BC (wn.1 (p4 y hy)).2.2.2).2.1;obtain⟨c1,c2⟩:=Fq h6 (dB q2);have c1:=IZ c1;unfold ss at c2;rw[beq_iff_eq]at c2;have sm:=Jr h5;have s1:=Dc sm c.id;have t1:eR c.id y<=bG (eR c.id) x.aq:=by
  obtain⟨k,hk,rfl⟩:=List.getElem_of_mem hy;have e1:bG (eR c.id) x.aq=bG (eR c.id) (x.aq.take (k+1))+bG (eR c.id) (x.aq.drop (k+1)):=by
   unfold bG;rw[<-List.sum_append,<-List.map_append,List.take_append_drop]
  have e2:=oJ (eR c.id) x.aq hk;have e3:=P3 (eR c.id) 2251799813685248 (by decide) x.aq (sm.eR c.id) k;have e4:=sd (eR c.id) 2251799813685248 (by decide) (x.aq.drop (k+1)) (fun z hz=>sm.eR c.id z (List.mem_of_mem_drop hz));omega
 have t2:0<=bG (dK c.id) x.an:=(sd (dK c.id) 1125899906842624 (by decide) x.an (sm.dK c.id)).1;have t3:eR c.id y=y.af+y.ay:=by unfold eR;rw[if_pos q4.symm]
 grind[fB]
def zb(x:aw)(e:aV):WR:=⟨{ x with aA:=x.aA+e.af },bR (bR [] 1 0 e.af) 2 0 (-e.af),0⟩
def ou(x:aw)(e:aV):WR:=if eS x.ag e.ch=-1 then ⟨x,[],6⟩else ⟨{ x with ag:=cC x.ag e.ch fun c=>{ c with base:=e.af,br:=e.ay } },[],0⟩
def bz(x:aw)(e:aV):WR:=
 if e.kind=1 then zb x e else if e.kind=2 then sJ x e else if e.kind=3 then rH x e else if e.kind=4 then ou x e else if e.kind=5 then sP x e
 else if e.kind=6\/e.kind=7 then mR x e else if e.kind=8 then p' x else if e.kind=9 then sS x e else nm x e
def dG(x:aw)(e:aV):Int:=if (eG x&&co e)=true then (if d8 x e=true then 2 else (bz x e).c)else 1
theorem FF{x:aw}{e:aV}(h:(eG x&&co e)=false):dG x e=1:=if_neg (by simp[h])
theorem Z7{x:aw}{e:aV}(h:(eG x&&co e)=true)(h2:d8 x e=true):dG x e=2:=by simp_all[dG]
theorem yA{x:aw}{e:aV}(h:(eG x&&co e)=true)(h2:d8 x e=false):dG x e=(bz x e).c:=by simp_all[dG]
theorem xA(x:aw)(e:aV):(bz x e).b.next=x.next:=by
 unfold bz;repeat' split
 ·rfl
 ·unfold sJ;split<;>rfl
 ·unfold rH;split<;>rfl
 ·unfold ou;split<;>rfl
 ·unfold sP;split<;>rfl
 ·unfold mR;split<;>(try unfold pN;split)<;>rfl
 ·rfl
 ·unfold sS;split<;>rfl
 grind[nm,mN]
abbrev xX:AV:=.agg [int 0,int 0,int 0,.p (.v (.slice none 0 0)),.p (.v (.slice none 0 0)),.p (.v (.slice none 0 0))]
abbrev tC:AV:=.agg [int 0,.p (.v (.slice none 0 0))]
abbrev Bh(t n w:Int):AV:=.agg [int t,int n,int w,.own 1,.own 2,.own 3]
abbrev Jz(b:aw):List (Nat×AO):=[(1,.ai 159 7 (ah aX b.ag)),(2,df b.an),(3,d7 b.aq)]
abbrev JA(b:aw)(l:List aO):List (Nat×AO):=[(1,.ai 159 7 (ah aX b.ag)),(2,df b.an),(3,d7 b.aq),(4,dc l)]
def FG(x:aw)(e:aV):AV->List (Nat×AO)->Prop:=fun y bd=>
 (dG x e≠0/\y=.au [xX,tC,int (dG x e)]/\bd=[])\/
 (dG x e=0/\(bz x e).l=[]/\y=.au [Bh (bz x e).b.tick (bz x e).b.next (bz x e).b.aA,tC,int 0]/\bd=Jz (bz x e).b)\/
 (dG x e=0/\(bz x e).l≠[]/\y=.au [Bh (bz x e).b.tick ((bz x e).b.next+1) (bz x e).b.aA,.agg [int x.next,.own 4],int 0]/\bd=JA (bz x e).b (bz x e).l)
theorem Z8{rows:List (List PV)}{i:Nat}{R:List PV}(h:i<rows.length):(rows.set i R)[i]? = some R:=List.getElem?_set_self h
theorem EE{x:aw}{e:aV}(h:d8 x e=false):x.next≠1125899906842624:=fun q=>by simp_all[d8]
theorem yY{x:aw}{e:aV}(h:e.kind=1):zb x e=bz x e:=by grind[bz]
theorem xy{x:aw}{e:aV}(h:e.kind=2):sJ x e=bz x e:=by grind[bz]
theorem yZ{x:aw}{e:aV}(h:e.kind=3):rH x e=bz x e:=by grind[bz]
theorem vK{x:aw}{e:aV}(h:e.kind=4):ou x e=bz x e:=by grind[bz]
theorem xz{x:aw}{e:aV}(h:e.kind=5):sP x e=bz x e:=by grind[bz]
theorem uv{x:aw}{e:aV}(h:e.kind=6\/e.kind=7):mR x e=bz x e:=by grind[bz]
theorem y7{x:aw}{e:aV}(h:e.kind=8):p' x=bz x e:=by grind[bz]
theorem t8{x:aw}{e:aV}(h:e.kind=9):sS x e=bz x e:=by grind[bz]
theorem ua{x:aw}{e:aV}(h:10<=e.kind):nm x e=bz x e:=by
 unfold bz;grind
theorem P4{x:aw}{e:aV}(h:eS x.ag e.ch=-1):ou x e=⟨x,[],6⟩:=if_pos h
theorem P5{x:aw}{e:aV}{i:Nat}(h:eS x.ag e.ch=(i:Int)):ou x e=⟨{ x with ag:=cC x.ag e.ch fun c=>{ c with base:=e.af,br:=e.ay } },[],0⟩:=if_neg (by omega)
theorem Z9(x:aw)(e:aV)(hw:di x):GX prog 41 [cj x,ju e] [] (FG x e):=by
 refine GX.intro (rs:=[.cell 4 50 (some 6),.cell 5 92 (some 2),.tmp 6]) func41 rfl ntmps41 (Nat.le_of_ble_eq_true rfl) ⟨rfl,rfl,cu,rfl,rfl,ol,rfl,trivial⟩ ?_;intro L O w0;refine sL<|ab (zX 2002 Z) Z<|ab (zX 2003 Z) Z<|ab (zA 2004 mD Z) Z<|ab (zA 2005 pC Z) Z<|ao Z<|Y<|aS<|sL<|aP (.agg [U _ _,U _ _,U _ _,vL _ _ _,vL _ _ _,vL _ _ _]) cu Z<|ab (zL func101 (Do x hw) Z) Z<|bX Z<|aQ Z ?_;refine AL.bool (t:=13) rfl ?_ ?_
 ·intro V;refine aa Z<|aa Z<|aa Z<|aU Z<|Y<|aY Z<|sL<|lq (rd (x:=.agg [U _ _,U _ _,U _ _,vV _,vV _,vV _]) (cP Z s6 Z Z Z) Z)<|lq (rd (x:=.agg [U _ _,vV _]) (cP Z uA Z Z Z) Z)<|ab (zB 2004 eu ew Z) Z<|ab (zB 2005 na nb Z) Z<|lT [2,3,4,5,6] [2002,2003,2004,2005] ?_;refine ao Z<|Y<|aR<|rT ?_;have mS:(eG x&&co e)=false:=by simp_all
  have qC:=FF mS;refine fN (.au [xX,tC,int 1]) [] ?_ rfl trivial;exact .inl ⟨by omega,by rw[qC],rfl⟩
 intro V;refine aP (.agg [U _ _,U _ _,U _ _,U _ _,U _ _,U _ _,vB _]) dD Z<|ab (zL func110 (Ps e) Z) Z<|bX Z<|bj Z<|Y ?_;refine AW.cond rfl ?_ ?_
 ·intro h2;refine sL<|lq (rd (x:=.agg [U _ _,U _ _,U _ _,vV _,vV _,vV _]) (cP Z s6 Z Z Z) Z)<|lq (rd (x:=.agg [U _ _,vV _]) (cP Z uA Z Z Z) Z)<|ab (zB 2004 eu ew Z) Z<|ab (zB 2005 na nb Z) Z<|ao Z<|Y<|aR<|rT ?_;have mS:(eG x&&co e)=false:=by simp_all
  have qC:=FF mS;refine fN (.au [xX,tC,int 1]) [] ?_ rfl trivial;exact .inl ⟨by omega,by rw[qC],rfl⟩
 intro h2;refine aK<|gT<|aS<|sL<|aP (.agg [U _ _,U _ _,U _ _,vL _ _ _,vL _ _ _,vL _ _ _]) cu Z ?_;have mS:(eG x&&co e)=true:=by simp_all
 have jr:eG x=true:=by simp_all
 have uQ:co e=true:=by simp_all
 have fi:=CT jr;have sm:=fi.sm;obtain⟨es,zH,tL⟩:=ED uQ;have hm:x.ag.length<=1000000000:=by have:=sm.lc;omega
 obtain⟨Z',P6,JB,aaa,aab,aac⟩:=xO jr;have Gz:=cJ.1 JB;refine aP (.agg [U _ _,U _ _,U _ _,U _ _,U _ _,U _ _,vB _]) dD Z<|ab (zL func111 (Sh x e sm es) Z) Z<|Y ?_;refine AW.cond rfl ?_ ?_
 ·intro h3;refine sL<|lq (rd (x:=.agg [U _ _,U _ _,U _ _,vV _,vV _,vV _]) (cP Z s6 Z Z Z) Z)<|lq (rd (x:=.agg [U _ _,vV _]) (cP Z uA Z Z Z) Z)<|ab (zB 2004 eu ew Z) Z<|lT [2,3,4,5,6,24] [2002,2003,2004,2005] ?_;refine ab (zB 2005 na nb Z) Z<|ao Z<|Y<|aR<|rT ?_;have qC:=Z7 mS (by omega);refine fN (.au [xX,tC,int 2]) [] ?_ rfl trivial;exact .inl ⟨by omega,by rw[qC],rfl⟩
 intro h3;refine aK<|gA<|aP (.agg [U _ _,U _ _,U _ _,vL _ _ _,vL _ _ _,vL _ _ _]) cu Z<|ab (zC [(2005,1),(2009,2),(2013,3)] [1,2,3] [] func56 (KY x (by have:=sm.lc;have:=sm.lh;have:=sm.li;omega)) (trivial) rfl rfl) Z<|lq (rd (x:=.agg [U _ _,U _ _,U _ _,.own _,.own _,.own _,vV _,U _ _]) (cP rfl VJ rfl rfl rfl) rfl)<|ab (zX 0 rfl) Z<|lC Z<|Y ?_;refine AW.pi 4 0 6 167 3 rfl (by decide) rfl ?_;refine AW.tZ 0 rfl ?_;intro gw;refine AW.mU 1 rfl ?_;intro u;refine AW.obj 4 (dc []) rfl ?_;refine aJ [2,4,5,6,7] [2002,2003,2004,2005] (D:=Unit) (fun jd=>[]) (fun jd=>[(0,cN gw (bz x e).b.tick (bz x e).b.next (bz x e).b.aA (bz x e).c),(1,.ai 159 7 (ah aX (bz x e).b.ag)),(2,df (bz x e).b.an),(3,d7 (bz x e).b.aq),(4,dc (bz x e).l)]) (fun jd=>True) ?_ ?_
 ·refine sL<|lf 0 jz Z<|aj ac Z<|Y<|aB<|sL<|ak Z<|bv Z<|Y ?_;refine AW.cond rfl ?_ ?_
  ·intro h4;refine aS<|aG 11 []<|tq 0 (cG Z)<|tq 1 (rc Z)<|tq 2 (rf 0 dR Z)<|tq 3 (rf 2 iW Z)<|tq 4 (aZ ac Z)<|yq 5 (rf 4 bN Z)<|yq 6 (aZ ac Z) ?_;refine yq 7 (iC rfl ⟨rfl,ce (by have:=sm.aA;have:=es.af;grind[bk,i64])⟩)<|yq 8 (rc rfl)<|yq 9 (rf 0 dR rfl)<|yq 10 (rf 2 iW rfl)<|yl rfl (zB 0 ca cb rfl)<|gA<|aM Z<|lf 4 bN Z<|aj ac rfl ?_;refine ab (et func112 (lU _ _ _ _ _ _ _ _ _ _ _ _ _ _ ([]) 0 (LG.nil) (by decide) _ _ _ (cL.nil _ _) (gP es.af)) (⟨stays.box rfl,stays.ai rfl,trivial⟩) rfl rfl) Z<|lT [2,3,4,5,6,7] [0,1,2,3,4,2002,2003,2004,2005] ?_;refine Y ?_;refine iQ 1 rfl ?_;refine aL<|aM Z<|lf 4 bN Z<|aj ac Z<|lq (rd (x:=U _ _) (il rfl rfl (ce (by have:=es.af;grind[bk,i64]))) rfl) ?_;refine ab (bF func112 (lU _ _ _ _ _ _ _ _ _ _ _ _ _ _ (bR [] 1 0 e.af) 1 (LG.nil.add (gP es.af)) (by decide) _ _ _ ((cL.nil _ _).add (.inl (by decide))) (jM es.af)) (⟨stays.box rfl,trivial⟩) rfl rfl) Z<|lN<|gB<|gT ?_;have hw:zb x e=bz x e:=yY (by grind);refine⟨(),trivial,trivial,⟨(congrArg (fun r:WR=>cN gw r.b.tick r.b.next r.b.aA r.c) hw),(congrArg (fun r:WR=>AO.ai 159 7 (ah aX r.b.ag)) hw),(congrArg (fun r:WR=>df r.b.an) hw),(congrArg (fun r:WR=>d7 r.b.aq) hw),(congrArg (fun r:WR=>dc r.l) hw),trivial⟩,rfl,rfl⟩
  intro h4;refine sL<|ak Z<|bv Z<|Y ?_;refine AW.cond rfl ?_ ?_
  ·intro h5;refine aL<|aM Z<|aP (.agg [U _ _,U _ _,U _ _,U _ _,U _ _,U _ _,vB _]) dD Z ?_;refine ab (bF func113 (Sm _ _ x e sm es) (⟨stays.box rfl,trivial⟩) rfl rfl) Z<|lN<|gB<|gT ?_;have hw:sJ x e=bz x e:=xy (by grind);refine⟨(),trivial,trivial,⟨(congrArg (fun r:WR=>cN gw r.b.tick r.b.next r.b.aA r.c) hw),(congrArg (fun r:WR=>AO.ai 159 7 (ah aX r.b.ag)) hw),(congrArg (fun r:WR=>df r.b.an) hw),(congrArg (fun r:WR=>d7 r.b.aq) hw),(congrArg (fun r:WR=>dc r.l) hw),trivial⟩,rfl,rfl⟩
  intro h5;refine sL<|ak Z<|bv Z<|Y ?_;refine AW.cond rfl ?_ ?_
  ·intro h6;refine aL<|aM Z<|aP (.agg [U _ _,U _ _,U _ _,U _ _,U _ _,U _ _,vB _]) dD Z ?_;refine ab (bF func114 (Z0 _ _ x e fi es tL) (⟨stays.box rfl,trivial⟩) rfl rfl) Z<|lT [2,4,5,6,7] [0,1,2,3,4,2002,2003,2004,2005] ?_;refine lN<|gB<|gT ?_;have hw:rH x e=bz x e:=yZ (by grind);refine⟨(),trivial,trivial,⟨(congrArg (fun r:WR=>cN gw r.b.tick r.b.next r.b.aA r.c) hw),(congrArg (fun r:WR=>AO.ai 159 7 (ah aX r.b.ag)) hw),(congrArg (fun r:WR=>df r.b.an) hw),(congrArg (fun r:WR=>d7 r.b.aq) hw),(congrArg (fun r:WR=>dc r.l) hw),trivial⟩,rfl,rfl⟩
  intro h6;refine sL<|ak Z<|bv Z<|Y ?_;refine AW.cond rfl ?_ ?_
  ·intro h7;refine sL<|aM Z<|lf 2 dn Z<|aj ac Z ?_;rcases jt x.ag e.ch with⟨hi,ho⟩|⟨i,c,hi,hc,ho,hid⟩
   ·skip;refine ab (zC [(0,0),(1,1),(2,2),(3,3),(4,4),(2017,2017)] [2,3,4,2017] [0,1] func115 (wJ _ _ x _ _ _ hm hi) (⟨stays.box rfl,stays.ai rfl,trivial⟩) rfl rfl) Z<|lC Z<|Y ?_;refine iQ 1 rfl ?_;refine aG 11 [2017]<|tq 0 (cG Z)<|tq 1 (cG Z)<|tq 2 (rf 4 bN Z)<|tq 3 (aZ ac Z)<|tq 4 (rf 5 fC Z)<|tq 5 (aZ ac Z)<|yq 6 (rc Z)<|yq 7 (rf 4 nE Z)<|cm 8 Z (zB 2017 ca cb Z)<|gX [2,4,5,6,7,73,77] [0,1,2,3,4,2002,2003,2004,2005,2017] ?_;refine yq 9 (rc Z)<|yq 10 (rf 5 mH Z)<|yl Z (zB 2017 ca cb Z)<|gB<|gT ?_;have hw:ou x e=bz x e:=vK (by grind);rw[P4 hi]at hw;refine⟨(),trivial,trivial,⟨(congrArg (fun r:WR=>cN gw r.b.tick r.b.next r.b.aA r.c) hw),(congrArg (fun r:WR=>AO.ai 159 7 (ah aX r.b.ag)) hw),(congrArg (fun r:WR=>df r.b.an) hw),(congrArg (fun r:WR=>d7 r.b.aq) hw),(congrArg (fun r:WR=>dc r.l) hw),trivial⟩,rfl,rfl⟩
   have bC:=sm.ag c (dB hc);refine ab (et func115 (rP _ _ x _ _ _ hm _ _ hi hc) (⟨stays.box rfl,stays.ai rfl,trivial⟩) rfl rfl) Z<|lC Z<|Y ?_;refine iQ 1 rfl ?_;refine aG 11 [1]<|tq 0 (cG Z)<|tq 1 (cG Z)<|tq 2 (rf 4 bN Z)<|tq 3 (aZ ac Z)<|tq 4 (rf 5 fC Z)<|tq 5 (aZ ac Z)<|yq 6 (rc Z)<|yq 7 (rf 4 nE Z)<|cm 8 Z (zQ 1 [.v (.int .i64 e.af)] ca cb Z (dk hc))<|gX [2,4,5,6,7,73,77] [0,1,2,3,4,2002,2003,2004,2005] ?_;refine yq 9 (rc rfl)<|yq 10 (rf 5 mH rfl)<|yl rfl (zQ 1 [.v (.int .i64 e.ay)] ca cb rfl (Z8 (by grind[ap])))<|gB<|gT ?_;have hw:ou x e=bz x e:=vK (by grind);rw[P5 hi]at hw;refine⟨(),trivial,trivial,⟨(congrArg (fun r:WR=>cN gw r.b.tick r.b.next r.b.aA r.c) hw),(Eq.trans (Eq.trans (b:=AO.ai 159 7 (((ah aX x.ag).set i ((aX { c with base:=e.af }).map PV.v)).set i ((aX { c with base:=e.af,br:=e.ay }).map PV.v))) rfl (congrArg (AO.ai 159 7) (by rw[List.set_set];exact lB.trans (congrArg (ah aX) (by rw[FD fi.ids hc (fun c=>{ c with base:=e.af,br:=e.ay }),hid]))))) (congrArg (fun r:WR=>AO.ai 159 7 (ah aX r.b.ag)) hw)),(congrArg (fun r:WR=>df r.b.an) hw),(congrArg (fun r:WR=>d7 r.b.aq) hw),(congrArg (fun r:WR=>dc r.l) hw),trivial⟩,rfl,rfl⟩
  intro h7;refine sL<|ak Z<|bv Z<|Y ?_;refine AW.cond rfl ?_ ?_
  ·intro h8;refine aL<|aM Z<|aP (.agg [U _ _,U _ _,U _ _,U _ _,U _ _,U _ _,vB _]) dD Z ?_;refine ab (bF func116 (Z1 _ _ x e fi es (AI uQ (.inl (by grind)))) (⟨stays.box rfl,trivial⟩) rfl rfl) Z<|lN<|gB<|gT ?_;have hw:sP x e=bz x e:=xz (by grind);refine⟨(),trivial,trivial,⟨(congrArg (fun r:WR=>cN gw r.b.tick r.b.next r.b.aA r.c) hw),(congrArg (fun r:WR=>AO.ai 159 7 (ah aX r.b.ag)) hw),(congrArg (fun r:WR=>df r.b.an) hw),(congrArg (fun r:WR=>d7 r.b.aq) hw),(congrArg (fun r:WR=>dc r.l) hw),trivial⟩,rfl,rfl⟩
  intro h8;refine aS<|sL<|ak Z<|bv Z<|Y ?_;refine AW.cond rfl ?_ ?_
  ·intro h9;refine qt 87 true Z h9<|aK<|gT<|aY Z<|aL<|aM Z<|aP (.agg [U _ _,U _ _,U _ _,U _ _,U _ _,U _ _,vB _]) dD Z ?_;refine ab (bF func117 (P1 _ _ x e fi es (De jr).1) (⟨stays.box rfl,trivial⟩) rfl rfl) Z<|lN<|gB<|gT ?_;have hw:mR x e=bz x e:=uv (.inl (by grind));refine⟨(),trivial,trivial,⟨(congrArg (fun r:WR=>cN gw r.b.tick r.b.next r.b.aA r.c) hw),(congrArg (fun r:WR=>AO.ai 159 7 (ah aX r.b.ag)) hw),(congrArg (fun r:WR=>df r.b.an) hw),(congrArg (fun r:WR=>d7 r.b.aq) hw),(congrArg (fun r:WR=>dc r.l) hw),trivial⟩,rfl,rfl⟩
  intro h9;refine qt 87 false Z h9<|aL<|ak Z<|bv Z<|Y ?_;refine AW.cond rfl ?_ ?_
  ·intro dh;refine aL<|aM Z<|aP (.agg [U _ _,U _ _,U _ _,U _ _,U _ _,U _ _,vB _]) dD Z ?_;refine ab (bF func117 (P1 _ _ x e fi es (De jr).1) (⟨stays.box rfl,trivial⟩) rfl rfl) Z<|lT [2,4,5,6,7] [0,1,2,3,4,2002,2003,2004,2005] ?_;refine lN<|gB<|gT ?_;have hw:mR x e=bz x e:=uv (.inr (by grind));refine⟨(),trivial,trivial,⟨(congrArg (fun r:WR=>cN gw r.b.tick r.b.next r.b.aA r.c) hw),(congrArg (fun r:WR=>AO.ai 159 7 (ah aX r.b.ag)) hw),(congrArg (fun r:WR=>df r.b.an) hw),(congrArg (fun r:WR=>d7 r.b.aq) hw),(congrArg (fun r:WR=>dc r.l) hw),trivial⟩,rfl,rfl⟩
  intro dh;refine sL<|ak Z<|bv Z<|Y ?_;refine AW.cond rfl ?_ ?_
  ·intro gp;refine aL<|aM Z ?_;refine ab (bF func118 (Sk _ _ x sm) (⟨stays.box rfl,trivial⟩) rfl rfl) Z<|lN<|gB<|gT ?_;have hw:p' x=bz x e:=y7 (by grind);refine⟨(),trivial,trivial,⟨(congrArg (fun r:WR=>cN gw r.b.tick r.b.next r.b.aA r.c) hw),(congrArg (fun r:WR=>AO.ai 159 7 (ah aX r.b.ag)) hw),(congrArg (fun r:WR=>df r.b.an) hw),(congrArg (fun r:WR=>d7 r.b.aq) hw),(congrArg (fun r:WR=>dc r.l) hw),trivial⟩,rfl,rfl⟩
  intro gp;refine sL<|ak Z<|bv Z<|Y ?_;refine AW.cond rfl ?_ ?_
  ·intro gM;refine aL<|aM Z<|aP (.agg [U _ _,U _ _,U _ _,U _ _,U _ _,U _ _,vB _]) dD Z ?_;refine ab (bF func119 (Z3 _ _ x e fi es (AI uQ (.inr (by grind)))) (⟨stays.box rfl,trivial⟩) rfl rfl) Z<|lN<|gB<|gT ?_;have hw:sS x e=bz x e:=t8 (by grind);refine⟨(),trivial,trivial,⟨(congrArg (fun r:WR=>cN gw r.b.tick r.b.next r.b.aA r.c) hw),(congrArg (fun r:WR=>AO.ai 159 7 (ah aX r.b.ag)) hw),(congrArg (fun r:WR=>df r.b.an) hw),(congrArg (fun r:WR=>d7 r.b.aq) hw),(congrArg (fun r:WR=>dc r.l) hw),trivial⟩,rfl,rfl⟩
  intro gM;refine aL<|aM Z<|aP (.agg [U _ _,U _ _,U _ _,U _ _,U _ _,U _ _,vB _]) dD Z ?_;refine ab (bF func120 (Z2 _ _ x e fi es (EH jr)) (⟨stays.box rfl,trivial⟩) rfl rfl) Z<|lN<|gB<|gT ?_;have hw:nm x e=bz x e:=ua (by have hek:=y8 uQ;grind);refine⟨(),trivial,trivial,⟨(congrArg (fun r:WR=>cN gw r.b.tick r.b.next r.b.aA r.c) hw),(congrArg (fun r:WR=>AO.ai 159 7 (ah aX r.b.ag)) hw),(congrArg (fun r:WR=>df r.b.an) hw),(congrArg (fun r:WR=>d7 r.b.aq) hw),(congrArg (fun r:WR=>dc r.l) hw),trivial⟩,rfl,rfl⟩
 intro jd hJ;refine aS<|aS ?_;have gy:d8 x e=false:=by simpa using h3
 have FH:=yA mS gy;have mj:=EE gy;refine aL<|aM Z<|lc Z<|lf 7 mK Z<|aj ac Z<|ak Z<|Y ?_;refine AW.cond rfl ?_ ?_
 ·intro dO;refine aS<|aG 8 [2004,2005]<|tq 0 (rd (x:=.agg [U _ _,U _ _,U _ _,vV _,vV _,vV _]) (cP Z s6 Z Z Z) Z)<|tq 1 (rd (x:=.agg [U _ _,vV _]) (cP Z uA Z Z Z) Z)<|tq 2 (cG Z)<|tq 3 (rc Z)<|tq 4 (rf 7 mK Z)<|tq 5 (aZ ac Z)<|cm 6 Z (zB 2004 eu ew Z)<|cm 7 Z (zB 2005 na nb Z)<|yq 8 (j8 Z)<|gD<|gT<|aR<|rT ?_;refine fN (.au [xX,tC,int (bz x e).c]) [] ?_ rfl trivial;exact .inl ⟨by grind,by rw[FH],rfl⟩
 intro dO;refine aK<|gA<|ab (zA 2009 pC Z) Z<|lT [2,4,5,6,7,9] [0,1,2,3,4,2002,2003,2004,2005,2009] ?_;refine Y<|aS<|sL<|aM Z<|lc Z<|lf 6 DJ Z<|iO gY Z<|ba hZ Z<|ak Z<|Y ?_;refine AW.cond rfl ?_ ?_
 ·intro ij;refine aS<|aG 7 []<|tq 0 (rf 1 mW Z)<|tq 1 (aZ ac Z)<|yq 2 (cG Z)<|yq 3 (rc Z)<|yq 4 (rf 6 DJ Z)<|yq 5 (gC gY Z)<|yq 6 (rd (x:=.agg [U _ _,.own _]) (cP Z uA Z Z Z) Z)<|yl Z (zB 2009 na nb Z)<|gT<|aL<|aM Z<|lc Z<|lf 0 dR Z<|lf 1 mW Z<|aj ac Z ?_;refine eo rfl ⟨rfl,ce (by grind[xA,i64])⟩<|lc Z<|lf 0 dR Z<|lf 1 mW Z<|ab (zB 0 ca cb rfl) Z<|lT [4,5,6,7,9] [0,1,2,3,4,2002,2003,2004,2005,2009] ?_;refine Y<|aS<|aG 7 [2004,2005]<|tq 0 (cG Z)<|tq 1 (rc Z)<|tq 2 (rf 0 dR Z)<|tq 3 (dw (.agg [U _ _,U _ _,U _ _,.own _,.own _,.own _]) cu Z)<|tq 4 (dw (.agg [U _ _,.own _]) ol Z)<|cm 5 Z (zB 2004 eu ew Z)<|cm 6 Z (zB 2005 na nb Z)<|yq 7 (j8 Z)<|gD<|gT<|aR ?_;refine fN (.au [Bh (bz x e).b.tick ((bz x e).b.next+1) (bz x e).b.aA,.agg [int x.next,.own 4],int 0]) (JA (bz x e).b (bz x e).l) ?_ rfl ⟨rfl,rfl,rfl,rfl,trivial⟩;exact .inr (.inr ⟨(by grind),(by intro q;have h:=ij;rw[q]at h;cases h),rfl,rfl⟩)
 intro ij;refine aK<|gT<|aS<|aG 7 [2004,2005]<|tq 0 (cG Z)<|tq 1 (rc Z)<|tq 2 (rf 0 dR Z)<|tq 3 (dw (.agg [U _ _,U _ _,U _ _,.own _,.own _,.own _]) cu Z)<|tq 4 (dw (.agg [U _ _,vV _]) ol Z)<|cm 5 Z (zB 2004 eu ew Z)<|gX [4,5,6,139] [0,1,2,3,4,2002,2003,2004,2005,2009] ?_;refine cm 6 Z (zB 2005 na nb Z)<|yq 7 (j8 Z)<|gD<|gT<|aR ?_;have dY:(bz x e).l=[]:=List.length_eq_zero_iff.1 (by grind[ap]);refine fN (.au [Bh (bz x e).b.tick (bz x e).b.next (bz x e).b.aA,tC,int 0]) (Jz (bz x e).b) ?_ rfl ⟨rfl,rfl,rfl,trivial⟩;exact .inr (.inl ⟨(by grind),dY,rfl,rfl⟩)

def kp(x y:aO):Bool:=!cg y.acc x.acc
theorem P7{x:aO}:∀ {l:List aO},l.any (kp x)=false->fV l x=l++[x]
 |[],_=>rfl
 |y::l,h=>by
  rw[List.any_cons,Bool.or_eq_false_iff]at h;unfold fV;have:cg y.acc x.acc=true:=by have:=h.1;unfold kp at this;simpa using this
  rw[if_pos this,P7 h.2];rfl
theorem P8{x y:aO}:∀ {l:List aO},l.any (kp x)=true->fV (l++[y]) x=fV l x++[y]
 |[],h=>by grind
 |z::l,h=>by
  rw[List.any_cons,Bool.or_eq_true]at h;rw[List.cons_append];unfold fV;by_cases q:cg z.acc x.acc=true
  ·rw[if_pos q,if_pos q];have:l.any (kp x)=true:=by
    rcases h with h|h
    ·unfold kp at h;simp[q]at h
    exact h
   rw[P8 this];rfl
  rw[if_neg q,if_neg q];rfl
theorem P9{x y:aO}:∀ {l:List aO},l.any (kp x)=false->kp x y=true->fV (l++[y]) x=l++[x,y]
 |[],_,h=>by
  grind[kp,fV]
 |z::l,h,h2=>by
  rw[List.any_cons,Bool.or_eq_false_iff]at h;rw[List.cons_append];unfold fV;have:cg z.acc x.acc=true:=by have:=h.1;unfold kp at this;simpa using this
  rw[if_pos this,P9 h.2 h2];rfl
def nt(x:aO)(l:List aO):List aO:=if l.any (kp x)then fV l x else l
theorem pr{α:Type}{p:α->Bool}{l:List α}{k:Nat}(hk:k<l.length):(l.take (k+1)).any p=((l.take k).any p||p l[k]):=by grind[List.take_succ_eq_append_getElem]
theorem aad{x:aO}{l:List aO}{k:Nat}(hk:k<l.length)(h:(l.take k).any (kp x)=true):nt x (l.take (k+1))=nt x (l.take k)++[l[k]]:=by
 unfold nt;rw[pr hk,h,Bool.true_or,if_pos rfl,if_pos rfl,List.take_succ_eq_append_getElem hk,P8 h]
theorem aae{x:aO}{l:List aO}{k:Nat}(hk:k<l.length)(h:(l.take k).any (kp x)=false)(h2:kp x l[k]=true):nt x (l.take (k+1))=(nt x (l.take k)++[x])++[l[k]]:=by
 unfold nt;rw[pr hk,h,h2,Bool.false_or,if_pos rfl,if_neg (by simp),List.take_succ_eq_append_getElem hk,P9 h h2];simp
theorem aaf{x:aO}{l:List aO}{k:Nat}(hk:k<l.length)(h:(l.take k).any (kp x)=false)(h2:kp x l[k]=false):nt x (l.take (k+1))=nt x (l.take k)++[l[k]]:=by
 unfold nt;rw[pr hk,h,h2,Bool.false_or,if_neg (by simp),if_neg (by simp),List.take_succ_eq_append_getElem hk]
theorem aag{x:aO}{l:List aO}(h:l.any (kp x)=true):nt x l=fV l x:=if_pos h
theorem aah{x:aO}{l:List aO}(h:l.any (kp x)=false):nt x l++[x]=fV l x:=by simp_all[nt,P7]
theorem Df{x:aO}(l:List aO):(nt x l).length<=l.length+1:=by grind[nt,BH]
abbrev cD(g:Value)(t n w c:Int):AO:=.box 236 (some g) [int t,int n,int w,.own 1,.own 2,.own 3,.own 4,int c]
abbrev p7(g:Value)(x:aw)(l:List aO)(c:Int):List (Nat×AO):=[(0,cD g x.tick x.next x.aA c),(1,.ai 159 7 (ah aX x.ag)),(2,df x.an),(3,d7 x.aq),(4,dc l)]
abbrev yd(g:Value)(r:WR):List (Nat×AO):=p7 g r.b r.l r.c
def wH(x:aw):List Int:=x.an.map (fun h=>h.key)++x.aq.map (fun h=>h.key)
def kt(n:Int):List Value:=[.int .i64 n]
theorem P'{α:Type}{p:α->Bool}{l:List α}:decide (0<=jw p l)=l.any p:=by
 grind[jw]
theorem any_keys(x:aw)(key:Int):(wH x).any (fun k=>k==key)=nD x key:=by
 grind[wH,nD,DG,DH,P']
theorem GJ(a b:Acc):GC prog 263 [.agg [int a.kind,int a.ch],.agg [int b.kind,int b.ch]] [] (aD (cg a b)) []:=by
 refine gi 4 func263 rfl ntmps263 rfl ?_;intro L O w0;refine sL<|ab (zX 2002 Z) Z<|ab (zX 2003 Z) Z<|ar Z<|nA<|lf 0 oW Z<|aj ac Z<|lf 0 oW Z<|aj ac Z<|ak Z<|aQ Z ?_;refine AL.bool (t:=10) rfl ?_ ?_
 ·intro V;refine aa Z<|aa Z<|aa Z<|aa Z<|aa Z<|aa Z<|aa Z<|aa Z<|aa Z<|aa Z<|aa Z<|aa Z<|aU Z<|cI Z<|Y<|aR ?_;refine az trivial ?_;grind[cg]
 intro V;refine lf 0 oW Z<|aj ac Z<|lf 0 oW Z<|aj ac Z<|ak Z<|aQ Z ?_;refine AL.bool (t:=16) rfl ?_ ?_
 ·intro h2;refine lf 1 rV Z<|aj ac Z<|lf 1 rV Z<|aj ac Z<|ak Z<|bj Z<|bj Z<|bv Z<|Y<|aR ?_;refine az trivial ?_;grind[cg]
 intro h2;refine aa Z<|aa Z<|aa Z<|aa Z<|aa Z<|bL Z<|bL Z<|ar Z<|Y<|aR ?_;refine az trivial ?_;grind[cg]
theorem aai(l:List aO)(x:aO)(m:Nat)(hl:LG l m)(hm:m<=1000)(hf:cL l x.acc.kind x.acc.ch):GC prog 209 [.p (.ab 167 3 (ah ct l)),.agg [int x.acc.kind,int x.acc.ch,int x.af]] [] (.own 2009) [(2009,dc (fV l x))]:=by
 have hlen:=hl.len;refine gi 4 func209 rfl ntmps209 rfl ?_;intro L O w0;refine sL<|ab (zX 2003 rfl) Z<|e9 Z<|nA<|ab (zS 2009 [] cV eP rfl (by simp)) Z<|bD Z<|nA<|ar Z<|Y<|aS<|sL<|bm Z<|ba hZ Z<|ae Z<|Y<|aB ?_;refine aW [3,4,5,10,11] [2003] (D:=Nat) (fun k=>[(6,aD ((l.take k).any (kp x))),(12,int (k:Int))]) (fun k=>[(2009,dc (nt x (l.take k)))]) (fun k=>k<=l.length) (fun k=>l.length-k) (0) (Nat.zero_le _) ⟨rfl,rfl,trivial⟩ ⟨rfl,trivial⟩ ?_;intro k hI;refine sL<|ak Z<|Y<|aS ?_;refine AW.cond rfl ?_ ?_
 ·intro V;refine aK<|gT<|aS<|aB<|sL ?_;have hk:k<l.length:=by simpa[ap]using V
  refine li k cV Z (bS hk)<|d6 (.agg [U _ _,U _ _,U _ _]) iV Z<|ab (zA 2008 eP Z) Z<|ab (zB 2008 vf vg Z) Z<|Y<|aS<|sL<|aQ Z<|bX Z<|aQ Z ?_;refine AL.bool (t:=18) rfl ?_ ?_
  ·intro h2;refine lf 0 jf Z<|aP (.agg [U _ _,U _ _]) i0 Z<|lf 0 jf Z<|aP (.agg [U _ _,U _ _]) i0 Z<|ab (zL func263 (GJ _ _) Z) Z<|lT [3,4,5,6,8,10,11,12,18,23] [2003,2008,2009] ?_;refine bX Z<|bj Z<|Y ?_;refine AW.cond rfl ?_ ?_
   ·intro h3;refine aS<|sL<|lf 0 jf Z<|aP (.agg [U _ _,U _ _]) i0 Z<|lf 0 jf Z<|aP (.agg [U _ _,U _ _]) i0 Z<|lq (rd (x:=vB _) (j0 rfl (.inr rfl) rfl rfl uR wA wB Ad ?hn1) rfl) ?_;case hn1=>exact⟨rfl,by decide,rfl,⟨_,underlying3⟩,rfl,by decide,rfl,⟨_,underlying3⟩,trivial⟩
    refine bJ 30 true rfl (by show (!dA _ _)=true;have:=hf l[k] (List.getElem_mem hk);grind[dA])<|Y<|aY Z<|aL<|bW Z<|aP (.agg [U _ _,U _ _,U _ _]) iV Z<|ab (zS 2033 (ah ct [x]) cV eP rfl) Z<|ab (zP 2009 cV eP lE rfl (Src.own rfl rfl) (by grind[Df,ah])) Z<|bD Z<|nA<|cI Z<|nA<|lf 0 jf Z<|aP (.agg [U _ _,U _ _]) i0 Z<|lf 0 jf Z<|aP (.agg [U _ _,U _ _]) i0 Z<|lq (rd (x:=vB _) (j0 rfl (.inl rfl) rfl rfl uR wA wB Ad ?hn2) rfl) ?_;case hn2=>exact⟨rfl,by decide,rfl,⟨_,underlying3⟩,rfl,by decide,rfl,⟨_,underlying3⟩,trivial⟩
    refine bJ 56 false rfl (by show dA _ _=false;have:=hf l[k] (List.getElem_mem hk);grind[dA])<|Y<|aN Z<|aK<|gT<|aL<|bW Z<|aP (.agg [U _ _,U _ _,U _ _]) iV Z<|ab (zS 2059 (ah ct [l[k]]) cV eP rfl) Z<|lT [3,4,5,6,10,11,12,57,59] [2003,2008,2009,2033,2059] ?_;refine ab (zP 2009 cV eP lE rfl (Src.own rfl rfl) (by grind[Df,ah])) Z<|bD Z<|lN<|gB<|gT<|aL<|bg Z<|ae Z<|Y ?_;have ha:(l.take k).any (kp x)=false:=by simpa using h2
    have hb:kp x l[k]=true:=by unfold kp;simpa using h3
    refine⟨k+1,hk,by omega,⟨(Eq.trans (b:=aD true) rfl (congrArg aD (by simp_all[pr]))),(iq rfl),trivial⟩,⟨(Eq.trans (b:=dc ((nt x (l.take k)++[x])++[l[k]])) (congrArg (AO.ai 167 3) (by grind[fx])) (congrArg dc (aae hk ha hb).symm)),trivial⟩,rfl,rfl⟩
   intro h3;refine aK<|gT<|aL<|bW Z<|aP (.agg [U _ _,U _ _,U _ _]) iV Z<|ab (zS 2059 (ah ct [l[k]]) cV eP rfl) Z<|ab (zP 2009 cV eP lE rfl (Src.own rfl rfl) (by grind[Df,ah])) Z<|bD Z<|lN<|gB<|gT<|aL<|bg Z<|ae Z<|Y ?_;have ha:(l.take k).any (kp x)=false:=by simpa using h2
   have hb:kp x l[k]=false:=by unfold kp;simpa using h3
   refine⟨k+1,hk,by omega,⟨(Eq.trans (b:=aD ((l.take k).any (kp x))) rfl (congrArg aD (by simp_all[pr]))),(iq rfl),trivial⟩,⟨(Eq.trans (b:=dc (nt x (l.take k)++[l[k]])) (congrArg (AO.ai 167 3) (fx ct _ [_]).symm) (congrArg dc (aaf hk ha hb).symm)),trivial⟩,rfl,rfl⟩
  intro h2;refine aa Z<|aa Z<|aa Z<|aa Z<|aa Z<|aa Z<|bL Z<|Y<|aN Z<|aK<|gT<|aL<|bW Z<|aP (.agg [U _ _,U _ _,U _ _]) iV Z<|ab (zS 2059 (ah ct [l[k]]) cV eP Z) Z<|lT [3,4,5,6,10,11,12,57,59] [2003,2008,2009,2059] ?_;refine ab (zP 2009 cV eP lE rfl (Src.own rfl rfl) (by grind[Df,ah])) Z<|bD Z<|lN<|gB<|gT<|aL<|bg Z<|ae Z<|Y ?_;have ha:(l.take k).any (kp x)=true:=by simpa using h2
  refine⟨k+1,hk,by omega,⟨(Eq.trans (b:=aD ((l.take k).any (kp x))) rfl (congrArg aD (by grind))),(iq rfl),trivial⟩,⟨(Eq.trans (b:=dc (nt x (l.take k)++[l[k]])) (congrArg (AO.ai 167 3) (fx ct _ [_]).symm) (congrArg dc (aad hk ha).symm)),trivial⟩,rfl,rfl⟩
 intro V;refine aE<|eT<|eT<|eB<|gT<|aS<|sL<|aQ Z<|bX Z<|Y ?_;refine AW.cond rfl ?_ ?_
 ·intro h4;refine aL<|bW Z<|aP (.agg [U _ _,U _ _,U _ _]) iV Z<|ab (zS 2066 (ah ct [x]) cV eP rfl) Z<|ab (zP 2009 cV eP lE rfl (Src.own rfl rfl) (by grind[Df,ah])) Z<|bD Z<|nA<|bW Z<|bD Z<|Y<|aR ?_;have dZ:k=l.length:=by have h:=V;simp only[ap,decide_eq_false_iff_not]at h;omega
  subst dZ;refine ax ?_ ⟨(Eq.trans (b:=dc (nt x (l.take l.length)++[x])) (congrArg (AO.ai 167 3) (fx ct _ [_]).symm) (congrArg dc (by grind[aah]))),trivial⟩;rfl
 intro h4;refine aK<|gA<|bW Z<|bD Z<|Y<|aR ?_;have dZ:k=l.length:=by have h:=V;simp only[ap,decide_eq_false_iff_not]at h;omega
 subst dZ;refine ax ?_ ⟨(congrArg dc (by grind[aag])),trivial⟩;rfl
theorem gt(g:Value)(t n w c:Int)(p1:ga)(s1:Nat)(r1:List (List PV))(p2:ga)(s2:Nat)(r2:List (List PV))(p3:ga)(s3:Nat)(r3:List (List PV))(p4:ga)(s4:Nat)(r4:List (List PV))(is:Bool)(k:Int):GC prog 196 [.ptr 0 0 0,aD is,int k] [(0,cD g t n w c),(1,.ai p1 s1 r1),(2,.ai p2 s2 r2),(3,.ai p3 s3 r3),(4,.ai p4 s4 r4)] (aD (!decide (bE is c k=0))) [(0,cD g t n w (bE is c k)),(1,.ai p1 s1 r1),(2,.ai p2 s2 r2),(3,.ai p3 s3 r3),(4,.ai p4 s4 r4)]:=by
 refine gi 6 func196 rfl ntmps196 rfl ?_;intro L O w0;refine sL<|ar Z<|Y<|aS<|sL<|aQ Z<|aQ Z ?_;refine AL.bool (t:=8) rfl ?_ ?_
 ·intro V;refine aM Z<|lc Z<|lf 7 uC Z<|aj ac Z<|ak Z<|bj Z<|Y ?_;refine AW.cond rfl ?_ ?_
  ·intro h2;refine aL<|aM Z<|ae Z<|lc Z<|lf 7 uC Z<|ab (zB 0 ca cb Z) Z<|lT [0,6] [0,1,2,3,4] ?_;refine nA<|aM Z<|lc Z<|lf 7 uC Z<|aj ac Z<|ak Z<|bv Z<|Y<|aR ?_;refine az ⟨Eq.trans (b:=cD g t n w _) rfl (congrArg (cD g t n w) (by unfold bE;simp_all)),rfl,rfl,rfl,rfl,trivial⟩ ?_;refine congrArg (fun n:Int=>!decide (n=0)) ?_;grind[bE]
  intro h2;refine aK<|gA<|aM Z<|lc Z<|lf 7 uC Z<|aj ac Z<|ak Z<|bv Z<|Y<|aR ?_;refine az ⟨Eq.trans (b:=cD g t n w _) rfl (congrArg (cD g t n w) (by unfold bE;simp_all)),rfl,rfl,rfl,rfl,trivial⟩ ?_;refine congrArg (fun n:Int=>!decide (n=0)) ?_;grind[bE]
 intro V;refine aa Z<|aa Z<|aa Z<|aa Z<|aa Z<|bL Z<|Y<|aN Z<|aK<|gA<|aM Z<|lc Z<|lf 7 uC Z<|aj ac Z<|ak Z<|bv Z<|Y<|aR ?_;refine az ⟨Eq.trans (b:=cD g t n w _) rfl (congrArg (cD g t n w) (by unfold bE;simp_all)),rfl,rfl,rfl,rfl,trivial⟩ ?_;refine congrArg (fun n:Int=>!decide (n=0)) ?_;grind[bE]
theorem jv(g:Value)(t n w c:Int)(p1:ga)(s1:Nat)(r1:List (List PV))(p2:ga)(s2:Nat)(r2:List (List PV))(p3:ga)(s3:Nat)(r3:List (List PV))(l:List aO)(m:Nat)(hl:LG l m)(hm:m<=1000)(k cc nn:Int)(hf:cL l k cc)(hn:dL nn=true):GC prog 198 [.ptr 0 0 0,int k,int cc,int nn] [(0,cD g t n w c),(1,.ai p1 s1 r1),(2,.ai p2 s2 r2),(3,.ai p3 s3 r3),(4,dc l)] (.au []) [(0,cD g t n w c),(1,.ai p1 s1 r1),(2,.ai p2 s2 r2),(3,.ai p3 s3 r3),(4,dc (bR l k cc nn))]:=by
 refine GC.intro (rs:=[]) func198 rfl ntmps198 (Nat.le_of_ble_eq_true rfl) trivial ?_;intro L O w0;refine sL<|ae Z<|ak Z<|Y ?_;refine AW.cond rfl ?_ ?_
 ·intro V;refine aL<|aM Z<|aM Z<|lc Z<|lf 6 E4 Z<|iO gY Z<|ae Z<|ae Z<|lq (rd (x:=.agg [U _ _,U _ _]) (cP Z KW Z Z Z) Z)<|ae Z<|lq (rd (x:=.agg [U _ _,U _ _,U _ _]) (cP Z DK Z Z Z) Z) ?_;refine AL.freeze 4 rfl ?_;refine ab (zC [(2009,4)] [4] [] func209 (aai l ⟨⟨k,cc⟩,nn⟩ m hl hm hf) (trivial) rfl rfl) Z<|lc Z<|lf 6 E4 Z<|ab (zB 0 z8 z' rfl) Z<|lT [] [0,1,2,3,4] ?_;refine lN ?_;refine iZ ?_ ⟨rfl,rfl,rfl,rfl,(congrArg dc (BL (by grind)).symm),trivial⟩;rfl
 intro V;refine aK ?_;refine iZ ?_ ⟨rfl,rfl,rfl,rfl,(congrArg dc (BK (by grind)).symm),trivial⟩;rfl
theorem OR(x:aw)(hx:x.ag.length<=1000000/\x.an.length<=1000000/\x.aq.length<=1000000):GC prog 132 [cj x] [] (.agg [int x.tick,int x.next,int x.aA,.own 2003,.own 2008,.own 2013]) [(2003,.ai 159 7 (ah aX x.ag)),(2008,df x.an),(2013,d7 x.aq)]:=by
 refine GC.intro (rs:=[.cell 2 50 (some 6)]) func132 rfl ntmps132 (Nat.le_of_ble_eq_true rfl) ⟨rfl,rfl,cu,trivial⟩ ?_;intro L O w0;refine sL<|ab (zX 2001 rfl) Z<|ab (zA 2002 mD rfl) Z<|nA<|ab (zS 2003 [] cz dy rfl (by simp)) Z<|lf 3 dr Z<|bo eg Z<|ab (zP 2003 cz dy jL rfl (Src.p rfl)) Z<|lf 3 dr Z<|ab (zB 2001 sM sN rfl) Z<|nA<|ab (zS 2008 [] f7 iu rfl (by simp)) Z<|lf 4 eF Z<|bo fS Z<|ab (zP 2008 f7 iu sQ rfl (Src.p rfl)) Z<|lf 4 eF Z<|ab (zB 2001 tQ tR rfl) Z<|lT [1,2] [2001,2002,2003,2008] ?_;refine nA<|ab (zS 2013 [] iI jO rfl (by simp)) Z<|lf 5 gn Z<|bo ii Z<|ab (zP 2013 iI jO wI rfl (Src.p rfl)) Z<|lf 5 gn Z<|ab (zB 2001 yh yk rfl) Z<|nA<|aP (.agg [U _ _,U _ _,U _ _,.own _,.own _,.own _]) cu Z<|ab (zB 2002 eu ew rfl) Z<|Y<|aR ?_;trivial
theorem nF(g:Value)(x:aw)(l:List aO)(cd ch a b:Int)(hm:x.ag.length<=1000000000)(i:Nat)(c:be)(hi:eS x.ag ch=(i:Int))(hc:x.ag[i]? = some c)(hfa:i64 (c.loc+a))(hfb:i64 (c.aC+b)):GC prog 258 [.ptr 0 0 0,int ch,int a,int b] (p7 g x l cd) (.au []) (p7 g { x with ag:=x.ag.set i { c with loc:=c.loc+a,aC:=c.aC+b } } l cd):=by
 refine GC.intro (rs:=[]) func258 rfl ntmps258 (Nat.le_of_ble_eq_true rfl) trivial ?_;intro L O w0;refine sL<|aM Z<|lc Z<|lf 0 c8 Z<|aP (.agg [U _ _,U _ _,U _ _,.own _,.own _,.own _]) cu Z<|ae Z<|ab (zL func200 (m9 x _ hm) rfl) Z<|ao Z<|nA<|aM Z<|lc Z<|lf 0 c8 Z<|lf 3 dr Z<|iO eg Z<|ae Z<|lq (rd (x:=.ptr 1 _ 0) (pu (i:=i) rfl cz rfl rfl rfl ?hn1 (by grind[ap])) rfl) ?_;case hn1=>trivial
 refine lq (rd (x:=.agg [U _ _,U _ _,U _ _,U _ _,U _ _,U _ _,U _ _]) (dT Z fF Z Z Z (dk hc) Z) Z)<|ab (zA 2009 dy Z) Z<|lT [0,2,3,8,9,23] [0,1,2,3,4,2009] ?_;refine ab (zB 2009 lu lv Z) Z<|nA<|lf 2 fH Z<|aj ac Z<|ae Z ?_;refine eo rfl ⟨rfl,ce hfa⟩<|lf 2 fH Z<|ab (zB 2009 ca cb rfl) Z<|nA<|lf 3 ic Z<|aj ac Z<|ae rfl ?_;refine eo rfl ⟨rfl,ce hfb⟩<|lf 3 ic Z<|ab (zB 2009 ca cb rfl) Z<|Y<|aG 8 []<|tq 0 (cG rfl)<|tq 1 (rc rfl)<|tq 2 (rf 0 c8 rfl)<|tq 3 (rf 3 dr rfl)<|tq 4 (gC eg rfl)<|tq 5 (dW rfl)<|yq 6 (dw (.agg [U _ _,U _ _,U _ _,U _ _,U _ _,U _ _,U _ _]) fF rfl)<|yq 7 (rd (x:=.ptr 1 _ 0) (pu (i:=i) rfl cz rfl rfl rfl ?hn2 (by grind[ap])) rfl) ?_;case hn2=>trivial
 refine yl rfl (zQ 1 ((aX { c with loc:=c.loc+a,aC:=c.aC+b }).map PV.v) lu lv rfl (dk hc)) ?_;refine iZ ?_ ⟨rfl,Eq.trans (b:=AO.ai 159 7 ((ah aX x.ag).set i ((aX { c with loc:=c.loc+a,aC:=c.aC+b }).map PV.v))) rfl (congrArg (AO.ai 159 7) lB),rfl,rfl,rfl,trivial⟩;rfl
theorem KJ(x:aw)(mG:x.an.length<=1000)(lr:x.aq.length<=1000):GC prog 254 [cj x] [] (.own 2008) [(2008,.ai 3 1 (ah kt (wH x)))]:=by
 refine gi 2 func254 rfl ntmps254 rfl ?_;intro L O w0;refine sL<|ab (zX 2001 rfl) Z<|e9 Z<|nA<|ab (zS 2008 [] iU lY rfl (by simp)) Z<|bD Z<|Y<|aS<|sL<|lf 4 eF Z<|bo fS Z<|ba jb Z<|ae Z<|Y<|aB ?_;refine aW [1,2,3,10,11] [2001] (D:=Nat) (fun k=>[(12,int (k:Int))]) (fun k=>[(2008,AO.ai 3 1 (ah kt ((x.an.take k).map fun h=>h.key)))]) (fun k=>k<=x.an.length) (fun k=>x.an.length-k) (0) (Nat.zero_le _) ⟨rfl,trivial⟩ ⟨rfl,trivial⟩ ?_;intro k hI;refine sL<|ak Z<|Y<|aS ?_;refine AW.cond rfl ?_ ?_
 ·intro V;refine aK<|gT<|aS<|aB<|sL ?_;have hk:k<x.an.length:=by simpa[ap]using V
  refine li k f7 Z (bS hk)<|d6 (.agg [U _ _,U _ _,U _ _,U _ _,U _ _,vB _,U _ _]) kZ Z<|ab (zA 2005 iu Z) Z<|ab (zB 2005 nJ nL Z) Z<|Y<|aL<|bW Z<|lf 0 u7 Z<|aj ac Z<|ab (zS 2019 (ah kt [x.an[k].key]) iU lY Z) Z<|lT [1,2,3,10,11,12,16,19] [2001,2005,2008,2019] ?_;refine ab (zP 2008 iU lY uy rfl (Src.own rfl rfl) (by grind[ah])) Z<|bD Z<|lN<|gB<|gT<|aL<|bg Z<|ae Z<|Y ?_;refine⟨k+1,hk,by omega,⟨(iq rfl),trivial⟩,⟨(congrArg (AO.ai 3 1) ((fx kt _ [x.an[k].key]).symm.trans (congrArg (ah kt) (by grind[List.take_succ_eq_append_getElem])))),trivial⟩,rfl,rfl⟩
 intro V;refine aE<|eT<|eT<|eB<|gT<|aS<|sL<|lf 5 gn Z<|bo ii Z<|ba j7 Z<|ae Z<|Y<|aB ?_;have dZ:k=x.an.length:=by have h:=V;simp only[ap,decide_eq_false_iff_not]at h;omega
 refine aW [2,3,23,24] [2001] (D:=Nat) (fun j=>[(25,int (j:Int))]) (fun j=>[(2008,AO.ai 3 1 (ah kt (x.an.map (fun h=>h.key)++(x.aq.take j).map fun h=>h.key)))]) (fun j=>j<=x.aq.length) (fun j=>x.aq.length-j) (0) (Nat.zero_le _) ⟨rfl,trivial⟩ ⟨(congrArg (fun l=>AO.ai 3 1 (ah kt l)) (by grind)),trivial⟩ ?_;intro j hI;refine sL<|ak Z<|Y<|aS ?_;refine AW.cond rfl ?_ ?_
 ·intro h2;refine aK<|gT<|aS<|aB<|sL ?_;have hj:j<x.aq.length:=by simpa[ap]using h2
  refine li j iI Z (bS hj)<|d6 (.agg [U _ _,U _ _,U _ _,U _ _,U _ _]) l5 Z<|ab (zA 2007 jO Z) Z<|ab (zB 2007 oK oL Z) Z<|Y<|aL<|bW Z<|lf 0 u9 Z<|aj ac Z<|ab (zS 2032 (ah kt [x.aq[j].key]) iU lY Z) Z<|lT [2,3,23,24,25,29,32] [2001,2007,2008,2032] ?_;refine ab (zP 2008 iU lY uy rfl (Src.own rfl rfl) (by grind[ah,List.length_take])) Z<|bD Z<|lN<|gB<|gT<|aL<|bg Z<|ae Z<|Y ?_;refine⟨j+1,hj,by omega,⟨(iq rfl),trivial⟩,⟨(congrArg (AO.ai 3 1) ((fx kt _ [x.aq[j].key]).symm.trans (congrArg (ah kt) (by grind[List.take_succ_eq_append_getElem])))),trivial⟩,rfl,rfl⟩
 intro h2;refine aE<|eT<|eT<|eB<|gA<|bW Z<|bD Z<|Y<|aR ?_;refine ax ?_ ⟨(congrArg (fun l=>AO.ai 3 1 (ah kt l)) (by have h:=h2;simp only[ap,decide_eq_false_iff_not]at h;rw[show j=x.aq.length by omega,List.take_length];rfl)),trivial⟩;rfl
theorem KK(l:List Int)(n:Int)(hm:l.length<=1000000000):GC prog 253 [.p (.ab 3 1 (ah kt l)),int n] [] (aD (l.any fun k=>k==n)) []:=by
 refine gi 4 func253 rfl ntmps253 rfl ?_;intro L O w0;refine sL<|ar Z<|Y<|aS<|sL<|bm Z<|ba x4 Z<|ae Z<|Y<|aB ?_;refine aW [1,4,7,8] [] (D:=Nat) (fun k=>[(9,int (k:Int))]) (fun k=>[]) (fun k=>k<=l.length/\∀j (h:j<l.length),j<k->(l[j]==n)=false) (fun k=>l.length-k) (0) (⟨Nat.zero_le _,fun j _ h=>absurd h (by omega)⟩) ⟨rfl,trivial⟩ trivial ?_;intro k hI;obtain⟨eN,bB⟩:=hI;refine sL<|ak Z<|Y<|aS ?_;refine AW.cond rfl ?_ ?_
 ·intro V;refine aK<|gT<|aS<|aB<|sL ?_;have hk:k<l.length:=by simpa[ap]using V
  refine li k iU Z (bS hk)<|oy ac Z<|ao Z<|nA<|ae Z<|ae Z<|ak Z<|Y ?_;refine AW.cond rfl ?_ ?_
  ·intro h2;refine sL<|cI Z<|Y<|aR<|rB<|rT<|rT<|rB<|rT ?_;refine az trivial ?_;grind
  intro h2;refine aK<|gB<|gT<|aL<|bg Z<|ae Z<|Y ?_;refine⟨k+1,⟨hk,all_succ (p:=fun k=>k==n) hk bB (by omega)⟩,by omega,⟨(iq rfl),trivial⟩,trivial,rfl,rfl⟩
 intro V;refine aE<|eT<|eT<|eB<|gA<|ar Z<|Y<|aR ?_;refine az trivial ?_;grind[BD,ap]
end Go.Proofs.YtflhgkmhmcfimaaGreat

