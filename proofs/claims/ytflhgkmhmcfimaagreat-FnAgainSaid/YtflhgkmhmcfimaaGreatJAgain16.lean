/- Texts of the proof of FnFnAgain, joined: All, AllN, EN1, BkOk, BkStep, BkStep2, BkStep3, BkStep4, PoOk, SzOk, ED6. -/
import Derived.Test.YtflhgkmhmcfimaaGreatJAgain15
import Derived.Test.YtflhgkmhmcfimaaGreatJAgain5
import Derived.Test.YtflhgkmhmcfimaaGreatJAgain4
namespace Go.Proofs.YtflhgkmhmcfimaaGreat
set_option maxRecDepth 100000
open Tryz
open Go.RowKit
set_option linter.unusedSimpArgs false
set_option linter.unusedVariables false
structure fg where
 now:aw
 jD:List Int
 ps:List dX
def kz(s:fg)(e:aV):fg:=⟨if dG s.now e=0 then dp s.now e else s.now,s.jD++[dG s.now e],if dG s.now e=0/\(dl s.now e).lines≠[]then s.ps++[dl s.now e]else s.ps⟩
def bK(x:aw)(es:List aV):fg:=es.foldl kz ⟨x,[],[]⟩
theorem Tb(x:aw):bK x []=⟨x,[],[]⟩:=rfl
theorem fl{x:aw}{es:List aV}{k:Nat}(h:k<es.length):bK x (es.take (k+1))=kz (bK x (es.take k)) es[k]:=by
 grind[bK,List.take_succ_eq_append_getElem]
theorem XV{x:aw}{e:aV}(hw:di x)(we:l7 e):di (dp x e):=by
 by_cases q:dG x e=0
 ·have w:=XW hw we q;have hl:=w.lc;by_cases r:(bz x e).l=[]
  ·rw[(ub q r).1];exact⟨w.ag,w.an,w.aq,by omega⟩
  rw[(rU q r).1];exact⟨w.ag,w.an,w.aq,by grind⟩
 rw[(Oj q).1];unfold rg;exact⟨by simp,by simp,by simp,by simp⟩
theorem XX{s:fg}{e:aV}(hw:di s.now)(we:l7 e):di (kz s e).now:=by
 grind[kz,XV]
theorem D9{x:aw}{es:List aV}(hw:di x)(we:∀e∈es,l7 e):∀k,k<=es.length->di (bK x (es.take k)).now
 |0,_=>by trivial
 |k+1,h=>by
  rw[fl x_2];exact XX (D9 hw we k x_2) (we _ (List.getElem_mem _))
theorem Ds{x:aw}{es:List aV}:∀k,k<=es.length->(bK x (es.take k)).jD.length=k
 |0,_=>by rfl
 |k+1,h=>by
  rw[fl x_2];have:=Ds (x:=x) k (by omega:k<=es.length);unfold kz;simp;exact this
theorem zU{x:aw}{es:List aV}:∀k,k<=es.length->(bK x (es.take k)).ps.length<=k
 |0,_=>by rw[List.take_zero];exact Nat.le_refl _
 |k+1,h=>by
  rw[fl x_2];have:=zU (x:=x) k (by omega:k<=es.length);unfold kz;dsimp only;split
  ·simp;omega
  omega
def qI(ps:List dX):List (List PV):=ps.map fun p=>[.v (.int .i64 p.id),.ab 167 3 (ah ct p.lines)]
theorem fw(l:List dX):(qI l).length=l.length:=List.length_map _
theorem Ok{x:aw}{e:aV}(hb:dG x e=0):decide (0<(dl x e).id)=!decide ((dl x e).lines=[]):=by
 obtain⟨V,h2,h3⟩:=rS hb;have hn:=(xO V).2.2.1;have:=cJ.1 hn;by_cases r:(bz x e).l=[]
 ·simp_all[ub]
 rw[(rU hb r).2];grind
theorem Fk{s:fg}{e:aV}(h:dG s.now e=0):(kz s e).now=dp s.now e:=if_pos h
theorem Ol{s:fg}{e:aV}(h:dG s.now e≠0):(kz s e).now=s.now:=if_neg h
theorem Om{s:fg}{e:aV}(h:dG s.now e=0)(h2:(dl s.now e).lines≠[]):(kz s e).ps=s.ps++[dl s.now e]:=if_pos ⟨h,h2⟩
theorem On{s:fg}{e:aV}(h:dG s.now e≠0):(kz s e).ps=s.ps:=if_neg fun q=>h q.1
theorem Oo{s:fg}{e:aV}(h2:(dl s.now e).lines=[]):(kz s e).ps=s.ps:=if_neg fun q=>q.2 h2

def lH(vs:List Value)(ps:List dX):List (List PV):=List.zipWith (fun v (p:dX)=>[.v (.int .i64 p.id),.v v]) vs ps
def fZ(vs:List Value)(ps:List dX):List AO:=List.zipWith (fun v (p:dX)=>.ai ⟨167,some v⟩ 3 (ah ct p.lines)) vs ps
theorem zu{vs:List Value}{ps:List dX}(h:vs.length=ps.length):(lH vs ps).length=ps.length:=by grind[lH]
theorem OL{vs:List Value}{ps:List dX}(h:vs.length=ps.length):(fZ vs ps).length=ps.length:=by grind[fZ]
theorem OM{vs:List Value}{ps:List dX}{u:Value}{p:dX}(h:vs.length=ps.length):lH (vs++[u]) (ps++[p])=lH vs ps++[[.v (.int .i64 p.id),.v u]]:=by simp_all[lH,List.zipWith_append]
theorem ON{vs:List Value}{ps:List dX}{u:Value}{p:dX}(h:vs.length=ps.length):fZ (vs++[u]) (ps++[p])=fZ vs ps++[.ai ⟨167,some u⟩ 3 (ah ct p.lines)]:=by simp_all[fZ,List.zipWith_append]
theorem zv:∀ {vs:List Value} {ps:List dX},dS (fZ vs ps)
 |[],_=>by simp[fZ,dS.nil]
 |_::_,[]=>by simp[fZ,dS.nil]
 |v::vs,p::ps=>fun o ho=>by
  unfold fZ at ho;rw[List.zipWith_cons_cons]at ho;rcases List.mem_cons.1 ho with rfl|ho
  ·rfl
  exact zv (vs:=vs) (ps:=ps) o ho
theorem Yg{vs:List Value}{ps:List dX}{i:Nat}(h:vs.length=ps.length)(hi:i<ps.length):(lH vs ps)[i]? = some [.v (.int .i64 ps[i].id),.v (vs[i]' x_2)]:=by
 grind[lH]
theorem Yh{vs:List Value}{ps:List dX}{i:Nat}(h:vs.length=ps.length)(hi:i<ps.length):(fZ vs ps)[i]? = some (.ai ⟨167,some (vs[i]' x_2)⟩ 3 (ah ct ps[i].lines)):=by
 grind[fZ]
theorem Tk{H:Nat->AO}{F:List AO}(hT:Tl H F){vs:List Value}{ps:List dX}(h:vs.length=ps.length){s:Nat}(hF:∀i,i<ps.length->F[s+i]? = (fZ vs ps)[i]?):kf (kf (vm H)) (lH vs ps) (qI ps):=by
 refine Eh (by rw[zu h,fw]) fun i a b ha hb=>?_;have hi:i<ps.length:=by have:=(List.getElem?_eq_some_iff.1 hb).1;rwa [fw]at this
 rw[Yg h hi]at ha;unfold qI at hb;rw[List.getElem?_map,List.getElem?_eq_getElem hi]at hb;injection ha with ha;injection hb with hb;subst ha hb;refine .cons (.inl rfl) (.cons (.inr ⟨_,1000000+(s+i),_,_,_,rfl,?_,rfl⟩) .nil);rw[hT.1,hF i hi,Yh h hi];rfl

set_option maxHeartbeats 16000000
set_option maxRecDepth 100000
def sB(x:aw)(es:List aV):fg:=if eG x=true then bK x es else ⟨rg,[],[]⟩
theorem OO{x:aw}{es:List aV}(h:eG x=true):sB x es=bK x es:=if_pos h
theorem OP{x:aw}{es:List aV}(h:eG x=false):sB x es=⟨rg,[],[]⟩:=if_neg x_137
abbrev pR(l:List Int):AO:=.ai 3 1 (ah kt l)
abbrev qx(x:aw):AO:=.box 50 none [int x.tick,int x.next,int x.aA,.own 1,.own 2,.own 3]
abbrev Ag(r:fg)(vs:List Value):List (Nat×AO):=[(1,.ai 159 7 (ah aX r.now.ag)),(2,df r.now.an),(3,d7 r.now.aq),(14,.ai 92 2 (lH vs r.ps)),(15,pR r.jD)]
abbrev CS(r:fg):AV:=.au [.agg [int r.now.tick,int r.now.next,int r.now.aA,.own 1,.own 2,.own 3],.own 14,.own 15]
def GW(r:fg):AV->List (Nat×AO)->List AO->Prop:=fun y l1 F1=>∃vs:List Value,vs.length=r.ps.length/\y=CS r/\l1=Ag r vs/\F1=fZ vs r.ps
theorem x_23{p:Prop}(c:p:=by exact Eq.trans (b:=pR ((bK x (es.take k)).jD++[dG (bK x (es.take k)).now es[k]])) (congrArg (AO.ai 3 1) (fx kt _ [_]).symm) rfl):p:=c
theorem x_57{p:Prop}(c:p:=by exact congrArg (fun s:fg=>AO.ai 159 7 (ah aX s.now.ag)) (fl hk).symm):p:=c
theorem x_63{p:Prop}(c:p:=by exact congrArg (fun b:aw=>AO.ai 159 7 (ah aX b.ag)) hn.symm):p:=c
theorem x_70{p:Prop}(c:p:=by exact congrArg (fun s:fg=>df s.now.an) (fl hk).symm):p:=c
theorem x_71{p:Prop}(c:p:=by exact congrArg (fun s:fg=>d7 s.now.aq) (fl hk).symm):p:=c
theorem x_79{p:Prop}(c:p:=by exact congrArg (fun s:fg=>qx s.now) (fl hk).symm):p:=c
theorem x_81{p:Prop}(c:p:=by exact congrArg (fun s:fg=>pR s.jD) (fl hk).symm):p:=c
theorem x_88{p:Prop}(c:p:=by exact congrArg (AO.ai 3 1) (fx kt _ [_]).symm):p:=c
theorem x_97{p:Prop}(c:p:=by exact congrArg (fun b:aw=>df b.an) hn.symm):p:=c
theorem x_98{p:Prop}(c:p:=by exact congrArg (fun b:aw=>d7 b.aq) hn.symm):p:=c
theorem x_100{p:Prop}(c:p:=by exact congrArg (fun s:fg=>AO.ai 92 2 (lH vs s.ps)) (fl hk).symm):p:=c
theorem x_123{p:Prop}(c:p:=by exact congrArg (fun p=>AO.ai 92 2 (lH vs p)) hp.symm):p:=c
theorem Tm(x:aw)(es:List aV)(hw:di x)(we:∀e∈es,l7 e)(hm:es.length<=1048576):GN prog 35 [cj x,.p (.ab 81 7 (ah fR es))] [] ([]) (GW (sB x es)):=by
 refine GN.intro (rs:=[.cell 4 50 (some 6),.tmp 5,.tmp 6]) func35 rfl ntmps35 x_8 ⟨rfl,rfl,cu,rfl,rfl,trivial⟩ rfl ?_;intro L O w0;refine sL<|ab (zX 2002 Z) Z<|ab (zA 2004 mD Z) Z<|e9 Z<|e9 Z<|Y<|aS<|sL<|aP h1 cu Z<|ab (zL func101 (Do x hw) Z) Z<|bX Z<|Y<|cE rfl ?_ ?_
 ·intro V;refine sL<|lq (rd (x:=.agg [c6,c6,c6,vV _,vV _,vV _]) (cP Z s6 Z Z Z) Z)<|ab (zB 2004 eu ew Z) Z<|e9 Z<|e9 Z<|Y ?_;refine AW.pi 1 2004 3 159 7 rfl x_3 rfl ?_;refine AW.pi 2 2004 4 218 7 rfl x_3 rfl ?_;refine AW.pi 3 2004 5 220 5 rfl x_3 rfl ?_;refine AW.oP 14 5 92 2 rfl ?_;refine AW.oP 15 6 3 1 rfl ?_;refine aR<|rT ?_;have jr:eG x=false:=by simpa using V
  rw[OP jr];refine vW (F1:=[]) (CS ⟨rg,[],[]⟩) (Ag ⟨rg,[],[]⟩ []) ?_ x_19 rfl rfl ⟨rfl,rfl,rfl,rfl,rfl,trivial⟩ ki;exact⟨[],rfl,rfl,rfl,rfl⟩
 intro V;refine aK<|gT<|aS ?_;have jr:eG x=true:=by simpa using V
 have fi:=CT jr;have sm:=fi.sm;have yz:=D9 hw we;refine aL<|aP h1 cu Z<|ab (zC [(2005,1),(2009,2),(2013,3)] [1,2,3] [] func56 (KY x x_127) (trivial) rfl rfl) Z<|ab (zA 2007 mD rfl) rfl ?_;refine xH ([]) [1,4,5,6,7,20] [1,2,3,2002,2004,2007] ?_;refine ab (zB 2007 eu ew Z) Z<|nA<|e9 Z<|Y ?_;refine AW.oP 14 8 92 2 rfl ?_;refine sL<|e9 Z<|Y ?_;refine AW.oP 15 9 3 1 rfl ?_;refine aS<|sL<|bm Z<|ba jZ Z<|ae Z<|Y<|aB ?_;refine E8 (D:=Nat×List Value) [(4,.ptr 2004 _ 0),(5,vV _),(6,vV _),(7,.ptr 2007 _ 0),(8,.own _),(9,.own _),(21,c7),(22,c6)] [(2002,.box _ _ [c6,c6,c6,c7,c7,c7]),(2004,.box _ _ [c6,c6,c6,vV _,vV _,vV _])] (fun d=>[(23,int (d.1:Int))]) (fun d=>[(2007,qx (bK x (es.take d.1)).now),(1,.ai 159 7 (ah aX (bK x (es.take d.1)).now.ag)),(2,df (bK x (es.take d.1)).now.an),(3,d7 (bK x (es.take d.1)).now.aq),(14,.ai 92 2 (lH d.2 (bK x (es.take d.1)).ps)),(15,pR (bK x (es.take d.1)).jD)]) (fun d=>fZ d.2 (bK x (es.take d.1)).ps) (fun d=>d.1<=es.length/\d.2.length=(bK x (es.take d.1)).ps.length) (fun d=>es.length-d.1) ((0,[])) (⟨Nat.zero_le _,by rfl⟩) ⟨rfl,trivial⟩ ⟨(by rfl),(by rfl),(by rfl),(by rfl),(by rfl),(by rfl),trivial⟩ ⟨rfl,rfl,rfl,rfl,rfl,rfl,rfl,rfl,trivial⟩ ⟨rfl,rfl,trivial⟩ (by rw[List.take_zero];exact ki) ?_;intro ⟨k,vs⟩ hI;obtain⟨eN,gl⟩:=hI;replace eN:k<=es.length:=eN;replace gl:vs.length=(bK x (es.take k)).ps.length:=gl;have ke:dS (fZ vs (bK x (es.take k)).ps):=zv;refine sL<|ak Z<|Y<|aS<|cE rfl ?_ ?_
 ·intro h2;refine aK<|gT<|aS<|aB<|sL ?_;have hk:k<es.length:=by simpa[ap]using h2
  have Ac:=yz k eN;have oF:=Ds (x:=x) k eN;have CU:=zU (x:=x) k eN;refine li k jk Z (bS hk)<|d6 iK dD Z<|ab (zA 2011 jl Z) Z<|ab (zB 2011 mZ m0 Z) Z<|Y<|aS ?_;refine AW.mU 1 rfl ?_;intro u1;refine AW.mU 2 rfl ?_;intro u2;refine AW.mU 3 rfl ?_;intro u3;refine aL<|aP jG cu Z<|aP iK dD Z ?_;refine ab (zC [(1,1),(2,2),(3,3),(11,61),(12,62),(13,63),(14,64)] [61,62,63,64] [1,2,3] func41 (OQ (Yi _ es[k] Ac)) (⟨stays.ai rfl,stays.ai rfl,stays.ai rfl,trivial⟩) rfl rfl) rfl ?_;refine xH (fZ vs (bK x (es.take k)).ps) [4,5,6,7,8,9,21,22,23,30] [1,2,3,14,15,61,62,63,64,2002,2004,2007,2011] ?_;refine cT (.au [jG,qa,c6]) Z<|iB jG Z<|iB qa Z<|dE Z<|ab (zA 2012 mD rfl) Z<|ab (zA 2013 pC rfl) Z<|ab (zB 2012 eu ew rfl) Z<|ab (zB 2013 na nb rfl) Z<|ao Z<|nA<|bW Z<|ae Z<|ab (zS 2036 (ah kt [dG (bK x (es.take k)).now es[k]]) iU lY rfl) Z<|ab (zP 15 iU lY uy rfl x_18 x_69) Z<|bD Z<|Y<|aS<|sL<|ae Z<|ak Z<|Y<|cE rfl ?_ ?_
  ·intro h3;refine aE<|eT<|eB<|gT ?_;have cQ:dG (bK x (es.take k)).now es[k]≠0:=by simpa using h3
   refine iQ 1 rfl ?_;refine iQ 2 rfl ?_;refine iQ 3 rfl ?_;refine mi (fZ vs (bK x (es.take k)).ps) [4,5,6,7,8,9,21,22,23] [1,2,3,14,15,2002,2004,2007,2011,2012,2013,2036] ?_;refine aL<|bg Z<|ae Z<|Y ?_;have hn:(kz (bK x (es.take k)) es[k]).now=(bK x (es.take k)).now:=Ol cQ;have hp:(kz (bK x (es.take k)) es[k]).ps=(bK x (es.take k)).ps:=On cQ;refine⟨(k+1,vs),⟨hk,(by grind[fl])⟩,by omega,x_11,⟨(Eq.trans (congrArg qx hn.symm) (congrArg (fun s:fg=>qx s.now) (fl hk).symm)),(Eq.trans (congrArg (fun b:aw=>AO.ai 159 7 (ah aX b.ag)) hn.symm) (congrArg (fun s:fg=>AO.ai 159 7 (ah aX s.now.ag)) (fl hk).symm)),(Eq.trans (congrArg (fun b:aw=>df b.an) hn.symm) (congrArg (fun s:fg=>df s.now.an) (fl hk).symm)),(Eq.trans (congrArg (fun b:aw=>d7 b.aq) hn.symm) (congrArg (fun s:fg=>d7 s.now.aq) (fl hk).symm)),(Eq.trans (congrArg (fun p=>AO.ai 92 2 (lH vs p)) hp.symm) (congrArg (fun s:fg=>AO.ai 92 2 (lH vs s.ps)) (fl hk).symm)),(Eq.trans (Eq.trans (b:=pR ((bK x (es.take k)).jD++[dG (bK x (es.take k)).now es[k]])) (congrArg (AO.ai 3 1) (fx kt _ [_]).symm) rfl) (congrArg (fun s:fg=>pR s.jD) (fl hk).symm)),trivial⟩,⟨rfl,rfl,rfl,rfl,rfl,rfl,rfl,rfl,trivial⟩,⟨rfl,rfl,trivial⟩,(by rw[fl hk,hp];exact ki)⟩
  intro h3;refine aK<|gA<|aP jG cu Z<|ab (zB 2007 eu ew Z) Z<|nA<|lf 1 t7 Z<|iO gY Z<|ba hZ Z<|ak Z<|Y<|cE rfl ?_ ?_
  ·intro h4;refine mi (fZ vs (bK x (es.take k)).ps) [4,5,6,7,8,9,13,21,22,23] [1,2,3,14,15,61,62,63,64,2002,2004,2007,2011,2012,2013,2036] ?_;refine AW.mU 64 rfl ?_;intro u64;refine mi (fZ vs (bK x (es.take k)).ps) [4,5,6,7,8,9,13,21,22,23] [1,2,3,14,15,61,62,63,64,2002,2004,2007,2011,2012,2013,2036] ?_;refine Oz 64 rfl rfl zv ?_;have Yj:dS (fZ vs (bK x (es.take k)).ps++[.ai ⟨167,some u64⟩ 3 (ah ct (dl (bK x (es.take k)).now es[k]).lines)]):=zv.gJ (fun o ho=>by rw[List.mem_singleton.1 ho];rfl);refine aL<|bW Z<|aP (.agg [c6,vV _]) ol Z<|ab (zS 2047 [[.v (.int .i64 (dl (bK x (es.take k)).now es[k]).id),.v u64]] vb pC rfl x_19) Z<|ab (zP 14 vb pC NC rfl x_18 (by grind[zu])) Z<|bD Z<|lN<|gB<|gT ?_;have cQ:dG (bK x (es.take k)).now es[k]=0:=by simpa using h3
   refine AW.swap 61 1 ?_;refine mi ((fZ vs (bK x (es.take k)).ps++[.ai ⟨167,some u64⟩ 3 (ah ct (dl (bK x (es.take k)).now es[k]).lines)])) [4,5,6,7,8,9,21,22,23] [1,2,3,14,15,61,62,63,2002,2004,2007,2011,2012,2013,2036,2047] ?_;refine AW.swap 62 2 ?_;refine mi ((fZ vs (bK x (es.take k)).ps++[.ai ⟨167,some u64⟩ 3 (ah ct (dl (bK x (es.take k)).now es[k]).lines)])) [4,5,6,7,8,9,21,22,23] [1,2,3,14,15,61,62,63,2002,2004,2007,2011,2012,2013,2036,2047] ?_;refine AW.swap 63 3 ?_;refine mi ((fZ vs (bK x (es.take k)).ps++[.ai ⟨167,some u64⟩ 3 (ah ct (dl (bK x (es.take k)).now es[k]).lines)])) [4,5,6,7,8,9,21,22,23] [1,2,3,14,15,61,62,63,2002,2004,2007,2011,2012,2013,2036,2047] ?_;refine mi ((fZ vs (bK x (es.take k)).ps++[.ai ⟨167,some u64⟩ 3 (ah ct (dl (bK x (es.take k)).now es[k]).lines)])) [4,5,6,7,8,9,21,22,23] [1,2,3,14,15,2002,2004,2007,2011,2012,2013,2036,2047] ?_;refine aL<|bg Z<|ae Z<|Y ?_;have hn:(kz (bK x (es.take k)) es[k]).now=dp (bK x (es.take k)).now es[k]:=Fk cQ;have dY:(dl (bK x (es.take k)).now es[k]).lines≠[]:=fun q=>by grind[ah]
   have hp:(kz (bK x (es.take k)) es[k]).ps=(bK x (es.take k)).ps++[dl (bK x (es.take k)).now es[k]]:=Om cQ dY;refine⟨(k+1,vs++[u64]),⟨hk,(by grind[fl])⟩,by omega,x_11,⟨(Eq.trans (congrArg qx hn.symm) (congrArg (fun s:fg=>qx s.now) (fl hk).symm)),(Eq.trans (congrArg (fun b:aw=>AO.ai 159 7 (ah aX b.ag)) hn.symm) (congrArg (fun s:fg=>AO.ai 159 7 (ah aX s.now.ag)) (fl hk).symm)),(Eq.trans (congrArg (fun b:aw=>df b.an) hn.symm) (congrArg (fun s:fg=>df s.now.an) (fl hk).symm)),(Eq.trans (congrArg (fun b:aw=>d7 b.aq) hn.symm) (congrArg (fun s:fg=>d7 s.now.aq) (fl hk).symm)),(Eq.trans (congrArg (AO.ai 92 2) (show _=lH (vs++[u64]) (kz (bK x (es.take k)) es[k]).ps by rw[hp,OM gl])) (congrArg (fun s:fg=>AO.ai 92 2 (lH (vs++[u64]) s.ps)) (fl hk).symm)),(Eq.trans (Eq.trans (b:=pR ((bK x (es.take k)).jD++[dG (bK x (es.take k)).now es[k]])) (congrArg (AO.ai 3 1) (fx kt _ [_]).symm) rfl) (congrArg (fun s:fg=>pR s.jD) (fl hk).symm)),trivial⟩,⟨rfl,rfl,rfl,rfl,rfl,rfl,rfl,rfl,trivial⟩,⟨rfl,rfl,trivial⟩,(by rw[fl hk,hp,ON gl];exact ki)⟩
  intro h4;refine aK<|gB<|gT ?_;have cQ:dG (bK x (es.take k)).now es[k]=0:=by simpa using h3
  refine AW.swap 61 1 ?_;refine mi (fZ vs (bK x (es.take k)).ps) [4,5,6,7,8,9,21,22,23] [1,2,3,14,15,61,62,63,64,2002,2004,2007,2011,2012,2013,2036] ?_;refine AW.swap 62 2 ?_;refine mi (fZ vs (bK x (es.take k)).ps) [4,5,6,7,8,9,21,22,23] [1,2,3,14,15,61,62,63,64,2002,2004,2007,2011,2012,2013,2036] ?_;refine AW.swap 63 3 ?_;refine mi (fZ vs (bK x (es.take k)).ps) [4,5,6,7,8,9,21,22,23] [1,2,3,14,15,61,62,63,64,2002,2004,2007,2011,2012,2013,2036] ?_;refine mi (fZ vs (bK x (es.take k)).ps) [4,5,6,7,8,9,21,22,23] [1,2,3,14,15,2002,2004,2007,2011,2012,2013,2036] ?_;refine aL<|bg Z<|ae Z<|Y ?_;have hn:(kz (bK x (es.take k)) es[k]).now=dp (bK x (es.take k)).now es[k]:=Fk cQ;have dY:(dl (bK x (es.take k)).now es[k]).lines=[]:=List.length_eq_zero_iff.1 x_33;have hp:(kz (bK x (es.take k)) es[k]).ps=(bK x (es.take k)).ps:=Oo dY;refine⟨(k+1,vs),⟨hk,(by grind[fl])⟩,by omega,x_11,⟨(Eq.trans (congrArg qx hn.symm) (congrArg (fun s:fg=>qx s.now) (fl hk).symm)),(Eq.trans (congrArg (fun b:aw=>AO.ai 159 7 (ah aX b.ag)) hn.symm) (congrArg (fun s:fg=>AO.ai 159 7 (ah aX s.now.ag)) (fl hk).symm)),(Eq.trans (congrArg (fun b:aw=>df b.an) hn.symm) (congrArg (fun s:fg=>df s.now.an) (fl hk).symm)),(Eq.trans (congrArg (fun b:aw=>d7 b.aq) hn.symm) (congrArg (fun s:fg=>d7 s.now.aq) (fl hk).symm)),(Eq.trans (congrArg (fun p=>AO.ai 92 2 (lH vs p)) hp.symm) (congrArg (fun s:fg=>AO.ai 92 2 (lH vs s.ps)) (fl hk).symm)),(Eq.trans (Eq.trans (b:=pR ((bK x (es.take k)).jD++[dG (bK x (es.take k)).now es[k]])) (congrArg (AO.ai 3 1) (fx kt _ [_]).symm) rfl) (congrArg (fun s:fg=>pR s.jD) (fl hk).symm)),trivial⟩,⟨rfl,rfl,rfl,rfl,rfl,rfl,rfl,rfl,trivial⟩,⟨rfl,rfl,trivial⟩,(by rw[fl hk,hp];exact ki)⟩
 intro h2;refine aE<|eT<|eT<|eB<|gA<|aP jG cu Z<|bW Z<|bW Z<|ab (zB 2004 eu ew Z) Z<|bD Z<|bD Z<|Y<|aR ?_;have dZ:k=es.length:=by have h:=h2;simp only[ap,decide_eq_false_iff_not]at h;omega
 subst dZ;rw[OO jr];rw[List.take_length]at gl ke;have CU:=zU (x:=x) (es:=es) es.length (Nat.le_refl _);rw[List.take_length]at CU ⊢;refine vW (F1:=(fZ vs (bK x es).ps)) (CS (bK x es)) (Ag (bK x es) vs) ?_ (by grind[OL]) rfl rfl ⟨rfl,rfl,rfl,rfl,rfl,trivial⟩ ki;exact⟨vs,gl,rfl,rfl,rfl⟩
theorem Tn(x:aw)(es:List aV)(hw:di x)(we:∀e∈es,l7 e)(hm:es.length<=1048576):GN prog 167 [cj x,.p (.ab 81 7 (ah fR es))] [] ([]) (GW (sB x es)):=by
 refine GN.intro (rs:=[.cell 4 50 (some 6),.tmp 5,.tmp 6]) func167 rfl ntmps167 x_8 ⟨rfl,rfl,cu,rfl,rfl,trivial⟩ rfl ?_;intro L O w0;refine sL<|ab (zX 2002 Z) Z<|ab (zA 2004 mD Z) Z<|e9 Z<|e9 Z<|Y<|aS<|sL<|aP h1 cu Z<|ab (zL func179 (Dn x hw) Z) Z<|bX Z<|Y<|cE rfl ?_ ?_
 ·intro V;refine sL<|lq (rd (x:=.agg [c6,c6,c6,vV _,vV _,vV _]) (cP Z s6 Z Z Z) Z)<|ab (zB 2004 eu ew Z) Z<|e9 Z<|e9 Z<|Y ?_;refine AW.pi 1 2004 3 159 7 rfl x_3 rfl ?_;refine AW.pi 2 2004 4 218 7 rfl x_3 rfl ?_;refine AW.pi 3 2004 5 220 5 rfl x_3 rfl ?_;refine AW.oP 14 5 92 2 rfl ?_;refine AW.oP 15 6 3 1 rfl ?_;refine aR<|rT ?_;have jr:eG x=false:=by simpa using V
  rw[OP jr];refine vW (F1:=[]) (CS ⟨rg,[],[]⟩) (Ag ⟨rg,[],[]⟩ []) ?_ x_19 rfl rfl ⟨rfl,rfl,rfl,rfl,rfl,trivial⟩ ki;exact⟨[],rfl,rfl,rfl,rfl⟩
 intro V;refine aK<|gT<|aS ?_;have jr:eG x=true:=by simpa using V
 have fi:=CT jr;have sm:=fi.sm;have yz:=D9 hw we;refine aL<|aP h1 cu Z<|ab (zC [(2003,1),(2008,2),(2013,3)] [1,2,3] [] func132 (OR x x_127) (trivial) rfl rfl) Z<|ab (zA 2007 mD rfl) rfl ?_;refine xH ([]) [1,4,5,6,7,20] [1,2,3,2002,2004,2007] ?_;refine ab (zB 2007 eu ew rfl) Z<|nA<|ab (zS 14 [] vb pC rfl x_19) Z<|bD Z<|nA<|ab (zS 15 [] iU lY rfl x_19) Z<|bD Z<|Y<|aS<|sL<|bm Z<|ba jZ Z<|ae Z<|Y<|aB ?_;refine E8 (D:=Nat×List Value) [(4,.ptr 2004 _ 0),(5,vV _),(6,vV _),(7,.ptr 2007 _ 0),(8,.own _),(9,.own _),(23,c7),(24,c6)] [(2002,.box _ _ [c6,c6,c6,c7,c7,c7]),(2004,.box _ _ [c6,c6,c6,vV _,vV _,vV _])] (fun d=>[(25,int (d.1:Int))]) (fun d=>[(2007,qx (bK x (es.take d.1)).now),(1,.ai 159 7 (ah aX (bK x (es.take d.1)).now.ag)),(2,df (bK x (es.take d.1)).now.an),(3,d7 (bK x (es.take d.1)).now.aq),(14,.ai 92 2 (lH d.2 (bK x (es.take d.1)).ps)),(15,pR (bK x (es.take d.1)).jD)]) (fun d=>fZ d.2 (bK x (es.take d.1)).ps) (fun d=>d.1<=es.length/\d.2.length=(bK x (es.take d.1)).ps.length) (fun d=>es.length-d.1) ((0,[])) (⟨Nat.zero_le _,by rfl⟩) ⟨rfl,trivial⟩ ⟨(by rfl),(by rfl),(by rfl),(by rfl),(by rfl),(by rfl),trivial⟩ ⟨rfl,rfl,rfl,rfl,rfl,rfl,rfl,rfl,trivial⟩ ⟨rfl,rfl,trivial⟩ (by rw[List.take_zero];exact ki) ?_;intro ⟨k,vs⟩ hI;obtain⟨eN,gl⟩:=hI;replace eN:k<=es.length:=eN;replace gl:vs.length=(bK x (es.take k)).ps.length:=gl;have ke:dS (fZ vs (bK x (es.take k)).ps):=zv;refine sL<|ak Z<|Y<|aS<|cE rfl ?_ ?_
 ·intro h2;refine aK<|gT<|aS<|aB<|sL ?_;have hk:k<es.length:=by simpa[ap]using h2
  have Ac:=yz k eN;have oF:=Ds (x:=x) k eN;have CU:=zU (x:=x) k eN;refine li k jk Z (bS hk)<|d6 iK dD Z<|ab (zA 2011 jl Z) Z<|ab (zB 2011 mZ m0 Z) Z<|Y<|aS ?_;refine AW.mU 1 rfl ?_;intro u1;refine AW.mU 2 rfl ?_;intro u2;refine AW.mU 3 rfl ?_;intro u3;refine aL<|aP jG cu Z<|aP iK dD Z ?_;refine ab (zC [(1,1),(2,2),(3,3),(11,61),(12,62),(13,63),(14,64)] [61,62,63,64] [1,2,3] func107 (OQ (Yk _ es[k] Ac)) (⟨stays.ai rfl,stays.ai rfl,stays.ai rfl,trivial⟩) rfl rfl) rfl ?_;refine xH (fZ vs (bK x (es.take k)).ps) [4,5,6,7,8,9,23,24,25,32] [1,2,3,14,15,61,62,63,64,2002,2004,2007,2011] ?_;refine cT (.au [jG,qa,c6]) Z<|iB jG Z<|iB qa Z<|dE Z<|ab (zA 2012 mD Z) Z<|ab (zA 2013 pC Z) Z<|ab (zB 2012 eu ew Z) Z<|ab (zB 2013 na nb Z) Z<|ao Z<|Y<|aS<|sL<|ae Z<|ak Z<|Y<|cE rfl ?_ ?_
  ·intro h3;refine sL<|aP jG cu Z<|ab (zB 2007 eu ew Z) Z<|nA<|lf 0 wN Z<|aj ac Z<|ak Z<|Y<|cE rfl ?_ ?_
   ·intro h4;refine mi (fZ vs (bK x (es.take k)).ps) [4,5,6,7,8,9,13,14,23,24,25] [1,2,3,14,15,61,62,63,64,2002,2004,2007,2011,2012,2013] ?_;refine AW.mU 64 rfl ?_;intro u64;refine mi (fZ vs (bK x (es.take k)).ps) [4,5,6,7,8,9,13,14,23,24,25] [1,2,3,14,15,61,62,63,64,2002,2004,2007,2011,2012,2013] ?_;refine Oz 64 rfl rfl zv ?_;have Yj:dS (fZ vs (bK x (es.take k)).ps++[.ai ⟨167,some u64⟩ 3 (ah ct (dl (bK x (es.take k)).now es[k]).lines)]):=zv.gJ (fun o ho=>by rw[List.mem_singleton.1 ho];rfl);refine aL<|bW Z<|aP (.agg [c6,vV _]) ol Z<|ab (zS 2044 [[.v (.int .i64 (dl (bK x (es.take k)).now es[k]).id),.v u64]] vb pC rfl x_19) Z<|ab (zP 14 vb pC NC rfl x_18 (by grind[zu])) Z<|bD Z<|Y<|aL<|bW Z<|ae Z<|ab (zS 2048 (ah kt [dG (bK x (es.take k)).now es[k]]) iU lY rfl) Z<|ab (zP 15 iU lY uy rfl x_18 x_69) Z<|bD Z<|lN<|gB<|gT ?_;have cQ:dG (bK x (es.take k)).now es[k]=0:=by simpa using h3
    refine AW.swap 61 1 ?_;refine mi ((fZ vs (bK x (es.take k)).ps++[.ai ⟨167,some u64⟩ 3 (ah ct (dl (bK x (es.take k)).now es[k]).lines)])) [4,5,6,7,8,9,23,24,25] [1,2,3,14,15,61,62,63,2002,2004,2007,2011,2012,2013,2044,2048] ?_;refine AW.swap 62 2 ?_;refine mi ((fZ vs (bK x (es.take k)).ps++[.ai ⟨167,some u64⟩ 3 (ah ct (dl (bK x (es.take k)).now es[k]).lines)])) [4,5,6,7,8,9,23,24,25] [1,2,3,14,15,61,62,63,2002,2004,2007,2011,2012,2013,2044,2048] ?_;refine AW.swap 63 3 ?_;refine mi ((fZ vs (bK x (es.take k)).ps++[.ai ⟨167,some u64⟩ 3 (ah ct (dl (bK x (es.take k)).now es[k]).lines)])) [4,5,6,7,8,9,23,24,25] [1,2,3,14,15,61,62,63,2002,2004,2007,2011,2012,2013,2044,2048] ?_;refine mi ((fZ vs (bK x (es.take k)).ps++[.ai ⟨167,some u64⟩ 3 (ah ct (dl (bK x (es.take k)).now es[k]).lines)])) [4,5,6,7,8,9,23,24,25] [1,2,3,14,15,2002,2004,2007,2011,2012,2013,2044,2048] ?_;refine aL<|bg Z<|ae Z<|Y ?_;have hn:(kz (bK x (es.take k)) es[k]).now=dp (bK x (es.take k)).now es[k]:=Fk cQ;have hid:=Ok cQ;have dY:(dl (bK x (es.take k)).now es[k]).lines≠[]:=by have h:=h4;rw[hid]at h;simpa using h
    have hp:(kz (bK x (es.take k)) es[k]).ps=(bK x (es.take k)).ps++[dl (bK x (es.take k)).now es[k]]:=Om cQ dY;refine⟨(k+1,vs++[u64]),⟨hk,(by grind[fl])⟩,by omega,x_11,⟨(Eq.trans (congrArg qx hn.symm) (congrArg (fun s:fg=>qx s.now) (fl hk).symm)),(Eq.trans (congrArg (fun b:aw=>AO.ai 159 7 (ah aX b.ag)) hn.symm) (congrArg (fun s:fg=>AO.ai 159 7 (ah aX s.now.ag)) (fl hk).symm)),(Eq.trans (congrArg (fun b:aw=>df b.an) hn.symm) (congrArg (fun s:fg=>df s.now.an) (fl hk).symm)),(Eq.trans (congrArg (fun b:aw=>d7 b.aq) hn.symm) (congrArg (fun s:fg=>d7 s.now.aq) (fl hk).symm)),(Eq.trans (congrArg (AO.ai 92 2) (show _=lH (vs++[u64]) (kz (bK x (es.take k)) es[k]).ps by rw[hp,OM gl])) (congrArg (fun s:fg=>AO.ai 92 2 (lH (vs++[u64]) s.ps)) (fl hk).symm)),(Eq.trans (Eq.trans (b:=pR ((bK x (es.take k)).jD++[dG (bK x (es.take k)).now es[k]])) (congrArg (AO.ai 3 1) (fx kt _ [_]).symm) rfl) (congrArg (fun s:fg=>pR s.jD) (fl hk).symm)),trivial⟩,⟨rfl,rfl,rfl,rfl,rfl,rfl,rfl,rfl,trivial⟩,⟨rfl,rfl,trivial⟩,(by rw[fl hk,hp,ON gl];exact ki)⟩
   intro h4;refine aK<|gT<|aL<|bW Z<|ae Z<|ab (zS 2048 (ah kt [dG (bK x (es.take k)).now es[k]]) iU lY rfl) Z<|ab (zP 15 iU lY uy rfl x_18 x_69) Z<|bD Z<|lN<|gB<|gT ?_;have cQ:dG (bK x (es.take k)).now es[k]=0:=by simpa using h3
   refine AW.swap 61 1 ?_;refine mi (fZ vs (bK x (es.take k)).ps) [4,5,6,7,8,9,23,24,25] [1,2,3,14,15,61,62,63,64,2002,2004,2007,2011,2012,2013,2048] ?_;refine AW.swap 62 2 ?_;refine mi (fZ vs (bK x (es.take k)).ps) [4,5,6,7,8,9,23,24,25] [1,2,3,14,15,61,62,63,64,2002,2004,2007,2011,2012,2013,2048] ?_;refine AW.swap 63 3 ?_;refine mi (fZ vs (bK x (es.take k)).ps) [4,5,6,7,8,9,23,24,25] [1,2,3,14,15,61,62,63,64,2002,2004,2007,2011,2012,2013,2048] ?_;refine mi (fZ vs (bK x (es.take k)).ps) [4,5,6,7,8,9,23,24,25] [1,2,3,14,15,2002,2004,2007,2011,2012,2013,2048] ?_;refine aL<|bg Z<|ae Z<|Y ?_;have hn:(kz (bK x (es.take k)) es[k]).now=dp (bK x (es.take k)).now es[k]:=Fk cQ;have hid:=Ok cQ;have dY:(dl (bK x (es.take k)).now es[k]).lines=[]:=by have h:=h4;rw[hid]at h;simpa using h
   have hp:(kz (bK x (es.take k)) es[k]).ps=(bK x (es.take k)).ps:=Oo dY;refine⟨(k+1,vs),⟨hk,(by grind[fl])⟩,by omega,x_11,⟨(Eq.trans (congrArg qx hn.symm) (congrArg (fun s:fg=>qx s.now) (fl hk).symm)),(Eq.trans (congrArg (fun b:aw=>AO.ai 159 7 (ah aX b.ag)) hn.symm) (congrArg (fun s:fg=>AO.ai 159 7 (ah aX s.now.ag)) (fl hk).symm)),(Eq.trans (congrArg (fun b:aw=>df b.an) hn.symm) (congrArg (fun s:fg=>df s.now.an) (fl hk).symm)),(Eq.trans (congrArg (fun b:aw=>d7 b.aq) hn.symm) (congrArg (fun s:fg=>d7 s.now.aq) (fl hk).symm)),(Eq.trans (congrArg (fun p=>AO.ai 92 2 (lH vs p)) hp.symm) (congrArg (fun s:fg=>AO.ai 92 2 (lH vs s.ps)) (fl hk).symm)),(Eq.trans (Eq.trans (b:=pR ((bK x (es.take k)).jD++[dG (bK x (es.take k)).now es[k]])) (congrArg (AO.ai 3 1) (fx kt _ [_]).symm) rfl) (congrArg (fun s:fg=>pR s.jD) (fl hk).symm)),trivial⟩,⟨rfl,rfl,rfl,rfl,rfl,rfl,rfl,rfl,trivial⟩,⟨rfl,rfl,trivial⟩,(by rw[fl hk,hp];exact ki)⟩
  intro h3;refine aK<|gT<|aL<|bW Z<|ae Z<|ab (zS 2048 (ah kt [dG (bK x (es.take k)).now es[k]]) iU lY rfl) Z<|ab (zP 15 iU lY uy rfl x_18 x_69) Z<|bD Z<|lN<|gB<|gT ?_;have cQ:dG (bK x (es.take k)).now es[k]≠0:=by simpa using h3
  refine iQ 1 rfl ?_;refine iQ 2 rfl ?_;refine iQ 3 rfl ?_;refine mi (fZ vs (bK x (es.take k)).ps) [4,5,6,7,8,9,23,24,25] [1,2,3,14,15,2002,2004,2007,2011,2012,2013,2048] ?_;refine aL<|bg Z<|ae Z<|Y ?_;have hn:(kz (bK x (es.take k)) es[k]).now=(bK x (es.take k)).now:=Ol cQ;have hp:(kz (bK x (es.take k)) es[k]).ps=(bK x (es.take k)).ps:=On cQ;refine⟨(k+1,vs),⟨hk,(by grind[fl])⟩,by omega,x_11,⟨(Eq.trans (congrArg qx hn.symm) (congrArg (fun s:fg=>qx s.now) (fl hk).symm)),(Eq.trans (congrArg (fun b:aw=>AO.ai 159 7 (ah aX b.ag)) hn.symm) (congrArg (fun s:fg=>AO.ai 159 7 (ah aX s.now.ag)) (fl hk).symm)),(Eq.trans (congrArg (fun b:aw=>df b.an) hn.symm) (congrArg (fun s:fg=>df s.now.an) (fl hk).symm)),(Eq.trans (congrArg (fun b:aw=>d7 b.aq) hn.symm) (congrArg (fun s:fg=>d7 s.now.aq) (fl hk).symm)),(Eq.trans (congrArg (fun p=>AO.ai 92 2 (lH vs p)) hp.symm) (congrArg (fun s:fg=>AO.ai 92 2 (lH vs s.ps)) (fl hk).symm)),(Eq.trans (Eq.trans (b:=pR ((bK x (es.take k)).jD++[dG (bK x (es.take k)).now es[k]])) (congrArg (AO.ai 3 1) (fx kt _ [_]).symm) rfl) (congrArg (fun s:fg=>pR s.jD) (fl hk).symm)),trivial⟩,⟨rfl,rfl,rfl,rfl,rfl,rfl,rfl,rfl,trivial⟩,⟨rfl,rfl,trivial⟩,(by rw[fl hk,hp];exact ki)⟩
 intro h2;refine aE<|eT<|eT<|eB<|gA<|aP jG cu Z<|bW Z<|bW Z<|ab (zB 2004 eu ew Z) Z<|bD Z<|bD Z<|Y<|aR ?_;have dZ:k=es.length:=by have h:=h2;simp only[ap,decide_eq_false_iff_not]at h;omega
 subst dZ;rw[OO jr];rw[List.take_length]at gl ke;have CU:=zU (x:=x) (es:=es) es.length (Nat.le_refl _);rw[List.take_length]at CU ⊢;refine vW (F1:=(fZ vs (bK x es).ps)) (CS (bK x es)) (Ag (bK x es) vs) ?_ (by grind[OL]) rfl rfl ⟨rfl,rfl,rfl,rfl,rfl,trivial⟩ ki;exact⟨vs,gl,rfl,rfl,rfl⟩

def eY(n:Int):Prop:=0<=n/\n<=1125899906842624
def ed(l:List be)(ch:Int):Prop:=∃c∈l,c.id=ch
structure IX(c:be):Prop where
 id:1<=c.id/\c.id<=99
 loc:eY c.loc
 aC:eY c.aC
 base:eY c.base
 br:0<=c.br/\c.br<=1000000
 cM:-100<=c.cM/\c.cM<=100
 size:eY c.size
structure xu(l:List be)(h:eV):Prop where
 gh:eY h.cW
 out:1<=h.c9/\h.c9<=h.cW
 jP:eY h.jP
 ne:h.gh≠h.out
 ti:ed l h.gh
 to:ed l h.out
structure xw(l:List be)(h:gz):Prop where
 af:1<=h.af/\h.af<=1125899906842624
 ay:eY h.ay
 ne:h.fI≠h.to
 ti:ed l h.fI
 to:ed l h.to
structure hD(x:aw):Prop where
 tick:eY x.tick
 aA:eY x.aA
 next:1<=x.next/\x.next<=1125899906842624
 lc:x.ag.length<=20
 lh:x.an.length<=60
 li:x.aq.length<=20
 hs:∀h∈x.an,xu x.ag h
 cs:∀h∈x.aq,xw x.ag h
 kr:∀k∈dN x,1<=k/\k<=1000000
 kn:(dN x).Pairwise (·≠·)
 gS:x.ag.Pairwise fun a b=>a.id<b.id
 ch:∀c∈x.ag,IX c
 sum:∀c∈x.ag,c.size=c.loc+c.aC+fB x c.id+jh x c.id
theorem MV{l:List be}{ch:Int}:0<=eS l ch↔ed l ch:=by
 constructor
 ·intro h;obtain⟨i,c,_,q,_,r⟩:=p9 h;exact⟨c,dB q,r⟩
 rintro⟨c,hc,rfl⟩;rcases jt l c.id with⟨q,_⟩|⟨i,d,q,_⟩
 ·exact absurd rfl (zY q c hc)
 omega
theorem A9{l:List be}{a b:Int}:two l a b=true↔a≠b/\ed l a/\ed l b:=by
 unfold two;simp only[Bool.and_eq_true,Bool.not_eq_true',beq_eq_false_iff_ne,decide_eq_true_eq,MV];grind
theorem OS{ks:List Int}:wj ks=true↔(∀k∈ks,1<=k/\k<=1000000)/\ks.Pairwise (·≠·):=by
 constructor
 ·intro h;refine⟨fun k hk=>?_,OT h⟩;obtain⟨j,hj,rfl⟩:=List.getElem_of_mem hk;have:=List.all_eq_true.1 h j x_14;unfold kV at this;rw[Bool.and_eq_true]at this;have V:=this.1;rw[List.getD_eq_getElem?_getD,List.getElem?_eq_getElem hj]at V;exact cJ.1 V
 rintro⟨V,h2⟩;refine IY fun j hj=>?_;unfold kV;rw[Bool.and_eq_true,List.getD_eq_getElem?_getD,List.getElem?_eq_getElem hj];refine⟨cJ.2 (V _ (List.getElem_mem hj)),?_⟩;unfold wm;simp only[Option.getD_some,Bool.not_eq_true',List.any_eq_false,beq_iff_eq];intro y hy e;obtain⟨i,hi,rfl⟩:=List.getElem_of_mem hy;grind[List.pairwise_iff_getElem]
theorem OU{c:be}:pS c=true↔IX c:=by
 constructor
 ·intro h;obtain⟨V,h2,h3,h4,h5,h6,h7⟩:=IZ h;exact⟨V,h2,h3,h4,h5,h6,h7⟩
 rintro⟨V,h2,h3,h4,h5,h6,h7⟩;unfold pS gf xQ;simp only[Bool.and_eq_true,cY,cJ];trivial
theorem mX{x:aw}(h:eG x=true):hD x:=by
 obtain⟨V,h2,h3,h4,h5,h6⟩:=xO h;obtain⟨p1,p2,p3,p4,p5⟩:=CV h5;obtain⟨k1,k2⟩:=OS.1 p5;refine⟨cY.1 V,cY.1 h2,cJ.1 h3,h4,p1,p2,fun y hy=>?_,fun y hy=>?_,k1,k2,?_,fun c hc=>OU.1 (Fq h6 hc).1,fun c hc=>?_⟩
 ·obtain⟨q1,q2,q3,q4,q5⟩:=xR.1 (p3 y hy);obtain⟨r1,r2,r3⟩:=A9.1 q5;exact⟨cY.1 q1,⟨q2,q3⟩,cY.1 q4,r1,r2,r3⟩
 ·obtain⟨q1,q2,q3,q5⟩:=wn.1 (p4 y hy);obtain⟨r1,r2,r3⟩:=A9.1 q5;exact⟨⟨q2,(cY.1 q1).2⟩,cY.1 q3,r1,r2,r3⟩
 ·rw[List.pairwise_iff_getElem];intro i j hi hj gF;simp_all[I0,I1]
 have:=(Fq h6 hc).2;simp_all[ss]
theorem MG{x:aw}(b:hD x):eG x=true:=by
 unfold eG kW;simp only[Bool.and_eq_true,cY,cJ,decide_eq_true_eq,List.all_eq_true];refine⟨⟨⟨⟨⟨b.tick,b.aA⟩,b.next⟩,b.lc⟩,⟨⟨⟨b.lh,b.li⟩,fun y hy=>?_⟩,fun y hy=>?_⟩,OS.2 ⟨b.kr,b.kn⟩⟩,I2 fun j hj=>?_⟩
 ·have q:=b.hs y hy;exact xR.2 ⟨cY.2 q.gh,q.out.1,q.out.2,cY.2 q.jP,A9.2 ⟨q.ne,q.ti,q.to⟩⟩
 ·have q:=b.cs y hy;have:=q.af;exact wn.2 ⟨cY.2 ⟨by omega,q.af.2⟩,q.af.1,cY.2 q.ay,A9.2 ⟨q.ne,q.ti,q.to⟩⟩
 unfold n5;rw[List.getElem?_eq_getElem hj];dsimp only;have hm:=List.getElem_mem hj;rw[Bool.and_eq_true,Bool.and_eq_true];refine⟨⟨OU.2 (b.ch _ hm),?_⟩,?_⟩
 ·unfold su;cases j with
  |zero=>rfl
  |succ j=>
   dsimp only;rw[List.getElem?_eq_getElem (by omega:j<x.ag.length),List.getElem?_eq_getElem hj];simpa using List.pairwise_iff_getElem.1 b.gS j (j+1) x_2 hj x_2
 unfold ss;exact beq_iff_eq.2 (b.sum _ hm)

theorem jT{α:Type}(f:α->Int)(x:α)(l:List α):bG f (x::l)=f x+bG f l:=by rfl
theorem zc{α:Type}(f:α->Int)(l:List α)(x:α):bG f (l++[x])=bG f l+f x:=by grind[bG]
theorem HS{α β:Type}{f:α->Int}{g:β->Int}{m:α->β}{l:List α}(h:∀x∈l,g (m x)=f x):bG g (l.map m)=bG f l:=by
 grind[bG,List.map_congr_left]
theorem vM{α:Type}{f:α->Int}{l:List α}(h:∀x∈l,f x=0):bG f l=0:=by
 induction l with
 |nil=>rfl
 |cons a l ih=>grind[jT]
theorem AH{α:Type}{g:α->Int}{f:α->Int}{l:List α}(jU:l.Pairwise fun a b=>g a≠g b){h:α}(hm:h∈l):bG f (l.filter fun d=>!(g d==g h))+f h=bG f l:=by
 induction l with
 |nil=>cases hm
 |cons a l ih=>
  rw[List.pairwise_cons]at jU;rcases List.mem_cons.1 hm with rfl|Ex;all_goals grind[List.filter_eq_self,jT]
theorem tn{l:List be}{a ch:Int}{f:be->be}(hf:∀c,(f c).id=c.id)(h:ed l ch):ed (cC l a f) ch:=by
 obtain⟨c,hc,rfl⟩:=h;refine⟨_,List.mem_map_of_mem hc,?_⟩;grind
theorem vJ{l:List be}{a:Int}{f:be->be}(hf:∀c,(f c).id=c.id)(h:l.Pairwise fun a b=>a.id<b.id):(cC l a f).Pairwise fun a b=>a.id<b.id:=by
 grind[cC]
theorem Cs{l:List be}{a:Int}{f:be->be}{c:be}(h:c∈cC l a f):∃d∈l,c=if d.id=a then f d else d:=by
 unfold cC at h;grind
theorem hD.UB{x:aw}(b:hD x){n:Int}(hn:1<=n/\n<=1125899906842624):hD { x with next:=n }:=⟨b.tick,b.aA,hn,b.lc,b.lh,b.li,b.hs,b.cs,b.kr,b.kn,b.gS,b.ch,b.sum⟩
theorem hD.Yl{x:aw}(b:hD x){n:Int}(hn:eY n):hD { x with aA:=n }:=⟨b.tick,hn,b.next,b.lc,b.lh,b.li,b.hs,b.cs,b.kr,b.kn,b.gS,b.ch,b.sum⟩
theorem hD.parts{x y:aw}(b:hD x)(ht:eY y.tick)(hw:eY y.aA)(hn:y.next=x.next)(lc:y.ag.length<=20)(lh:y.an.length<=60)(li:y.aq.length<=20)(hs:∀h∈y.an,xu y.ag h)(cs:∀h∈y.aq,xw y.ag h)(kr:∀k∈dN y,1<=k/\k<=1000000)(kn:(dN y).Pairwise (·≠·))
 (gS:y.ag.Pairwise fun a b=>a.id<b.id) (ch:∀c∈y.ag,IX c) (sum:∀c∈y.ag,c.size=c.loc+c.aC+fB y c.id+jh y c.id):hD y:=⟨ht,hw,hn▸b.next,lc,lh,li,hs,cs,kr,kn,gS,ch,sum⟩
theorem xu.ag{l l':List be}{h:eV}(q:xu l h)(k:∀ch,ed l ch->ed l' ch):xu l' h:=⟨q.gh,q.out,q.jP,q.ne,k _ q.ti,k _ q.to⟩
theorem xw.ag{l l':List be}{h:gz}(q:xw l h)(k:∀ch,ed l ch->ed l' ch):xw l' h:=⟨q.af,q.ay,q.ne,k _ q.ti,k _ q.to⟩
theorem Uv{x:aw}{e:aV}(b:hD x)(ho:d8 x e=false)(hk:e.kind=1)(ha:0<=e.af):hD (zb x e).b:=by
 refine b.Yl ?_;have hw:=b.aA;unfold d8 at ho;by_cases hn:x.next=1125899906842624
 ·grind
 rw[if_neg hn,if_pos hk]at ho;grind[eY]
theorem Cp(t:Int)(c:be):(l8 t c).id=c.id:=by grind[l8]
theorem Uz{x:aw}(b:hD x)(ho:x.tick≠1125899906842624):hD (p' x).b:=by
 have ht:=b.tick;have key:∀ch,ed x.ag ch->ed (x.ag.map (l8 x.tick)) ch:=fun ch ⟨c,hc,q⟩=>⟨_,List.mem_map_of_mem hc,by rw[Cp,q]⟩;have o1:∀ch,bG (dK ch) (x.an.map kx)=bG (dK ch) x.an:=fun ch=>HS fun h _=>rfl;have o2:∀ch,bG (gx ch) (x.an.map kx)=bG (gx ch) x.an:=fun ch=>HS fun h _=>rfl;have jF:dN (p' x).b=dN x:=by
  unfold dN p';dsimp only;rw[List.map_map];rfl
 refine b.parts ?_ b.aA rfl ?_ ?_ b.li ?_ (fun h hh=>(b.cs h hh).ag key) ?_ ?_ ?_ ?_ ?_
 ·show eY (x.tick+1);grind[eY]
 ·show (x.ag.map _).length<=_;rw[List.length_map];exact b.lc
 ·show (x.an.map _).length<=_;rw[List.length_map];exact b.lh
 ·intro h hh;obtain⟨d,hd,rfl⟩:=List.mem_map.1 hh;have q:=(b.hs d hd).ag key;refine⟨q.gh,q.out,?_,q.ne,q.ti,q.to⟩;have:=q.jP;grind[kx,eY]
 ·rw[jF];exact b.kr
 ·rw[jF];exact b.kn
 ·show (x.ag.map _).Pairwise _;rw[List.pairwise_map];exact b.gS.imp fun{c d} q=>by grind[Cp]
 ·intro c hc;obtain⟨d,hd,rfl⟩:=List.mem_map.1 hc;have q:=b.ch d hd;unfold l8;split
  ·exact⟨q.id,q.loc,q.aC,q.base,q.br,OV _,q.size⟩
  omega
 intro c hc;obtain⟨d,hd,rfl⟩:=List.mem_map.1 hc;have q:=b.sum d hd;grind[fB,p',jh,l8]
theorem Ux{x:aw}{e:aV}(b:hD x)(ha:eY e.af)(hf:0<=e.ay/\e.ay<=1000000):hD (ou x e).b:=by
 unfold ou;split
 ·exact b
 have I3:∀c:be,({ c with base:=e.af,br:=e.ay }:be).id=c.id:=fun _=>rfl;refine b.parts b.tick b.aA rfl (by show (cC _ _ _).length<=_;rw[sh];exact b.lc) b.lh b.li (fun h hh=>(b.hs h hh).ag fun ch q=>tn I3 q) (fun h hh=>(b.cs h hh).ag fun ch q=>tn I3 q) b.kr b.kn (vJ I3 b.gS) (fun c hc=>?_) (fun c hc=>?_)
 ·obtain⟨d,hd,rfl⟩:=Cs hc;have q:=b.ch d hd;split
  ·exact⟨q.id,q.loc,q.aC,ha,hf,q.cM,q.size⟩
  omega
 obtain⟨d,hd,rfl⟩:=Cs hc;have q:=b.sum d hd;split<;>exact q
theorem Ym{l:List be}{c d:be}(h:d∈l\/d=c):d∈ly l c:=by
 grind[ly,List.take_append_drop]
theorem Yn{l:List be}{c:be}(h:l.Pairwise fun a b=>a.id<b.id)(hn:∀d∈l,d.id≠c.id):(ly l c).Pairwise fun a b=>a.id<b.id:=by
 have hp:lV l c.id<=l.length:=List.findIdx_le_length;have V:∀d∈l.take (lV l c.id),d.id<c.id:=fun d hd=>by
  obtain⟨i,hi,rfl⟩:=List.getElem_of_mem hd;rw[List.length_take]at hi;rw[List.getElem_take];have:=List.not_of_lt_findIdx (p:=fun d:be=>!decide (d.id<c.id)) (xs:=l) (i:=i) (by unfold lV at hi;omega);simpa using this
 have h2:∀d∈l.drop (lV l c.id),c.id<d.id:=fun d hd=>by
  obtain⟨i,hi,rfl⟩:=List.getElem_of_mem hd;rw[List.length_drop]at hi;rw[List.getElem_drop];have eI:lV l c.id<l.length:=by omega
  have q0:¬l[lV l c.id].id<c.id:=by
   have:=List.findIdx_getElem (xs:=l) (p:=fun d:be=>!decide (d.id<c.id)) (w:=eI);intro r;rw[show (l[List.findIdx (fun d:be=>!decide (d.id<c.id)) l]'eI)=l[lV l c.id]from rfl]at this;simp[r]at this
  have q1:=hn _ (List.getElem_mem eI);rcases Nat.eq_zero_or_pos i with r|r
  ·subst r;simp only[Nat.add_zero];omega
  have:=List.pairwise_iff_getElem.1 h (lV l c.id) (lV l c.id+i) eI x_2 x_2;omega
 unfold ly;grind
theorem hD.none{x:aw}(b:hD x){ch:Int}(h:¬ed x.ag ch):fB x ch=0/\jh x ch=0:=by
 unfold fB jh;rw[vM fun y hy=>?_,vM fun y hy=>?_,vM fun y hy=>?_,vM fun y hy=>?_]
 ·simp
 ·unfold ix;split
  ·rename_i q;exact absurd (q▸(b.cs y hy).to) h
  rfl
 ·unfold gx;split
  ·rename_i q;exact absurd (q▸(b.hs y hy).ti) h
  rfl
 ·unfold eR;split
  ·rename_i q;exact absurd (q▸(b.cs y hy).ti) h
  rfl
 unfold dK;split
 ·rename_i q;exact absurd (q▸(b.hs y hy).to) h
 rfl
theorem Uw{x:aw}{e:aV}(b:hD x)(mq:e.af+e.ay<=1125899906842624)(ha:0<=e.af)(hf:0<=e.ay)(hid:1<=e.ch/\e.ch<=99)(hc:gO x e=0):hD (sJ x e).b:=by
 rw[tK hc];have iY:=zY (DB hc);have EK:¬ed x.ag e.ch:=fun⟨c,q1,q2⟩=>iY c q1 q2;have oF:¬(20:Int)<=(x.ag.length:Int):=fun q=>by
  simp_all[gO,dI,mp]
 have vX:¬x.aA<e.af:=fun q=>by
  grind[gO,mp]
 have hw:=b.aA;have key:∀ch,ed x.ag ch->ed (ly x.ag (jc e)) ch:=fun ch ⟨c,q1,q2⟩=>⟨c,Ym (.inl q1),q2⟩;refine b.parts b.tick ?_ rfl ?_ b.lh b.li (fun h hh=>(b.hs h hh).ag key) (fun h hh=>(b.cs h hh).ag key) b.kr b.kn (Yn b.gS iY) (fun c hc=>?_) (fun c hc=>?_)
 ·grind[eY]
 ·grind[OW]
 ·rcases EP hc with q|rfl
  ·exact b.ch c q
  exact⟨hid,⟨ha,by grind⟩,⟨hf,by grind⟩,⟨Int.le_refl _,by simp⟩,⟨Int.le_refl _,by simp⟩,⟨by simp,by simp⟩,⟨by grind,mq⟩⟩
 rcases EP hc with q|rfl
 ·exact b.sum c q
 obtain⟨q1,q2⟩:=b.none EK;grind[fB,jh]

theorem ky{b:Bool}{c k:Int}(hk:k≠0)(h:bE b c k=0):c=0/\b=false:=by
 unfold bE at h;grind
theorem Fr{l:List be}(ha:l.Pairwise fun a b=>a.id<b.id){d:be}(hd:d∈l):fz l d.id=d:=by
 rcases jt l d.id with⟨q,_⟩|⟨i,c,q1,q2,q3,q4⟩
 ·exact absurd rfl (zY q d hd)
 rw[q3];have hp:l.Pairwise fun a b=>a.id≠b.id:=ha.imp fun h=>by omega
 obtain⟨j,hj,e⟩:=List.getElem_of_mem hd;have:i=j:=OX (g:=fun c=>c.id) hp q2 (by rw[List.getElem?_eq_getElem hj,e]) q4;grind
theorem OY{x:aw}{k:Int}(h:nD x k=false):∀y∈dN x,k≠y:=fun y hy e=>by
 have:=any_keys x k;grind[wH,dN]
theorem xx{l:List be}{a b:Int}{f g:be->be}(hf:∀c,(f c).id=c.id)(kN:a≠b){c:be}(h:c∈cC (cC l a f) b g):∃d∈l,(d.id=a/\c=f d)\/(d.id=b/\c=g d)\/(d.id≠a/\d.id≠b/\c=d):=by
 obtain⟨d',I4,rfl⟩:=Cs h;obtain⟨d,hd,rfl⟩:=Cs I4;grind
theorem Uy{x:aw}{e:aV}(b:hD x)(bO:e.ch≠e.to)(AP:1<=e.key/\e.key<=1000000)(ha:1<=e.af)(hc:gg x e=0):hD (sP x e).b:=by
 rw[sR hc];have V:dz x e=0:=by
  by_cases q:dz x e=0
  ·exact q
  grind[jx]
 unfold dz at V;obtain⟨h2,g1⟩:=ky x_3 V;obtain⟨h3,g2⟩:=ky x_3 h2;obtain⟨h4,g3⟩:=ky x_3 h3;unfold im at h4;rw[p8 bO]at h4;obtain⟨h5,g4⟩:=ky x_3 h4;obtain⟨h6,g5⟩:=ky x_3 h5;obtain⟨_,g6⟩:=ky x_3 h6;have I5:two x.ag e.ch e.to=true:=by simpa using g5
 obtain⟨_,t1,t2⟩:=A9.1 I5;simp only[decide_eq_false_iff_not]at g1 g2 g4;unfold gZ at g3;rw[Bool.or_eq_false_iff,Bool.not_eq_false',Bool.not_eq_false']at g3;have hs:cn x e=e.af+kG (fz x.ag e.to).base (fz x.ag e.to).br e.af:=ye g3.2;have g9:=g3.2;unfold gI at g9;simp only[Bool.and_eq_true,cY]at g9;have mq:eY (cn x e)/\e.af<=cn x e:=by rw[hs];unfold eY;omega
 have f1:∀c:be,({ c with aC:=c.aC-cn x e }:be).id=c.id:=fun _=>rfl;have f2:∀c:be,({ c with loc:=c.loc-e.af }:be).id=c.id:=fun _=>rfl;have key:∀ch,ed x.ag ch->ed (mI x e).b.ag ch:=fun ch q=>tn f2 (tn f1 q);have ho:∀ch,fB (mI x e).b ch=fB x ch+(if e.to=ch then e.af else 0):=fun ch=>by
  grind[fB,mI,zc,dK]
 have hi:∀ch,jh (mI x e).b ch=jh x ch+(if e.ch=ch then cn x e else 0):=fun ch=>by
  grind[jh,mI,zc,gx]
 have yF:=OY g6;have jF:(dN (mI x e).b).Perm (e.key::dN x):=by
  unfold dN mI;dsimp only;rw[List.map_append,List.append_assoc];exact List.perm_middle
 refine b.parts b.tick b.aA rfl ?_ ?_ b.li (fun h hh=>?_) (fun h hh=>(b.cs h hh).ag key) (fun k hk=>?_) ?_ (vJ f2 (vJ f1 b.gS)) (fun c hc=>?_) (fun c hc=>?_)
 ·show (cC (cC _ _ _) _ _).length<=_;rw[sh,sh];exact b.lc
 ·show (x.an++[_]).length<=_;grind
 ·rcases List.mem_append.1 hh with hh|hh
  ·exact(b.hs h hh).ag key
  rw[List.mem_singleton]at hh;subst hh;exact⟨mq.1,⟨ha,mq.2⟩,⟨Int.le_refl _,by simp⟩,bO,key _ t1,key _ t2⟩
 ·rcases List.mem_cons.1 (jF.mem_iff.1 hk)with rfl|hk
  ·exact AP
  exact b.kr k hk
 ·exact(List.Perm.pairwise_iff (fun h=>Ne.symm h) jF).2 (List.pairwise_cons.2 ⟨yF,b.kn⟩)
 ·obtain⟨d,hd,q|q|q⟩:=xx f1 bO hc
  ·have k:=b.ch d hd;have e1:=Fr b.gS hd;rw[q.1]at e1;rw[e1]at g2;have:=k.aC;rw[q.2];refine⟨k.id,k.loc,?_,k.base,k.br,k.cM,k.size⟩;grind[eY]
  ·have k:=b.ch d hd;have e1:=Fr b.gS hd;rw[q.1]at e1;rw[e1]at g1;have:=k.loc;rw[q.2];refine⟨k.id,?_,k.aC,k.base,k.br,k.cM,k.size⟩;grind[eY]
  rw[q.2.2];exact b.ch d hd
 obtain⟨d,hd,q|q|q⟩:=xx f1 bO hc
 ·have k:=b.sum d hd;grind
 ·have k:=b.sum d hd;grind
 have k:=b.sum d hd;grind
theorem UA{x:aw}{e:aV}(b:hD x)(bO:e.ch≠e.to)(AP:1<=e.key/\e.key<=1000000)(ha:1<=e.af)(hc:fL x e=0):hD (sS x e).b:=by
 rw[uZ hc];unfold fL at hc;obtain⟨h2,g1⟩:=ky x_3 hc;obtain⟨h3,g2⟩:=ky x_3 h2;obtain⟨h4,g3⟩:=ky x_3 h3;unfold kv at h4;rw[p8 bO]at h4;obtain⟨h5,g4⟩:=ky x_3 h4;obtain⟨h6,g5⟩:=ky x_3 h5;obtain⟨_,g6⟩:=ky x_3 h6;have I5:two x.ag e.ch e.to=true:=by simpa using g5
 obtain⟨_,t1,t2⟩:=A9.1 I5;simp only[decide_eq_false_iff_not]at g1 g2 g4;have CW:gI e.af e.ay=true:=by simpa using g3
 have hs:=ye CW;unfold gI at CW;simp only[Bool.and_eq_true,cY]at CW;rw[hs]at g2;have f1:∀c:be,({ c with loc:=c.loc-eM e.af e.ay }:be).id=c.id:=fun _=>rfl;have f2:∀c:be,({ c with aC:=c.aC-e.af }:be).id=c.id:=fun _=>rfl;have key:∀ch,ed x.ag ch->ed (oH x e).b.ag ch:=fun ch q=>tn f2 (tn f1 q);have ho:∀ch,fB (oH x e).b ch=fB x ch+(if e.ch=ch then e.af+e.ay else 0):=fun ch=>by
  grind[fB,oH,zc,eR]
 have hi:∀ch,jh (oH x e).b ch=jh x ch+(if e.to=ch then e.af else 0):=fun ch=>by
  grind[jh,oH,zc,ix]
 have yF:=OY g6;have jF:(dN (oH x e).b).Perm (e.key::dN x):=by
  unfold dN oH;dsimp only;rw[List.map_append,<-List.append_assoc];exact List.perm_append_singleton _ _
 refine b.parts b.tick b.aA rfl ?_ b.lh ?_ (fun h hh=>(b.hs h hh).ag key) (fun h hh=>?_) (fun k hk=>?_) ?_ (vJ f2 (vJ f1 b.gS)) (fun c hc=>?_) (fun c hc=>?_)
 ·show (cC (cC _ _ _) _ _).length<=_;rw[sh,sh];exact b.lc
 ·show (x.aq++[_]).length<=_;grind
 ·rcases List.mem_append.1 hh with hh|hh
  ·exact(b.cs h hh).ag key
  rw[List.mem_singleton]at hh;subst hh;exact⟨⟨ha,by grind⟩,⟨CW.1.2.1,CW.1.2.2⟩,bO,key _ t1,key _ t2⟩
 ·rcases List.mem_cons.1 (jF.mem_iff.1 hk)with rfl|hk
  ·exact AP
  exact b.kr k hk
 ·exact(List.Perm.pairwise_iff (fun h=>Ne.symm h) jF).2 (List.pairwise_cons.2 ⟨yF,b.kn⟩)
 ·obtain⟨d,hd,q|q|q⟩:=xx f1 bO hc
  ·have k:=b.ch d hd;have e1:=Fr b.gS hd;rw[q.1]at e1;rw[e1]at g2;have:=k.loc;rw[q.2];refine⟨k.id,?_,k.aC,k.base,k.br,k.cM,k.size⟩;grind[eY]
  ·have k:=b.ch d hd;have e1:=Fr b.gS hd;rw[q.1]at e1;rw[e1]at g1;have:=k.aC;rw[q.2];refine⟨k.id,k.loc,?_,k.base,k.br,k.cM,k.size⟩;grind[eY]
  rw[q.2.2];exact b.ch d hd
 obtain⟨d,hd,q|q|q⟩:=xx f1 bO hc
 ·have k:=b.sum d hd;grind
 ·have k:=b.sum d hd;grind
 have k:=b.sum d hd;grind

theorem ut{L:List be}{l:List eV}{m:List gz}(hs:∀h∈l,xu L h)(cs:∀h∈m,xw L h)(ch:Int):0<=bG (dK ch) l/\0<=bG (gx ch) l/\0<=bG (eR ch) m/\0<=bG (ix ch) m:=by
 refine⟨?_,?_,?_,?_⟩
 ·refine(sd (dK ch) 1125899906842624 x_3 l fun y hy=>?_).1;have:=(hs y hy).out;have:=(hs y hy).gh;grind[eY,dK]
 ·refine(sd (gx ch) 1125899906842624 x_3 l fun y hy=>?_).1;have:=(hs y hy).gh;grind[eY,gx]
 ·refine(sd (eR ch) 2251799813685248 x_3 m fun y hy=>?_).1;have:=(cs y hy).af;have:=(cs y hy).ay;grind[eY,eR]
 refine(sd (ix ch) 1125899906842624 x_3 m fun y hy=>?_).1;have:=(cs y hy).af;grind[ix]
theorem AE{x:aw}(b:hD x):(x.an.Pairwise fun a b=>a.key≠b.key)/\x.aq.Pairwise fun a b=>a.key≠b.key:=by
 have h:=b.kn;grind[dN]
theorem x_102{p:Prop}(c:p:=by exact ⟨w1▸k.id,by grind[eY],by grind[eY],w3▸k.base,w4▸k.br,w8▸k.cM,w2▸k.size⟩):p:=c
theorem MC{x y:aw}(b:hD x){h:eV}(hm:h∈x.an){f g:be->be}(tj:y.an=jS x.an h.key)(se:y.aq=x.aq)(sg:y.ag=cC (cC x.ag h.gh f) h.out g)(HG:y.tick=x.tick)(HH:y.aA=x.aA)(HI:y.next=x.next)
 (f1:∀c,(f c).id=c.id/\(f c).size=c.size/\(f c).base=c.base/\(f c).br=c.br/\(f c).loc+(f c).aC=c.loc+c.aC+h.cW/\c.loc<=(f c).loc/\c.aC<=(f c).aC/\(-100<=(f c).cM/\(f c).cM<=100))
 (g1:∀c,(g c).id=c.id/\(g c).size=c.size/\(g c).base=c.base/\(g c).br=c.br/\(g c).loc+(g c).aC=c.loc+c.aC+h.c9/\c.loc<=(g c).loc/\c.aC<=(g c).aC/\(g c).cM=c.cM):hD y:=by
 have q:=b.hs h hm
 have bO:=q.ne
 have fi:∀c,(f c).id=c.id:=fun c=>(f1 c).1
 have gi:∀c,(g c).id=c.id:=fun c=>(g1 c).1
 have key:∀ch,ed x.ag ch->ed y.ag ch:=fun ch r=>by grind[tn]
 have my:∀z∈y.an,z∈x.an:=fun z hz=>by rw[tj]at hz;exact(List.mem_filter.1 hz).1
 have ot:∀z∈y.an,xu x.ag z:=fun z hz=>b.hs z (my z hz)
 have ig:∀z∈y.aq,xw x.ag z:=fun z hz=>b.cs z (se▸hz)
 have ho:∀ch,fB y ch+dK ch h=fB x ch:=fun ch=>by
  unfold fB;have:=AH (g:=fun z:eV=>z.key) (f:=dK ch) (AE b).1 hm;grind[jS]
 have hi:∀ch,jh y ch+gx ch h=jh x ch:=fun ch=>by
  unfold jh;have:=AH (g:=fun z:eV=>z.key) (f:=gx ch) (AE b).1 hm;grind[jS]
 have ml:(dN y).Sublist (dN x):=by
  unfold dN;rw[tj,se];exact(List.filter_sublist.map _).append (List.Sublist.refl _)
 have hlen:y.an.length<=60:=by
  rw[tj];have V:(jS x.an h.key).length<=x.an.length:=List.length_filter_le _ _;have:=b.lh;omega
 refine b.parts (HG▸b.tick) (HH▸b.aA) HI (by rw[sg,sh,sh];exact b.lc) hlen (se▸b.li) (fun z hz=>(ot z hz).ag key) (fun z hz=>(ig z hz).ag key) (fun k hk=>b.kr k (ml.subset hk)) (b.kn.sublist ml) (by rw[sg];exact vJ gi (vJ fi b.gS)) (fun c hc=>?_) (fun c hc=>?_)
 ·rw[sg]at hc
  obtain⟨d,hd,r|r|r⟩:=xx fi bO hc
  ·have k:=b.ch d hd
   have s:=b.sum d hd
   have o:=ut ot ig d.id
   have e1:=ho d.id
   have e2:=hi d.id
   unfold dK at e1
   unfold gx at e2
   rw[if_neg x_2]at e1
   rw[if_pos r.1.symm]at e2
   unfold fB at e1 s
   unfold jh at e2 s
   obtain⟨w1,w2,w3,w4,w5,w6,w7,w8⟩:=f1 d
   have k2:=k.loc
   have k3:=k.aC
   have k4:=k.size
   have k5:=ut b.hs b.cs d.id
   rw[r.2]
   unfold eY at *
   exact⟨w1▸k.id,by grind[eY],by grind[eY],w3▸k.base,w4▸k.br,w8,w2▸k.size⟩
  ·have k:=b.ch d hd
   have s:=b.sum d hd
   have o:=ut ot ig d.id
   have e1:=ho d.id
   have e2:=hi d.id
   unfold dK at e1
   unfold gx at e2
   rw[if_pos r.1.symm]at e1
   rw[if_neg x_2]at e2
   unfold fB at e1 s
   unfold jh at e2 s
   obtain⟨w1,w2,w3,w4,w5,w6,w7,w8⟩:=g1 d
   have k2:=k.loc
   have k3:=k.aC
   have k4:=k.size
   have k5:=ut b.hs b.cs d.id
   rw[r.2]
   unfold eY at *
   exact x_102
  rw[r.2.2];exact b.ch d hd
 rw[sg]at hc
 obtain⟨d,hd,r|r|r⟩:=xx fi bO hc
 ·have s:=b.sum d hd
  have e1:=ho d.id
  have e2:=hi d.id
  unfold dK at e1
  unfold gx at e2
  grind
 ·have s:=b.sum d hd
  have e1:=ho d.id
  have e2:=hi d.id
  unfold dK at e1
  unfold gx at e2
  grind
 have s:=b.sum d hd
 have e1:=ho d.id
 have e2:=hi d.id
 unfold dK at e1
 unfold gx at e2
 grind
theorem x_108{p:Prop}(c:p:=by exact ⟨rfl,rfl,rfl,rfl,by dsimp only;omega,by dsimp only;omega,Int.le_refl _,rfl⟩):p:=c
theorem x_109{p:Prop}(c:p:=by exact ⟨rfl,rfl,rfl,rfl,by dsimp only;omega,Int.le_refl _,by dsimp only;omega,rfl⟩):p:=c
theorem Ur{x:aw}{e:aV}(b:hD x):hD (mR x e).b:=by
 unfold mR;split
 ·rename_i h hf;have hm:=List.mem_of_find?_eq_some hf;have q:=b.hs h hm;have q1:=q.gh;have q2:=q.out;unfold eY at q1;unfold pN;split
  ·exact MC b hm rfl rfl rfl rfl rfl rfl (fun c=>⟨rfl,rfl,rfl,rfl,by dsimp only;omega,by dsimp only;omega,Int.le_refl _,MD _⟩) (fun c=>x_109)
  exact MC b hm rfl rfl rfl rfl rfl rfl (fun c=>⟨rfl,rfl,rfl,rfl,by dsimp only;omega,Int.le_refl _,by dsimp only;omega,ME _⟩) (fun c=>x_108)
 omega

theorem MF{x y:aw}(b:hD x){h:gz}(hm:h∈x.aq){f g:be->be}(tj:y.aq=jA x.aq h.key)(se:y.an=x.an)(sg:y.ag=cC (cC x.ag h.fI f) h.to g)(HG:y.tick=x.tick)(HH:y.aA=x.aA)(HI:y.next=x.next)
 (f1:∀c,(f c).id=c.id/\(f c).size=c.size/\(f c).base=c.base/\(f c).br=c.br/\(f c).loc+(f c).aC=c.loc+c.aC+(h.af+h.ay)/\c.loc<=(f c).loc/\c.aC<=(f c).aC/\(f c).cM=c.cM)
 (g1:∀c,(g c).id=c.id/\(g c).size=c.size/\(g c).base=c.base/\(g c).br=c.br/\(g c).loc+(g c).aC=c.loc+c.aC+h.af/\c.loc<=(g c).loc/\c.aC<=(g c).aC/\(g c).cM=c.cM):hD y:=by
 have q:=b.cs h hm
 have bO:=q.ne
 have fi:∀c,(f c).id=c.id:=fun c=>(f1 c).1
 have gi:∀c,(g c).id=c.id:=fun c=>(g1 c).1
 have key:∀ch,ed x.ag ch->ed y.ag ch:=fun ch r=>by grind[tn]
 have my:∀z∈y.aq,z∈x.aq:=fun z hz=>by rw[tj]at hz;exact(List.mem_filter.1 hz).1
 have ot:∀z∈y.an,xu x.ag z:=fun z hz=>b.hs z (se▸hz)
 have ig:∀z∈y.aq,xw x.ag z:=fun z hz=>b.cs z (my z hz)
 have ho:∀ch,fB y ch+eR ch h=fB x ch:=fun ch=>by
  unfold fB;have:=AH (g:=fun z:gz=>z.key) (f:=eR ch) (AE b).2 hm;grind[jA]
 have hi:∀ch,jh y ch+ix ch h=jh x ch:=fun ch=>by
  unfold jh;have:=AH (g:=fun z:gz=>z.key) (f:=ix ch) (AE b).2 hm;grind[jA]
 have ml:(dN y).Sublist (dN x):=by
  unfold dN;rw[tj,se];exact(List.Sublist.refl _).append (List.filter_sublist.map _)
 have hlen:y.aq.length<=20:=by
  rw[tj];have V:(jA x.aq h.key).length<=x.aq.length:=List.length_filter_le _ _;have:=b.li;omega
 refine b.parts (HG▸b.tick) (HH▸b.aA) HI (by rw[sg,sh,sh];exact b.lc) (se▸b.lh) hlen (fun z hz=>(ot z hz).ag key) (fun z hz=>(ig z hz).ag key) (fun k hk=>b.kr k (ml.subset hk)) (b.kn.sublist ml) (by rw[sg];exact vJ gi (vJ fi b.gS)) (fun c hc=>?_) (fun c hc=>?_)
 ·rw[sg]at hc
  obtain⟨d,hd,r|r|r⟩:=xx fi bO hc
  ·have k:=b.ch d hd
   have s:=b.sum d hd
   have o:=ut ot ig d.id
   have e1:=ho d.id
   have e2:=hi d.id
   unfold eR at e1
   unfold ix at e2
   rw[if_pos r.1.symm]at e1
   rw[if_neg x_2]at e2
   unfold fB at e1 s
   unfold jh at e2 s
   obtain⟨w1,w2,w3,w4,w5,w6,w7,w8⟩:=f1 d
   have k2:=k.loc
   have k3:=k.aC
   have k4:=k.size
   have k5:=ut b.hs b.cs d.id
   rw[r.2]
   unfold eY at *
   exact x_102
  ·have k:=b.ch d hd
   have s:=b.sum d hd
   have o:=ut ot ig d.id
   have e1:=ho d.id
   have e2:=hi d.id
   unfold eR at e1
   unfold ix at e2
   rw[if_neg x_2]at e1
   rw[if_pos r.1.symm]at e2
   unfold fB at e1 s
   unfold jh at e2 s
   obtain⟨w1,w2,w3,w4,w5,w6,w7,w8⟩:=g1 d
   have k2:=k.loc
   have k3:=k.aC
   have k4:=k.size
   have k5:=ut b.hs b.cs d.id
   rw[r.2]
   unfold eY at *
   exact x_102
  rw[r.2.2];exact b.ch d hd
 rw[sg]at hc
 obtain⟨d,hd,r|r|r⟩:=xx fi bO hc
 ·have s:=b.sum d hd
  have e1:=ho d.id
  have e2:=hi d.id
  unfold eR at e1
  unfold ix at e2
  grind
 ·have s:=b.sum d hd
  have e1:=ho d.id
  have e2:=hi d.id
  unfold eR at e1
  unfold ix at e2
  grind
 have s:=b.sum d hd
 have e1:=ho d.id
 have e2:=hi d.id
 unfold eR at e1
 unfold ix at e2
 grind
theorem Us{x:aw}{e:aV}(b:hD x):hD (nm x e).b:=by
 unfold nm;split
 ·rename_i h hf;have hm:=List.mem_of_find?_eq_some hf;have q:=b.cs h hm;have q1:=q.af;have q2:=q.ay;unfold eY at q2;unfold mN;split
  ·exact MF b hm rfl rfl rfl rfl rfl rfl (fun c=>x_109) (fun c=>x_108)
  exact MF b hm rfl rfl rfl rfl rfl rfl (fun c=>x_108) (fun c=>x_109)
 omega
theorem Ut{x:aw}{e:aV}(b:hD x)(hf:0<=e.ay)(hk:e.kind=3)(ho:d8 x e=false)(hc:ir x e=0):hD (rH x e).b:=by
 rw[yf hc];unfold ir at hc;obtain⟨h2,g1⟩:=ky x_3 hc;obtain⟨h3,g2⟩:=ky x_3 h2;simp only[decide_eq_false_iff_not]at g1;rcases jt x.ag e.ch with⟨q,_⟩|⟨i,c,q,q2,q3,q4⟩
 ·grind[j9,mp]
 have bC:=dB q2;have HJ:=b.ch c bC;have hl:=HJ.loc;rw[q3]at g1;have gy:¬1125899906842624<x.aA+c.loc-e.ay:=by
  unfold d8 at ho;by_cases hn:x.next=1125899906842624
  ·grind
  grind
 have hw:=b.aA;unfold oG at g2;rw[Bool.or_eq_false_iff]at g2;have u1:∀h∈x.an,h.gh≠e.ch/\h.out≠e.ch:=fun h hh=>by
  simp_all[nH]
 have u2:∀h∈x.aq,h.fI≠e.ch/\h.to≠e.ch:=fun h hh=>by
  simp_all[nI]
 have key:∀ch,ch≠e.ch->ed x.ag ch->ed (ny x.ag e.ch) ch:=fun ch bO ⟨d,hd,r⟩=>⟨d,List.mem_filter.2 ⟨hd,by grind⟩,r⟩;have my:∀d∈ny x.ag e.ch,d∈x.ag:=fun d hd=>(List.mem_filter.1 hd).1;refine b.parts b.tick ?_ rfl ?_ b.lh b.li (fun h hh=>?_) (fun h hh=>?_) b.kr b.kn (b.gS.sublist List.filter_sublist) (fun d hd=>b.ch d (my d hd)) (fun d hd=>b.sum d (my d hd))
 ·show eY (x.aA+((fz x.ag e.ch).loc-e.ay));grind[eY]
 ·have V:(ny x.ag e.ch).length<=x.ag.length:=List.length_filter_le _ _;have:=b.lc;show (ny x.ag e.ch).length<=_;omega
 ·have q:=b.hs h hh;have u:=u1 h hh;exact⟨q.gh,q.out,q.jP,q.ne,key _ u.1 q.ti,key _ u.2 q.to⟩
 have q:=b.cs h hh;have u:=u2 h hh;exact⟨q.af,q.ay,q.ne,key _ u.1 q.ti,key _ u.2 q.to⟩
theorem HK{e:aV}(h:co e=true):(hK e.kind=true->1<=e.key/\e.key<=1000000)/\(hC e.kind=true->1<=e.ch/\e.ch<=99)/\(hA e.kind=true->e.kind≠4->1<=e.af)/\(e.kind=4->e.ay<=1000000):=by
 unfold co at h;simp only[Bool.and_eq_true]at h;obtain⟨⟨⟨⟨⟨⟨⟨V,h2⟩,h3⟩,h4⟩,h5⟩,h6⟩,h7⟩,h8⟩:=h;unfold gj at h2 h3 h6 h7;refine⟨fun q=>?_,fun q=>?_,fun q r=>?_,fun q=>?_⟩
 ·simp_all[cJ]
 ·simp_all[cJ]
 ·simp_all[cJ]
 rw[if_pos (by rw[q];rfl),if_pos q]at h7;grind[cJ]
theorem Uu{x:aw}{e:aV}(h:dG x e=0):hD (bz x e).b:=by
 obtain⟨V,h2,h3⟩:=rS h;have b:=mX V;have mS:(eG x&&co e)=true:=by rw[V,h2];rfl
 have hw:(bz x e).c=0:=by rw[<-yA mS h3];exact h
 obtain⟨_,a0,f0⟩:=ED h2;have am:=uu h2;rw[cY,cY]at am;obtain⟨p1,p2,p3,p4⟩:=HK h2;have hn:=EE h3;by_cases k1:e.kind=1
 ·rw[<-yY k1];grind[Uv]
 by_cases k2:e.kind=2
 ·rw[<-xy k2]at hw ⊢;have hs:=HL hn k2;rw[h3]at hs;by_cases q:gO x e=0
  ·exact Uw b (by simpa using hs.symm) a0 f0 (p2 (by rw[k2];rfl)) q
  grind[sK]
 by_cases k3:e.kind=3
 ·rw[<-yZ k3]at hw ⊢;grind[Ut,tM]
 by_cases k4:e.kind=4
 ·rw[<-vK k4];exact Ux b am.1 ⟨f0,p4 k4⟩
 by_cases k5:e.kind=5
 ·rw[<-xz k5]at hw ⊢;by_cases q:gg x e=0
  ·exact Uy b (AI h2 (.inl k5)) (p1 (by rw[k5];rfl)) (p3 (by rw[k5];rfl) x_2) q
  grind[jm]
 by_cases k6:e.kind=6\/e.kind=7
 ·rw[<-uv k6];exact Ur b
 by_cases k8:e.kind=8
 ·rw[<-y7 k8];grind[HM,Uz]
 by_cases k9:e.kind=9
 ·rw[<-t8 k9]at hw ⊢;by_cases q:fL x e=0
  ·exact UA b (AI h2 (.inr k9)) (p1 (by rw[k9];rfl)) (p3 (by rw[k9];rfl) x_2) q
  grind[od]
 have:=y8 h2;rw[<-ua x_2];exact Us b
theorem Gy{x:aw}{e:aV}(h:dG x e=0):eG (dp x e)=true:=by
 have b:=Uu h;by_cases r:(bz x e).l=[]
 ·grind[ub,MG]
 rw[(rU h r).1];have hn:=EE (rS h).2.2;have h2:=b.next;rw[xA]at h2 ⊢;exact MG (b.UB x_99)

theorem vr{a b c:Acc}(h:cg a b=true)(h2:cg b c=true):cg a c=true:=by
 unfold cg at *;grind
def o6(x:aO):Int:=x.af
theorem MH{x:aO}:∀ {l:List aO},(l.Pairwise fun a b=>cg a.acc b.acc=true)->cL l x.acc.kind x.acc.ch->(fV l x).Pairwise fun a b=>cg a.acc b.acc=true
 |[],_,_=>by grind[fV]
 |y::l,h,hf=>by
  rw[List.pairwise_cons]at h;unfold fV;by_cases q:cg y.acc x.acc=true
  ·rw[if_pos q,List.pairwise_cons];refine⟨fun z hz=>?_,MH h.2 fun z hz=>hf z (by simp[hz])⟩;rcases BG hz with r|rfl;all_goals grind
  rw[if_neg q];have q':=KS (hf y x_19) (by simpa using q);rw[List.pairwise_cons];refine⟨fun z hz=>?_,List.pairwise_cons.2 h⟩;rcases List.mem_cons.1 hz with rfl|r;all_goals grind[vr]
theorem MI{x:aO}:∀(l:List aO),bG o6 (fV l x)=bG o6 l+x.af
 |[]=>by grind[fV,jT,o6]
 |y::l=>by
  unfold fV;split
  ·rw[jT,jT,MI l];omega
  rw[jT];unfold o6;omega
def om(a:Acc):Prop:=(1<=a.kind/\a.kind<=5/\a.ch=0)\/(6<=a.kind/\a.kind<=8/\1<=a.ch/\a.ch<=99)
structure iG(l:List aO)(s:Int)(m:Nat):Prop where
 gS:l.Pairwise fun a b=>cg a.acc b.acc=true
 acc:∀y∈l,om y.acc
 af:∀y∈l,y.af≠0/\-1125899906842624<=y.af/\y.af<=1125899906842624
 sum:bG o6 l=s
 len:l.length<=m
theorem iG.nil:iG [] 0 0:=⟨List.Pairwise.nil,by simp,by simp,rfl,Nat.le_refl _⟩
theorem iG.add{l:List aO}{s n k c:Int}{m:Nat}(h:iG l s m)(hv:om ⟨k,c⟩)(hf:cL l k c)(hn:-1125899906842624<=n/\n<=1125899906842624):iG (bR l k c n) (s+n) (m+1):=by
 by_cases q:n=0
 ·rw[BK q,q,Int.add_zero];exact⟨h.gS,h.acc,h.af,h.sum,Nat.le_succ_of_le h.len⟩
 rw[BL q];refine⟨MH h.gS hf,fun y hy=>?_,fun y hy=>?_,?_,?_⟩
 ·rcases BG hy with r|rfl
  ·exact h.acc y r
  omega
 ·rcases BG hy with r|rfl
  ·exact h.af y r
  grind
 ·rw[MI,h.sum]
 rw[BH];have:=h.len;omega
theorem iG.eq{l:List aO}{s t:Int}{m:Nat}(h:iG l s m)(e:s=t):iG l t m:=e▸h
theorem iG.two{l:List aO}{m:Nat}(h:iG l 0 m)(hl:l≠[]):2<=l.length:=by
 match l,hl with
 |[y],_=>
  have V:=h.sum;rw[jT,EF]at V;have h2:=(h.af y x_19).1;grind[o6]
 |_::_::_,_=>simp
theorem ed.ok{x:aw}(b:hD x){ch:Int}(h:ed x.ag ch):1<=ch/\ch<=99:=by
 obtain⟨c,hc,rfl⟩:=h;exact(b.ch c hc).id
theorem y9{k:Int}(h:1<=k/\k<=5):om ⟨k,0⟩:=.inl ⟨h.1,h.2,rfl⟩
theorem qq{k ch:Int}(h:6<=k/\k<=8)(hc:1<=ch/\ch<=99):om ⟨k,ch⟩:=.inr ⟨h.1,h.2,hc.1,hc.2⟩
theorem nl{l:List aO}{a b c k ch:Int}(h:cL l k ch)(hd:a≠k\/b≠ch):cL (bR l a b c) k ch:=h.add hd
theorem Ab{x:aw}{e:aV}(h:dG x e=0):iG (bz x e).l 0 3:=by
 obtain⟨V,h2,h3⟩:=rS h;have b:=mX V;have mS:(eG x&&co e)=true:=by rw[V,h2];rfl
 have hw:(bz x e).c=0:=by rw[<-yA mS h3];exact h
 have am:=uu h2;rw[cY,cY]at am;obtain⟨a0,f0⟩:=am;obtain⟨p1,p2,p3,p4⟩:=HK h2;have hn:=EE h3;have EG:iG [] 0 3:=⟨List.Pairwise.nil,by simp,by simp,rfl,by simp⟩;have up:∀ {l:List aO} {s:Int},iG l s 2->s=0->iG l 0 3:=fun q r=>by subst r;exact⟨q.gS,q.acc,q.af,q.sum,Nat.le_succ_of_le q.len⟩
 by_cases k1:e.kind=1
 ·rw[<-yY k1];exact up ((iG.nil.add (y9 x_2) (cL.nil _ _) x_2).add (y9 x_2) (nl (cL.nil _ _) (.inl x_3)) x_2) x_2
 by_cases k2:e.kind=2
 ·rw[<-xy k2]at hw ⊢;by_cases q:gO x e=0
  ·rw[tK q];exact up ((iG.nil.add (qq x_2 (p2 (by rw[k2];rfl))) (cL.nil _ _) x_2).add (y9 x_2) (nl (cL.nil _ _) (.inl x_3)) x_2) x_2
  grind[sK]
 by_cases k3:e.kind=3
 ·rw[<-yZ k3]at hw ⊢;by_cases q:ir x e=0
  ·rw[yf q];unfold ir at q;obtain⟨_,g1⟩:=ky x_3 q;simp only[decide_eq_false_iff_not]at g1;have hl:eY (fz x.ag e.ch).loc:=by
    rcases jt x.ag e.ch with⟨_,r⟩|⟨i,c,_,r2,r3,_⟩
    ·rw[r];exact⟨Int.le_refl _,by decide⟩
    rw[r3];exact(b.ch c (dB r2)).loc
   unfold eY at hl;exact(((iG.nil.add (y9 x_2) (cL.nil _ _) x_2).add (y9 x_2) (nl (cL.nil _ _) (.inl x_3)) x_2).add (qq x_2 (p2 (by rw[k3];rfl))) (nl (nl (cL.nil _ _) (.inl x_3)) (.inl x_3)) x_2).eq x_2
  grind[tM]
 by_cases k4:e.kind=4
 ·rw[<-vK k4];grind[ou]
 by_cases k5:e.kind=5
 ·rw[<-xz k5]at hw ⊢;by_cases q:gg x e=0
  ·rw[sR q];have MJ:1<=e.to/\e.to<=99:=by
    have h5:=h2;unfold co at h5;simp only[Bool.and_eq_true]at h5;have:=h5.1.1.1.1.2;unfold gj at this;rw[if_pos (by rw[k5];rfl)]at this;exact cJ.1 this
   exact up ((iG.nil.add (qq x_2 MJ) (cL.nil _ _) x_2).add (qq x_2 MJ) (nl (cL.nil _ _) (.inl x_3)) x_2) x_2
  grind[jm]
 by_cases k6:e.kind=6\/e.kind=7
 ·rw[<-uv k6];unfold mR;split
  ·rename_i y hy;have q:=b.hs y (List.mem_of_find?_eq_some hy);have q1:=q.gh;have q2:=q.out;unfold eY at q1;have ti:=ed.ok b q.ti;have to:=ed.ok b q.to;unfold pN;split
   ·exact(((iG.nil.add (y9 x_2) (cL.nil _ _) x_2).add (qq x_2 ti) (nl (cL.nil _ _) (.inl x_3)) x_2).add (qq x_2 to) (nl (nl (cL.nil _ _) (.inl x_3)) (.inl x_3)) x_2).eq x_2
   exact up ((iG.nil.add (qq x_2 to) (cL.nil _ _) x_2).add (qq x_2 to) (nl (cL.nil _ _) (.inl x_3)) x_2) x_2
  omega
 by_cases k8:e.kind=8
 ·rw[<-y7 k8];exact EG
 by_cases k9:e.kind=9
 ·rw[<-t8 k9]at hw ⊢;by_cases q:fL x e=0
  ·rw[uZ q];have hs:bk (eM e.af e.ay):=lQ _ _;unfold bk at hs;have y':=p2 (by rw[k9];rfl);exact up ((iG.nil.add (qq x_2 y') (cL.nil _ _) x_2).add (qq x_2 y') (nl (cL.nil _ _) (.inl x_3)) x_2) x_2
  grind[od]
 have:=y8 h2;rw[<-ua x_2];unfold nm;split
 ·rename_i y hy;have hm:=List.mem_of_find?_eq_some hy;have q:=b.cs y hm;have q1:=EH V y hm;have ti:=ed.ok b q.ti;have to:=ed.ok b q.to;unfold mN;split
  ·exact(((iG.nil.add (y9 x_2) (cL.nil _ _) x_2).add (qq x_2 to) (nl (cL.nil _ _) (.inl x_3)) x_2).add (qq x_2 ti) (nl (nl (cL.nil _ _) (.inl x_3)) (.inl x_3)) x_2).eq x_2
  exact up ((iG.nil.add (qq x_2 ti) (cL.nil _ _) x_2).add (qq x_2 ti) (nl (cL.nil _ _) (.inl x_3)) x_2) x_2
 omega

def uw(l l':List be):Prop:=∀c∈l,∃d∈l',d.id=c.id/\d.size=c.size
theorem uw.refl(l:List be):uw l l:=fun c hc=>⟨c,hc,rfl,rfl⟩
theorem uw.trans{a b c:List be}(h:uw a b)(h2:uw b c):uw a c:=fun x hx=>by
 obtain⟨y,hy,q1,q2⟩:=h x hx;obtain⟨z,hz,r1,r2⟩:=h2 y hy;grind
theorem uw.aH{l:List be}{a:Int}{f:be->be}(hf:∀c,(f c).id=c.id/\(f c).size=c.size):uw l (cC l a f):=fun c hc=>by
 refine⟨_,List.mem_map_of_mem hc,?_⟩;grind
theorem uw.map{l:List be}{f:be->be}(hf:∀c,(f c).id=c.id/\(f c).size=c.size):uw l (l.map f):=fun c hc=>⟨_,List.mem_map_of_mem hc,hf c⟩
theorem UC{x:aw}{e:aV}(h:dG x e=0)(hp:(dl x e).id≠0):(dl x e).id=x.next/\(dp x e).next=x.next+1/\iG (dl x e).lines 0 3/\2<=(dl x e).lines.length:=by
 by_cases r:(bz x e).l=[]
 ·simp_all[ub]
 rw[(rU h r).1,(rU h r).2];exact⟨rfl,by grind[xA],Ab h,(Ab h).two r⟩

def nd(a:Acc):Bool:=if aI a.kind 6 8=true then aI a.ch 1 99 else aI a.kind 1 5&&(a.ch==0)
def vh(l:List aO)(i:Nat)(x:aO):Bool:=match i with|0=>true|j+1=>match l[j]? with|some y=>cg y.acc x.acc|none=>true
def oX(l:List aO)(i:Nat):Bool:=match l[i]? with|some x=>nd x.acc&&!(x.af==0)&&dL x.af&&vh l i x|none=>true
def qh(x:aO):Int:=x.af
def rW(l:List aO):Bool:=(List.range l.length).all (oX l)&&(bG qh l==0)
theorem ve{a:Acc}:nd a=true↔(1<=a.kind/\a.kind<=5/\a.ch=0)\/(6<=a.kind/\a.kind<=8/\1<=a.ch/\a.ch<=99):=by
 unfold nd;by_cases h:aI a.kind 6 8=true
 ·rw[if_pos h];grind[cJ]
 rw[if_neg h,Bool.and_eq_true,cJ,beq_iff_eq];grind[Kv]
theorem lX{l:List aO}{k:Nat}(h:k<l.length):oX l k=(nd l[k].acc&&!(l[k].af==0)&&dL l[k].af&&vh l k l[k]):=by
 grind[oX]
theorem rX{l:List aO}{k:Nat}(h:k<l.length)(h2:oX l k=false):rW l=false:=by
 grind[rW]
theorem D2{l:List aO}(h:∀j,j<l.length->oX l j=true):rW l=(bG qh l==0):=by
 grind[rW]
theorem nV{l:List aO}{k:Nat}{x:aO}(h0:0<k)(h:k<l.length):vh l k x=cg (l[k-1]' x_2).acc x.acc:=by
 obtain⟨j,rfl⟩:∃j,k=j+1:=⟨k-1,by omega⟩;show (match l[j]? with|some y=>cg y.acc x.acc|none=>true)=_;grind
theorem MK{l:List aO}:∀(k:Nat),k<=l.length->(∀j,j<k->oX l j=true)->-((k:Int)*1125899906842624)<=bG qh (l.take k)/\bG qh (l.take k)<=(k:Int)*1125899906842624
 |0,_,_=>by simp[bG]
 |k+1,hk,h=>by
  have ih:=MK k x_2 (fun j hj=>h j x_2);have hl:=h k x_2;rw[lX (by omega:k<l.length)]at hl;simp only[Bool.and_eq_true]at hl;have hr:=cJ.1 hl.1.2;grind[oJ,qh]
theorem D1{l:List aO}{k:Nat}(hn:l.length<=1000)(hk:k<l.length)(h:∀j,j<k->oX l j=true)(hr:dL l[k].af=true):Fits .i64 (bG qh (l.take k)+l[k].af):=by
 have:=MK k x_2 h;have:=cJ.1 hr;grind[ce,i64]
def iL(n:Int)(l:List aO):Bool:=aI n 1 1125899906842624&&aI (l.length:Int) 2 8&&rW l
theorem UD(a:Acc):GC prog 224 [.agg [int a.kind,int a.ch]] [] (aD (nd a)) []:=by
 refine gi 2 func224 rfl ntmps224 rfl ?_;intro L O w0;refine sL<|ab (zX 2001 Z) Z<|ar Z<|Y<|aS<|sL<|lf 0 oW Z<|aj ac Z<|ab (zC [] [] [] func92 (pp) (trivial) Z Z) Z<|Y<|cE rfl ?_ ?_
 ·intro V;refine sL<|lf 1 rV Z<|aj ac Z<|ab (zC [] [] [] func92 (pp) (trivial) Z Z) Z<|bv Z<|Y<|aR<|rT ?_;refine az trivial ?_;simp_all[nd]
 intro V;refine aK<|gA<|lf 0 oW Z<|aj ac Z<|ab (zC [] [] [] func92 (pp) (trivial) Z Z) Z<|aQ Z ?_;refine AL.bool (t:=12) rfl ?_ ?_
 ·intro h2;refine lf 1 rV Z<|aj ac Z<|ak Z<|bj Z<|bv Z<|Y<|aR ?_;refine az trivial ?_;first|rfl|simp_all[nd,vi]|(simp_all[nd,aI];omega)
 intro h2;refine aa Z<|aa Z<|aa Z<|bL Z<|ar Z<|Y<|aR ?_;refine az trivial ?_;first|rfl|simp_all[nd]|(simp_all[nd,aI];omega)
theorem x_85{p:Prop}(c:p:=by exact ⟨hk,fun j hj=>(Nat.lt_or_ge j k).elim (bB j) (fun q=>by grind)⟩):p:=c
theorem x_103{p:Prop}(c:p:=by exact Eq.trans (b:=int _) rfl (congrArg int (oJ qh l hk).symm)):p:=c
theorem x_121{p:Prop}(c:p:=by exact ⟨k+1,x_85,by omega,⟨x_103,(iq rfl),trivial⟩,trivial,rfl,rfl⟩):p:=c
theorem Ld(l:List aO)(hn:l.length<=1000):GC prog 222 [.p (.ab 167 3 (ah ct l))] [] (aD (rW l)) []:=by
 refine gi 2 func222 rfl ntmps222 rfl ?_;intro L O w0;refine sL<|ar Z<|nA<|ao Z<|Y<|aS<|sL<|bm Z<|ba hZ Z<|ae Z<|Y<|aB ?_;refine aW [0,2,6,7] [] (D:=Nat) (fun k=>[(3,int (bG qh (l.take k))),(8,int (k:Int))]) (fun k=>[]) (fun k=>k<=l.length/\∀j,j<k->oX l j=true) (fun k=>l.length-k) (0) (⟨Nat.zero_le _,fun j h=>absurd h x_2⟩) ⟨rfl,rfl,trivial⟩ trivial ?_;intro k hI;obtain⟨eN,bB⟩:=hI;refine sL<|ak Z<|Y<|aS<|cE rfl ?_ ?_
 ·intro V;refine aK<|gT<|aS<|aB<|sL<|ae Z ?_;have hk:k<l.length:=by simpa[ap]using V
  refine li k cV Z (bS hk)<|d6 oo iV Z<|ab (zA 2005 eP Z) Z<|ao Z<|ab (zB 2005 vf vg Z) Z<|Y<|aS<|aS<|aF []<|vq 0 (rf 0 jf Z)<|vq 1 (dw pP i0 Z)<|bn 2 Z (zC [] [] [] func224 (UD l[k].acc) (trivial) Z Z) (.inr Z)<|fT [0,2,3,4,5,6,7,8,15] [2005] ?_;refine vq 3 (gQ Z)<|vq 4 (dx Z) ?_;refine AF.bool (t:=17) rfl ?_ ?_
  ·intro h2;refine al 5 Z<|al 6 Z<|al 7 Z<|vq 8 (bA Z)<|vq 9 (cF Z)<|al 10 Z<|al 11 Z<|al 12 Z<|al 13 Z<|vq 14 (bA Z)<|vq 15 (cF Z)<|al 16 Z<|al 17 Z<|al 18 Z<|bi 19 Z<|bi 20 Z<|bi 21 Z<|bi 22 Z<|bi 23 Z<|bi 24 Z<|al 25 Z<|al 26 Z<|al 27 Z<|al 28 Z<|al 29 Z<|vq 30 (bA Z)<|fD<|gT<|aY Z<|aS ?_;refine aL<|ar Z<|Y<|aR<|rT<|rB<|rT<|rT<|rB<|rT ?_;refine az trivial ?_;first|(exfalso;simp only[decide_eq_true_eq]at *;omega)|grind[rX,lX]
  intro h2;refine vq 5 (rf 2 ni Z)<|vq 6 (aZ ac Z)<|vq 7 (dt Z)<|vq 8 (cv Z)<|vq 9 (dx Z) ?_;refine AF.bool (t:=22) rfl ?_ ?_
  ·intro h3;refine al 10 Z<|al 11 Z<|al 12 Z<|al 13 Z<|vq 14 (bA Z)<|vq 15 (cF Z)<|al 16 Z<|al 17 Z<|al 18 Z<|bi 19 Z<|bi 20 Z<|bi 21 Z<|bi 22 Z<|bi 23 Z<|bi 24 Z<|al 25 Z<|al 26 Z<|al 27 Z<|al 28 Z<|al 29 Z<|vq 30 (bA Z)<|fD<|gT<|aY Z<|sL<|ar Z<|Y<|aR ?_;refine rT<|rB<|rT<|rT<|rB<|rT ?_;refine az trivial ?_;first|(exfalso;simp only[decide_eq_true_eq]at *;omega)|grind[rX,lX]
  intro h3;refine vq 10 (rf 2 ni Z)<|vq 11 (aZ ac Z)<|bn 12 Z (zC [] [] [] func92 (pp) (trivial) Z Z) (.inr Z)<|fT [0,2,3,4,5,6,7,8,22,25] [2005] ?_;refine vq 13 (gQ Z)<|vq 14 (cv Z)<|vq 15 (dx Z) ?_;refine AF.bool (t:=28) rfl ?_ ?_
  ·intro h4;refine al 16 Z<|al 17 Z<|al 18 Z<|bi 19 Z<|bi 20 Z<|bi 21 Z<|bi 22 Z<|bi 23 Z<|bi 24 Z<|al 25 Z<|al 26 Z<|al 27 Z<|al 28 Z<|al 29 Z<|vq 30 (bA Z)<|fD<|gT<|aY Z<|sL<|ar Z<|Y<|aR<|rT<|rB<|rT<|rT<|rB<|rT ?_;refine az trivial ?_;first|(exfalso;simp only[decide_eq_true_eq]at *;omega)|grind[rX,lX,dL]
  intro h4;refine vq 16 (dW Z)<|vq 17 (dt Z)<|vq 18 (dx Z) ?_;refine AF.bool (t:=31) rfl ?_ ?_
  ·intro h5;refine pq 19 (iz Z)<|pq 20 (gL c6 Z) ?_;have hp:0<k:=by simpa using h5
   refine sq 21 (qV rfl x_82)<|sq 22 (rd (x:=.rp _) (yt (i:=k-1) rfl cV rfl rfl ?hn1 (bS (by omega:k-1<l.length))) rfl) ?_;case hn1=>omega
   refine pq 23 (qd (x:=.rp _) (EI jf rfl) rfl)<|sq 24 (gm pP i0 rfl)<|vq 25 (rf 0 jf rfl)<|vq 26 (dw pP i0 rfl)<|bn 27 rfl (zC [] [] [] func223 (HN (l[k-1]' x_2).acc l[k].acc) (trivial) rfl rfl) (.inr rfl)<|fT [0,2,3,5,6,7,8,28,31,40] [2005] ?_;refine vq 28 (gQ Z)<|vq 29 (cv Z)<|vq 30 (cv Z)<|fD<|gT<|cE rfl ?_ ?_
   ·intro h6;refine sL<|ar Z<|Y<|aR<|rT<|rB<|rT<|rT<|rB<|rT ?_;refine az trivial ?_;first|(exfalso;simp only[decide_eq_true_eq]at *;omega)|grind[rX,lX,nV]
   intro h6;refine aK<|gT<|aL<|ae Z<|lf 2 ni Z<|aj ac Z ?_;have yD:vh l k l[k]=true:=by
    rcases Nat.eq_zero_or_pos k with q|q
    ·omega
    grind[nV]
   have kd:oX l k=true:=by rw[lX hk,yD];simp_all[dL]
   have yE:dL l[k].af=true:=by rw[lX hk]at kd;simp only[Bool.and_eq_true]at kd;exact kd.1.2
   refine eo rfl ⟨rfl,D1 x_2 hk bB yE⟩<|ao Z<|lN<|gB<|gT<|aL<|bg Z<|ae Z<|Y ?_;refine x_121
  intro h5;refine bi 19 Z<|bi 20 Z<|bi 21 Z<|bi 22 Z<|bi 23 Z<|bi 24 Z<|al 25 Z<|al 26 Z<|al 27 Z<|al 28 Z<|vq 29 (kK Z)<|vq 30 (kK Z)<|fD<|gT<|aN Z<|aK<|gT<|aL<|ae Z<|lf 2 ni Z<|aj ac Z ?_;have yD:vh l k l[k]=true:=by
   rcases Nat.eq_zero_or_pos k with q|q
   ·subst q;rfl
   grind
  have kd:oX l k=true:=by rw[lX hk,yD];simp_all[dL]
  have yE:dL l[k].af=true:=by rw[lX hk]at kd;simp only[Bool.and_eq_true]at kd;exact kd.1.2
  refine eo rfl ⟨rfl,D1 x_2 hk bB yE⟩<|ao Z<|lN<|gB<|gT<|aL<|bg Z<|ae Z<|Y ?_;refine x_121
 intro V;refine aE<|eT<|eT<|eB<|gA<|ae Z<|ak Z<|bv Z<|Y<|aR ?_;refine az trivial ?_;have yF:¬k<l.length:=by simpa[ap]using V
 obtain rfl:k=l.length:=by omega
 simp_all[D2,vi]
theorem SM(n:Int)(l:List aO)(hn:l.length<=1000):GC prog 122 [.agg [int n,.p (.ab 167 3 (ah ct l))]] [] (aD (iL n l)) []:=by
 refine gi 2 func122 rfl ntmps122 rfl ?_;intro L O w0;refine sL<|ab (zX 2001 Z) Z<|ar Z<|nA<|lf 0 wN Z<|aj ac Z<|ab (zC [] [] [] func92 (pp) (trivial) Z Z) Z<|aQ Z ?_;refine AL.bool (t:=6) rfl ?_ ?_
 ·intro V;refine lf 1 t7 Z<|bo gY Z<|ba hZ Z<|ab (zC [] [] [] func92 (pp) (trivial) Z Z) Z<|bj Z<|aQ Z ?_;refine AL.bool (t:=12) rfl ?_ ?_
  ·intro h2;refine lf 1 t7 Z<|bo gY Z<|ab (zC [] [] [] func222 (Ld l hn) (trivial) Z Z) Z<|lT [2,12,15] [2001] ?_;refine bj Z<|bv Z<|Y<|aR ?_;refine az trivial ?_;simp_all[iL,ap]
  intro h2;refine aa Z<|aa Z<|aa Z<|bL Z<|ar Z<|Y<|aR ?_;refine az trivial ?_;simp_all[iL,ap]
 intro V;refine aa Z<|aa Z<|aa Z<|aa Z<|bL Z<|dm Z<|aa Z<|aa Z<|aa Z<|bL Z<|ar Z<|Y<|aR ?_;refine az trivial ?_;grind[iL]
end Go.Proofs.YtflhgkmhmcfimaaGreat

