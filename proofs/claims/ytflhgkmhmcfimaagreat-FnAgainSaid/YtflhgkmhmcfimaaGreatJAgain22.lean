/- FnAgain is proved: the given statement holds with no condition. Texts joined: EY6, E38, EX1, EX3, EY7, LFnAgain, CFnAgain. -/
import Derived.Test.YtflhgkmhmcfimaaGreatJAgain21
import Derived.Test.YtflhgkmhmcfimaaGreatJAgain4
import Derived.Test.YtflhgkmhmcfimaaGreatJAgain20
import Derived.Test.YtflhgkmhmcfimaaGreatRows
import Derived.Test.YtflhgkmhmcfimaaGreatQOpn
namespace Go.Proofs.YtflhgkmhmcfimaaGreat
open Go.RowKit
set_option maxHeartbeats 16000000
set_option maxRecDepth 100000
set_option linter.unusedSimpArgs false
set_option linter.unusedVariables false
def amR(I:Nat->mm->Prop):AV->List (Nat×AO)->Prop:=fun x ob=>∃k h vA,k<=19/\I k h/\x=.au [Bu h,inV vA]/\ob=[]
abbrev amv:aV:=⟨8,0,0,0,0,0,false⟩
abbrev al8:List Int:=[0,1,8,60,121,122,125,127,128,128]
abbrev am5:List (Nat×Nat×AV):=[(0,1,int 0),(1,1,int 1),(2,1,int 8),(3,1,int 60),(4,1,int 121),(5,1,int 122),(6,1,int 125),(7,1,int 127),(8,1,int 128),(9,1,int 128)]
theorem am6:∀r∈ah kt al8,r.length=1:=fun r hr=>by
 unfold ah at hr;obtain⟨x,_,rfl⟩:=List.mem_map.1 hr;rfl
theorem amS{I:Nat->mm->Prop}(W:aix I)(code:List Int)(hm:code.length<=1048576):GX Tryz.prog 32 [.p (.ab 5 1 (ah ahN code))] [] (amR I):=by
 refine GX.intro (rs:=[.cell 2 56 (some 14),.tmp 3]) Tryz.func32 rfl Tryz.ntmps32 x_8 ⟨rfl,rfl,EZ,rfl,trivial⟩ ?_;intro L O w0;refine sL<|ab (zA 2002 Ig Z) Z<|e9 Z<|nA<|bm Z ?_;refine alX [(31,0)] [0] [] Tryz.func96 (akD code hm) (trivial) (fun _ _ _=>trivial) Z ?_;intro xz1 oz1 fa;obtain⟨q1,rfl,rfl⟩:=fa;refine lT [2,3,12] [0,2002] ?_;refine lC Z<|Y<|aS ?_;refine AW.tZ 0 rfl ?_;intro g;have hc:ahk code 0:=⟨Nat.zero_le _,hm⟩;refine aL<|aM Z ?_;refine alX [(0,0),(1,1),(2,2)] [1,2] [0] Tryz.func97 (akk W g code _ _ 14 hc x_3) x_15 (aiU) Z ?_;intro xz2 oz2 hz2;obtain⟨i2,q2,_,Cj,⟨akX,ahQ,hkD,hID,rfl,rfl⟩,rfl⟩:=hz2;refine ab (zA 2005 Ig Z) Z<|lT [2,3,4,5,14] [0,1,2,2002,2005] ?_;refine ab (zB 2005 NA NB Z) Z<|Y<|aS<|aS ?_;refine AW.freeze 1 rfl ?_;refine AW.freeze 2 rfl ?_;refine aL<|aM Z ?_;refine alX [(0,0)] [] [0] Tryz.func98 (ahp g code _ _ _ Cj) x_15 (ahn) Z ?_;intro xz3 oz3 hz3;obtain⟨i3,q3,hc3,⟨ahG,⟨na3,nb3⟩,rfl⟩,rfl⟩:=hz3;refine ao Z<|Y<|aB ?_;refine aW [2,3,4,5] [2002] (D:=Nat×Int×Int×mm) (fun d=>[(6,int d.2.2.1)]) (fun d=>[(0,ahm g code d.1 d.2.1),(2005,.box 56 none [.p (.ab 195 1 (oS d.2.2.2.log.bT.cells)),.p (.ab 192 2 (oT d.2.2.2.log.bT.bu)),int d.2.2.2.log.next,int d.2.2.2.log.dP,int d.2.2.2.book.tick,int d.2.2.2.book.next,int d.2.2.2.book.aA,.p (.ab 159 7 (ah aX d.2.2.2.book.ag)),.p (.ab 218 7 (ah go d.2.2.2.book.an)),.p (.ab 220 5 (ah iX d.2.2.2.book.aq)),int d.2.2.2.ia.last,.p (.ab 167 3 (ah ct d.2.2.2.ia.lines)),.p (.ab 81 7 (ah fR d.2.2.2.wait)),.p (.ab 81 7 (ah fR d.2.2.2.f9))])]) (fun d=>ahk code d.1/\(0<=d.2.2.1/\d.2.2.1<=5)/\I akX d.2.2.2) (fun d=>d.2.2.1.toNat) ((_,_,ahG,ahQ)) (⟨hc3,by show 0<=ahG/\ahG<=5;omega,hID⟩) ⟨rfl,trivial⟩ ⟨rfl,rfl,trivial⟩ ?_;intro ⟨iJ,qJ,nJ,hJ⟩ hI;dsimp only;obtain⟨hcJ,hnJ,hgJ⟩:=hI;replace hcJ:ahk code iJ:=hcJ;replace hnJ:0<=nJ/\nJ<=5:=hnJ;replace hgJ:I akX hJ:=hgJ;have hdJ:=W.wf hgJ;refine aS<|sL<|ae Z<|ak Z<|Y<|cE rfl ?_ ?_
 ·intro V;refine aK<|gT<|aS<|aB<|aS ?_;have hp:0<nJ:=by have h:=V;simpa using h
  refine aL<|aP js EZ Z<|lq (rd (x:=.agg [c6,c6,c6,c6,c6,c6,vB false]) (cP Z xF Z Z Z) Z)<|lT [2,3,4,5,6,22,23] [0,2002,2005] ?_;refine ab (zC [] [] [] Tryz.func40 (akd hJ amv hdJ) (trivial) Z Z) Z<|cT (.au [js,c6]) Z<|iB js Z<|dE Z<|ab (zA 2007 Ig Z) Z<|lT [2,3,4,5,6,7,25,26] [0,2002,2005,2007] ?_;refine ab (zB 2007 NA NB Z) Z<|ao Z<|nA<|ae Z<|ak Z<|Y<|cE rfl ?_ ?_
  ·intro h2;refine aL<|aP js EZ Z<|ab (zB 2005 NA NB Z) Z<|lT [2,3,4,5,6] [0,2002,2005,2007] ?_;refine lN<|gB<|gT<|aL<|ae Z<|bg Z<|ao Z<|Y ?_;refine⟨(_,_,nJ-1,aht hJ amv),⟨by assumption,by show 0<=nJ-1/\nJ-1<=5;omega,W.take hgJ (by unfold l7 i64;decide) x_67⟩,by show (nJ-1).toNat<nJ.toNat;omega,⟨rfl,trivial⟩,⟨rfl,rfl,trivial⟩,rfl,rfl⟩
  intro h2;refine aK<|gB<|gT<|aL<|ae Z<|bg Z<|ao Z<|Y ?_;refine⟨(_,_,nJ-1,hJ),⟨by assumption,by show 0<=nJ-1/\nJ-1<=5;omega,hgJ⟩,by show (nJ-1).toNat<nJ.toNat;omega,⟨rfl,trivial⟩,⟨rfl,rfl,trivial⟩,rfl,rfl⟩
 intro V;refine aE<|eT<|eT<|eB<|gA<|ab (zS 2030 (ah kt []) iU lY rfl x_106) Z<|lT [2,3,4,5,30] [0,2002,2005,2030] ?_;refine bD Z<|Y<|aS<|sL<|aM Z ?_;refine alX [(0,0)] [] [0] Tryz.func98 (ahp g code _ _ _ hcJ) x_15 (ahn) Z ?_;intro xz4 oz4 hz4;obtain⟨i4,q4,hc4,⟨ahZ,⟨na4,nb4⟩,rfl⟩,rfl⟩:=hz4;refine ao Z<|Y<|aB ?_;refine aW [2,3,4,5] [2002,2005] (D:=Nat×Int×Int×List Int) (fun z=>[(10,int z.2.2.1),(9,.own 2030)]) (fun z=>[(0,ahm g code z.1 z.2.1),(2030,kAr z.2.2.2)]) (fun z=>ahk code z.1/\(0<=z.2.2.1/\z.2.2.1<=8)/\(z.2.2.2.length:Int)+z.2.2.1<=8) (fun z=>z.2.2.1.toNat) ((_,_,ahZ,[])) (⟨hc4,by show 0<=ahZ/\ahZ<=8;omega,by show ((0:Nat):Int)+ahZ<=8;omega⟩) ⟨rfl,rfl,trivial⟩ ⟨rfl,rfl,trivial⟩ ?_;intro ⟨iZ,qZ,nZ,kp⟩ hI;dsimp only;obtain⟨hcZ,hnZ,m'⟩:=hI;replace hcZ:ahk code iZ:=hcZ;replace hnZ:0<=nZ/\nZ<=8:=hnZ;replace m':(kp.length:Int)+nZ<=8:=m';refine aS<|sL<|ae Z<|ak Z<|Y<|cE rfl ?_ ?_
 ·intro h3;refine aK<|gT<|aS<|aB ?_;have hp:0<nZ:=by have h:=h3;simpa using h
  refine aL<|bW Z<|ab (zS 2038 (bp:=am5) (ah kt al8) iU lY Z (am6)) Z<|lT [2,3,4,5,9,10,37,38] [0,2002,2005,2030,2038] ?_;refine aM rfl ?_;refine alX [(0,0)] [] [0] Tryz.func98 (ahp g code _ _ _ hcZ) x_15 (ahn) Z ?_;intro xz5 oz5 hz5;obtain⟨i5,q5,hc5,⟨ahU,⟨na5,nb5⟩,rfl⟩,rfl⟩:=hz5;obtain⟨m,hm⟩:=Int.eq_ofNat_of_zero_le na5;have amw:m<al8.length:=by show m<10;omega
  refine lq (rd (x:=.ptr 2038 _ 0) (pu (i:=m) rfl iU rfl rfl rfl ?hn1 (by rw[ap];exact amw)) rfl) ?_;case hn1=>exact hm
  refine lq (rd (x:=c6) (dT Z ac Z Z Z (bS amw) Z) Z)<|ab (zS 2043 (ah kt [al8[m]]) iU lY Z) Z<|lT [2,3,4,5,9,10,37,43] [0,2002,2005,2030,2038,2043] ?_;refine ab (zP 2030 iU lY uy rfl x_18 (by simp[ah];omega)) Z<|bD Z<|lN<|gB<|gT<|aL<|ae Z<|bg Z<|ao Z<|Y ?_;refine⟨(_,_,nZ-1,kp++[al8[m]]),⟨by assumption,by show 0<=nZ-1/\nZ-1<=8;omega,by show ((kp++[_]).length:Int)+(nZ-1)<=8;rw[List.length_append,List.length_singleton];omega⟩,by show (nZ-1).toNat<nZ.toNat;omega,⟨rfl,rfl,trivial⟩,⟨rfl,(Eq.trans (b:=AO.ai 3 1 (ah kt kp++ah kt [al8[m]])) rfl (congrArg (AO.ai 3 1) (rR _ _ _).symm)),trivial⟩,rfl,rfl⟩
 intro h3;refine aE<|eT<|eT<|eB<|gT<|aS ?_;refine AW.freeze 2030 rfl ?_;refine aL<|aP js EZ Z<|bm Z<|ab (zB 2002 NA NB Z) Z<|lT [2,3,46] [0,2002,2005] ?_;refine nv Z<|Y<|aR ?_;refine fN ((.au [Bu hJ,inV kp])) [] ?_ rfl trivial;exact⟨akX,hJ,kp,hkD,hgJ,rfl,rfl⟩

section
variable {P:Program}{o:Oper}{N:Nat}{τ:Nat->AV}{H:Nat->AO}
theorem ag1{w:World}{e:TypeId}{n g m cap agI agO:Nat}{agJ:Addr}{v:Value}{xs vs:List Value}{agC agF:TypeId}{x y:Operand}{a:Act}(ho:o.op=.call { callee:=.builtin .copy,args:=#[x,y],argTypes:=#[agC,agF] })(jE:w.ownsRow 0 e 1 v n xs)(hv:v=.slice (some ⟨g,0,none⟩) m cap)(hx:a.eval x=v)(hy:a.eval y=.slice (some agJ) agI agO)
 (V:∀u∈vs,u.oneCell'=true) (hu:P.underlying agC=some (.slice e)) (hs:(P.info? e).map (·.size)=some 1) (hn:vs.length=Nat.min agI m) (yV:∀j u,vs[j]? = some u->w.cell? (agJ.add j)=some u) (vz:vs.length<=xs.length) :
 ∃w',(execOp a.eval o).run P w=.ok (.value (goInt vs.length)) w'/\w.grownBy w' (some g)/\(∀b o',(some g=some b\/w.heap.size<=b)->b<w'.heap.size->w'.frozen? ⟨b,o',none⟩=false)/\w'.ownsRow 0 e 1 v n (vs++xs.drop vs.length):=by
 subst hv
 rcases jE.2 with⟨q,_⟩|⟨g',uh,cur,q,_,hg,hnc,bC,pI,qO⟩
 ·cases q
 injection q with q1 q2 q3
 injection q1 with q1
 injection q1 with q1
 subst q1 q2 q3
 have uc:xs.length<=cur.size:=by rw[jE.1,pI];exact Nat.mul_le_mul_right _ hnc
 have dM:=run_copy_row (P:=P) w agC agF o.type e g 0 m cap agJ agI agO cur e vs hu hs hg hn yV x_2 V
 have Ei:g<w.heap.size:=(Array.getElem?_eq_some_iff.1 hg).1
 refine⟨w.setRow g (cur.toList.take 0++vs++cur.toList.drop (0+vs.length)).toArray,?_,⟨rfl,rfl,rfl,by simp,fun b hb bO=>setRow_other w g b _ (fun e=>bO (by rw[e]))⟩,fun b o' hb eI=>?_,?_⟩
 ·simp[execOp,ho,resolve,invoke,builtin,hx,hy,dM]
 ·have te:b=g:=by
   rcases hb with hb|hb
   ·injection hb with hb;exact hb.symm
   rw[setRow_size]at eI;omega
  subst te
  simp[World.frozen?,setRow_heap w b cur _ e _ hg]
 have T9:xs=cur.toList.take (m*1):=qO.symm
 have hms:xs.length=m*1:=jE.1
 refine⟨?_,.inr ⟨g,cap,_,rfl,Nat.zero_le _,setRow_heap w g cur _ e _ hg,hnc,bC,?_,?_⟩⟩
 ·simp only[List.length_append,List.length_drop];omega
 ·rw[<-pI];simp only[List.size_toArray,List.length_append,List.length_take,List.length_drop,Array.length_toList];omega
 rw[T9]
 apply List.ext_getElem?
 intro j
 simp only[List.getElem?_take,List.getElem?_append,List.length_append,List.length_take,List.getElem?_drop,Array.length_toList,List.take_zero,List.nil_append,Nat.zero_add]
 have:(m*1)<=cur.size:=by omega
 split<;>split<;>(try split)<;>(try split)<;>(try split)<;>first|rfl|omega|(congr 1;omega)|skip
 all_goals (try (split<;>first|rfl|omega|(congr 1;omega)))
theorem ag2(id:Nat){agC agF:TypeId}{e:ga}{x y:Operand}{rows o5:List (List PV)}(ho:o.op=.call { callee:=.builtin .copy,args:=#[x,y],argTypes:=#[agC,agF] })(hd:∀s,o.dst=some s->s<N)(hu:P.underlying agC=some (.slice e.ty))(hs:(P.info? e.ty).map (·.size)=some 1)(hx:ev τ x=.own id)(hH:H id=.ai e 1 rows)(yV:Src τ H y 1 o5)(h0:0<o5.length)(hle:o5.length<=rows.length) :
 St P o N τ H [id] (mb τ o.dst (int o5.length)) (aH H id (.ai e 1 (o5++rows.drop o5.length))):=
 Mm (P:=P) (o:=o) (N:=N) (τ:=τ) (H:=H) id (int o5.length) (.ai e 1 (o5++rows.drop o5.length)) [id] hd (fun{L O w0 ρ fp a w} hr=>by
  have hv:=hr.ev x;rw[hx,RV]at hv;have hvx:=hv.2 x_122;have bY:=hr.ob id;rw[hH]at bY;obtain⟨xs,fr,b1,b2,b3,b4,b5⟩:=bY;obtain⟨a2,ahi,news,nl,s1,s2,s3,s4⟩:=yV.run hr;have tN:=s3.length;rw[Nat.mul_one]at tN;have uc:=b1.length;rw[Nat.mul_one]at uc;rcases s2 with s2|⟨b,off,rfl,s2⟩
  ·omega
  rcases b3.2 with⟨q,q2⟩|⟨g,cap,cur,q,q3⟩
  ·omega
  have hm:=q;obtain⟨w',r1,r2,r3,r4⟩:=ag1 (P:=P) (vs:=news) ho b3 q hvx s1 (s3.uo) hu hs (by rw[tN];exact(Nat.min_eq_left hle).symm) (fun j u hj=>by rw[show (⟨b,off,none⟩:Addr).add j=⟨b,off+j,none⟩ by unfold Addr.add;split<;>simp_all];exact s2 j u hj) x_2;rw[tN]at r1 r4;refine⟨w',some g,goInt o5.length,_,r1,.inl rfl,r2,fun b hb=>⟨by simp,by rw[hH];rfl,by rw[q,<-hb];rfl⟩,r3,⟨by rw[hH];rfl,by rw[hH];simp[AO.len];omega,by rw[hH];rfl⟩,fun E=>⟨?_,fX rfl⟩⟩;obtain⟨g2,t3,t4⟩:=b1.drop o5.length;rw[Nat.mul_one]at t3;have nW:=s3.append t3;have agP:∀b∈nl++g2,¬live L ρ H b:=fun b hb=>by
   rcases List.mem_append.1 hb with q|q
   ·exact s4 b q
   exact b2 b (t4 q)
  refine⟨_,_,bI.same _ nW (fun b hb eI=>(E.block b eI (agP b hb)).1),fun b hb=>(E.block b (bI.lt _ nW b hb) (agP b hb)).2,?_,rfl,b5⟩;rw[show (o5++rows.drop o5.length).length=rows.length by simp;omega];exact r4)
end

theorem ag3(n lo hi:Int):GC Tryz.prog 156 [int n,int lo,int hi] [] (int (u0 n lo hi)) []:=by
 refine gi 6 Tryz.func156 rfl Tryz.ntmps156 rfl ?_;intro L O w0;refine sL<|ao Z<|Y<|aS<|aB<|sL<|ae Z<|ae Z<|ak Z<|bv Z<|Y<|cE rfl ?_ ?_
 ·intro V;refine sL<|ae Z<|ao Z<|Y<|aR<|rB<|rT ?_;refine ax ?_ trivial;refine congrArg (fun n=>some (int n)) ?_;unfold u0;simp_all<;>(intros;omega)
 intro V;refine sL<|ae Z<|ae Z<|ak Z<|bv Z<|Y<|cE rfl ?_ ?_
 ·intro h2;refine sL<|ae Z<|ao Z<|Y<|aR<|rB<|rT ?_;refine ax ?_ trivial;refine congrArg (fun n=>some (int n)) ?_;unfold u0;simp_all<;>(intros;omega)
 intro h2;refine aK<|gB<|gA<|ae Z<|ao Z<|Y<|aR ?_;refine ax ?_ trivial;refine congrArg (fun n=>some (int n)) ?_;unfold u0;simp_all<;>(intros;omega)
theorem ag4{H:Nat->AO}{m:Nat}{u:Value}{t:TypeId}{sz:Nat}{rows:List (List PV)}(hH:H m=.ai ⟨t,some u⟩ sz rows):Reads H (.p (.v u)) (.p (.ab t sz rows)):=fun{L ρ w c} bY hx=>by
 have hc:=hx.gd;obtain⟨f,ho⟩:=bY m;rw[hH]at ho;obtain⟨ahj,cc,e⟩:=aao ho;obtain⟨xs,fr,b1,b2,b3,b4,b5⟩:=ho;have hu:=b5 u rfl;exact acp hH bY (by rw[RV];exact⟨by rw[hc,<-hu,e];rfl,fun _=>by rw[hc,hu]⟩)
theorem ag5{F:List AO}{j:Nat}{u:Value}{b:List Int}(hF:dS F)(hj:F[j]? = some (qX u b))(hl:b.length<=2000000)(hM:F.length<=9000000) :
 GN Tryz.prog 157 [.agg [.p (.v u)]] [] F fun y l F1=>y=.own 1/\l=[(1,iT (yP b))]/\F1=F:=
 (aeg ((Zx b hl).toN rfl) (.cons (Reads.agg (.cons (ag4 (m:=1000000+j) (by rw[uJ,hj];rfl)) .nil)) .nil) hF rfl (fun x l1 F1 ⟨e1,e2,e3⟩=>by
   subst e1 e2 e3;refine⟨rfl,fun id hid=>?_,fun p hp=>?_,(fun o ho=>by cases ho),by simpa using(by omega:F.length<=10000000)⟩
   ·simp[s7]at hid;subst hid;rfl
   ·rw[List.mem_singleton.1 hp];exact yg)).mono fun y ob ⟨l1,F1,q1,q2,q3,q4,l2,ac7,⟨e1,e2,e3⟩,e4,e5⟩=>by
   subst e1 e2 e3 e4 e5;exact⟨_,_,q1,q2,q3,q4,rfl,by simp,by simp⟩
theorem szA{P:Program}{t:TypeId}{n:Nat}(h:(P.info? t).isSome=true)(h2:P.cellsOf t=n):(P.info? t).map (·.size)=some n:=by
 unfold Program.cellsOf at h2;cases q:P.info? t with
 |none=>rw[q]at h;cases h
 |some i=>rw[q]at h2;exact congrArg some h2
theorem ag6{vs:List Value}{cs:List Cell}{i:Nat}(h:vs.length=cs.length)(hi:i<cs.length):(fY vs (l9 cs))[i]? = some (qX (vs[i]' x_2) cs[i].bytes):=by
 unfold fY l9;rw[List.getElem?_zipWith,List.getElem?_map,List.getElem?_eq_getElem hi,List.getElem?_eq_getElem x_2];rfl
theorem ag7{old new:List Int}{m:Nat}(h2:new.length=128)(hm:m<=128):((ah dF new).take m).drop 0++(ah dF (yP old)).drop (((ah dF new).take m).drop 0).length=ah dF (abL old new m):=by
 have e:(((ah dF new).take m).drop 0).length=m:=by rw[List.drop_zero,List.length_take,ap];omega
 rw[e,List.drop_zero];unfold abL ah;rw[List.map_append,List.map_take,List.map_drop]
theorem ag8{vA:List Int}{k:Nat}{cs:List Cell}{w:gq}(h:acv vA k≠0)(hc:w.at_.toNat<cs.length):ab8 vA cs k w=cs.set w.at_.toNat ⟨abL (cs[w.at_.toNat]).bytes w.bytes (acv vA k)⟩:=by
 unfold ab8;rw[if_neg h,List.getElem?_eq_getElem hc];rfl
theorem ag9{vA:List Int}{k:Nat}(h:k<vA.length):u0 vA[k] 0 128=(acv vA k:Int):=by
 unfold acv u0;rw[List.getElem?_eq_getElem h];show _=(((min (max vA[k] 0) 128).toNat:Nat):Int);split<;>(try split)<;>omega
theorem ag'{vA:List Int}{k:Nat}(h:¬k<vA.length):(0:Int)=(acv vA k:Int):=by
 unfold acv;rw[List.getElem?_eq_none x_2];rfl
theorem agK(vA:List Int)(k:Nat):acv vA k<=128:=by unfold acv;omega
theorem agQ{vs:List Value}{cs:List Cell}{i:Nat}{u:Value}{b:List Int}(h:vs.length=cs.length):(fY vs (l9 cs)).set i (qX u b)=fY (vs.set i u) (l9 (cs.set i ⟨b⟩)):=by
 unfold l9;rw[List.map_set];exact(aeC (by simpa using h)).symm
theorem aha(d:du)(vA:List Int)(hd:ik d=true):GN Tryz.prog 72 [mt d,inV vA] [] ([]) (La (acU d vA)):=by
 refine GN.intro (rs:=[.cell 4 43 (some 2)]) Tryz.func72 rfl Tryz.ntmps72 x_8 x_80 rfl ?_;intro L O w0;refine sL<|ab (zX 2002 Z) Z<|ab (zA 2004 Du Z) Z<|Y<|aS<|aS ?_;have gR:=(wL hd).1;refine aL<|aP nq mE Z<|ab (zC [] [] [] Tryz.func91 (J' d) (trivial) Z Z) Z<|bJ 11 true Z (hd)<|ma Z<|Y<|aN Z<|aK<|gA<|aP nq mE Z ?_;refine A1 (A2 (F:=[]) [(1,1),(2,2)] [1,2] [] ([]).length Tryz.func155 (aev d (acF hd)) ki List.drop_length List.take_length (Nat.le_refl _) (by first|(simp;done)|(simp[Aa, *];omega)) (fun _ _ _ _=>trivial) rfl rfl) rfl ?_;rintro _ _ ⟨xz1,oz1,Fz1,fa,hF1,hM1,rfl,rfl⟩;obtain⟨vs,gl,rfl,rfl,rfl⟩:=fa;have E7:dS ([]++fY vs (l9 d.cells)):=dS.gJ x_32 hF1;refine ab (zA 2005 Du Z) Z<|ab (zB 2005 Dv Dw Z) Z<|Y<|aS<|aS ?_;rw[List.nil_append];have abs:dS (fY vs (l9 d.cells)):=Ap;refine aL<|lf 1 ru Z<|iO sk Z<|ba vT Z ?_;refine dC 18 (int (d.bu.length:Int)) (congrArg (fun n:Nat=>int (n:Int)) (pH _)) ?_;refine ae Z<|Y<|aB ?_;refine E8 (D:=Nat×List Value×List Cell) [(1,c7),(4,.ptr 2004 _ 0),(5,.ptr 2005 _ 0),(17,.own _),(18,c6)] [(2,.ai _ _ _),(2002,.box _ _ [c7,c7]),(2004,.box _ _ [vV _,vV _]),(2005,.box _ _ [.own _,.own _])] (fun a=>[(19,int (a.1:Int))]) (fun a=>[(1,.ai 195 1 (oR a.2.1))]) (fun a=>fY a.2.1 (l9 a.2.2)) (fun a=>a.1<=d.bu.length/\a.2.2.length=d.cells.length/\a.2.2.all lL=true/\a.2.1.length=a.2.2.length/\abP vA (d.bu.drop a.1) a.1 a.2.2=abP vA d.bu 0 d.cells) (fun a=>d.bu.length-a.1) ((0,vs,d.cells)) (⟨Nat.zero_le _,rfl,(wL hd).2.1,gl,rfl⟩) ⟨rfl,trivial⟩ ⟨rfl,trivial⟩ ⟨rfl,rfl,rfl,rfl,rfl,trivial⟩ ⟨rfl,rfl,rfl,rfl,trivial⟩ ki ?_;intro ⟨k,vs,cs⟩ hI;clear gl;obtain⟨eN,qH,hco,gl,pJ⟩:=hI;replace eN:k<=d.bu.length:=eN;replace qH:cs.length=d.cells.length:=qH;replace hco:cs.all lL=true:=hco;replace gl:vs.length=cs.length:=gl;replace pJ:abP vA (d.bu.drop k) k cs=abP vA d.bu 0 d.cells:=pJ;have ke:dS (fY vs (l9 cs)):=Ap;have jC:(fY vs (l9 cs)).length=cs.length:=by rw[Aa (by simpa using gl),List.length_map]
 refine sL<|ak Z<|Y<|aS<|cE rfl ?_ ?_
 ·intro V;refine aK<|gT<|aS<|aB<|aS ?_;have hk:k<d.bu.length:=by have h:=V;simp only[decide_eq_true_eq]at h;omega
  have MQ:=acW hd hk;have abV:d.bu[k].at_.toNat<cs.length:=by omega
  have vX:=Jk hd hk;have agR:=agK vA k;refine aL<|ae Z<|lq (rj k uz rfl (by rw[pH];exact hk))<|lq (rd (x:=kj) (dT rfl AY rfl rfl rfl (td hk) rfl) rfl)<|ab (zA 2007 CA rfl) rfl ?_;refine xH (fY vs (l9 cs)) [1,4,5,7,17,18,19,21,23] [1,2,2002,2004,2005,2007] ?_;refine ao Z<|ab (zB 2007 E0 E1 Z) Z<|nA<|ao Z<|Y ?_;refine ahb (D:=Unit) [(1,c7),(4,.ptr 2004 _ 0),(5,.ptr 2005 _ 0),(7,.ptr 2007 _ 0),(17,.own _),(18,c6),(19,c6)] [(1,.ai _ _ _),(2,.ai _ _ _),(2002,.box _ _ [c7,c7]),(2004,.box _ _ [vV _,vV _]),(2005,.box _ _ [.own _,.own _]),(2007,.box _ _ [c6,c7])] (fun jd=>[(8,int ((acv vA k):Int))]) (fun jd=>[]) (fun jd=>fY vs (l9 cs)) (fun jd=>True) ⟨rfl,rfl,rfl,rfl,rfl,rfl,rfl,trivial⟩ ⟨rfl,rfl,rfl,rfl,rfl,rfl,trivial⟩ ?_ ?_
  ·refine sL<|ae Z<|bm Z<|ba x4 Z<|ak Z<|Y<|cE rfl ?_ ?_
   ·intro h2;have uG:k<vA.length:=by have h:=h2;simp only[ap,decide_eq_true_eq]at h;omega
    refine aL<|bm Z<|ae Z<|li k iU Z (bS uG)<|oy ac Z<|ab (zL Tryz.func156 (ag3 vA[k] 0 128) Z) Z<|ao Z<|Y ?_;refine⟨(),trivial,⟨(Eq.trans (b:=int _) rfl (congrArg int (ag9 uG))),trivial⟩,trivial,⟨rfl,rfl,rfl,rfl,rfl,rfl,rfl,trivial⟩,⟨rfl,rfl,rfl,rfl,rfl,rfl,trivial⟩,ki⟩
   intro h2;refine aK<|gT ?_;refine⟨(),trivial,⟨(Eq.trans (b:=int _) rfl (congrArg int (ag' x_133))),trivial⟩,trivial,⟨rfl,rfl,rfl,rfl,rfl,rfl,rfl,trivial⟩,⟨rfl,rfl,rfl,rfl,rfl,rfl,trivial⟩,ki⟩
  intro jd hJ;refine sL<|ae Z<|ak Z<|Y<|cE rfl ?_ ?_
  ·intro h3;refine aS ?_;have bO:(acv vA k)≠0:=by have h:=h3;simp only[gt_iff_lt,decide_eq_true_eq]at h;omega
   have TP:=adA (ac2 hco abV);have hold:=aeV (ac2 hco abV);have hmx:=gR;refine aL<|lf 0 n9 Z<|iO oB Z<|lf 0 xG Z<|aj ac Z<|lq (rd (x:=.ptr 1 _ 0) (pu (i:=d.bu[k].at_.toNat) rfl xE rfl rfl rfl ?hn1 (by rw[Ao,gl];exact abV)) rfl) ?_;case hn1=>exact(Int.toNat_of_nonneg MQ.1).symm
   refine lq (rd (x:=.agg [vV _]) (dT rfl zn rfl rfl rfl (TH (by rw[gl];exact abV)) rfl) rfl) ?_;refine A1 (A2 (F:=fY vs (l9 cs)) [(1,2041)] [2041] [] 0 Tryz.func157 (ag5 (u:=(vs[d.bu[k].at_.toNat]'(by rw[gl];exact abV))) Ap (ag6 gl abV) (Nat.le_trans hold x_3) (by rw[jC];omega)) ki List.drop_zero List.take_zero (Nat.zero_le _) (by rw[jC];omega) (fun _ _ _ _=>trivial) rfl rfl) rfl ?_;rintro _ _ ⟨xz2,oz2,Fz2,hz2,hF2,hM2,rfl,rfl⟩;obtain⟨rfl,rfl,rfl⟩:=hz2;have abt:dS ([]++fY vs (l9 cs)):=dS.gJ x_32 hF2;refine bD Z<|nA<|bW Z<|lf 1 zm Z<|bo kb Z<|ae Z ?_;refine lq (rd (x:=c7) (p6 (l:=0) (h:=(acv vA k)) rfl fh rfl rfl ⟨_,rfl⟩ (Nat.zero_le _) (by rw[ap,vX];exact agR)) rfl)<|ab (ag2 2041 rfl x_87 (wZ fh).1 (szA Vt Vs) rfl rfl (Src.p rfl) (by rw[List.drop_zero,List.length_take,ap];omega) (by rw[List.drop_zero,List.length_take,ap,ap];omega)) rfl ?_;refine xH (([]++fY vs (l9 cs))) [1,4,5,7,9,17,18,19] [1,2,2002,2004,2005,2007,2041] ?_;refine Y ?_;rw[List.nil_append];refine AW.obj 2041 (iT (abL cs[d.bu[k].at_.toNat].bytes d.bu[k].bytes (acv vA k))) (congrArg (AO.ai 5 1) (ag7 vX agR)) ?_;refine mi ((fY vs (l9 cs))) [1,4,5,7,9,17,18,19] [1,2,2002,2004,2005,2007,2041] ?_;refine AW.mU 2041 rfl ?_;intro u1;refine mi ((fY vs (l9 cs))) [1,4,5,7,9,17,18,19] [1,2,2002,2004,2005,2007,2041] ?_;refine Oz 2041 rfl rfl Ap ?_;have sc:dS (fY vs (l9 cs)++[qX u1 (abL cs[d.bu[k].at_.toNat].bytes d.bu[k].bytes (acv vA k))]):=fun o ho=>(List.mem_append.1 ho).elim (Ap o) (fun q=>by rw[List.mem_singleton.1 q];rfl);refine aL<|lf 0 n9 Z<|iO oB Z<|lf 0 xG Z<|aj ac Z<|lmV Z<|lq (rd (x:=.ptr 1 _ 0) (pu (i:=d.bu[k].at_.toNat) rfl xE rfl rfl rfl ?hn2 (by rw[Ao,gl];exact abV)) rfl) ?_;case hn2=>exact(Int.toNat_of_nonneg MQ.1).symm
   refine lf 0 uB Z<|ab (zQ 1 [.v u1] Ih Ii rfl (TH (by rw[gl];exact abV))) Z<|lN<|gB<|gT ?_;refine mi ((fY vs (l9 cs)++[qX u1 (abL cs[d.bu[k].at_.toNat].bytes d.bu[k].bytes (acv vA k))])) [1,4,5,17,18,19] [1,2,2002,2004,2005,2007] ?_;refine AW.acX d.bu[k].at_.toNat rfl sc (by rw[jC];exact abV) ?_;have vD:dS ((fY vs (l9 cs)).set d.bu[k].at_.toNat (qX u1 (abL cs[d.bu[k].at_.toNat].bytes d.bu[k].bytes (acv vA k)))):=by rw[agQ gl];exact Ap
   refine aL<|bg Z<|ae Z<|Y ?_;refine⟨(k+1,vs.set d.bu[k].at_.toNat u1,cs.set d.bu[k].at_.toNat ⟨(abL cs[d.bu[k].at_.toNat].bytes d.bu[k].bytes (acv vA k))⟩),⟨hk,by rw[List.length_set];exact qH,acC hco (ac1 TP (Jk hd hk) (agK vA k)),by rw[List.length_set,List.length_set];exact gl,by rw[<-pJ,acZ hk,ag8 bO abV]⟩,by show d.bu.length-(k+1)<d.bu.length-k;omega,x_11,⟨(congrArg (AO.ai 195 1) aeD),trivial⟩,⟨rfl,rfl,rfl,rfl,rfl,trivial⟩,⟨rfl,rfl,rfl,rfl,trivial⟩,(by rw[<-agQ gl];exact ki)⟩
  intro h3;refine aK<|gB<|gT ?_;have hze:(acv vA k)=0:=by have h:=h3;simp only[gt_iff_lt,decide_eq_false_iff_not]at h;omega
  refine aL<|bg Z<|ae Z<|Y ?_;refine⟨(k+1,vs,cs),⟨hk,qH,hco,gl,by rw[<-pJ,acZ hk];unfold ab8;rw[if_pos hze]⟩,by show d.bu.length-(k+1)<d.bu.length-k;omega,x_11,⟨rfl,trivial⟩,⟨rfl,rfl,rfl,rfl,rfl,trivial⟩,⟨rfl,rfl,rfl,rfl,trivial⟩,ki⟩
 intro V;refine aE<|eT<|eT<|eB<|gT<|aS ?_;have dZ:k=d.bu.length:=by have h:=V;simp only[decide_eq_false_iff_not]at h;omega
 have aeX:cs=abP vA d.bu 0 d.cells:=by rw[<-pJ,dZ,List.drop_length];rfl
 refine aL<|lf 1 ru Z<|ab (zB 2005 VH VI Z) Z<|Y<|aS ?_;refine mi (fY vs (l9 cs)) [4,5] [1,2002,2004,2005] ?_;refine AW.pi 2 2005 1 192 2 rfl x_3 rfl ?_;rw[aeE];have abu:dS (sY vs [] ⟨cs,[]⟩):=TJ;refine aL<|aP qm mE Z<|ab (zB 2004 Dv Dw Z) Z<|Y<|aR ?_;rw[adB hd,<-aeX];refine vW (F1:=(sY vs [] ⟨cs,[]⟩)) (Gn) (DS vs [] ⟨cs,[]⟩) ?_ (by unfold sY;rw[List.length_append,jC];simp[fY];omega) rfl rfl ⟨rfl,rfl,trivial⟩ ki;exact⟨vs,[],gl,rfl,rfl,rfl,rfl⟩

theorem amT(h:mm)(vA:List Int)(hd:HbD h)(hq:zV h=true):GN Tryz.prog 20 [Bu h,inV vA] [] ([]) (La (acU h.log.bT vA)):=by
 refine GN.intro (rs:=[.cell 4 43 (some 2)]) Tryz.func20 rfl Tryz.ntmps20 x_8 x_80 rfl ?_;intro L O w0;refine sL<|ab (zX 2002 Z) Z<|ab (zA 2004 Du Z) Z<|Y<|aS<|sL<|aP js EZ Z<|ab (zC [] [] [] Tryz.func31 (aj5 hd) (trivial) Z Z) Z<|bX Z<|Y<|cE rfl ?_ ?_
 ·intro V;refine aS ?_;exact absurd V (by simp[hq])
 intro V;refine aK<|gA<|lf 0 qL Z<|lf 0 Bv Z<|aP nq mE Z<|bm Z ?_;refine A1 (A2 (F:=[]) [(1,1),(2,2)] [1,2] [] ([]).length Tryz.func72 (aha h.log.bT vA (af4 hq)) ki List.drop_length List.take_length (Nat.le_refl _) (x_19) (fun _ _ _ _=>trivial) rfl rfl) rfl ?_;rintro _ _ ⟨xz1,oz1,Fz1,fa,hF1,hM1,rfl,rfl⟩;obtain⟨vs,us,hv,hu,rfl,rfl,rfl⟩:=fa;have E7:dS ([]++sY vs us (acU h.log.bT vA)):=dS.gJ x_32 hF1;refine ab (zB 2004 Dv Dw Z) Z<|Y<|aR ?_;have abu:dS (sY vs us (acU h.log.bT vA)):=TJ;rw[List.nil_append];have gR:=(wL (aii (vA:=vA) (af4 hq) hd.db).1).1;refine vW (F1:=(sY vs us (acU h.log.bT vA))) (Gn) (DS vs us (acU h.log.bT vA)) ?_ (by rw[SD hv hu];omega) rfl rfl ⟨rfl,rfl,trivial⟩ ki;exact⟨vs,us,hv,hu,rfl,rfl,rfl⟩
theorem amU(h:mm)(vA:List Int)(hd:HbD h)(hq:zV h=true):GC Tryz.prog 20 [Bu h,inV vA] [] (mt (crD h vA)) []:=by
 rw[agM hq];exact SE (amT h vA hd hq)
theorem am2(h:mm)(hd:HbD h)(hq:zV h=true):GC Tryz.prog 20 [Bu h,.p (.v (.slice none 0 0))] [] (mt (crD h [])) []:=(amU h [] hd hq).amZ (ff.cons (fe.refl _) (ff.cons (fe.nil _ _) ff.nil))

theorem am3(code:List Int):GC Tryz.prog 10 [.p (.ab 5 1 (ah ahN code))] [] (aD true) []:=by
 refine gi 2 Tryz.func10 rfl Tryz.ntmps10 rfl ?_;intro L O w0;refine sL<|ar Z<|Y<|aS<|sL<|bm Z<|ba kE Z<|ak Z<|Y<|cE rfl ?_ ?_
 ·intro V;refine sL<|cI Z<|Y<|aR<|rT ?_;refine ax ?_ trivial;rfl
 intro V;refine aK<|gA<|bm Z ?_;refine alX [] [] [] Tryz.func32 (amS amM code (by have h:=V;simp only[ap,gt_iff_lt,decide_eq_false_iff_not]at h;omega)) (trivial) (fun _ _ _=>trivial) Z ?_;intro xz1 oz1 fa;obtain⟨k,h,vA,hk,⟨⟨⟨hd,hwt⟩,FZ⟩,hcp⟩,rfl,rfl⟩:=fa;refine cT (.au [js,c7]) Z<|iB js Z<|rF Z<|ab (zA 2003 Ig Z) Z<|ab (zB 2003 NA NB Z) Z<|nv Z<|Y<|aS ?_;obtain⟨p,hc⟩:=hcp x_2;have ok:=hc.ok;have hE:=amQ hc hd.db vA;have hbD:=ahF (vA:=vA) hd;have hdO:=akH hbD;refine aL<|aP js EZ Z<|bm Z<|ab (zC [] [] [] Tryz.func20 (amU h vA hd ok) (trivial) Z Z) Z<|lT [2,19] [2003] ?_;refine ab (zC [] [] [] Tryz.func29 (afw (crD h vA) hbD) (trivial) Z Z) Z<|cT (.au [js,c6]) Z<|iB js Z<|dE Z<|ab (zA 2005 Ig Z) Z<|ab (zB 2005 NA NB Z) Z<|ao Z<|Y<|aS<|sL<|ae Z<|ak Z<|Y<|cE rfl ?_ ?_
 ·intro h2;refine sL<|ae Z<|ak Z<|bJ 26 true rfl (decide_eq_true (hE.c2 x_67))<|bM Z<|lf 13 By Z<|bo tE Z<|ba jZ rfl ?_;refine dC 30 (int 0) (Eq.trans (b:=int ((ah fR (e6 (crD h vA)).f9).length:Int)) rfl (congrArg int (by rw[acJ x_67];rfl))) ?_;refine ak Z<|bJ 31 true Z (Z)<|aU Z<|cI Z<|Y<|aR<|rT ?_;refine ax ?_ trivial;rfl
 intro h2;refine aK<|gT<|aS ?_;have hz:y3 (crD h vA)=0:=by have h:=h2;simpa using h
 have hA:=am1 hz;have hdP:=akH hdO.db;refine aL<|aP js EZ Z<|ab (zC [] [] [] Tryz.func20 (am2 (e6 (crD h vA)) hdO hA.ok) (trivial) Z Z) Z ?_;refine dC 35 (mt (e6 (crD h vA)).log.bT) (congrArg mt hA.dsk) ?_;refine lT [2,5,6,35] [2003,2005] ?_;refine ab (zC [] [] [] Tryz.func29 (afw (e6 (crD h vA)).log.bT hdO.db) (trivial) Z Z) Z<|cT (.au [js,c6]) Z<|iB js Z<|dE Z<|ab (zA 2007 Ig Z) Z<|ab (zB 2007 NA NB Z) Z<|ao Z<|Y<|aS<|sL<|ae Z<|ak Z<|Y<|cE rfl ?_ ?_
 ·intro h3;refine sL<|ae Z<|ak Z<|bJ 42 true rfl (decide_eq_true (hA.c2 (by have h:=h3;simpa using h)))<|cI Z<|Y<|aR<|rT ?_;refine ax ?_ trivial;rfl
 intro h3;refine aK<|gT<|aS ?_;have hz2:y3 (e6 (crD h vA)).log.bT=0:=by have h:=h3;simpa using h
 have jr:=hA.book hz2;have hep:=hA.ep hz2;have Gz:=hA.nx hz2;have okP:=amg hz2;have e1:=ahS.1 (aiF hA.ok).ep;have e2:=ahS.1 (aiF hA.ok).nx;have e3:=(wL (aiF hA.ok).dok).1;have JD:mC (e6 (crD h vA)).book (e6 (e6 (crD h vA)).log.bT).book=true:=by rw[jr];unfold mC;rw[(aiF hA.ok).bok,aja];rfl
 refine aL<|lf 4 Bw Z<|aP h1 cu Z<|lf 4 Bw Z<|aP h1 cu Z<|ab (zC [] [] [] Tryz.func37 (Qz (e6 (crD h vA)).book (e6 (e6 (crD h vA)).log.bT).book hdO.wf hdP.wf) (trivial) Z Z) Z<|bJ 47 true Z (JD)<|lT [2,5,7,47] [2003,2005,2007] ?_;refine bM Z<|lf 0 qL Z<|lf 3 zW Z<|aj ac Z<|lf 0 qL Z<|lf 3 zW Z<|aj ac Z<|bg Z<|ak Z<|bJ 56 true Z (decide_eq_true hep)<|aU Z<|bM Z<|lf 0 qL Z<|lf 2 wD Z<|aj ac Z<|lf 0 qL Z<|lf 2 wD Z<|aj ac Z<|bg Z<|ak Z<|bJ 66 true Z (decide_eq_true Gz)<|aU Z<|cI Z<|Y<|aR ?_;refine ax ?_ trivial;rfl

theorem am4(l:List Int)(a:Option Addr)(c:Nat)(w:World)(h0:dd 1 yb w 0 w.heap.size (.slice a l.length c) l) :
 Calls Tryz.prog 10 #[.slice a l.length c] w fun r w'=>r=.returned (.bool true)/\cZ w w':=
 Xx (cs:=[_]) rfl (am3 l) (by
  simp only[bf];exact⟨_,_,rfl,wU (enc:=ahN) h0 (fun _ _ h=>h.1) (fun _=>rfl) (by intro c u hu;simp[ahN]at hu;subst hu;rfl) (Nat.le_refl _) (fun _ _ _=>mh),rfl⟩)
end Go.Proofs.YtflhgkmhmcfimaaGreat

namespace Go.Proofs.YtflhgkmhmcfimaaGreat.fnAgain
open Go.ChangeShapes Go.WideShapes Go.ChangeAt Go.RowKit Go.Proofs.YtflhgkmhmcfimaaGreat
set_option maxHeartbeats 16000000
set_option maxRecDepth 100000
set_option linter.unusedVariables false
theorem own:ownKnob Tryz.prog.godebug=none:=by kernel_rfl
theorem laid:laidOutB Tryz.prog=true:=by kernel_rfl
theorem readable:∀t∈[76],Tryz.prog.readableRec t=true/\t<Tryz.prog.types.size:=by
 intro t ht;simp only[List.mem_cons,List.not_mem_nil,or_false]at ht;rcases ht with rfl;all_goals exact⟨by kernel_rfl,of_decide_eq_true x_37⟩
theorem lifted(os:Os)(started:os.Started)(H:Type)(enc:TypeId×Value->H) :
 ReturnsInHanded {} Tryz.checked os 10 .any (Rows.fnAgainSpec.pre6 enc Tryz.prog Tryz.f10 Rows.fnAgainRow.domain false) (Rows.fnAgainSpec.post enc Tryz.prog Tryz.f10 false true false false):=by
 refine returnsInHanded_of_change (C:=Tryz.checked) own started x_37 Tryz.func10
  (ChangeSpec.witness6 (enc:=enc) (C:=Tryz.checked) false ⟨#[],#[.slice none 0 0],[]⟩ 8 x_37 x_37 x_37 x_37) ?_
 intro W base args ds gs before O2 hW aby _
 have O3:∀(j:Nat) t v,Tryz.f10.params[j]? = some t->args[j]? = some v->Value.okWide Tryz.prog W .any base t v:=O2
 have O4:=hW
 obtain⟨p,q,O5,hV,rfl,hfz,jU⟩:=hW
 have hA:DataW.TrodAll enc Tryz.prog W 0 (fun _=>true) true Tryz.f10.params.toList args.toList ds p:=O5
 rw[Tryz.params10]at hA O3
 have hB:=hA
 obtain⟨v0,vs0,d0,ds0,p0,q0,pF,rfl,rfl,h0,r0⟩:=trodAll_cons hA
 obtain⟨rfl,rfl,rfl⟩:=trodAll_nil r0
 obtain rfl:args=#[v0]:=by cases args;simp_all
 obtain⟨rfl,rfl⟩:=trodVars_none hV
 obtain⟨a0,l0,c0,rfl⟩:=okWide_slice Tryz.underlying76 (O3 0 76 v0 rfl rfl)
 obtain⟨fu0,t0⟩:=h0
 obtain⟨x0,afR⟩:=tG (dg:=yb) Tryz.underlying76 Kk x_3 (fun _ _ _ h=>Kl h) t0
 obtain rfl:l0=x0.length:=by obtain⟨_,_,he,_⟩:=afR;injection he
 clear O5 O2
 simp only[List.append_nil]at O4
 refine(am4 x0 a0 c0 W afR).mono fun e W' ⟨he,hg⟩=>?_
 subst he
 exact⟨_,rfl,_,_,_,_,_,[],O4,trodAll_mk1 (shut_bool Tryz.underlying4 true),
  Pk laid hg.below (readable) hB,rfl,hg.below.frame _,fun h=>by cases h⟩
theorem YN:(Rows.fnAgainRow.inPlace==Tryz.pinned.checked.prog.inPlace 10)=true:=by kernel_rfl
theorem YO:(Rows.fnAgainRow.unfollowed==Tryz.pinned.checked.prog.unfollowed 10)=true:=by kernel_rfl
theorem YP:(Rows.fnAgainRow.recurses==Tryz.pinned.checked.prog.recurses 10)=true:=by kernel_rfl
theorem YQ:(Rows.fnAgainRow.named==Tryz.pinned.checked.prog.varsNamed 10)=true:=by kernel_rfl
theorem YR:Tryz.pinned.checked.prog.funcNamed Rows.fnAgainRow.func=some 10:=by kernel_rfl
theorem closed:joinedFacts Tryz.pinned.checked.prog 10 Tryz.f10 Rows.fnAgainSpec Rows.fnAgainRow=true:=by
 unfold joinedFacts;rw[YN,YO,YP,YQ];kernel_rfl
theorem YS:Rows.fnAgainRow.holds Tryz.pinned (OpenSpec.ofChange Rows.fnAgainSpec):=
 OpenClaim.holds_of_wide 10 Tryz.f10 rfl rfl rfl rfl rfl rfl rfl ⟨rfl,rfl,rfl,rfl,rfl⟩ rfl rfl rfl rfl rfl YR Tryz.func10 closed
  (of_decide_eq_true x_37) (by unfold Func.isWrapper;first|(rw[if_pos (by decide +kernel)];kernel_rfl)|(rw[if_neg (by decide +kernel)];exact⟨rfl,rfl⟩))
  (fun os started H enc _=>lifted os started H enc)
theorem proved:Rows.FnAgainSaid:=
 YS
#print axioms proved
end Go.Proofs.YtflhgkmhmcfimaaGreat.fnAgain

