/- FnCrash is proved: the given statement holds with no condition. Texts joined: E38, EX1, EX3, EY7, LFnCrash, CFnCrash. -/
import Derived.Test.YtflhgkmhmcfimaaGreatJCrash4
import Derived.Test.YtflhgkmhmcfimaaGreatJCrash20
import Derived.Test.YtflhgkmhmcfimaaGreatJCrash21
import Derived.Test.YtflhgkmhmcfimaaGreatRows
import Derived.Test.YtflhgkmhmcfimaaGreatUOpn
namespace Go.Proofs.YtflhgkmhmcfimaaGreat
set_option maxRecDepth 100000
open Go.RowKit
set_option linter.unusedSimpArgs false
set_option linter.unusedVariables false
section
variable {P:Program}{o:Oper}{N:Nat}{τ:Nat->AV}{H:Nat->AO}
theorem ag1{w:World}{e:TypeId}{n g m cap agI agO:Nat}{agJ:Addr}{v:Value}{xs vs:List Value}{agC agF:TypeId}{x y:Operand}{a:Act}(ho:o.op=.call { callee:=.builtin .copy,args:=#[x,y],argTypes:=#[agC,agF] })(jE:w.ownsRow 0 e 1 v n xs)(hv:v=.slice (some ⟨g,0,none⟩) m cap)(hx:a.eval x=v)(hy:a.eval y=.slice (some agJ) agI agO)
 (V:∀u∈vs,u.oneCell'=true) (hu:P.underlying agC=some (.slice e)) (hs:(P.info? e).map (·.size)=some 1) (hn:vs.length=Nat.min agI m) (yV:∀j u,vs[j]? = some u->w.cell? (agJ.add j)=some u) (vz:vs.length<=xs.length) :
 ∃w',(execOp a.eval o).run P w=.ok (.value (goInt vs.length)) w'/\w.grownBy w' (some g)/\(∀b o',(some g=some b\/w.heap.size<=b)->b<w'.heap.size->w'.frozen? ⟨b,o',none⟩=false)/\w'.ownsRow 0 e 1 v n (vs++xs.drop vs.length):=by
 subst hv
 rcases jE.2 with⟨q,_⟩|⟨g',uh,cur,q,_,hg,hnc,bC,pI,qO⟩
 ·cases q
 injection q with q1 q2 q3
 injection q1 with q1
 injection q1 with q1
 subst q1 q2 q3
 have uc:xs.length<=cur.size:=by rw[jE.1,pI];exact Nat.mul_le_mul_right _ hnc
 have dM:=run_copy_row (P:=P) w agC agF o.type e g 0 m cap agJ agI agO cur e vs hu hs hg hn yV x_2 V
 have Ei:g<w.heap.size:=(Array.getElem?_eq_some_iff.1 hg).1
 refine⟨w.setRow g (cur.toList.take 0++vs++cur.toList.drop (0+vs.length)).toArray,?_,⟨rfl,rfl,rfl,by simp,fun b hb bO=>setRow_other w g b _ (fun e=>bO (by rw[e]))⟩,fun b o' hb eI=>?_,?_⟩
 ·simp[execOp,ho,resolve,invoke,builtin,hx,hy,dM]
 ·have te:b=g:=by
   rcases hb with hb|hb
   ·injection hb with hb;exact hb.symm
   rw[setRow_size]at eI;omega
  subst te
  simp[World.frozen?,setRow_heap w b cur _ e _ hg]
 have T9:xs=cur.toList.take (m*1):=qO.symm
 have hms:xs.length=m*1:=jE.1
 refine⟨?_,.inr ⟨g,cap,_,rfl,Nat.zero_le _,setRow_heap w g cur _ e _ hg,hnc,bC,?_,?_⟩⟩
 ·simp only[List.length_append,List.length_drop];omega
 ·rw[<-pI];simp only[List.size_toArray,List.length_append,List.length_take,List.length_drop,Array.length_toList];omega
 rw[T9]
 apply List.ext_getElem?
 intro j
 simp only[List.getElem?_take,List.getElem?_append,List.length_append,List.length_take,List.getElem?_drop,Array.length_toList,List.take_zero,List.nil_append,Nat.zero_add]
 have:(m*1)<=cur.size:=by omega
 split<;>split<;>(try split)<;>(try split)<;>(try split)<;>first|rfl|omega|(congr 1;omega)|skip
 all_goals (try (split<;>first|rfl|omega|(congr 1;omega)))
theorem ag2(id:Nat){agC agF:TypeId}{e:ga}{x y:Operand}{rows o5:List (List PV)}(ho:o.op=.call { callee:=.builtin .copy,args:=#[x,y],argTypes:=#[agC,agF] })(hd:∀s,o.dst=some s->s<N)(hu:P.underlying agC=some (.slice e.ty))(hs:(P.info? e.ty).map (·.size)=some 1)(hx:ev τ x=.own id)(hH:H id=.ai e 1 rows)(yV:Src τ H y 1 o5)(h0:0<o5.length)(hle:o5.length<=rows.length) :
 St P o N τ H [id] (mb τ o.dst (int o5.length)) (aH H id (.ai e 1 (o5++rows.drop o5.length))):=
 Mm (P:=P) (o:=o) (N:=N) (τ:=τ) (H:=H) id (int o5.length) (.ai e 1 (o5++rows.drop o5.length)) [id] hd (fun{L O w0 ρ fp a w} hr=>by
  have hv:=hr.ev x;rw[hx,RV]at hv;have hvx:=hv.2 x_123;have bY:=hr.ob id;rw[hH]at bY;obtain⟨xs,fr,b1,b2,b3,b4,b5⟩:=bY;obtain⟨a2,ahi,news,nl,s1,s2,s3,s4⟩:=yV.run hr;have tN:=s3.length;rw[Nat.mul_one]at tN;have uc:=b1.length;rw[Nat.mul_one]at uc;rcases s2 with s2|⟨b,off,rfl,s2⟩
  ·omega
  rcases b3.2 with⟨q,q2⟩|⟨g,cap,cur,q,q3⟩
  ·omega
  have hm:=q;obtain⟨w',r1,r2,r3,r4⟩:=ag1 (P:=P) (vs:=news) ho b3 q hvx s1 (s3.uo) hu hs (by rw[tN];exact(Nat.min_eq_left hle).symm) (fun j u hj=>by rw[show (⟨b,off,none⟩:Addr).add j=⟨b,off+j,none⟩ by unfold Addr.add;split<;>simp_all];exact s2 j u hj) x_2;rw[tN]at r1 r4;refine⟨w',some g,goInt o5.length,_,r1,.inl rfl,r2,fun b hb=>⟨by simp,by rw[hH];rfl,by rw[q,<-hb];rfl⟩,r3,⟨by rw[hH];rfl,by rw[hH];simp[AO.len];omega,by rw[hH];rfl⟩,fun E=>⟨?_,fX rfl⟩⟩;obtain⟨g2,t3,t4⟩:=b1.drop o5.length;rw[Nat.mul_one]at t3;have nW:=s3.append t3;have agP:∀b∈nl++g2,¬live L ρ H b:=fun b hb=>by
   rcases List.mem_append.1 hb with q|q
   ·exact s4 b q
   exact b2 b (t4 q)
  refine⟨_,_,bI.same _ nW (fun b hb eI=>(E.block b eI (agP b hb)).1),fun b hb=>(E.block b (bI.lt _ nW b hb) (agP b hb)).2,?_,rfl,b5⟩;rw[show (o5++rows.drop o5.length).length=rows.length by simp;omega];exact r4)
end

set_option maxHeartbeats 16000000
set_option maxRecDepth 100000
theorem ag3(n lo hi:Int):GC Tryz.prog 156 [int n,int lo,int hi] [] (int (u0 n lo hi)) []:=by
 refine gi 6 Tryz.func156 rfl Tryz.ntmps156 rfl ?_;intro L O w0;refine sL<|ao Z<|Y<|aS<|aB<|sL<|ae Z<|ae Z<|ak Z<|bv Z<|Y<|cE rfl ?_ ?_
 ·intro V;refine sL<|ae Z<|ao Z<|Y<|aR<|rB<|rT ?_;refine ax ?_ trivial;refine congrArg (fun n=>some (int n)) ?_;unfold u0;simp_all<;>(intros;omega)
 intro V;refine sL<|ae Z<|ae Z<|ak Z<|bv Z<|Y<|cE rfl ?_ ?_
 ·intro h2;refine sL<|ae Z<|ao Z<|Y<|aR<|rB<|rT ?_;refine ax ?_ trivial;refine congrArg (fun n=>some (int n)) ?_;unfold u0;simp_all<;>(intros;omega)
 intro h2;refine aK<|gB<|gA<|ae Z<|ao Z<|Y<|aR ?_;refine ax ?_ trivial;refine congrArg (fun n=>some (int n)) ?_;unfold u0;simp_all<;>(intros;omega)
theorem ag4{H:Nat->AO}{m:Nat}{u:Value}{t:TypeId}{sz:Nat}{rows:List (List PV)}(hH:H m=.ai ⟨t,some u⟩ sz rows):Reads H (.p (.v u)) (.p (.ab t sz rows)):=fun{L ρ w c} bY hx=>by
 have hc:=hx.gd;obtain⟨f,ho⟩:=bY m;rw[hH]at ho;obtain⟨ahj,cc,e⟩:=aao ho;obtain⟨xs,fr,b1,b2,b3,b4,b5⟩:=ho;have hu:=b5 u rfl;exact acp hH bY (by rw[RV];exact⟨by rw[hc,<-hu,e];rfl,fun _=>by rw[hc,hu]⟩)
theorem ag5{F:List AO}{j:Nat}{u:Value}{b:List Int}(hF:dS F)(hj:F[j]? = some (qX u b))(hl:b.length<=2000000)(hM:F.length<=9000000) :
 GN Tryz.prog 157 [.agg [.p (.v u)]] [] F fun y l F1=>y=.own 1/\l=[(1,iT (yP b))]/\F1=F:=
 (aeg ((Zx b hl).toN rfl) (.cons (Reads.agg (.cons (ag4 (m:=1000000+j) (by rw[uJ,hj];rfl)) .nil)) .nil) hF rfl (fun x l1 F1 ⟨e1,e2,e3⟩=>by
   subst e1 e2 e3;refine⟨rfl,fun id hid=>?_,fun p hp=>?_,(fun o ho=>by cases ho),by simpa using(by omega:F.length<=10000000)⟩
   ·simp[s7]at hid;subst hid;rfl
   ·rw[List.mem_singleton.1 hp];exact yg)).mono fun y ob ⟨l1,F1,q1,q2,q3,q4,l2,ac7,⟨e1,e2,e3⟩,e4,e5⟩=>by
   subst e1 e2 e3 e4 e5;exact⟨_,_,q1,q2,q3,q4,rfl,by simp,by simp⟩
theorem szA{P:Program}{t:TypeId}{n:Nat}(h:(P.info? t).isSome=true)(h2:P.cellsOf t=n):(P.info? t).map (·.size)=some n:=by
 unfold Program.cellsOf at h2;cases q:P.info? t with
 |none=>rw[q]at h;cases h
 |some i=>rw[q]at h2;exact congrArg some h2
theorem ag6{vs:List Value}{cs:List Cell}{i:Nat}(h:vs.length=cs.length)(hi:i<cs.length):(fY vs (l9 cs))[i]? = some (qX (vs[i]' x_2) cs[i].bytes):=by
 unfold fY l9;rw[List.getElem?_zipWith,List.getElem?_map,List.getElem?_eq_getElem hi,List.getElem?_eq_getElem x_2];rfl
theorem ag7{old new:List Int}{m:Nat}(h2:new.length=128)(hm:m<=128):((ah dF new).take m).drop 0++(ah dF (yP old)).drop (((ah dF new).take m).drop 0).length=ah dF (abL old new m):=by
 have e:(((ah dF new).take m).drop 0).length=m:=by rw[List.drop_zero,List.length_take,ap];omega
 rw[e,List.drop_zero];unfold abL ah;rw[List.map_append,List.map_take,List.map_drop]
theorem ag8{vA:List Int}{k:Nat}{cs:List Cell}{w:gq}(h:acv vA k≠0)(hc:w.at_.toNat<cs.length):ab8 vA cs k w=cs.set w.at_.toNat ⟨abL (cs[w.at_.toNat]).bytes w.bytes (acv vA k)⟩:=by
 unfold ab8;rw[if_neg h,List.getElem?_eq_getElem hc];rfl
theorem ag9{vA:List Int}{k:Nat}(h:k<vA.length):u0 vA[k] 0 128=(acv vA k:Int):=by
 unfold acv u0;rw[List.getElem?_eq_getElem h];show _=(((min (max vA[k] 0) 128).toNat:Nat):Int);split<;>(try split)<;>omega
theorem ag'{vA:List Int}{k:Nat}(h:¬k<vA.length):(0:Int)=(acv vA k:Int):=by
 unfold acv;rw[List.getElem?_eq_none x_2];rfl
theorem agK(vA:List Int)(k:Nat):acv vA k<=128:=by unfold acv;omega
theorem agQ{vs:List Value}{cs:List Cell}{i:Nat}{u:Value}{b:List Int}(h:vs.length=cs.length):(fY vs (l9 cs)).set i (qX u b)=fY (vs.set i u) (l9 (cs.set i ⟨b⟩)):=by
 unfold l9;rw[List.map_set];exact(aeC (by simpa using h)).symm
theorem aha(d:du)(vA:List Int)(hd:ik d=true):GN Tryz.prog 72 [mt d,inV vA] [] ([]) (La (acU d vA)):=by
 refine GN.intro (rs:=[.cell 4 43 (some 2)]) Tryz.func72 rfl Tryz.ntmps72 x_8 x_81 rfl ?_;intro L O w0;refine sL<|ab (zX 2002 Z) Z<|ab (zA 2004 Du Z) Z<|Y<|aS<|aS ?_;have gR:=(wL hd).1;refine aL<|aP nq mE Z<|ab (zC [] [] [] Tryz.func91 (J' d) (trivial) Z Z) Z<|bJ 11 true Z (hd)<|ma Z<|Y<|aN Z<|aK<|gA<|aP nq mE Z ?_;refine A1 (A2 (F:=[]) [(1,1),(2,2)] [1,2] [] ([]).length Tryz.func155 (aev d (acF hd)) ki List.drop_length List.take_length (Nat.le_refl _) (by first|(simp;done)|(simp[Aa, *];omega)) (fun _ _ _ _=>trivial) rfl rfl) rfl ?_;rintro _ _ ⟨xz1,oz1,Fz1,fa,hF1,hM1,rfl,rfl⟩;obtain⟨vs,gl,rfl,rfl,rfl⟩:=fa;have E7:dS ([]++fY vs (l9 d.cells)):=dS.gJ x_32 hF1;refine ab (zA 2005 Du Z) Z<|ab (zB 2005 Dv Dw Z) Z<|Y<|aS<|aS ?_;rw[List.nil_append];have abs:dS (fY vs (l9 d.cells)):=Ap;refine aL<|lf 1 ru Z<|iO sk Z<|ba vT Z ?_;refine dC 18 (int (d.bu.length:Int)) (congrArg (fun n:Nat=>int (n:Int)) (pH _)) ?_;refine ae Z<|Y<|aB ?_;refine E8 (D:=Nat×List Value×List Cell) [(1,c7),(4,.ptr 2004 _ 0),(5,.ptr 2005 _ 0),(17,.own _),(18,c6)] [(2,.ai _ _ _),(2002,.box _ _ [c7,c7]),(2004,.box _ _ [vV _,vV _]),(2005,.box _ _ [.own _,.own _])] (fun a=>[(19,int (a.1:Int))]) (fun a=>[(1,.ai 195 1 (oR a.2.1))]) (fun a=>fY a.2.1 (l9 a.2.2)) (fun a=>a.1<=d.bu.length/\a.2.2.length=d.cells.length/\a.2.2.all lL=true/\a.2.1.length=a.2.2.length/\abP vA (d.bu.drop a.1) a.1 a.2.2=abP vA d.bu 0 d.cells) (fun a=>d.bu.length-a.1) ((0,vs,d.cells)) (⟨Nat.zero_le _,rfl,(wL hd).2.1,gl,rfl⟩) ⟨rfl,trivial⟩ ⟨rfl,trivial⟩ ⟨rfl,rfl,rfl,rfl,rfl,trivial⟩ ⟨rfl,rfl,rfl,rfl,trivial⟩ ki ?_;intro ⟨k,vs,cs⟩ hI;clear gl;obtain⟨eN,qH,hco,gl,pJ⟩:=hI;replace eN:k<=d.bu.length:=eN;replace qH:cs.length=d.cells.length:=qH;replace hco:cs.all lL=true:=hco;replace gl:vs.length=cs.length:=gl;replace pJ:abP vA (d.bu.drop k) k cs=abP vA d.bu 0 d.cells:=pJ;have ke:dS (fY vs (l9 cs)):=Ap;have jC:(fY vs (l9 cs)).length=cs.length:=by rw[Aa (by simpa using gl),List.length_map]
 refine sL<|ak Z<|Y<|aS<|cE rfl ?_ ?_
 ·intro V;refine aK<|gT<|aS<|aB<|aS ?_;have hk:k<d.bu.length:=by have h:=V;simp only[decide_eq_true_eq]at h;omega
  have MQ:=acW hd hk;have abV:d.bu[k].at_.toNat<cs.length:=by omega
  have vX:=Jk hd hk;have agR:=agK vA k;refine aL<|ae Z<|lq (rj k uz rfl (by rw[pH];exact hk))<|lq (rd (x:=jG) (dT rfl AY rfl rfl rfl (td hk) rfl) rfl)<|ab (zA 2007 CA rfl) rfl ?_;refine xH (fY vs (l9 cs)) [1,4,5,7,17,18,19,21,23] [1,2,2002,2004,2005,2007] ?_;refine ao Z<|ab (zB 2007 E0 E1 Z) Z<|nA<|ao Z<|Y ?_;refine ahb (D:=Unit) [(1,c7),(4,.ptr 2004 _ 0),(5,.ptr 2005 _ 0),(7,.ptr 2007 _ 0),(17,.own _),(18,c6),(19,c6)] [(1,.ai _ _ _),(2,.ai _ _ _),(2002,.box _ _ [c7,c7]),(2004,.box _ _ [vV _,vV _]),(2005,.box _ _ [.own _,.own _]),(2007,.box _ _ [c6,c7])] (fun jd=>[(8,int ((acv vA k):Int))]) (fun jd=>[]) (fun jd=>fY vs (l9 cs)) (fun jd=>True) ⟨rfl,rfl,rfl,rfl,rfl,rfl,rfl,trivial⟩ ⟨rfl,rfl,rfl,rfl,rfl,rfl,trivial⟩ ?_ ?_
  ·refine sL<|ae Z<|bm Z<|ba x4 Z<|ak Z<|Y<|cE rfl ?_ ?_
   ·intro h2;have uG:k<vA.length:=by have h:=h2;simp only[ap,decide_eq_true_eq]at h;omega
    refine aL<|bm Z<|ae Z<|li k iU Z (bS uG)<|oy ac Z<|ab (zL Tryz.func156 (ag3 vA[k] 0 128) Z) Z<|ao Z<|Y ?_;refine⟨(),trivial,⟨(Eq.trans (b:=int _) rfl (congrArg int (ag9 uG))),trivial⟩,trivial,⟨rfl,rfl,rfl,rfl,rfl,rfl,rfl,trivial⟩,⟨rfl,rfl,rfl,rfl,rfl,rfl,trivial⟩,ki⟩
   intro h2;refine aK<|gT ?_;refine⟨(),trivial,⟨(Eq.trans (b:=int _) rfl (congrArg int (ag' x_134))),trivial⟩,trivial,⟨rfl,rfl,rfl,rfl,rfl,rfl,rfl,trivial⟩,⟨rfl,rfl,rfl,rfl,rfl,rfl,trivial⟩,ki⟩
  intro jd hJ;refine sL<|ae Z<|ak Z<|Y<|cE rfl ?_ ?_
  ·intro h3;refine aS ?_;have bO:(acv vA k)≠0:=by have h:=h3;simp only[gt_iff_lt,decide_eq_true_eq]at h;omega
   have TP:=adA (ac2 hco abV);have hold:=aeV (ac2 hco abV);have hmx:=gR;refine aL<|lf 0 n9 Z<|iO oB Z<|lf 0 xG Z<|aj ac Z<|lq (rd (x:=.ptr 1 _ 0) (pu (i:=d.bu[k].at_.toNat) rfl xE rfl rfl rfl ?hn1 (by rw[Ao,gl];exact abV)) rfl) ?_;case hn1=>exact(Int.toNat_of_nonneg MQ.1).symm
   refine lq (rd (x:=.agg [vV _]) (dT rfl zn rfl rfl rfl (TH (by rw[gl];exact abV)) rfl) rfl) ?_;refine A1 (A2 (F:=fY vs (l9 cs)) [(1,2041)] [2041] [] 0 Tryz.func157 (ag5 (u:=(vs[d.bu[k].at_.toNat]'(by rw[gl];exact abV))) Ap (ag6 gl abV) (Nat.le_trans hold x_3) (by rw[jC];omega)) ki List.drop_zero List.take_zero (Nat.zero_le _) (by rw[jC];omega) (fun _ _ _ _=>trivial) rfl rfl) rfl ?_;rintro _ _ ⟨xz2,oz2,Fz2,hz2,hF2,hM2,rfl,rfl⟩;obtain⟨rfl,rfl,rfl⟩:=hz2;have abt:dS ([]++fY vs (l9 cs)):=dS.gJ x_32 hF2;refine bD Z<|nA<|bW Z<|lf 1 zm Z<|bo kb Z<|ae Z ?_;refine lq (rd (x:=c7) (p6 (l:=0) (h:=(acv vA k)) rfl fh rfl rfl ⟨_,rfl⟩ (Nat.zero_le _) (by rw[ap,vX];exact agR)) rfl)<|ab (ag2 2041 rfl x_88 (wZ fh).1 (szA Vt Vs) rfl rfl (Src.p rfl) (by rw[List.drop_zero,List.length_take,ap];omega) (by rw[List.drop_zero,List.length_take,ap,ap];omega)) rfl ?_;refine xH (([]++fY vs (l9 cs))) [1,4,5,7,9,17,18,19] [1,2,2002,2004,2005,2007,2041] ?_;refine Y ?_;rw[List.nil_append];refine AW.obj 2041 (iT (abL cs[d.bu[k].at_.toNat].bytes d.bu[k].bytes (acv vA k))) (congrArg (AO.ai 5 1) (ag7 vX agR)) ?_;refine mi ((fY vs (l9 cs))) [1,4,5,7,9,17,18,19] [1,2,2002,2004,2005,2007,2041] ?_;refine AW.mU 2041 rfl ?_;intro u1;refine mi ((fY vs (l9 cs))) [1,4,5,7,9,17,18,19] [1,2,2002,2004,2005,2007,2041] ?_;refine Oz 2041 rfl rfl Ap ?_;have sc:dS (fY vs (l9 cs)++[qX u1 (abL cs[d.bu[k].at_.toNat].bytes d.bu[k].bytes (acv vA k))]):=fun o ho=>(List.mem_append.1 ho).elim (Ap o) (fun q=>by rw[List.mem_singleton.1 q];rfl);refine aL<|lf 0 n9 Z<|iO oB Z<|lf 0 xG Z<|aj ac Z<|lmV Z<|lq (rd (x:=.ptr 1 _ 0) (pu (i:=d.bu[k].at_.toNat) rfl xE rfl rfl rfl ?hn2 (by rw[Ao,gl];exact abV)) rfl) ?_;case hn2=>exact(Int.toNat_of_nonneg MQ.1).symm
   refine lf 0 uB Z<|ab (zQ 1 [.v u1] Ih Ii rfl (TH (by rw[gl];exact abV))) Z<|lN<|gB<|gT ?_;refine mi ((fY vs (l9 cs)++[qX u1 (abL cs[d.bu[k].at_.toNat].bytes d.bu[k].bytes (acv vA k))])) [1,4,5,17,18,19] [1,2,2002,2004,2005,2007] ?_;refine AW.acX d.bu[k].at_.toNat rfl sc (by rw[jC];exact abV) ?_;have vD:dS ((fY vs (l9 cs)).set d.bu[k].at_.toNat (qX u1 (abL cs[d.bu[k].at_.toNat].bytes d.bu[k].bytes (acv vA k)))):=by rw[agQ gl];exact Ap
   refine aL<|bg Z<|ae Z<|Y ?_;refine⟨(k+1,vs.set d.bu[k].at_.toNat u1,cs.set d.bu[k].at_.toNat ⟨(abL cs[d.bu[k].at_.toNat].bytes d.bu[k].bytes (acv vA k))⟩),⟨hk,by rw[List.length_set];exact qH,acC hco (ac1 TP (Jk hd hk) (agK vA k)),by rw[List.length_set,List.length_set];exact gl,by rw[<-pJ,acZ hk,ag8 bO abV]⟩,by show d.bu.length-(k+1)<d.bu.length-k;omega,x_11,⟨(congrArg (AO.ai 195 1) aeD),trivial⟩,⟨rfl,rfl,rfl,rfl,rfl,trivial⟩,⟨rfl,rfl,rfl,rfl,trivial⟩,(by rw[<-agQ gl];exact ki)⟩
  intro h3;refine aK<|gB<|gT ?_;have hze:(acv vA k)=0:=by have h:=h3;simp only[gt_iff_lt,decide_eq_false_iff_not]at h;omega
  refine aL<|bg Z<|ae Z<|Y ?_;refine⟨(k+1,vs,cs),⟨hk,qH,hco,gl,by rw[<-pJ,acZ hk];unfold ab8;rw[if_pos hze]⟩,by show d.bu.length-(k+1)<d.bu.length-k;omega,x_11,⟨rfl,trivial⟩,⟨rfl,rfl,rfl,rfl,rfl,trivial⟩,⟨rfl,rfl,rfl,rfl,trivial⟩,ki⟩
 intro V;refine aE<|eT<|eT<|eB<|gT<|aS ?_;have dZ:k=d.bu.length:=by have h:=V;simp only[decide_eq_false_iff_not]at h;omega
 have aeX:cs=abP vA d.bu 0 d.cells:=by rw[<-pJ,dZ,List.drop_length];rfl
 refine aL<|lf 1 ru Z<|ab (zB 2005 VH VI Z) Z<|Y<|aS ?_;refine mi (fY vs (l9 cs)) [4,5] [1,2002,2004,2005] ?_;refine AW.pi 2 2005 1 192 2 rfl x_3 rfl ?_;rw[aeE];have abu:dS (sY vs [] ⟨cs,[]⟩):=TJ;refine aL<|aP qm mE Z<|ab (zB 2004 Dv Dw Z) Z<|Y<|aR ?_;rw[adB hd,<-aeX];refine vW (F1:=(sY vs [] ⟨cs,[]⟩)) (Gn) (DS vs [] ⟨cs,[]⟩) ?_ (by unfold sY;rw[List.length_append,jC];simp[fY];omega) rfl rfl ⟨rfl,rfl,trivial⟩ ki;exact⟨vs,[],gl,rfl,rfl,rfl,rfl⟩

theorem amT(h:mm)(vA:List Int)(hd:HbD h)(hq:zV h=true):GN Tryz.prog 20 [Bu h,inV vA] [] ([]) (La (acU h.log.bT vA)):=by
 refine GN.intro (rs:=[.cell 4 43 (some 2)]) Tryz.func20 rfl Tryz.ntmps20 x_8 x_81 rfl ?_;intro L O w0;refine sL<|ab (zX 2002 Z) Z<|ab (zA 2004 Du Z) Z<|Y<|aS<|sL<|aP kj EZ Z<|ab (zC [] [] [] Tryz.func31 (aj5 hd) (trivial) Z Z) Z<|bX Z<|Y<|cE rfl ?_ ?_
 ·intro V;refine aS ?_;exact absurd V (by simp[hq])
 intro V;refine aK<|gA<|lf 0 qL Z<|lf 0 Bv Z<|aP nq mE Z<|bm Z ?_;refine A1 (A2 (F:=[]) [(1,1),(2,2)] [1,2] [] ([]).length Tryz.func72 (aha h.log.bT vA (af4 hq)) ki List.drop_length List.take_length (Nat.le_refl _) (x_20) (fun _ _ _ _=>trivial) rfl rfl) rfl ?_;rintro _ _ ⟨xz1,oz1,Fz1,fa,hF1,hM1,rfl,rfl⟩;obtain⟨vs,us,hv,hu,rfl,rfl,rfl⟩:=fa;have E7:dS ([]++sY vs us (acU h.log.bT vA)):=dS.gJ x_32 hF1;refine ab (zB 2004 Dv Dw Z) Z<|Y<|aR ?_;have abu:dS (sY vs us (acU h.log.bT vA)):=TJ;rw[List.nil_append];have gR:=(wL (aii (vA:=vA) (af4 hq) hd.db).1).1;refine vW (F1:=(sY vs us (acU h.log.bT vA))) (Gn) (DS vs us (acU h.log.bT vA)) ?_ (by rw[SD hv hu];omega) rfl rfl ⟨rfl,rfl,trivial⟩ ki;exact⟨vs,us,hv,hu,rfl,rfl,rfl⟩
theorem amU(h:mm)(vA:List Int)(hd:HbD h)(hq:zV h=true):GC Tryz.prog 20 [Bu h,inV vA] [] (mt (crD h vA)) []:=by
 rw[agM hq];exact SE (amT h vA hd hq)

theorem amV(code:List Int):GC Tryz.prog 7 [.p (.ab 5 1 (ah ahN code))] [] (aD true) []:=by
 refine gi 2 Tryz.func7 rfl Tryz.ntmps7 rfl ?_;intro L O w0;refine sL<|ar Z<|Y<|aS<|sL<|bm Z<|ba kE Z<|ak Z<|Y<|cE rfl ?_ ?_
 ·intro V;refine sL<|cI Z<|Y<|aR<|rT ?_;refine ax ?_ trivial;rfl
 intro V;refine aK<|gA<|bm Z ?_;refine alX [] [] [] Tryz.func32 (amS amM code (by have h:=V;simp only[ap,gt_iff_lt,decide_eq_false_iff_not]at h;omega)) (trivial) (fun _ _ _=>trivial) Z ?_;intro xz1 oz1 fa;obtain⟨k,h,vA,hk,⟨⟨⟨hd,hwt⟩,FZ⟩,hcp⟩,rfl,rfl⟩:=fa;refine cT (.au [kj,c7]) Z<|iB kj Z<|rF Z<|ab (zA 2003 Ig Z) Z<|ab (zB 2003 NA NB Z) Z<|nv Z<|Y<|aS ?_;obtain⟨p,hc⟩:=hcp x_2;have ok:=hc.ok;have hE:=amQ hc hd.db vA;have hbD:=ahF (vA:=vA) hd;have hdO:=akH hbD;refine aL<|aP kj EZ Z<|bm Z<|ab (zC [] [] [] Tryz.func20 (amU h vA hd ok) (trivial) Z Z) Z<|lT [2,3,24] [2003] ?_;refine ab (zA 2005 Du Z) Z<|ab (zB 2005 Dv Dw Z) Z<|nA<|aP nq mE Z<|ab (zC [] [] [] Tryz.func29 (afw (crD h vA) hbD) (trivial) Z Z) Z<|cT (.au [kj,c6]) Z<|iB kj Z<|dE Z<|ab (zA 2006 Ig Z) Z<|ab (zB 2006 NA NB Z) Z<|ao Z<|Y<|aS<|sL<|ae Z<|ak Z<|Y<|cE rfl ?_ ?_
 ·intro h2;refine sL<|ae Z<|ak Z<|bJ 33 true rfl (decide_eq_true (hE.c2 x_70))<|bM Z<|lf 0 n9 Z<|bo oB Z<|ba po rfl ?_;refine dC 37 (int ((crD h vA).cells.length:Int)) (congrArg (fun n:Nat=>int (n:Int)) (fU _)) ?_;refine ak Z<|bJ 38 true rfl (decide_eq_true (by have:=(wL hE.dok).1;omega))<|aU Z<|cI Z<|Y<|aR<|rT ?_;refine ax ?_ trivial;rfl
 intro h2;refine aK<|gT<|aS ?_;have hz:y3 (crD h vA)=0:=by have h:=h2;simpa using h
 obtain⟨r,hr,hrl⟩:=hE.pre;have uQ:=hE.evs hz;have l1:=Ka h.log.bT;have hlr:(f8 h.log.bT).length=(f8 (crD h vA)).length+r.length:=by rw[hr,List.length_append]
 refine aL<|lf 0 qL Z<|lf 0 Bv Z<|aP nq mE Z<|ab (zC [] [] [] Tryz.func33 ((QU h.log.bT hd.db).ui) (trivial) Z Z) Z<|lT [2,3,6,43] [2003,2005,2006] ?_;refine nv Z<|nA<|lf 0 qL Z<|lf 0 Bv Z<|aP nq mE Z<|ab (zC [] [] [] Tryz.func33 ((QU (e6 (crD h vA)).log.bT hdO.db).ui) (trivial) Z Z) Z ?_;refine dC 47 (.p (.ab 81 7 (ah fR (f8 (crD h vA))))) (congrArg (fun l=>AV.p (.ab 81 7 (ah fR l))) uQ) ?_;refine nv Z<|Y<|aS<|sL<|bm Z<|ba jZ Z ?_;refine dC 49 (int ((f8 (crD h vA)).length:Int)) (congrArg (fun n:Nat=>int (n:Int)) (ap ..)) ?_;refine bm Z<|ba jZ Z ?_;refine dC 51 (int ((f8 h.log.bT).length:Int)) (congrArg (fun n:Nat=>int (n:Int)) (ap ..)) ?_;refine ak Z<|bJ 52 false rfl (decide_eq_false x_2)<|dm Z<|bm Z<|ba jZ rfl ?_;refine dC 55 (int ((f8 (crD h vA)).length:Int)) (congrArg (fun n:Nat=>int (n:Int)) (ap ..)) ?_;refine bm Z<|ba jZ Z ?_;refine dC 57 (int ((f8 h.log.bT).length:Int)) (congrArg (fun n:Nat=>int (n:Int)) (ap ..)) ?_;refine lf 12 Bz Z<|bo tE Z<|ba jZ Z ?_;refine dC 60 (int (h.wait.length:Int)) (congrArg (fun n:Nat=>int (n:Int)) (ap ..)) ?_;refine bg Z<|ak Z<|bJ 62 false rfl (decide_eq_false x_2)<|bL Z<|dm Z<|bm Z<|ba jZ rfl ?_;refine dC 66 (int ((f8 h.log.bT).length:Int)) (congrArg (fun n:Nat=>int (n:Int)) (ap ..)) ?_;refine lf 0 qL Z<|lf 0 Bv Z<|aP nq mE Z<|ab (zC [] [] [] Tryz.func34 ((QW h.log.bT hd.db).ui) (trivial) Z Z) Z<|lT [2,6,8,9,64,66,70] [2003,2005,2006] ?_;refine ba jZ rfl ?_;refine dC 71 (int ((f8 h.log.bT).length:Int)) (congrArg (fun n:Nat=>int (n:Int)) (ap ..)) ?_;refine ak Z<|bJ 72 false rfl x_20<|bL Z<|Y<|aN Z<|aK<|gT<|aS<|sL<|bm Z<|ba jZ rfl ?_;refine dC 75 (int ((f8 (crD h vA)).length:Int)) (congrArg (fun n:Nat=>int (n:Int)) (ap ..)) ?_;refine ae Z<|Y<|aB ?_;refine aW [2,6,8,9,75] [2003,2005,2006] (D:=Nat) (fun a=>[(76,int (a:Int))]) (fun a=>[]) (fun a=>a<=(f8 (crD h vA)).length) (fun a=>(f8 (crD h vA)).length-a) (0) (Nat.zero_le _) ⟨rfl,trivial⟩ trivial ?_;intro al5 hI;replace hI:al5<=(f8 (crD h vA)).length:=hI;refine sL<|ak Z<|Y<|aS<|cE rfl ?_ ?_
 ·intro h3;refine aK<|gT<|aS<|aB<|aS ?_;have yF:al5<(f8 (crD h vA)).length:=by have h:=h3;simp only[decide_eq_true_eq]at h;omega
  have hrw:(ah fR (f8 h.log.bT))[al5]? = some ((fR (f8 (crD h vA))[al5]).map PV.v):=by rw[hr];unfold ah;rw[List.getElem?_map,List.getElem?_append_left yF,List.getElem?_eq_getElem yF];rfl
  refine aL<|ae Z<|ao Z<|Y<|aS<|aF []<|pq 0 (iz rfl)<|pq 1 (gL c6 rfl)<|sq 2 (ri al5 jk rfl (bS yF))<|sq 3 (gm iK dD rfl)<|pq 4 (iz rfl)<|vq 5 (dW rfl)<|vq 6 (ri al5 jk rfl (hrw))<|vq 7 (gm iK dD rfl)<|vq 8 (rd (x:=fy) (j0 rfl (.inr rfl) rfl rfl oz pe pf pg ?hn1) rfl) ?_;case hn1=>exact⟨rfl,by decide,rfl,⟨_,Tryz.underlying3⟩,rfl,by decide,rfl,⟨_,Tryz.underlying3⟩,rfl,by decide,rfl,⟨_,Tryz.underlying3⟩,rfl,by decide,rfl,⟨_,Tryz.underlying3⟩,rfl,by decide,rfl,⟨_,Tryz.underlying3⟩,rfl,by decide,rfl,⟨_,Tryz.underlying3⟩,by decide,rfl,Tryz.underlying4,trivial⟩
  refine nw 87 false rfl (by simp[fR,dA])<|fD<|gT<|aN Z<|aK<|gB<|gT<|aL<|bg Z<|ae Z<|Y ?_;refine⟨(al5+1),yF,by show (f8 (crD h vA)).length-(al5+1)<(f8 (crD h vA)).length-al5;omega,x_11,trivial,rfl,rfl⟩
 intro h3;refine aE<|eT<|eT<|eB<|gT<|aS ?_;have okO:=amg hz;have jr:(e6 (crD h vA)).book=(de (f8 (crD h vA))).now:=by rw[ac5 hz]
 have JD:mC (de (f8 (crD h vA))).now (e6 (crD h vA)).book=true:=by rw[jr];unfold mC;rw[<-jr,(aiF okO).bok,aja];rfl
 have hwf:=hdO.wf;rw[jr]at hwf;have l2:=Ka (crD h vA);refine aL<|ab (zC [] [] [] Tryz.func36 (QH) (trivial) Z Z) Z<|lT [2,6,9,90] [2003,2005,2006] ?_;refine bm Z<|ab (zC [] [] [] Tryz.func35 (QI pm (f8 (crD h vA)) FT (Dp (crD h vA)) x_2) (trivial) rfl rfl) Z<|cT (.au [h1,c7,c7]) Z<|iB h1 Z<|rF Z<|rF Z<|ab (zA 2011 mD rfl) Z<|ab (zB 2011 eu ew rfl) Z<|nv Z<|nv Z<|nA<|aP kj EZ Z<|ab (zC [] [] [] Tryz.func31 (aj5 hdO) (trivial) rfl rfl) Z<|bJ 97 true rfl (okO)<|bM Z<|aP h1 cu Z<|lf 4 Bw Z<|aP h1 cu Z<|ab (zC [] [] [] Tryz.func37 (Qz (de (f8 (crD h vA))).now (e6 (crD h vA)).book hwf hdO.wf) (trivial) rfl rfl) Z<|bJ 102 true rfl (JD)<|lT [2,98,102] [2003,2005,2006,2011] ?_;refine aU Z<|cI Z<|Y<|aR ?_;refine ax ?_ trivial;rfl

theorem amW(l:List Int)(a:Option Addr)(c:Nat)(w:World)(h0:dd 1 yb w 0 w.heap.size (.slice a l.length c) l) :
 Calls Tryz.prog 7 #[.slice a l.length c] w fun r w'=>r=.returned (.bool true)/\cZ w w':=
 Xx (cs:=[_]) rfl (amV l) (by
  simp only[bf];exact⟨_,_,rfl,wU (enc:=ahN) h0 (fun _ _ h=>h.1) (fun _=>rfl) (by intro c u hu;simp[ahN]at hu;subst hu;rfl) (Nat.le_refl _) (fun _ _ _=>mh),rfl⟩)
end Go.Proofs.YtflhgkmhmcfimaaGreat

namespace Go.Proofs.YtflhgkmhmcfimaaGreat.fnCrash
open Go.ChangeShapes Go.WideShapes Go.ChangeAt Go.RowKit Go.Proofs.YtflhgkmhmcfimaaGreat
set_option maxHeartbeats 16000000
set_option maxRecDepth 100000
set_option linter.unusedVariables false
theorem own:ownKnob Tryz.prog.godebug=none:=by kernel_rfl
theorem laid:laidOutB Tryz.prog=true:=by kernel_rfl
theorem readable:∀t∈[76],Tryz.prog.readableRec t=true/\t<Tryz.prog.types.size:=by
 intro t ht;simp only[List.mem_cons,List.not_mem_nil,or_false]at ht;rcases ht with rfl;all_goals exact⟨by kernel_rfl,of_decide_eq_true x_37⟩
theorem lifted(os:Os)(started:os.Started)(H:Type)(enc:TypeId×Value->H) :
 ReturnsInHanded {} Tryz.checked os 7 .any (Rows.fnCrashSpec.pre6 enc Tryz.prog Tryz.f7 Rows.fnCrashRow.domain false) (Rows.fnCrashSpec.post enc Tryz.prog Tryz.f7 false true false false):=by
 refine returnsInHanded_of_change (C:=Tryz.checked) own started x_37 Tryz.func7
  (ChangeSpec.witness6 (enc:=enc) (C:=Tryz.checked) false ⟨#[],#[.slice none 0 0],[]⟩ 8 x_37 x_37 x_37 x_37) ?_
 intro W base args ds gs before O2 hW aby _
 have O3:∀(j:Nat) t v,Tryz.f7.params[j]? = some t->args[j]? = some v->Value.okWide Tryz.prog W .any base t v:=O2
 have O4:=hW
 obtain⟨p,q,O5,hV,rfl,hfz,jU⟩:=hW
 have hA:DataW.TrodAll enc Tryz.prog W 0 (fun _=>true) true Tryz.f7.params.toList args.toList ds p:=O5
 rw[Tryz.params7]at hA O3
 have hB:=hA
 obtain⟨v0,vs0,d0,ds0,p0,q0,pF,rfl,rfl,h0,r0⟩:=trodAll_cons hA
 obtain⟨rfl,rfl,rfl⟩:=trodAll_nil r0
 obtain rfl:args=#[v0]:=by cases args;simp_all
 obtain⟨rfl,rfl⟩:=trodVars_none hV
 obtain⟨a0,l0,c0,rfl⟩:=okWide_slice Tryz.underlying76 (O3 0 76 v0 rfl rfl)
 obtain⟨fu0,t0⟩:=h0
 obtain⟨x0,afR⟩:=tG (dg:=yb) Tryz.underlying76 Kk x_3 (fun _ _ _ h=>Kl h) t0
 obtain rfl:l0=x0.length:=by obtain⟨_,_,he,_⟩:=afR;injection he
 clear O5 O2
 simp only[List.append_nil]at O4
 refine(amW x0 a0 c0 W afR).mono fun e W' ⟨he,hg⟩=>?_
 subst he
 exact⟨_,rfl,_,_,_,_,_,[],O4,trodAll_mk1 (shut_bool Tryz.underlying4 true),
  Pk laid hg.below (readable) hB,rfl,hg.below.frame _,fun h=>by cases h⟩
theorem YN:(Rows.fnCrashRow.inPlace==Tryz.pinned.checked.prog.inPlace 7)=true:=by kernel_rfl
theorem YO:(Rows.fnCrashRow.unfollowed==Tryz.pinned.checked.prog.unfollowed 7)=true:=by kernel_rfl
theorem YP:(Rows.fnCrashRow.recurses==Tryz.pinned.checked.prog.recurses 7)=true:=by kernel_rfl
theorem YQ:(Rows.fnCrashRow.named==Tryz.pinned.checked.prog.varsNamed 7)=true:=by kernel_rfl
theorem YR:Tryz.pinned.checked.prog.funcNamed Rows.fnCrashRow.func=some 7:=by kernel_rfl
theorem closed:joinedFacts Tryz.pinned.checked.prog 7 Tryz.f7 Rows.fnCrashSpec Rows.fnCrashRow=true:=by
 unfold joinedFacts;rw[YN,YO,YP,YQ];kernel_rfl
theorem YS:Rows.fnCrashRow.holds Tryz.pinned (OpenSpec.ofChange Rows.fnCrashSpec):=
 OpenClaim.holds_of_wide 7 Tryz.f7 rfl rfl rfl rfl rfl rfl rfl ⟨rfl,rfl,rfl,rfl,rfl⟩ rfl rfl rfl rfl rfl YR Tryz.func7 closed
  (of_decide_eq_true x_37) (by unfold Func.isWrapper;first|(rw[if_pos (by decide +kernel)];kernel_rfl)|(rw[if_neg (by decide +kernel)];exact⟨rfl,rfl⟩))
  (fun os started H enc _=>lifted os started H enc)
theorem proved:Rows.FnCrashSaid:=
 YS
#print axioms proved
end Go.Proofs.YtflhgkmhmcfimaaGreat.fnCrash

