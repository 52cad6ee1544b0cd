/- Texts of the proof of FnFnTaken, joined: EY0, HubT, AppF, E39, EY1, E34, EQ1, EQ3, E41, EY2. -/
import Derived.Test.YtflhgkmhmcfimaaGreatJTaken19
import Derived.Test.YtflhgkmhmcfimaaGreatJTaken18
import Derived.Test.YtflhgkmhmcfimaaGreatJTaken4
import Derived.Test.YtflhgkmhmcfimaaGreatJTaken13
import Derived.Test.YtflhgkmhmcfimaaGreatJTaken17
namespace Go.Proofs.YtflhgkmhmcfimaaGreat
open Tryz
open Go.RowKit
set_option maxHeartbeats 16000000
set_option maxRecDepth 100000
set_option linter.unusedSimpArgs false
set_option linter.unusedVariables false
theorem ajO(u:Value)(d:du)(hs:DkS d):GC prog 131 [.agg [.own 31,.p (.ab 192 2 (oT d.bu))]] [(31,.ai ⟨195,some u⟩ 1 (oS d.cells))] (Gn) (SH d++[(31,.ai ⟨195,some u⟩ 1 (oS d.cells))]):=by
 refine GC.intro (rs:=[.cell 2 43 (some 2)]) func131 rfl ntmps131 x_7 x_140 ?_;intro L O w0;refine sL<|ab (zX 2001 Z) Z<|ab (zA 2002 Du Z) Z<|nA<|lq (rd (x:=.agg [vV _,vV _]) (cP Z adU Z Z Z) Z)<|ab (zA 2003 Du Z) Z<|ab (zB 2003 Dv Dw Z) Z<|Y<|aS<|aS ?_;refine AW.pi 1 2003 0 195 1 rfl (by decide) rfl ?_;refine AW.pi 2 2003 1 192 2 rfl (by decide) rfl ?_;refine aL<|lf 0 n9 Z<|iO oB Z<|ba po Z ?_;refine dC 11 (int (d.cells.length:Int)) (congrArg (fun n:Nat=>int (n:Int)) (fU _)) ?_;refine ae Z<|Y<|aB ?_;refine aW [1,2,3,10,11] [2,31,2001,2002,2003] (D:=Nat) (fun a=>[(12,int (a:Int))]) (fun a=>[(1,.ai 195 1 (oS (d.cells.take a)))]) (fun a=>a<=d.cells.length) (fun a=>d.cells.length-a) (0) (Nat.zero_le _) ⟨rfl,trivial⟩ ⟨rfl,trivial⟩ ?_;intro k hI;have eN:k<=d.cells.length:=hI;refine sL<|ak Z<|Y<|aS ?_;refine AW.cond rfl ?_ ?_
 ·intro V;refine aK<|gT<|aS<|aB<|aS ?_;have hk:k<d.cells.length:=by have h:=V;simp only[decide_eq_true_eq]at h;omega
  have oF:=hs.lc;refine aL<|lq (rj k xE rfl (by rw[fU];exact hk))<|lq (rd (x:=.agg [vL _ _ _]) (dT rfl zn rfl rfl rfl (vw hk) rfl) rfl)<|ab (zA 2005 CB rfl) Z<|ab (zB 2005 E2 E3 rfl) Z<|lT [1,2,3,5,10,11,12] [1,2,31,2001,2002,2003,2005] ?_;refine Y<|aG 10 [1,2018]<|tq 0 (rf 0 n9 rfl)<|tq 1 (gC oB rfl)<|tq 3 (rf 0 uB rfl)<|tq 4 (jj kb rfl)<|cm 2 rfl (zS 2018 (ah dF []) fh ie rfl x_124)<|cm 5 rfl (zP 2018 fh ie mu rfl (Src.p rfl) (by have:=hs.bc _ (List.getElem_mem hk);simp[ah];omega)) ?_;refine AG.freeze 2018 rfl ?_;refine yq 6 (rd (x:=.agg [vL _ _ _]) (cP rfl acN rfl rfl rfl) rfl)<|cm 7 rfl (zS 2023 [[nQ d.cells[k].bytes]] xE CB rfl x_65)<|cm 8 rfl (zP 1 xE CB VT rfl x_14 x_97)<|yq 9 (rf 0 n9 rfl)<|yl rfl (zB 2003 VF VG rfl)<|gB<|gT<|aL<|bg Z<|ae Z<|Y ?_;refine⟨(k+1),hk,by show d.cells.length-(k+1)<d.cells.length-k;omega,x_10,⟨(congrArg (AO.ai 195 1) (aeM hk)),trivial⟩,rfl,rfl⟩
 intro V;refine aE<|eT<|eT<|eB<|gT<|aS<|aS ?_;have dZ:k=d.cells.length:=by have h:=V;simp only[decide_eq_false_iff_not]at h;omega
 subst dZ;rw[List.take_length];refine aL<|lf 1 ru Z<|bo sk Z<|ba vT Z ?_;refine dC 29 (int (d.bu.length:Int)) (congrArg (fun n:Nat=>int (n:Int)) (pH _)) ?_;refine ae Z<|Y<|aB ?_;refine aW [2,3,28,29] [1,31,2001,2002,2003] (D:=Nat) (fun a=>[(30,int (a:Int))]) (fun a=>[(2,.ai 192 2 (oT (d.bu.take a)))]) (fun a=>a<=d.bu.length) (fun a=>d.bu.length-a) (0) (Nat.zero_le _) ⟨rfl,trivial⟩ ⟨rfl,trivial⟩ ?_;intro j hI;have ro:j<=d.bu.length:=hI;refine sL<|ak Z<|Y<|aS ?_;refine AW.cond rfl ?_ ?_
 ·intro h2;refine aK<|gT<|aS<|aB<|aS ?_;have hj:j<d.bu.length:=by have h:=h2;simp only[decide_eq_true_eq]at h;omega
  have hlw:=hs.lw;refine aL<|li j uz Z (td hj)<|d6 (.agg [U _ _,vL _ _ _]) AY Z<|ab (zA 2007 CA Z) Z<|lT [2,3,7,28,29,30,33] [1,2,31,2001,2002,2003,2007] ?_;refine ab (zB 2007 E0 E1 rfl) Z<|Y<|aG 12 [2,2038]<|tq 0 (rf 1 ru rfl)<|tq 1 (gC sk rfl)<|tq 2 (rf 0 xG rfl)<|tq 3 (aZ ac rfl)<|tq 5 (rf 1 zm rfl)<|tq 6 (jj kb rfl)<|cm 4 rfl (zS 2038 (ah dF []) fh ie rfl x_124)<|cm 7 rfl (zP 2038 fh ie mu rfl (Src.p rfl) (by have:=hs.bw _ (List.getElem_mem hj);simp[ah];omega)) ?_;refine AG.freeze 2038 rfl ?_;refine yq 8 (rd (x:=.agg [U _ _,vL _ _ _]) (cP rfl acq rfl rfl rfl) rfl)<|cm 9 rfl (zS 2043 [[.v (.int .i64 d.bu[j].at_),nQ d.bu[j].bytes]] uz CA rfl x_65)<|cm 10 rfl (zP 2 uz CA VS rfl x_14 x_97)<|yq 11 (rf 1 ru rfl)<|yl rfl (zB 2003 VH VI rfl)<|gB<|gT<|aL<|bg Z<|ae Z<|Y ?_;refine⟨(j+1),hj,by show d.bu.length-(j+1)<d.bu.length-j;omega,x_10,⟨(congrArg (AO.ai 192 2) (adr hj)),trivial⟩,rfl,rfl⟩
 intro h2;refine aE<|eT<|eT<|eB<|gT<|aS ?_;have Ji:j=d.bu.length:=by have h:=h2;simp only[decide_eq_false_iff_not]at h;omega
 subst Ji;rw[List.take_length];refine aL<|aP (.agg [.own _,.own _]) mE Z<|ab (zB 2002 Dv Dw Z) Z<|lT [2] [1,2,31,2001,2002,2003] ?_;refine Y<|aR ?_;refine ax ?_ ⟨rfl,rfl,rfl,trivial⟩;rfl
theorem ajP(u:Value)(d:du)(vA:List Int)(hd:ik d=true):GC prog 71 [.agg [.own 31,.p (.ab 192 2 (oT d.bu))],inV vA] [(31,.ai ⟨195,some u⟩ 1 (oS d.cells))] (Gn) (SH (acU d vA)++[(31,.ai ⟨195,some u⟩ 1 (oS d.cells))]):=by
 refine GC.intro (rs:=[.cell 4 43 (some 2)]) func71 rfl ntmps71 x_7 x_140 ?_;intro L O w0;refine sL<|ab (zX 2002 Z) Z<|ab (zA 2004 Du Z) Z<|Y<|aS<|aS ?_;have gR:=(wL hd).1;refine aL<|aP (.agg [.own _,vL _ _ _]) mE Z<|ab (zL func87 (FU d) Z) Z<|bJ 12 true Z (hd)<|ma Z<|Y<|aN Z<|aK<|gA<|aP (.agg [.own _,vL _ _ _]) mE Z ?_;refine ab (zC [(1,1),(2,2),(31,31)] [1,2] [31] func131 (ajO u d (acF hd)) (⟨stays.ai rfl,trivial⟩) rfl rfl) Z<|ab (zA 2005 Du rfl) Z<|ab (zB 2005 Dv Dw rfl) Z<|nA<|lf 1 ru Z<|ab (zB 2005 VH VI rfl) Z<|Y<|aS<|sL<|lf 1 ru Z<|bo sk Z<|ba vT rfl ?_;refine dC 20 (int (d.bu.length:Int)) (congrArg (fun n:Nat=>int (n:Int)) (pH _)) ?_;refine ae Z<|Y<|aB ?_;refine aW [1,4,5,19,20] [31,2002,2004,2005] (D:=Nat×List Cell) (fun a=>[(21,int (a.1:Int))]) (fun a=>[(1,.ai 195 1 (oS a.2))]) (fun a=>a.1<=d.bu.length/\a.2.length=d.cells.length/\a.2.all lL=true/\abP vA (d.bu.drop a.1) a.1 a.2=abP vA d.bu 0 d.cells) (fun a=>d.bu.length-a.1) ((0,d.cells)) (⟨Nat.zero_le _,rfl,(wL hd).2.1,rfl⟩) ⟨rfl,trivial⟩ ⟨rfl,trivial⟩ ?_;intro ⟨k,cs⟩ hI;obtain⟨eN,qH,hco,pJ⟩:=hI;replace eN:k<=d.bu.length:=eN;replace qH:cs.length=d.cells.length:=qH;replace hco:cs.all lL=true:=hco;replace pJ:abP vA (d.bu.drop k) k cs=abP vA d.bu 0 d.cells:=pJ;refine sL<|ak Z<|Y<|aS ?_;refine AW.cond rfl ?_ ?_
 ·intro V;refine aK<|gT<|aS<|aB<|aS ?_;have hk:k<d.bu.length:=by have h:=V;simp only[decide_eq_true_eq]at h;omega
  have MQ:=acW hd hk;have abV:d.bu[k].at_.toNat<cs.length:=by omega
  refine aL<|ae Z<|li k uz Z (td hk)<|d6 (.agg [U _ _,vL _ _ _]) AY Z<|ab (zA 2007 CA Z) Z<|lT [1,4,5,7,19,20,21,23,25] [1,31,2002,2004,2005,2007] ?_;refine ao Z<|ab (zB 2007 E0 E1 Z) Z<|nA<|ao Z<|Y ?_;refine aJ [1,4,5,7,19,20,21] [1,31,2002,2004,2005,2007] (D:=Unit) (fun jd=>[(8,int ((vA[k]?).getD 0))]) (fun jd=>[]) (fun jd=>True) ?_ ?_
  ·refine sL<|ae Z<|bm Z<|ba x4 Z<|ak Z<|Y ?_;refine AW.cond rfl ?_ ?_
   ·intro h2;have uG:k<vA.length:=by have h:=h2;simp only[ap,decide_eq_true_eq]at h;omega
    refine aL<|bm Z<|ae Z<|li k iU Z (bS uG)<|oy ac Z<|ao Z<|Y ?_;refine⟨(),trivial,⟨(Eq.trans (b:=int _) rfl (congrArg int (show vA[k]=((vA[k]?).getD 0) by rw[List.getElem?_eq_getElem uG];rfl))),trivial⟩,trivial,rfl,rfl⟩
   intro h2;refine aK<|gT ?_;refine⟨(),trivial,⟨(Eq.trans (b:=int _) rfl (congrArg int (show (0:Int)=((vA[k]?).getD 0) by rw[List.getElem?_eq_none (by have h:=h2;simp only[ap,decide_eq_false_iff_not]at h;omega)];rfl))),trivial⟩,trivial,rfl,rfl⟩
  intro jd hJ;refine aS<|sL<|ae Z<|ak Z<|Y ?_;refine AW.cond rfl ?_ ?_
  ·intro h3;refine aE<|eT<|eB<|gT ?_;have acH:((vA[k]?).getD 0)<1:=by have h:=h3;simpa using h
   refine aL<|bg Z<|ae Z<|Y ?_;refine⟨(k+1,cs),⟨hk,qH,hco,by rw[<-pJ,acZ hk,aeQ acH]⟩,by show d.bu.length-(k+1)<d.bu.length-k;omega,x_10,⟨rfl,trivial⟩,rfl,rfl⟩
  intro h3;refine aK<|gT<|aS ?_;have acH:¬((vA[k]?).getD 0)<1:=by have h:=h3;simpa using h
  have TP:=adA (ac2 hco abV);refine aL<|lf 0 n9 Z<|iO oB Z<|lf 0 xG Z<|aj ac Z<|lq (rd (x:=.ptr 1 _ 0) (pu (i:=d.bu[k].at_.toNat) rfl xE rfl rfl rfl ?hn1 (by rw[fU];exact abV)) rfl) ?_;case hn1=>exact(Int.toNat_of_nonneg MQ.1).symm
  refine lf 0 uB Z<|lq (rd (x:=vL _ _ _) (dT rfl kb rfl rfl rfl (vw abV) rfl) rfl)<|ab (zC [(1,2043)] [2043] [] func154 (Zy cs[d.bu[k].at_.toNat].bytes (Nat.le_trans (aeV (ac2 hco abV)) (by decide))) (trivial) rfl rfl) Z<|bD Z<|Y<|aS<|sL<|ao Z<|Y<|aB ?_;refine aW [1,4,5,7,8,9,19,20,21] [1,31,2002,2004,2005,2007] (D:=Nat) (fun b=>[(10,int (b:Int))]) (fun b=>[(2043,iT (abL cs[d.bu[k].at_.toNat].bytes d.bu[k].bytes b))]) (fun b=>b<=128/\(b:Int)<=((vA[k]?).getD 0)) (fun b=>128-b) (0) (⟨Nat.zero_le _,by omega⟩) ⟨rfl,trivial⟩ ⟨(Eq.trans (b:=iT (yP cs[d.bu[k].at_.toNat].bytes)) rfl (congrArg iT aeS.symm)),trivial⟩ ?_;intro m hI;obtain⟨hm1,hm2⟩:=hI;replace hm1:m<=128:=hm1;replace hm2:(m:Int)<=((vA[k]?).getD 0):=hm2;refine aS<|sL<|ae Z<|ae Z<|ak Z<|aQ Z ?_;refine AL.bool (t:=47) rfl ?_ ?_
  ·intro h4;refine ae Z<|ak Z<|bj Z<|Y ?_;refine AW.cond rfl ?_ ?_
   ·intro h5;refine aK<|gT<|aS<|aB ?_;have hm:(m:Int)<((vA[k]?).getD 0)/\m<128:=by
     have V:=h4;have h2:=h5;simp only[decide_eq_true_eq]at V h2;omega
    have vX:=Jk hd hk;have vd:=ac1 (m:=m) TP vX (by omega);refine aL<|bW Z<|ae Z<|lf 1 zm Z<|bo kb Z<|ae Z<|li m fh rfl (bS (by omega))<|oy tf Z<|lq (rj m fh rfl (by rw[ap];omega))<|ab (zQ 2043 [.v (.int .u8 (d.bu[k].bytes[m]'(by omega)))] Vs Vt rfl (bS (by omega))) Z<|lT [1,4,5,7,8,9,10,19,20,21] [1,31,2002,2004,2005,2007,2043] ?_;refine lN<|gB<|gT<|aL<|ae Z<|bg Z<|ao Z<|Y ?_;refine⟨(m+1),x_106,by show 128-(m+1)<128-m;omega,x_10,⟨(Eq.trans (congrArg (AO.ai 5 1) aeU) (congrArg iT (aeR TP (Jk hd hk) (by omega)))),trivial⟩,rfl,rfl⟩
   intro h5;refine aE<|eT<|eT<|eB<|gT ?_;have ac3:((vA[k]?).getD 0)<=m\/128<=m:=by first|(have h:=h5;simp only[decide_eq_false_iff_not]at h;omega)|(have h:=h4;simp only[decide_eq_false_iff_not]at h;omega)|(have h:=h3;simp only[decide_eq_false_iff_not]at h;omega)|(have h:=V;simp only[decide_eq_false_iff_not]at h;omega)
   refine aL<|lf 0 n9 Z<|iO oB Z<|lf 0 xG Z<|aj ac Z<|bW Z<|lq (rd (x:=.ptr 1 _ 0) (pu (i:=d.bu[k].at_.toNat) rfl xE rfl rfl rfl ?hn2 (by rw[fU];exact abV)) rfl) ?_;case hn2=>exact(Int.toNat_of_nonneg MQ.1).symm
   refine lf 0 uB rfl ?_;refine AL.freeze 2043 rfl ?_;refine ab (zQ 1 [nQ (abL cs[d.bu[k].at_.toNat].bytes d.bu[k].bytes m)] Ih Ii Z (vw abV)) Z<|lN<|gB<|gT<|aL<|bg Z<|ae Z<|Y ?_;refine x_41
  intro h4;refine aa Z<|aa Z<|bL Z<|Y<|aN Z<|aE<|eT<|eT<|eB<|gT ?_;have ac3:((vA[k]?).getD 0)<=m\/128<=m:=by first|(have h:=h4;simp only[decide_eq_false_iff_not]at h;omega)|(have h:=h3;simp only[decide_eq_false_iff_not]at h;omega)|(have h:=V;simp only[decide_eq_false_iff_not]at h;omega)
  refine aL<|lf 0 n9 Z<|iO oB Z<|lf 0 xG Z<|aj ac Z<|bW Z<|lq (rd (x:=.ptr 1 _ 0) (pu (i:=d.bu[k].at_.toNat) rfl xE rfl rfl rfl ?hn3 (by rw[fU];exact abV)) rfl) ?_;case hn3=>exact(Int.toNat_of_nonneg MQ.1).symm
  refine lf 0 uB rfl ?_;refine AL.freeze 2043 rfl ?_;refine ab (zQ 1 [nQ (abL cs[d.bu[k].at_.toNat].bytes d.bu[k].bytes m)] Ih Ii Z (vw abV)) Z<|lT [1,4,5,19,20,21] [1,31,2002,2004,2005,2007] ?_;refine lN<|gB<|gT<|aL<|bg Z<|ae Z<|Y ?_;refine x_41
 intro V;refine aE<|eT<|eT<|eB<|gT<|aS ?_;have dZ:k=d.bu.length:=by have h:=V;simp only[decide_eq_false_iff_not]at h;omega
 have aeX:cs=abP vA d.bu 0 d.cells:=by rw[<-pJ,dZ,List.drop_length];rfl
 refine aT [4,5] [1,31,2002,2004,2005] ?_;refine AW.pi 2 2005 1 192 2 rfl (by decide) rfl ?_;refine aL<|aP (.agg [.own _,.own _]) mE Z<|ab (zB 2004 Dv Dw Z) Z<|Y<|aR ?_;rw[adB hd,<-aeX];refine ax ?_ ⟨rfl,rfl,rfl,trivial⟩;rfl
abbrev ajQ(h:mm):AV:=.agg [.own 31,.p (.ab 192 2 (oT h.log.bT.bu)),int h.log.next,int h.log.dP,int h.book.tick,int h.book.next,int h.book.aA,.p (.ab 159 7 (ah aX h.book.ag)),.p (.ab 218 7 (ah go h.book.an)),.p (.ab 220 5 (ah iX h.book.aq)),int h.ia.last,.p (.ab 167 3 (ah ct h.ia.lines)),.own 32,.p (.ab 81 7 (ah fR h.f9))]
abbrev ai'(u v:Value)(h:mm):List (Nat×AO):=[(31,.ai ⟨195,some u⟩ 1 (oS h.log.bT.cells)),(32,.ai ⟨81,some v⟩ 7 (ah fR h.wait))]

theorem aie{α:Type}{enc:α->List Value}(he:∀a b,dA (enc a) (enc b)=true->a=b):∀ {a b:List α},lZ enc a b=true->a=b
 |[],[],_=>rfl
 |[],_::_,h=>by cases h
 |_::_,[],h=>by cases h
 |x::a,y::b,h=>by
  unfold lZ at h;rw[Bool.and_eq_true]at h;rw[he _ _ h.1,aie he h.2]
theorem aif{α:Type}{enc:α->List Value}(he:∀a,dA (enc a) (enc a)=true):∀(a:List α),lZ enc a a=true
 |[]=>rfl
 |x::a=>by unfold lZ;rw[he,aif he];rfl
theorem ajR(a b:be)(h:dA (aX a) (aX b)=true):a=b:=by
 cases a;cases b;simp[aX,dA]at h;simp[h]
theorem ajS(a b:eV)(h:dA (go a) (go b)=true):a=b:=by
 cases a;cases b;simp[go,dA]at h;simp[h]
theorem ajT(a b:gz)(h:dA (iX a) (iX b)=true):a=b:=by
 cases a;cases b;simp[iX,dA]at h;simp[h]
theorem ajU(a b:aO)(h:dA (ct a) (ct b)=true):a=b:=by
 obtain⟨⟨_,_⟩,_⟩:=a;obtain⟨⟨_,_⟩,_⟩:=b;simp[ct,dA]at h;simp[h]
theorem ajV{a b:aw}(h:kY a b=true):a=b:=by
 unfold kY at h;simp only[Bool.and_eq_true,decide_eq_true_eq]at h;obtain⟨⟨⟨⟨⟨V,h2⟩,h3⟩,h4⟩,h5⟩,h6⟩:=h;have e4:=aie ajR h4;have e5:=aie ajS h5;have afQ:=aie ajT h6;cases a;cases b;simp_all
theorem aja(a:aw):kY a a=true:=by
 unfold kY;rw[aif (fun a=>by simp[aX,dA]),aif (fun a=>by simp[go,dA]),aif (fun a=>by simp[iX,dA])];simp
theorem ajW{a b:cH}(h:qE a b=true):a=b:=by
 unfold qE at h;simp only[Bool.and_eq_true,decide_eq_true_eq]at h;have e:=aie ajU h.2;cases a;cases b;simp_all
theorem ajX(a:cH):qE a a=true:=by
 unfold qE;rw[aif (fun a=>by simp[ct,dA])];simp
structure aiE(h:mm):Prop where
 dok:ik h.log.bT=true
 nx:aI h.log.next 0 h.log.bT.cells.length=true
 ep:aI h.log.dP 1 16000000=true
 len:((dH h.log.bT).length:Int)=h.log.next
 rp:eL (f8 h.log.bT)=true
 book:h.book=(de (f8 h.log.bT)).now
 bok:eG h.book=true
 led:h.ia=(d5 (f8 h.log.bT)).1
 tail:pZ (f8 h.log.bT) (h.f9++h.wait)=true
theorem aiF{h:mm}(q:zV h=true):aiE h:=by
 unfold zV at q;simp only[Bool.and_eq_true,decide_eq_true_eq]at q;obtain⟨⟨⟨⟨⟨⟨⟨V,h2⟩,h3⟩,h4⟩,h5⟩,h6⟩,h7⟩,h8⟩:=q;unfold mC at h6;simp only[Bool.and_eq_true]at h6;exact⟨V,h2,h3,h4,h5,(ajV h6.2).symm,h6.1.2,(ajW h7).symm,h8⟩
theorem aiE.ok{h:mm}(g:aiE h):zV h=true:=by
 unfold zV;have hb:mC (de (f8 h.log.bT)).now h.book=true:=by unfold mC;rw[<-g.book,g.bok,aja];rfl
 rw[g.dok,g.nx,g.ep,decide_eq_true g.len,g.rp,hb,<-g.led,ajX,g.tail];rfl
def ahA(h:mm)(e:aV):Int:=if (dl h.book e).lines=[]then 0 else iv h.ia (dl h.book e)
def ahs(h:mm)(e:aV):cH:=if (dl h.book e).lines=[]then h.ia else iD h.ia (dl h.book e)
def ahr(h:mm)(e:aV):Int:=if zV h=true then (if dG h.book e=0 then (if aho h.log e=0 then (if ahA h e=0 then 0 else 22)else 21)else dG h.book e)else 20
def aht(h:mm)(e:aV):mm:=if ahr h e=0 then ⟨ahu h.log e,dp h.book e,ahs h e,h.wait++[e],h.f9⟩else acj
theorem ah6{h:mm}{e:aV}(q:ahr h e≠0):aht h e=acj:=if_neg q
theorem ahV{h:mm}{e:aV}(q:ahr h e=0):aht h e=⟨ahu h.log e,dp h.book e,ahs h e,h.wait++[e],h.f9⟩:=if_pos q
theorem aiG{h:mm}{e:aV}(q:zV h=false):ahr h e=20:=if_neg (by simp[q])
theorem aiH{h:mm}{e:aV}(q:zV h=true)(c:dG h.book e≠0):ahr h e=dG h.book e:=by unfold ahr;rw[if_pos q,if_neg c]
theorem aiI{h:mm}{e:aV}(q:zV h=true)(c:dG h.book e=0)(l:aho h.log e≠0):ahr h e=21:=by unfold ahr;rw[if_pos q,if_pos c,if_neg l]
theorem aiJ{h:mm}{e:aV}(q:zV h=true)(c:dG h.book e=0)(l:aho h.log e=0)(p:ahA h e≠0):ahr h e=22:=by unfold ahr;rw[if_pos q,if_pos c,if_pos l,if_neg p]
theorem aiK{h:mm}{e:aV}(q:zV h=true)(c:dG h.book e=0)(l:aho h.log e=0)(p:ahA h e=0):ahr h e=0:=by unfold ahr;rw[if_pos q,if_pos c,if_pos l,if_pos p]
theorem aiu{h:mm}{e:aV}(q:ahr h e=0):zV h=true/\dG h.book e=0/\aho h.log e=0/\ahA h e=0:=by
 cases V:zV h with
 |false=>rw[aiG V]at q;cases q
 |true=>
  by_cases h2:dG h.book e=0
  ·by_cases h3:aho h.log e=0
   ·by_cases h4:ahA h e=0
    ·exact⟨rfl,h2,h3,h4⟩
    rw[aiJ V h2 h3 h4]at q;cases q
   rw[aiI V h2 h3]at q;cases q
  rw[aiH V h2]at q;exact absurd q h2
theorem aiv{h:mm}{e:aV}(q:zV h=true):0<(dl h.book e).id↔(dl h.book e).lines≠[]:=by
 by_cases c:dG h.book e=0
 ·by_cases w:(bz h.book e).l=[]
  ·rw[(ub c w).2];simp
  rw[(rU c w).2];have:=(mX (aiF q).bok).next.1;simp[w];omega
 rw[(Oj c).2];simp
theorem ajY:ra pm ⟨0,[]⟩:=⟨QB,⟨List.Pairwise.nil,by simp,by simp,rfl,by simp⟩,rfl,rfl,fun _ _=>rfl,fun _ _=>rfl,fun _ _=>rfl⟩
theorem ajZ{es:List aV}(h:eL es=true):(d5 es).2=((de es).ps.length:Int):=by
 unfold eL at h;simp only[Bool.and_eq_true,decide_eq_true_eq]at h;exact h.2
theorem aj0(es:List aV):de es=bK pm es:=OO QB
theorem aj1{es:List aV}(h:eL es=true):ra (de es).now (d5 es).1:=by
 have hl:=ajZ h;have ha:=ajb ajY (es:=es) _ (Nat.le_refl _);rw[List.take_length]at ha;unfold d5 at hl ⊢;rw[aj0]at hl ⊢;exact ha.2 hl
theorem aj2{h:mm}(q:zV h=true):ra h.book h.ia:=by
 have g:=aiF q;rw[g.book,g.led];exact aj1 g.rp
theorem aj3{h:mm}{e:aV}(q:ahr h e=0):ra (aht h e).book (aht h e).ia:=by
 obtain⟨V,h2,h3,h4⟩:=aiu q;rw[ahV q];show ra (dp h.book e) (ahs h e);have ha:=aj2 V;unfold ahA at h4;unfold ahs;split
 ·rename_i r;exact ajc ha h2 r
 rename_i r;rw[if_neg r]at h4;exact S0 ha h2 r h4

abbrev aig(x:aw)(e:aV):AV:=.au [cj (dp x e),DT (dl x e),int (dG x e)]
theorem ajd{f:FuncId}{args:List AV}{x:aw}{e:aV}(h:GC prog f args [] (Dl x e) (zN x e)):GC prog f args [] (aig x e) []:=
 (GX.frozen (Z:=fun y=>y=aig x e) (show GX prog f args [] _ from h) fun y ob ⟨e1,e2⟩=>by
   subst e1 e2;exact⟨aig x e,Still.au (.cons (Still.agg (.cons (Still.p _) (.cons (Still.p _) (.cons (Still.p _) (.cons (Still.row (id:=11) (e:=⟨159,none⟩) (sz:=7) (rows:=ah aX (dp x e).ag) rfl) (.cons (Still.row (id:=12) (e:=⟨218,none⟩) (sz:=7) (rows:=ah go (dp x e).an) rfl) (.cons (Still.row (id:=13) (e:=⟨220,none⟩) (sz:=5) (rows:=ah iX (dp x e).aq) rfl) .nil)))))))
    (.cons (Still.agg (.cons (Still.p _) (.cons (Still.row (id:=14) (e:=⟨167,none⟩) (sz:=3) (rows:=ah ct (dl x e).lines) rfl) .nil))) (.cons (Still.p _) .nil))),rfl⟩).mono fun y o ⟨e1,e2⟩=>⟨e2,e1⟩
theorem aje(x:aw)(e:aV)(hw:di x):GC prog 41 [cj x,ju e] [] (aig x e) []:=ajd (Yi x e hw)
theorem aj4(x:aw)(e:aV)(hw:di x):GC prog 107 [cj x,ju e] [] (aig x e) []:=ajd (Yk x e hw)

section
variable {P:Program}{L O:Nat->Prop}{w0:World}{N:Nat}{Q:AQ}{τ:Nat->AV}{H:Nat->AO}{c:Code}
theorem RR.ahJ{ρ:Nat->Value}{fp:Nat->List Nat}{a:Act}{w:World}(h:RR L O w0 N τ H ρ fp a w){id:Nat}{T:TypeId}{cells ahD:List AV}{p:Option Value}(hH:H id=.box T p cells)(hi:ff cells ahD)(hl:ahD.length=cells.length)(hc:∀x∈ahD,x.cell=true):RR L O w0 N τ (aH H id (.box T p ahD)) ρ fp a w:=by
 have e1:(AO.box T p ahD).here=(H id).here:=by rw[hH];rfl
 have e2:(AO.box T p ahD).len=(H id).len:=by rw[hH];rfl
 have e3:(AO.box T p ahD).sz=(H id).sz:=by rw[hH];exact hl
 have E:=N6 (L:=L) (ρ:=ρ) (w:=w) e1 e2 e3;refine⟨h.jp,h.size,h.defers,fun t=>by have:=RV.env E _ (h.tm t);rwa [mf]at this,N5 h.ob e1 e2 e3 ?_,h.dj,h.own,h.lo⟩;have bY:=(h.ob id).env E (fun _ _=>rfl);rw[AO.mf,hH]at bY;obtain⟨xs,k1,k2,k3,k4,k5⟩:=bY;exact⟨xs,hi k1,hc,by rw[hl];exact k3,k4,k5⟩
theorem AW.ahJ(id:Nat){T:TypeId}{cells:List AV}(ahD:List AV){p:Option Value}(hH:H id=.box T p cells)(hi:ff cells ahD)(hl:ahD.length=cells.length)(hc:(ahD.all AV.cell)=true)(h:AW P L O w0 N c τ (aH H id (.box T p ahD)) Q):AW P L O w0 N c τ H Q:=fun ρ fp a w hr=>h ρ fp a w (hr.ahJ hH hi hl (List.all_eq_true.1 hc))
end
theorem ff.same{x:AV}{l m:List AV}(h:ff l m):ff (x::l) (x::m):=ff.cons (fe.refl x) h
theorem ahl{e:TypeId}{sz:Nat}{l m:List AV}(h:ff l m):ff (.p (.v (.slice none 0 0))::l) (.p (.ab e sz [])::m):=ff.cons (fe.nil e sz) h

structure HbD(h:mm):Prop where
 db:qK h.log.bT
 wf:di h.book
 lh:h.book.an.length<=1048576
 li:h.book.aq.length<=1048576
 ll:h.ia.lines.length<=1048576
 lw:h.wait.length<=1048576
 ls:h.f9.length<=1048576
theorem x_63{p:Prop}(c:p:=by exact ⟨(fun c hc=>by cases hc),(fun c hc=>by cases hc)⟩):p:=c
theorem ajf:HbD acj:=⟨x_63,⟨by simp,by simp,by simp,by simp⟩,by simp,by simp,by simp,by simp,by simp⟩
theorem aj5{h:mm}(d:HbD h):GC prog 31 [Bu h] [] (aD (zV h)) []:=QS h d.db d.wf ⟨d.wf.len,d.lh,d.li⟩ d.ll d.lw d.ls
theorem aiL{h:mm}(d:HbD h):GC prog 30 [Bu h] [] (aD (zV h)) []:=QV h d.db d.wf ⟨d.wf.len,d.lh,d.li⟩ d.ll d.lw d.ls
theorem HbD.z{h:mm}(d:HbD h)(q:zV h=true):E9 h:=⟨aeo (af4 q),d.wf.len,d.lh,d.li,d.ll,d.lw,d.ls⟩
theorem aiM(x:aw)(e:aV):(dl x e).lines.length<=1000:=by
 by_cases h:dG x e=0
 ·have q:=(Ab h).len;by_cases l:(bz x e).l=[]
  ·rw[(ub h l).2];simp
  rw[(rU h l).2];show (bz x e).l.length<=1000;omega
 rw[(Oj h).2];simp
abbrev adV(l:uW)(c:Int):AV:=.au [G9 l,int c]
theorem aj6{f:FuncId}{args:List AV}{l:uW}{c:Int}(h:GN prog f args [] [] (ajg l c)):GC prog f args [] (adV l c) []:=
 (GX.frozen (Z:=fun y=>y=adV l c) (show GX prog _ _ [] _ from h) fun x ob ⟨l1,F1,hs,hF,hM,e,⟨vs,us,hv,hu,e1,e2,e3⟩⟩=>by
   subst e e1 e2 e3;refine⟨adV l c,?_,rfl⟩;have hT:Tl (bx (DS vs us l.bT++je 1000000 (sY vs us l.bT))) (sY vs us l.bT):=by rw[Gm rfl];exact Tl.tl hF
   have l1:(fY vs (l9 l.bT.cells)).length=l.bT.cells.length:=by rw[Aa (by simpa using hv),List.length_map]
   exact Still.au (H:=bx (DS vs us l.bT++je 1000000 (sY vs us l.bT))) (.cons (Still.agg (.cons (Still.own (id:=1) (e:=⟨195,none⟩) (sz:=1) (rows:=oR vs) rfl (SF hT hv (s:=0) fun i hi=>by unfold sY;rw[Nat.zero_add,List.getElem?_append_left (by omega)]))
    (.cons (Still.own (id:=2) (e:=⟨192,none⟩) (sz:=2) (rows:=lW us l.bT.bu) rfl (SG hT hu (s:=l.bT.cells.length) fun i hi=>by unfold sY;rw[List.getElem?_append_right (by omega)];congr 1;omega)) (.cons (Still.p _) (.cons (Still.p _) .nil))))) (.cons (Still.p _) .nil))).mono fun y o ⟨e1,e2⟩=>⟨e2,e1⟩
theorem aj7(l:uW)(e:aV):GC prog 106 [G9 l,ju e] [] (adV (ahu l e) (aho l e)) []:=aj6 (aj8 l e)
theorem aj9(l:cH)(hl:l.lines.length<=1000):GC prog 57 [cR l] [] (cR l) []:=
 (GX.frozen (Z:=fun y=>y=cR l) (adZ l hl) fun x ob ⟨e1,e2⟩=>by
   subst e1 e2;exact⟨_,Still.agg (.cons (Still.p _) (.cons (Still.row (id:=51) (e:=⟨167,none⟩) (sz:=3) (rows:=ah ct l.lines) rfl) .nil)),rfl⟩).mono fun y o ⟨e1,e2⟩=>⟨e2,e1⟩
theorem aj'(l:cH)(p:dX)(hp:p.lines.length<=1000):GC prog 109 [cR l,DT p] [] (.au [cR (iD l p),int (iv l p)]) []:=by
 have:=GO l p hp;rwa [LK.1,LK.2]at this
abbrev ahO(h:mm):AV:=.agg [.own 1,.p (.ab 192 2 (oT h.log.bT.bu)),int h.log.next,int h.log.dP,int h.book.tick,int h.book.next,int h.book.aA,.p (.ab 159 7 (ah aX h.book.ag)),.p (.ab 218 7 (ah go h.book.an)),.p (.ab 220 5 (ah iX h.book.aq)),int h.ia.last,.p (.ab 167 3 (ah ct h.ia.lines)),.own 2,.p (.ab 81 7 (ah fR h.f9))]
abbrev obK(h:mm):List (Nat×AO):=[(1,.ai 195 1 (oS h.log.bT.cells)),(2,uT h.wait)]
abbrev ZH:AV:=.agg [y5,y5,int 0,int 0,int 0,int 0,int 0,y5,y5,y5,int 0,y5,y5,y5]
def aka(h:mm)(e:aV):AV->List (Nat×AO)->Prop:=fun y ob=>(ahr h e≠0/\y=.au [ZH,int (ahr h e)]/\ob=[])\/(ahr h e=0/\y=.au [ahO (aht h e),int 0]/\ob=obK (aht h e))
theorem aiN{h:mm}{e:aV}(q:(dl h.book e).lines=[]):ahs h e=h.ia:=if_pos q
theorem aiO{h:mm}{e:aV}(q:(dl h.book e).lines≠[]):ahs h e=iD h.ia (dl h.book e):=if_neg q
theorem ajh{h:mm}{e:aV}(q:(dl h.book e).lines=[]):ahA h e=0:=if_pos q
theorem aih{h:mm}{e:aV}(q:(dl h.book e).lines≠[]):ahA h e=iv h.ia (dl h.book e):=if_neg q
theorem x_99{p:Prop}(c:p:=by exact congrArg (AO.ai 81 7) (fx fR _ _).symm):p:=c
theorem akb(h:mm)(e:aV)(hd:HbD h):GC prog 39 [Bu h,ju e] [] (.au [Bu (aht h e),int (ahr h e)]) []:=by
 refine GC.intro (rs:=[.cell 4 56 (some 14),.tmp 5]) func39 rfl ntmps39 x_7 ⟨rfl,rfl,EZ,rfl,trivial⟩ ?_;intro L O w0;refine sL<|ab (zX 2002 Z) Z<|ab (zX 2003 Z) Z<|ab (zA 2004 Ig Z) Z<|ao Z<|Y<|aS<|sL<|aP (.agg [vL _ _ _,vL _ _ _,U _ _,U _ _,U _ _,U _ _,U _ _,vL _ _ _,vL _ _ _,vL _ _ _,U _ _,vL _ _ _,vL _ _ _,vL _ _ _]) EZ Z<|ab (zC [] [] [] func31 (aj5 hd) (trivial) Z Z) Z<|lT [2,3,4,5,15] [2002,2003,2004] ?_;refine bX Z<|Y ?_;refine AW.cond rfl ?_ ?_
 ·intro V;refine sL<|lq (rd (x:=.agg [vV _,vV _,U _ _,U _ _,U _ _,U _ _,U _ _,vV _,vV _,vV _,U _ _,vV _,vV _,vV _]) (cP Z acf Z Z Z) Z)<|ab (zB 2004 NA NB Z) Z<|ao Z<|Y ?_;refine AW.ahJ 2004 [.p (.ab 195 1 []),.p (.ab 192 2 []),int 0,int 0,int 0,int 0,int 0,.p (.ab 159 7 []),.p (.ab 218 7 []),.p (.ab 220 5 []),int 0,.p (.ab 167 3 []),.p (.ab 81 7 []),.p (.ab 81 7 [])] Z (ahl<|ahl<|ff.same<|ff.same<|ff.same<|ff.same<|ff.same<|ahl<|ahl<|ahl<|ff.same<|ahl<|ahl<|ahl<|ff.nil) Z Z ?_;refine aR<|rT ?_;have hq:zV h=false:=by have h:=V;simpa using h
  have hc:ahr h e=20:=aiG hq;have hL:=ah6 (h:=h) (e:=e) x_51;rw[hc,hL];refine ax ?_ trivial;rfl
 intro V;refine aK<|gT<|aS ?_;have hq:zV h=true:=by have h:=V;simpa using h
 refine aL<|lf 4 Bw Z<|aP (.agg [U _ _,U _ _,U _ _,vL _ _ _,vL _ _ _,vL _ _ _]) cu Z<|aP (.agg [U _ _,U _ _,U _ _,U _ _,U _ _,U _ _,vB _]) dD Z<|ab (zC [] [] [] func41 (aje h.book e hd.wf) (trivial) Z Z) Z<|lT [2,3,4,5,22] [2002,2003,2004] ?_;refine cT (.au [.agg [U _ _,U _ _,U _ _,vL _ _ _,vL _ _ _,vL _ _ _],.agg [U _ _,vL _ _ _],U _ _]) Z<|iB (.agg [U _ _,U _ _,U _ _,vL _ _ _,vL _ _ _,vL _ _ _]) Z<|iB (.agg [U _ _,vL _ _ _]) Z<|dE Z<|ab (zA 2006 mD Z) Z<|ab (zA 2007 pC Z) Z<|lT [2,3,4,5,6,7,23,24,25] [2002,2003,2004,2006,2007] ?_;refine ab (zB 2006 eu ew Z) Z<|ab (zB 2007 na nb Z) Z<|ao Z<|Y<|aS<|sL<|ae Z<|ak Z<|Y ?_;refine AW.cond rfl ?_ ?_
 ·intro h2;refine sL<|lq (rd (x:=.agg [vV _,vV _,U _ _,U _ _,U _ _,U _ _,U _ _,vV _,vV _,vV _,U _ _,vV _,vV _,vV _]) (cP Z acf Z Z Z) Z)<|ae Z<|ab (zB 2004 NA NB Z) Z<|lT [2,3,4,5,6,7,29] [2002,2003,2004,2006,2007] ?_;refine ao Z<|Y ?_;refine AW.ahJ 2004 [.p (.ab 195 1 []),.p (.ab 192 2 []),int 0,int 0,int 0,int 0,int 0,.p (.ab 159 7 []),.p (.ab 218 7 []),.p (.ab 220 5 []),int 0,.p (.ab 167 3 []),.p (.ab 81 7 []),.p (.ab 81 7 [])] Z (ahl<|ahl<|ff.same<|ff.same<|ff.same<|ff.same<|ff.same<|ahl<|ahl<|ahl<|ff.same<|ahl<|ahl<|ahl<|ff.nil) Z Z ?_;refine aR<|rT ?_;have hcn:dG h.book e≠0:=by have h:=h2;simpa using h
  have hc:ahr h e=dG h.book e:=aiH hq hcn;have hL:=ah6 (h:=h) (e:=e) (by rw[hc];exact hcn);rw[hc,hL];refine ax ?_ trivial;rfl
 intro h2;refine aK<|gT<|aS ?_;have cQ:dG h.book e=0:=by have h:=h2;simpa using h
 refine aL<|lf 0 qL Z<|aP (.agg [vL _ _ _,vL _ _ _,U _ _,U _ _]) EY Z<|aP (.agg [U _ _,U _ _,U _ _,U _ _,U _ _,U _ _,vB _]) dD Z<|ab (zC [] [] [] func106 (aj7 h.log e) (trivial) Z Z) Z<|cT (.au [.agg [vL _ _ _,vL _ _ _,U _ _,U _ _],U _ _]) Z<|iB (.agg [vL _ _ _,vL _ _ _,U _ _,U _ _]) Z<|dE Z<|ab (zA 2009 Nx Z) Z<|lT [2,3,4,5,6,7,9,35,36] [2002,2003,2004,2006,2007,2009] ?_;refine ab (zB 2009 Nv Nw Z) Z<|ao Z<|Y<|aS<|sL<|ae Z<|ak Z<|Y ?_;refine AW.cond rfl ?_ ?_
 ·intro h3;refine sL<|lq (rd (x:=.agg [vV _,vV _,U _ _,U _ _,U _ _,U _ _,U _ _,vV _,vV _,vV _,U _ _,vV _,vV _,vV _]) (cP Z acf Z Z Z) Z)<|ab (zB 2004 NA NB Z) Z<|lT [2,3,4,5,6,7,9] [2002,2003,2004,2006,2007,2009] ?_;refine ao Z<|Y ?_;refine AW.ahJ 2004 [.p (.ab 195 1 []),.p (.ab 192 2 []),int 0,int 0,int 0,int 0,int 0,.p (.ab 159 7 []),.p (.ab 218 7 []),.p (.ab 220 5 []),int 0,.p (.ab 167 3 []),.p (.ab 81 7 []),.p (.ab 81 7 [])] Z (ahl<|ahl<|ff.same<|ff.same<|ff.same<|ff.same<|ff.same<|ahl<|ahl<|ahl<|ff.same<|ahl<|ahl<|ahl<|ff.nil) Z Z ?_;refine aR<|rT ?_;have aiP:aho h.log e≠0:=by have h:=h3;simpa using h
  have hc:ahr h e=21:=aiI hq cQ aiP;have hL:=ah6 (h:=h) (e:=e) x_51;rw[hc,hL];refine ax ?_ trivial;rfl
 intro h3;refine aK<|gT<|aS ?_;have dY:aho h.log e=0:=by have h:=h3;simpa using h
 have hlw:=hd.lw;have T7:=hd.ls;refine aL<|lf 10 Bx Z<|aP (.agg [U _ _,vL _ _ _]) eZ Z<|ab (zC [] [] [] func57 (aj9 h.ia (by have:=agi hq;omega)) (trivial) rfl rfl) Z<|ab (zA 2011 ld rfl) Z<|ab (zB 2011 cA cB rfl) Z<|lT [2,3,4,5,6,7,9,11] [2002,2003,2004,2006,2007,2009,2011] ?_;refine Y ?_;refine aJ [2,3,4,5,6,9,11] [2002,2003,2004,2006,2007,2009] (D:=Unit) (fun jd=>[]) (fun jd=>[(2011,.box 53 none [int (ahs h e).last,.p (.ab 167 3 (ah ct (ahs h e).lines))])]) (fun jd=>ahA h e=0) ?_ ?_
 ·refine sL<|lf 1 t7 Z<|bo gY Z<|ba hZ Z<|ak Z<|Y ?_;refine AW.cond rfl ?_ ?_
  ·intro h4;refine aS ?_;have hln:(dl h.book e).lines≠[]:=by have h:=h4;intro q;rw[q]at h;simp[ah]at h
   refine aL<|lf 10 Bx Z<|aP (.agg [U _ _,vL _ _ _]) eZ Z<|aP (.agg [U _ _,vL _ _ _]) ol Z<|ab (zC [] [] [] func42 (SO h.ia (dl h.book e) (aiM _ _)) (trivial) Z Z) Z<|lT [2,3,4,5,6,9,11,51] [2002,2003,2004,2006,2007,2009,2011] ?_;refine cT (.au [.agg [U _ _,vL _ _ _],U _ _]) Z<|iB (.agg [U _ _,vL _ _ _]) Z<|dE Z<|ab (zA 2012 ld Z) Z<|ab (zB 2012 cA cB Z) Z<|ao Z<|Y<|aS<|sL<|ae Z<|ak Z<|Y ?_;refine AW.cond rfl ?_ ?_
   ·intro h5;refine sL<|lq (rd (x:=.agg [vV _,vV _,U _ _,U _ _,U _ _,U _ _,U _ _,vV _,vV _,vV _,U _ _,vV _,vV _,vV _]) (cP Z acf Z Z Z) Z)<|ab (zB 2004 NA NB Z) Z<|lT [2,3,4,5,6,9,11,12] [2002,2003,2004,2006,2007,2009,2011,2012] ?_;refine ao Z<|Y ?_;refine AW.ahJ 2004 [.p (.ab 195 1 []),.p (.ab 192 2 []),int 0,int 0,int 0,int 0,int 0,.p (.ab 159 7 []),.p (.ab 218 7 []),.p (.ab 220 5 []),int 0,.p (.ab 167 3 []),.p (.ab 81 7 []),.p (.ab 81 7 [])] Z (ahl<|ahl<|ff.same<|ff.same<|ff.same<|ff.same<|ff.same<|ahl<|ahl<|ahl<|ff.same<|ahl<|ahl<|ahl<|ff.nil) Z Z ?_;refine aR<|rT<|rT ?_;have HD:iv h.ia (dl h.book e)≠0:=by have h:=h5;simpa using h
    have hc:ahr h e=22:=aiJ hq cQ dY (by rw[aih hln];exact HD);have hL:=ah6 (h:=h) (e:=e) x_51;rw[hc,hL];refine ax ?_ trivial;rfl
   intro h5;refine aK<|gT ?_;have Zk:iv h.ia (dl h.book e)=0:=by have h:=h5;simpa using h
   have hL:=aiO hln;have Tx:ahA h e=0:=by rw[aih hln];exact Zk
   refine aL<|aP (.agg [U _ _,vL _ _ _]) eZ Z<|ab (zB 2011 cA cB Z) Z<|Y ?_;refine⟨(),Tx,trivial,⟨(Eq.trans (b:=AO.box 53 none [int (iD h.ia (dl h.book e)).last,.p (.ab 167 3 (ah ct (iD h.ia (dl h.book e)).lines))]) rfl (by rw[hL])),trivial⟩,rfl,rfl⟩
  intro h4;refine aK<|gT ?_;have hln:(dl h.book e).lines=[]:=by have h:=h4;simp[ap]at h;exact h
  have hL:=aiN hln;have Tx:ahA h e=0:=ajh hln;refine⟨(),Tx,trivial,⟨(Eq.trans (b:=AO.box 53 none [int h.ia.last,.p (.ab 167 3 (ah ct h.ia.lines))]) rfl (by rw[hL])),trivial⟩,rfl,rfl⟩
 intro jd hpc;refine aS<|aG 14 [7,8,2004]<|tq 0 (dw (.agg [vL _ _ _,vL _ _ _,U _ _,U _ _]) EY Z)<|tq 1 (dw (.agg [U _ _,U _ _,U _ _,vL _ _ _,vL _ _ _,vL _ _ _]) cu Z)<|tq 2 (dw (.agg [U _ _,vL _ _ _]) eZ Z)<|tq 3 (rf 12 Bz Z)<|tq 4 (jj tE Z)<|tq 6 (dw (.agg [U _ _,U _ _,U _ _,U _ _,U _ _,U _ _,vB _]) dD Z)<|tq 9 (rf 13 By Z)<|tq 10 (jj tE Z) ?_;refine AG.two (i:=5) (j:=7) x_37 ?_ ?_
 ·refine oe.st (i:=5) rfl (St.call [(1,7)] [7] [] rfl x_66 rfl func58 rfl rfl (QO h.wait hd.lw) ⟨rfl,rfl,rfl⟩ (trivial) (trivial) rfl) (by decide) rfl ?_;refine gX [4,5,58,59,60,63,64,68] [7,2002,2003,2004,2006,2007,2009,2011] ?_;refine cm 7 Z (zS 2065 (ah fR [e]) jk jl Z)<|cm 8 Z (zP 7 jk jl sD Z (Src.own Z Z))<|cm 11 Z (zC [(1,8)] [8] [] func58 (QO h.f9 hd.ls) (trivial) Z Z)<|yq 12 (rd (x:=.agg [vL _ _ _,vL _ _ _,U _ _,U _ _,U _ _,U _ _,U _ _,vL _ _ _,vL _ _ _,vL _ _ _,U _ _,vL _ _ _,.own _,.own _]) (cP Z acf Z Z Z) Z)<|cm 13 Z (zB 2004 NA NB Z)<|yq 14 (j8 Z)<|gD<|gT ?_;refine AW.obj 7 (uT (h.wait++[e])) (congrArg (AO.ai 81 7) (fx fR _ _).symm) ?_;refine AW.freeze 7 rfl ?_;refine AW.freeze 8 rfl ?_;refine aR ?_;have hc:ahr h e=0:=aiK hq cQ dY hpc;have hL:=ahV hc;rw[hc,hL];refine ax ?_ trivial;rfl
 refine oe.st (i:=7) rfl (BO 2065 (rows:=ah fR [e]) rfl rfl (by decide) jk jl rfl rfl rfl rfl (by intro r hr;simp[ah]at hr;subst hr;rfl) rfl (by decide) (by decide)) (by decide) rfl ?_;refine gX [4,5,58,59,60,62,65,68] [2002,2003,2004,2006,2007,2009,2011,2065] ?_;refine cm 5 Z (zC [(1,7)] [7] [] func58 (QO h.wait hd.lw) (trivial) Z Z)<|cm 8 Z (zP 7 jk jl sD Z (Src.own Z Z))<|cm 11 Z (zC [(1,8)] [8] [] func58 (QO h.f9 hd.ls) (trivial) Z Z)<|yq 12 (rd (x:=.agg [vL _ _ _,vL _ _ _,U _ _,U _ _,U _ _,U _ _,U _ _,vL _ _ _,vL _ _ _,vL _ _ _,U _ _,vL _ _ _,.own _,.own _]) (cP Z acf Z Z Z) Z)<|cm 13 Z (zB 2004 NA NB Z)<|yq 14 (j8 Z)<|gD<|gT ?_;refine AW.obj 7 (uT (h.wait++[e])) (congrArg (AO.ai 81 7) (fx fR _ _).symm) ?_;refine AW.freeze 7 rfl ?_;refine AW.freeze 8 rfl ?_;refine aR ?_;have hc:ahr h e=0:=aiK hq cQ dY hpc;have hL:=ahV hc;rw[hc,hL];refine ax ?_ trivial;rfl
theorem aji(h:mm)(e:aV)(hd:HbD h):GX prog 40 [Bu h,ju e] [] (aka h e):=by
 refine GX.intro (rs:=[.cell 4 56 (some 14),.tmp 5]) func40 rfl ntmps40 x_7 ⟨rfl,rfl,EZ,rfl,trivial⟩ ?_;intro L O w0;refine sL<|ab (zX 2002 Z) Z<|ab (zX 2003 Z) Z<|ab (zA 2004 Ig Z) Z<|ao Z<|Y<|aS<|sL<|aP (.agg [vL _ _ _,vL _ _ _,U _ _,U _ _,U _ _,U _ _,U _ _,vL _ _ _,vL _ _ _,vL _ _ _,U _ _,vL _ _ _,vL _ _ _,vL _ _ _]) EZ Z<|ab (zC [] [] [] func30 (aiL hd) (trivial) Z Z) Z<|lT [2,3,4,5,15] [2002,2003,2004] ?_;refine bX Z<|Y ?_;refine AW.cond rfl ?_ ?_
 ·intro V;refine sL<|lq (rd (x:=.agg [vV _,vV _,U _ _,U _ _,U _ _,U _ _,U _ _,vV _,vV _,vV _,U _ _,vV _,vV _,vV _]) (cP Z acf Z Z Z) Z)<|ab (zB 2004 NA NB Z) Z<|ao Z<|Y<|aR<|rT ?_;have hq:zV h=false:=by have h:=V;simpa using h
  have hc:ahr h e=20:=aiG hq;refine fN ((.au [ZH,int 20])) [] ?_ rfl trivial;exact .inl ⟨by rw[hc];decide,by rw[hc],rfl⟩
 intro V;refine aK<|gT<|aS ?_;have hq:zV h=true:=by have h:=V;simpa using h
 refine aL<|lf 4 Bw Z<|aP (.agg [U _ _,U _ _,U _ _,vL _ _ _,vL _ _ _,vL _ _ _]) cu Z<|aP (.agg [U _ _,U _ _,U _ _,U _ _,U _ _,U _ _,vB _]) dD Z<|ab (zC [] [] [] func107 (aj4 h.book e hd.wf) (trivial) Z Z) Z<|lT [2,3,4,5,22] [2002,2003,2004] ?_;refine cT (.au [.agg [U _ _,U _ _,U _ _,vL _ _ _,vL _ _ _,vL _ _ _],.agg [U _ _,vL _ _ _],U _ _]) Z<|iB (.agg [U _ _,U _ _,U _ _,vL _ _ _,vL _ _ _,vL _ _ _]) Z<|iB (.agg [U _ _,vL _ _ _]) Z<|dE Z<|ab (zA 2006 mD Z) Z<|ab (zA 2007 pC Z) Z<|lT [2,3,4,5,6,7,23,24,25] [2002,2003,2004,2006,2007] ?_;refine ab (zB 2006 eu ew Z) Z<|ab (zB 2007 na nb Z) Z<|ao Z<|Y<|aS<|sL<|ae Z<|ak Z<|Y ?_;refine AW.cond rfl ?_ ?_
 ·intro h2;refine sL<|lq (rd (x:=.agg [vV _,vV _,U _ _,U _ _,U _ _,U _ _,U _ _,vV _,vV _,vV _,U _ _,vV _,vV _,vV _]) (cP Z acf Z Z Z) Z)<|ae Z<|ab (zB 2004 NA NB Z) Z<|lT [2,3,4,5,6,7,29] [2002,2003,2004,2006,2007] ?_;refine ao Z<|Y<|aR<|rT ?_;have hcn:dG h.book e≠0:=by have h:=h2;simpa using h
  have hc:ahr h e=dG h.book e:=aiH hq hcn;refine fN ((.au [ZH,int (dG h.book e)])) [] ?_ rfl trivial;exact .inl ⟨by rw[hc];exact hcn,by rw[hc],rfl⟩
 intro h2;refine aK<|gT<|aS ?_;have cQ:dG h.book e=0:=by have h:=h2;simpa using h
 refine aL<|lf 0 qL Z<|aP (.agg [vL _ _ _,vL _ _ _,U _ _,U _ _]) EY Z<|aP (.agg [U _ _,U _ _,U _ _,U _ _,U _ _,U _ _,vB _]) dD Z<|ab (zC [(1,1),(2,2)] [1,2] [] func108 (akc h.log e) (trivial) Z Z) Z<|cT (.au [.agg [.own _,.own _,U _ _,U _ _],U _ _]) Z<|iB (.agg [.own _,.own _,U _ _,U _ _]) Z<|dE Z<|ab (zA 2009 Nx Z) Z<|lT [2,3,4,5,6,7,9,35,36] [1,2,2002,2003,2004,2006,2007,2009] ?_;refine ab (zB 2009 Nv Nw Z) Z<|ao Z<|Y<|aS<|aS ?_;refine AW.freeze 2 rfl ?_;refine aL<|ae Z<|ak Z<|Y ?_;refine AW.cond rfl ?_ ?_
 ·intro h3;refine sL<|lq (rd (x:=.agg [vV _,vV _,U _ _,U _ _,U _ _,U _ _,U _ _,vV _,vV _,vV _,U _ _,vV _,vV _,vV _]) (cP Z acf Z Z Z) Z)<|ab (zB 2004 NA NB Z) Z<|lT [2,3,4,5,6,7,9] [1,2002,2003,2004,2006,2007,2009] ?_;refine ao Z<|Y<|aR<|rT ?_;have aiP:aho h.log e≠0:=by have h:=h3;simpa using h
  have hc:ahr h e=21:=aiI hq cQ aiP;refine fN ((.au [ZH,int 21])) [] ?_ rfl trivial;exact .inl ⟨by rw[hc];decide,by rw[hc],rfl⟩
 intro h3;refine aK<|gT<|aS ?_;have dY:aho h.log e=0:=by have h:=h3;simpa using h
 have hlw:=hd.lw;have T7:=hd.ls;refine aL<|aP (.agg [vL _ _ _,vL _ _ _,U _ _,U _ _,U _ _,U _ _,U _ _,vL _ _ _,vL _ _ _,vL _ _ _,U _ _,vL _ _ _,vL _ _ _,vL _ _ _]) EZ Z<|ab (zC [(6,6),(7,2),(8,8)] [6,2,8] [] func49 (agq h (hd.z hq) (acF (af4 hq))) (trivial) Z Z) Z<|ab (zA 2011 Ig Z) Z<|ab (zB 2011 NA NB Z) Z<|Y ?_;refine AW.freeze 6 rfl ?_;refine aJ [3,4,5,6,9,11] [1,2,8,2002,2003,2004,2006,2007,2009] (D:=Unit) (fun jd=>[]) (fun jd=>[(2011,.box 56 none [.p (.ab 195 1 (oS h.log.bT.cells)),.p (.ab 192 2 (oT h.log.bT.bu)),int h.log.next,int h.log.dP,int h.book.tick,int h.book.next,int h.book.aA,.p (.ab 159 7 (ah aX h.book.ag)),.p (.ab 218 7 (ah go h.book.an)),.p (.ab 220 5 (ah iX h.book.aq)),int (ahs h e).last,.p (.ab 167 3 (ah ct (ahs h e).lines)),.own 2,.own 8])]) (fun jd=>ahA h e=0) ?_ ?_
 ·refine sL<|lf 0 wN Z<|aj ac Z<|ak Z<|Y ?_;refine AW.cond rfl ?_ ?_
  ·intro h4;refine aS ?_;have hln:(dl h.book e).lines≠[]:=(aiv hq).1 (by have h:=h4;simpa using h);refine aL<|lf 10 Bx Z<|aP (.agg [U _ _,vL _ _ _]) eZ Z<|aP (.agg [U _ _,vL _ _ _]) ol Z<|ab (zC [] [] [] func109 (aj' h.ia (dl h.book e) (aiM _ _)) (trivial) Z Z) Z<|lT [3,4,5,6,9,11,49] [1,2,8,2002,2003,2004,2006,2007,2009,2011] ?_;refine cT (.au [.agg [U _ _,vL _ _ _],U _ _]) Z<|iB (.agg [U _ _,vL _ _ _]) Z<|dE Z<|ab (zA 2012 ld Z) Z<|ab (zB 2012 cA cB Z) Z<|ao Z<|Y<|aS<|sL<|ae Z<|ak Z<|Y ?_;refine AW.cond rfl ?_ ?_
   ·intro h5;refine sL<|lq (rd (x:=.agg [vV _,vV _,U _ _,U _ _,U _ _,U _ _,U _ _,vV _,vV _,vV _,U _ _,vV _,vV _,vV _]) (cP Z acf Z Z Z) Z)<|ab (zB 2004 NA NB Z) Z<|lT [3,4,5,6,9,11,12] [1,2,8,2002,2003,2004,2006,2007,2009,2011,2012] ?_;refine ao Z<|Y<|aR<|rT<|rT ?_;have HD:iv h.ia (dl h.book e)≠0:=by have h:=h5;simpa using h
    have hc:ahr h e=22:=aiJ hq cQ dY (by rw[aih hln];exact HD);refine fN ((.au [ZH,int 22])) [] ?_ rfl trivial;exact .inl ⟨by rw[hc];decide,by rw[hc],rfl⟩
   intro h5;refine aK<|gT ?_;have Zk:iv h.ia (dl h.book e)=0:=by have h:=h5;simpa using h
   have hL:=aiO hln;have Tx:ahA h e=0:=by rw[aih hln];exact Zk
   refine aL<|aP (.agg [U _ _,vL _ _ _]) eZ Z<|lf 10 Bx Z<|ab (zB 2011 cA cB Z) Z<|Y ?_;refine⟨(),Tx,trivial,⟨(Eq.trans (b:=AO.box 56 none [.p (.ab 195 1 (oS h.log.bT.cells)),.p (.ab 192 2 (oT h.log.bT.bu)),int h.log.next,int h.log.dP,int h.book.tick,int h.book.next,int h.book.aA,.p (.ab 159 7 (ah aX h.book.ag)),.p (.ab 218 7 (ah go h.book.an)),.p (.ab 220 5 (ah iX h.book.aq)),int (iD h.ia (dl h.book e)).last,.p (.ab 167 3 (ah ct (iD h.ia (dl h.book e)).lines)),.own 2,.own 8]) rfl (by rw[hL])),trivial⟩,rfl,rfl⟩
  intro h4;refine aK<|gT ?_;have hln:(dl h.book e).lines=[]:=Classical.byContradiction fun q=>by have h:=h4;have:=(aiv hq).2 q;simp at h;omega
  have hL:=aiN hln;have Tx:ahA h e=0:=ajh hln;refine⟨(),Tx,trivial,⟨(Eq.trans (b:=AO.box 56 none [.p (.ab 195 1 (oS h.log.bT.cells)),.p (.ab 192 2 (oT h.log.bT.bu)),int h.log.next,int h.log.dP,int h.book.tick,int h.book.next,int h.book.aA,.p (.ab 159 7 (ah aX h.book.ag)),.p (.ab 218 7 (ah go h.book.an)),.p (.ab 220 5 (ah iX h.book.aq)),int h.ia.last,.p (.ab 167 3 (ah ct h.ia.lines)),.own 2,.own 8]) rfl (by rw[hL])),trivial⟩,rfl,rfl⟩
 intro jd hpc;refine sL<|aP (.agg [.own _,vL _ _ _,U _ _,U _ _]) EY Z<|lf 0 qL Z<|ab (zB 2011 Nv Nw Z) Z<|nA<|aP (.agg [U _ _,U _ _,U _ _,vL _ _ _,vL _ _ _,vL _ _ _]) cu Z<|lf 4 Bw Z<|ab (zB 2011 eu ew Z) Z<|lT [3,4,5,11] [1,2,8,2002,2003,2004,2006,2007,2009,2011] ?_;refine nA<|lf 12 Bz Z<|iO tE Z<|aP (.agg [U _ _,U _ _,U _ _,U _ _,U _ _,U _ _,vB _]) dD Z<|ab (zS 2064 (ah fR [e]) jk jl Z) Z<|ab (zP 2 jk jl sD Z (Src.own Z Z)) Z<|lf 12 Bz Z<|ab (zB 2011 Ny Nz Z) Z<|lT [4,5,11] [1,2,8,2002,2003,2004,2006,2007,2009,2011,2064] ?_;refine nA<|aP (.agg [.own _,vL _ _ _,U _ _,U _ _,U _ _,U _ _,U _ _,vL _ _ _,vL _ _ _,vL _ _ _,U _ _,vL _ _ _,.own _,.own _]) EZ Z<|ab (zB 2004 NA NB Z) Z<|ao Z<|Y ?_;refine AW.obj 2 (uT (h.wait++[e])) (congrArg (AO.ai 81 7) (fx fR _ _).symm) ?_;refine AW.freeze 8 rfl ?_;refine aR ?_;have hc:ahr h e=0:=aiK hq cQ dY hpc;have hL:=ahV hc;refine fN ((.au [ahO ⟨ahu h.log e,dp h.book e,ahs h e,h.wait++[e],h.f9⟩,int 0])) (obK ⟨ahu h.log e,dp h.book e,ahs h e,h.wait++[e],h.f9⟩) ?_ rfl ⟨rfl,rfl,trivial⟩;exact .inr ⟨hc,by rw[hL],by rw[hL]⟩
theorem ajj{h:mm}{e:aV}(hd:HbD h)(hc:ahr h e=0):GC prog 40 [Bu h,ju e] [] (.au [ahO (aht h e),int 0]) (obK (aht h e)):=(aji h e hd).gc fun y o q=>by
 rcases q with⟨q,_⟩|⟨_,q1,q2⟩
 ·exact absurd hc q
 exact⟨q1,q2⟩
theorem ajk{h:mm}{e:aV}(hd:HbD h)(hc:ahr h e≠0):GC prog 40 [Bu h,ju e] [] (.au [ZH,int (ahr h e)]) []:=(aji h e hd).gc fun y o q=>by
 rcases q with⟨_,q1,q2⟩|⟨q,_⟩
 ·exact⟨q1,q2⟩
 exact absurd q hc
theorem akd(h:mm)(e:aV)(hd:HbD h):GC prog 40 [Bu h,ju e] [] (.au [Bu (aht h e),int (ahr h e)]) []:=by
 by_cases hc:ahr h e=0
 ·rw[hc];refine(GX.frozen (Z:=fun y=>y=.au [Bu (aht h e),int 0]) (ajj hd hc) fun x ob ⟨e1,e2⟩=>?_).mono fun y o ⟨e1,e2⟩=>⟨e2,e1⟩;subst e1 e2;exact⟨_,Still.au (.cons (Still.agg (.cons (Still.row (id:=1) (e:=⟨195,none⟩) (sz:=1) (rows:=oS (aht h e).log.bT.cells) rfl) (.cons (Still.p _) (.cons (Still.p _) (.cons (Still.p _) (.cons (Still.p _) (.cons (Still.p _) (.cons (Still.p _) (.cons (Still.p _) (.cons (Still.p _) (.cons (Still.p _) (.cons (Still.p _) (.cons (Still.p _) (.cons (Still.row (id:=2) (e:=⟨81,none⟩) (sz:=7) (rows:=ah fR (aht h e).wait) rfl) (.cons (Still.p _) .nil))))))))))))))) (.cons (Still.p _) .nil)),rfl⟩
 rw[ah6 hc];refine GX.imp (ajk hd hc) (fun x bd ⟨e1,e2⟩=>?_);subst e1 e2;exact⟨_,fe.au (ff.cons (fe.agg (ahl<|ahl<|ff.same<|ff.same<|ff.same<|ff.same<|ff.same<|ahl<|ahl<|ahl<|ff.same<|ahl<|ahl<|ahl<|ff.nil)) (ff.same ff.nil)),rfl,rfl⟩

section
variable {P:Program}{L O:Nat->Prop}{w0:World}{N:Nat}{Q:AQ}{c:Code}{τ:Nat->AV}{H:Nat->AO}
theorem RR.ah7{ρ:Nat->Value}{fp:Nat->List Nat}{a:Act}{w:World}(h:RR L O w0 N τ H ρ fp a w)(id:Nat){e:ga}{sz:Nat}{rows rows':List (List PV)}(hH:H id=.ai e sz rows)(hl:rows'.length=rows.length)(hr:∀ {xs fr},bI w false sz rows xs fr->bI w false sz rows' xs fr) :
 ∃ρ fp,RR L O w0 N τ (aH H id (.ai e sz rows')) ρ fp a w:=
 ⟨_,_,h.ahH (id:=id) (o':=.ai e sz rows') (f':=fp id) h.jp (Nat.le_refl _) (fun _ _ _=>rfl) (fun _=>by rw[hH];exact⟨rfl,hl,rfl⟩) (fun E=>by
   have bY:=h.ob id;rw[hH]at bY;obtain⟨xs,fr,b1,b2,b3,b4,b5⟩:=bY;exact⟨xs,fr,hr b1,fun b hb=>(E.block b (bI.lt rows b1 b hb) (b2 b hb)).2,by rw[hl];exact b3,b4,b5⟩) (h.own id) (fun j hj b hb=>h.dj id j (Ne.symm hj) b hb)⟩
theorem AW.ah7(id:Nat){e:ga}{sz:Nat}{rows rows':List (List PV)}(hH:H id=.ai e sz rows)(hl:rows'.length=rows.length)(hr:∀ {w:World} {xs fr},bI w false sz rows xs fr->bI w false sz rows' xs fr)(hK:AW P L O w0 N c τ (aH H id (.ai e sz rows')) Q):AW P L O w0 N c τ H Q:=fun ρ fp a w h=>by
 obtain⟨ci,bH,q⟩:=h.ah7 id hH hl hr;exact hK ci bH a w q
end
theorem ajl{e:TypeId}{sz:Nat}{w:World}:∀(n:Nat) {xs:List Value} {fr:List Nat},bI w false 1 (List.replicate n [PV.v (.slice none 0 0)]) xs fr->bI w false 1 (List.replicate n [PV.ab e sz []]) xs fr
 |0,xs,fr,h=>h
 |n+1,xs,fr,h=>by
  rw[List.replicate_succ,bI]at *;obtain⟨V,c,r,f1,f2,rfl,rfl,h2,h3⟩:=h;refine⟨rfl,c,r,f1,f2,rfl,rfl,?_,ajl n h3⟩;rw[bP]at *;obtain⟨c0,r0,g1,g2,rfl,rfl,k1,k2⟩:=h2;refine⟨c0,r0,g1,g2,rfl,rfl,?_,k2⟩;rw[RW]at *;obtain⟨rfl,rfl,_⟩:=k1;refine⟨[],[],[],by rw[bI];exact⟨rfl,rfl⟩,?_,rfl⟩;unfold iF;simp only[Bool.false_eq_true,if_false];exact⟨none,0,rfl,by simp,by simp[maxLen],.inl ⟨rfl,trivial⟩⟩

abbrev ahW(n:Nat):du:=⟨List.replicate n ⟨[]⟩,[]⟩
theorem ajm(n:Nat):qK (ahW n):=⟨(fun c hc=>by rw[(List.mem_replicate.1 hc).2];exact .nil),(fun w hw=>by cases hw)⟩
theorem ajn:∀ {ws:List gq} {cs:List Cell} {c:Cell},c∈ws.foldl abT cs->c∈cs\/∃w∈ws,c.bytes=w.bytes
 |[],_,_,h=>.inl h
 |w::ws,cs,c,h=>by
  rw[List.foldl_cons]at h;rcases ajn h with q|⟨w',q1,q2⟩
  ·rcases List.mem_or_eq_of_mem_set q with z|rfl
   ·exact .inl z
   exact .inr ⟨w,by simp,rfl⟩
  exact .inr ⟨w',by simp[q1],q2⟩
theorem aiQ{d:du}(hb:qK d):qK (abM d):=by
 unfold abM;split
 ·refine⟨fun c hc=>?_,fun w hw=>by cases hw⟩;rcases ajn hc with q|⟨w,q1,q2⟩
  ·exact hb.1 c q
  rw[q2];exact hb.2 w q1
 exact x_63
theorem aiR{d:du}{i:Nat}{b:List Int}(hb:qK d)(h:fA b):qK (v6 d i b):=⟨hb.1,fun w hw=>by
 rcases List.mem_append.1 hw with q|q
 ·exact hb.2 w q
 rw[List.mem_singleton.1 q];exact h⟩
theorem ake{b:List Int}(h:fA b):fA (yP b):=by
 unfold yP;split
 ·exact .zero 128
 exact h
theorem ajo{vA:List Int}:∀(ws:List gq) (k:Nat) (cs:List Cell),(∀w∈ws,w.bytes.length=128/\fA w.bytes)->cs.all lL=true->(∀c∈cs,fA c.bytes)->(abP vA ws k cs).all lL=true/\(abP vA ws k cs).length=cs.length/\∀c∈abP vA ws k cs,fA c.bytes
 |[],_,cs,_,h2,h3=>⟨h2,rfl,h3⟩
 |w::ws,k,cs,V,h2,h3=>by
  have hw:=V w (by simp);have step:(ab8 vA cs k w).all lL=true/\(ab8 vA cs k w).length=cs.length/\∀c∈ab8 vA cs k w,fA c.bytes:=by
   unfold ab8;split
   ·exact⟨h2,rfl,h3⟩
   have ho:∀c,c=(cs[w.at_.toNat]?).getD ⟨[]⟩->lL c=true/\fA c.bytes:=fun c hc=>by
    cases e:cs[w.at_.toNat]? with
    |none=>rw[e]at hc;subst hc;exact⟨rfl,.nil⟩
    |some x=>
     rw[e]at hc;subst hc;exact⟨List.all_eq_true.1 h2 _ (List.mem_of_getElem? e),h3 _ (List.mem_of_getElem? e)⟩
   obtain⟨o1,o2⟩:=ho _ rfl;have hk:acv vA k<=128:=by unfold acv;omega
   refine⟨acC h2 (ac1 (adA o1) hw.1 hk),List.length_set ..,fun c hc=>?_⟩;rcases List.mem_or_eq_of_mem_set hc with z|rfl
   ·exact h3 c z
   exact(hw.2.take _).gJ ((ake o2).drop _)
  have ih:=ajo (vA:=vA) ws (k+1) _ (fun x hx=>V x (by simp[hx])) step.1 step.2.2;exact⟨ih.1,ih.2.1.trans step.2.1,ih.2.2⟩
theorem aii{d:du}{vA:List Int}(h:ik d=true)(hb:qK d):ik (acU d vA)=true/\qK (acU d vA)/\(acU d vA).bu=[]:=by
 have V:=wL h;obtain⟨i1,i2,i3⟩:=ajo (vA:=vA) d.bu 0 d.cells (fun w hw=>by
  obtain⟨j,hj,rfl⟩:=List.getElem_of_mem hw;exact⟨Jk h hj,hb.2 _ hw⟩) V.2.1 hb.1
 rw[adB h];exact⟨PB ⟨by show 1<=(abP ..).length;omega,by show (abP ..).length<=600;omega,Nat.zero_le _⟩ i1 rfl,⟨i3,fun w hw=>by cases hw⟩,rfl⟩
theorem ajp:∀(ws:List gq) (cs:List Cell),cs.all lL=true->(∀w∈ws,w.bytes.length=128)->(ws.foldl abT cs).all lL=true
 |[],cs,h,_=>h
 |w::ws,cs,h,hw=>by
  rw[List.foldl_cons];exact ajp ws _ (acC h (hw w (by simp))) (fun x hx=>hw x (by simp[hx]))
theorem aiS{d:du}(h:ik d=true):ik (abM d)=true/\(abM d).bu=[]:=by
 have V:=wL h;rw[acu h];refine⟨PB ⟨by show 1<=(abE d _).length;rw[abW];exact V.1.1,by show (abE d _).length<=600;rw[abW];exact V.1.2.1,Nat.zero_le _⟩ (ajp _ _ V.2.1 fun w hw=>?_) rfl,rfl⟩;obtain⟨j,hj,rfl⟩:=List.getElem_of_mem (List.mem_of_mem_take hw);exact Jk h hj
structure DkI(n:Int)(c:List Cell)(w:List gq):Prop where
 ok:ik ⟨c,w⟩=true
 by_:qK ⟨c,w⟩
 n0:0<=n
 nw:(w.length:Int)+n<=6
theorem DkI.sync{n:Int}{c:List Cell}{w:List gq}(h:DkI n c w)(hn:0<n):DkI (n-1) (abM ⟨c,w⟩).cells (abM ⟨c,w⟩).bu:=⟨(aiS h.ok).1,aiQ h.by_,by omega,by have:=h.nw;rw[(aiS h.ok).2];simp;omega⟩
theorem DkI.aiT{n:Int}{c:List Cell}{w:List gq}{vA:List Int}(h:DkI n c w)(hn:0<n):DkI (n-1) (acU ⟨c,w⟩ vA).cells (acU ⟨c,w⟩ vA).bu:=⟨(aii h.ok h.by_).1,(aii h.ok h.by_).2.1,by omega,by have:=h.nw;rw[(aii h.ok h.by_).2.2];simp;omega⟩
theorem DkI.wr{n:Int}{c:List Cell}{w:List gq}{i:Nat}{b:List Int}(h:DkI n c w)(hn:0<n)(hi:i<c.length)(hb:b.length=128)(hB:fA b):DkI (n-1) (v6 ⟨c,w⟩ i b).cells (v6 ⟨c,w⟩ i b).bu:=⟨ab7 h.ok hi (by show w.length<600;have:=h.nw;omega) hb,aiR h.by_ hB,by omega,by have:=h.nw;show ((w++[_]).length:Int)+(n-1)<=6;rw[List.length_append,List.length_singleton];omega⟩
theorem akf{c:List Cell}{w:List gq}{i:Nat}{b:List Int}(h:qK ⟨c,w⟩)(hb:fA b):qK ⟨c.set i ⟨b⟩,w⟩:=⟨fun x hx=>by
 rcases List.mem_or_eq_of_mem_set hx with q|rfl
 ·exact h.1 x q
 exact hb,h.2⟩
theorem akg(n:Nat)(V:1<=n)(h2:n<=600):GC prog 182 [int (n:Int)] [] (.au [Gn,aD true]) (SH (ahW n)):=by
 refine GC.intro (rs:=[.cell 2 43 (some 2),.tmp 3]) func182 rfl ntmps182 x_7 ⟨rfl,rfl,mE,rfl,trivial⟩ ?_;intro L O w0;refine sL<|ab (zA 2002 Du rfl) Z<|ar Z<|Y<|aS<|sL<|ae Z<|ak Z<|bJ 5 false rfl x_80<|dm Z<|ae Z<|ak Z<|bJ 8 false rfl x_80<|bL Z<|Y<|aN Z<|aK<|gA<|ae Z<|ab (uq 1 (m:=n) rfl rfl (by decide) xE CB rfl rfl rfl rfl rfl (Nat.le_trans (Nat.mul_le_mul_right _ VT) (by omega)) (by unfold maxLen;omega)) Z<|lq (rd (x:=.agg [.own _,vV _]) (cP rfl adU rfl rfl rfl) rfl)<|ab (zB 2002 Dv Dw rfl) Z<|cI Z<|lN ?_;refine gT ?_;refine AW.pi 2 2002 1 192 2 rfl (by decide) rfl ?_;refine AW.ah7 1 (rows':=List.replicate n [nQ []]) rfl (by simp) (fun h=>ajl n h) ?_;refine AW.obj 1 (.ai 195 1 (oS (ahW n).cells)) (congrArg (AO.ai 195 1) (by unfold oS;rw[List.map_replicate])) ?_;refine aR ?_;refine ax ?_ ⟨rfl,rfl,trivial⟩;rfl
theorem akh(n:Nat)(V:1<=n)(h2:n<=600):GC prog 182 [int (n:Int)] [] (.au [mt (ahW n),aD true]) []:=(akg n V h2).aeN

theorem ajq{d:du}(hb:qK d):qK (m4 d).bT:=by
 unfold m4;split
 ·exact aiQ (aiR hb (TC (.cons (by decide) (by decide) .nil) x_7))
 exact x_63
theorem ajr{l:uW}(hb:qK l.bT):qK (afM l).bT:=by
 unfold afM;split
 ·exact aiQ hb
 exact x_63
theorem ajs{l:uW}{e:aV}(hc:aho l e=0):ik l.bT=true/\aI l.next 0 l.bT.cells.length=true/\aI l.dP 1 16000000=true/\co e=true/\¬(l.next=l.bT.cells.length\/600<=l.bT.bu.length):=by
 have V:ik l.bT=true:=by cases h:ik l.bT with|true=>rfl|false=>rw[ad1 (.inl h)]at hc;cases hc
 have h2:aI l.next 0 l.bT.cells.length=true:=by cases h:aI l.next 0 l.bT.cells.length with|true=>rfl|false=>rw[ad1 (.inr (.inl h))]at hc;cases hc
 have h3:aI l.dP 1 16000000=true:=by cases h:aI l.dP 1 16000000 with|true=>rfl|false=>rw[ad1 (.inr (.inr (.inl h)))]at hc;cases hc
 have h4:co e=true:=by cases h:co e with|true=>rfl|false=>rw[ad1 (.inr (.inr (.inr h)))]at hc;cases hc
 exact⟨V,h2,h3,h4,fun q=>by rw[al0 V h2 h3 h4 q]at hc;cases hc⟩
theorem aki{l:uW}{e:aV}(hc:aho l e=0):ik (ahu l e).bT=true:=by
 obtain⟨V,h2,h3,h4,h5⟩:=ajs hc;rw[aiw hc];have:=ahS.1 h2;exact ab7 V (by omega) (by omega) (TB (by show (rY e).length<=100;rw[TF];decide))
theorem ajt{l:uW}{e:aV}(hb:qK l.bT):qK (ahu l e).bT:=by
 by_cases hc:aho l e=0
 ·rw[aiw hc];exact aiR hb (TC (Zc (ajs hc).2.2.2.1) (by show (rY e).length<=100;rw[TF];decide))
 rw[ahz hc];exact x_63
structure LgI(n:Int)(l:uW):Prop where
 ok:ik l.bT=true
 by_:qK l.bT
 n0:0<=n
 n1:n<=11
theorem LgI.same{n:Int}{l:uW}(h:LgI n l)(hn:0<n):LgI (n-1) l:=⟨h.ok,h.by_,by omega,by have:=h.n1;omega⟩
theorem LgI.sync{n:Int}{l:uW}(h:LgI n l)(hn:0<n):LgI (n-1) (afM l):=⟨by rw[afS h.ok];exact(aiS h.ok).1,ajr h.by_,by omega,by have:=h.n1;omega⟩
theorem LgI.aiT{n:Int}{l:uW}{vA:List Int}(h:LgI n l)(hn:0<n)(hc:m1 (acU l.bT vA)=0):LgI (n-1) (m4 (acU l.bT vA)):=⟨by rcases aep (acU l.bT vA)with q|q;exact q.2.2;exact absurd hc q.1,ajq (aii h.ok h.by_).2.1,by omega,by have:=h.n1;omega⟩
theorem LgI.add{n:Int}{l:uW}{e:aV}(h:LgI n l)(hn:0<n)(hc:aho l e=0):LgI (n-1) (ahu l e):=⟨aki hc,ajt h.by_,by omega,by have:=h.n1;omega⟩

section
variable {P:Program}{L O:Nat->Prop}{w0:World}{N:Nat}{τ:Nat->AV}{H:Nat->AO}{Q:AQ}
theorem aJ2(ks os:List Nat){v:List AV}{b:List AO}{D:Type}(T:D->List (Nat×AV))(B:D->List (Nat×AO))(I:D->Prop){x y z:Code}
 (h:AW P L O w0 N x τ H (Q.andThen fun τ1 H1=>AW P L O w0 N y τ1 H1 (Q.andThen fun τ H=>∃d,I d/\iN (T d) τ/\fo (B d) H/\ge τ ks=v/\ge H os=b))) (h2:∀d,I d->AW P L O w0 N z (Cu (T d) (eh .bad ks v)) (Cv (B d) (eh .gone os b)) Q) (_:ge τ ks=v:=by exact nz) (_:ge H os=b:=by exact nz):AW P L O w0 N (.seq x (.seq y z)) τ H Q:=
 AW.seq (h.mono fun e τ1 H1 q=>by
  cases e<;>first|exact q|skip
  refine Xz (fun d=>T d++ks.zip v) (fun d=>B d++os.zip b) I (AW.mono q fun e cE H' q=>?_) (fun d hI=>by rw[H5,H6];exact h2 d hI);cases e<;>first|exact q|(obtain⟨d',q1,q3,q4,q5,q6⟩:=q;exact⟨d',q1,iN.gJ q3 (AR q5),fo.gJ q4 (AS q6)⟩))
end

def crD(h:mm)(vA:List Int):du:=if zV h=true then acU h.log.bT vA else ⟨[],[]⟩
theorem agL{h:mm}{vA:List Int}(q:zV h=false):crD h vA=⟨[],[]⟩:=if_neg (by simp[q])
theorem agM{h:mm}{vA:List Int}(q:zV h=true):crD h vA=acU h.log.bT vA:=if_pos q
theorem ahP(u v:Value)(h:mm)(vA:List Int)(hd:HbD h):GC prog 18 [ajQ h,inV vA] (ai' u v h) (Gn) (SH (crD h vA)++ai' u v h):=by
 refine GC.intro (rs:=[.cell 4 43 (some 2)]) func18 rfl ntmps18 x_7 x_140 ?_;intro L O w0;refine sL<|ab (zX 2002 Z) Z<|ab (zA 2004 Du Z) Z<|Y<|aS<|sL<|aP (.agg [.own _,vL _ _ _,U _ _,U _ _,U _ _,U _ _,U _ _,vL _ _ _,vL _ _ _,vL _ _ _,U _ _,vL _ _ _,.own _,vL _ _ _]) EZ Z<|ab (zL func30 (aiL hd) Z) Z<|lT [1,2,4,6] [31,32,2002,2004] ?_;refine bX Z<|Y ?_;refine AW.cond rfl ?_ ?_
 ·intro V;refine sL<|lq (rd (x:=.agg [vV _,vV _]) (cP Z adU Z Z Z) Z)<|ab (zB 2004 Dv Dw Z) Z<|Y ?_;refine AW.pi 1 2004 0 195 1 rfl (by decide) rfl ?_;refine AW.pi 2 2004 1 192 2 rfl (by decide) rfl ?_;refine aR<|rT ?_;have hq:zV h=false:=by have h:=V;simpa using h
  rw[agL hq];refine ax ?_ ⟨rfl,rfl,rfl,rfl,trivial⟩;rfl
 intro V;refine aK<|gT<|aS ?_;have hq:zV h=true:=by have h:=V;simpa using h
 refine aL<|lf 0 qL Z<|lf 0 Bv Z<|aP (.agg [.own _,vL _ _ _]) mE Z<|bm Z ?_;refine ab (zC [(1,1),(2,2),(31,31)] [1,2] [31] func71 (ajP u h.log.bT vA (af4 hq)) (⟨stays.ai rfl,trivial⟩) rfl rfl) Z<|lT [4,13] [1,2,31,32,2002,2004] ?_;refine ab (zB 2004 Dv Dw Z) Z<|Y<|aR ?_;rw[agM hq];refine ax ?_ ⟨rfl,rfl,rfl,rfl,trivial⟩;rfl
theorem ahE(d:du)(hb:qK d):GC prog 27 [mt d] [] (.au [ahO (e6 d),int (y3 d)]) (obK (e6 d)):=by
 refine GC.intro (rs:=[.cell 2 56 (some 14),.tmp 3]) func27 rfl ntmps27 x_7 ⟨rfl,rfl,EZ,rfl,trivial⟩ ?_;intro L O w0;refine sL<|ab (zX 2001 Z) Z<|ab (zA 2002 Ig Z) Z<|ao Z<|nA<|aP (.agg [vL _ _ _,vL _ _ _]) mE Z<|ab (zC [(1,1),(2,2),(3,3)] [1,2,3] [] func81 (ae0 d hb) (trivial) Z Z) Z<|lT [2,3,12] [1,2,3,2001,2002] ?_;refine cT (.au [.agg [.own _,.own _,U _ _,U _ _],.own _,U _ _]) Z<|iB (.agg [.own _,.own _,U _ _,U _ _]) Z<|qT Z<|dE Z<|ab (zA 2004 Nx Z) Z<|lT [2,3,4,13,14,15] [1,2,3,2001,2002,2004] ?_;refine ab (zB 2004 Nv Nw Z) Z<|bD Z<|ao Z<|Y<|aS<|aS ?_;refine AW.freeze 2 rfl ?_;refine AW.freeze 3 rfl ?_;refine aL<|ae Z<|ak Z<|Y ?_;refine AW.cond rfl ?_ ?_
 ·intro V;refine sL<|lq (rd (x:=.agg [vV _,vV _,U _ _,U _ _,U _ _,U _ _,U _ _,vV _,vV _,vV _,U _ _,vV _,vV _,vV _]) (cP Z acf Z Z Z) Z)<|ae Z<|ab (zB 2002 NA NB Z) Z<|lT [2,3,4,5,19] [1,2001,2002,2004] ?_;refine ao Z<|Y ?_;refine AW.pi 1 2002 0 195 1 rfl (by decide) rfl ?_;refine AW.pi 2 2002 12 81 7 rfl (by decide) rfl ?_;refine AW.ahJ 2002 [.own 1,.p (.ab 192 2 []),int 0,int 0,int 0,int 0,int 0,.p (.ab 159 7 []),.p (.ab 218 7 []),.p (.ab 220 5 []),int 0,.p (.ab 167 3 []),.own 2,.p (.ab 81 7 [])] Z (ff.same<|ahl<|ff.same<|ff.same<|ff.same<|ff.same<|ff.same<|ahl<|ahl<|ahl<|ff.same<|ahl<|ff.same<|ahl<|ff.nil) Z Z ?_;refine aR<|rT ?_;have hc:y3 d=m1 d:=adH (by have h:=V;simpa using h);have hL:=acJ (d:=d) (by rw[hc];have h:=V;simpa using h);rw[hL,hc];refine ax ?_ ⟨rfl,rfl,trivial⟩;rfl
 intro V;refine aK<|gT<|aS ?_;have cQ:m1 d=0:=by have h:=V;simpa using h
 have hle:=Ka d;refine aL<|bm Z ?_;refine dC 21 (.p (.ab 81 7 (ah fR (f8 d)))) (congrArg (fun l=>AV.p (.ab 81 7 (ah fR l))) (acG cQ)) ?_;refine ab (zC [] [] [] func82 (QK (f8 d) (Dp d) (by omega)) (trivial) rfl rfl) Z<|cT (.au [.agg [U _ _,U _ _,U _ _,vL _ _ _,vL _ _ _,vL _ _ _],.agg [U _ _,vL _ _ _],vB _]) Z<|iB (.agg [U _ _,U _ _,U _ _,vL _ _ _,vL _ _ _,vL _ _ _]) Z<|iB (.agg [U _ _,vL _ _ _]) Z<|eU Z<|ab (zA 2007 mD rfl) Z<|lT [2,3,4,7,23,24,25] [1,2001,2002,2004,2007] ?_;refine ab (zA 2008 ld Z) Z<|ab (zB 2007 eu ew Z) Z<|ab (zB 2008 cA cB Z) Z<|bv Z<|Y<|aS<|sL<|aQ Z<|bX Z<|Y ?_;refine AW.cond rfl ?_ ?_
 ·intro h2;refine sL<|lq (rd (x:=.agg [vV _,vV _,U _ _,U _ _,U _ _,U _ _,U _ _,vV _,vV _,vV _,U _ _,vV _,vV _,vV _]) (cP Z acf Z Z Z) Z)<|ab (zB 2002 NA NB Z) Z<|lT [2,3,4,7,8] [1,2001,2002,2004,2007,2008] ?_;refine ao Z<|Y ?_;refine AW.pi 1 2002 0 195 1 rfl (by decide) rfl ?_;refine AW.pi 2 2002 12 81 7 rfl (by decide) rfl ?_;refine AW.ahJ 2002 [.own 1,.p (.ab 192 2 []),int 0,int 0,int 0,int 0,int 0,.p (.ab 159 7 []),.p (.ab 218 7 []),.p (.ab 220 5 []),int 0,.p (.ab 167 3 []),.own 2,.p (.ab 81 7 [])] Z (ff.same<|ahl<|ff.same<|ff.same<|ff.same<|ff.same<|ff.same<|ahl<|ahl<|ahl<|ff.same<|ahl<|ff.same<|ahl<|ff.nil) Z Z ?_;refine aR<|rT ?_;have hc:y3 d=3:=adI cQ (by have h:=h2;simpa using h);have hL:=acJ (d:=d) x_51;rw[hL,hc];refine ax ?_ ⟨rfl,rfl,trivial⟩;rfl
 intro h2;refine aK<|gA<|aP (.agg [.own _,vL _ _ _,U _ _,U _ _]) EY Z<|aP (.agg [U _ _,U _ _,U _ _,vL _ _ _,vL _ _ _,vL _ _ _]) cu Z<|aP (.agg [U _ _,vL _ _ _]) eZ Z<|lq (rd (x:=.agg [.own _,vL _ _ _,U _ _,U _ _,U _ _,U _ _,U _ _,vL _ _ _,vL _ _ _,vL _ _ _,U _ _,vL _ _ _,vV _,vV _]) (cP Z acf Z Z Z) Z)<|ab (zB 2002 NA NB Z) Z<|lT [2,3] [1,2001,2002,2004,2007,2008] ?_;refine ao Z<|Y ?_;refine AW.pi 2 2002 12 81 7 rfl (by decide) rfl ?_;refine AW.ahJ 2002 [.own 1,.p (.ab 192 2 (oT (m4 d).bT.bu)),int (m4 d).next,int (m4 d).dP,int (de (f8 d)).now.tick,int (de (f8 d)).now.next,int (de (f8 d)).now.aA,.p (.ab 159 7 (ah aX (de (f8 d)).now.ag)),.p (.ab 218 7 (ah go (de (f8 d)).now.an)),.p (.ab 220 5 (ah iX (de (f8 d)).now.aq)),int (d5 (f8 d)).1.last,.p (.ab 167 3 (ah ct (d5 (f8 d)).1.lines)),.own 2,.p (.ab 81 7 [])] Z (ff.same<|ff.same<|ff.same<|ff.same<|ff.same<|ff.same<|ff.same<|ff.same<|ff.same<|ff.same<|ff.same<|ff.same<|ff.same<|ahl<|ff.nil) Z Z ?_;refine aR ?_;have hc:y3 d=0:=adJ cQ (by have h:=h2;simpa using h);have hL:=ac5 hc;rw[hL,hc];refine ax ?_ ⟨rfl,rfl,trivial⟩;rfl
theorem akj(h:mm)(hd:HbD h):GC prog 12 [Bu h] [] (ahO (afL h)) (obK (afL h)):=by
 refine GC.intro (rs:=[.cell 2 56 (some 14)]) func12 rfl ntmps12 x_7 ⟨rfl,rfl,EZ,trivial⟩ ?_;intro L O w0;refine sL<|ab (zX 2001 Z) Z<|ab (zA 2002 Ig Z) Z<|Y<|aS<|sL<|aP (.agg [vL _ _ _,vL _ _ _,U _ _,U _ _,U _ _,U _ _,U _ _,vL _ _ _,vL _ _ _,vL _ _ _,U _ _,vL _ _ _,vL _ _ _,vL _ _ _]) EZ Z<|ab (zC [] [] [] func30 (aiL hd) (trivial) Z Z) Z<|lT [1,2,5] [2001,2002] ?_;refine bX Z<|Y ?_;refine AW.cond rfl ?_ ?_
 ·intro V;refine sL<|lq (rd (x:=.agg [vV _,vV _,U _ _,U _ _,U _ _,U _ _,U _ _,vV _,vV _,vV _,U _ _,vV _,vV _,vV _]) (cP Z acf Z Z Z) Z)<|ab (zB 2002 NA NB Z) Z<|Y ?_;refine AW.pi 1 2002 0 195 1 rfl (by decide) rfl ?_;refine AW.pi 2 2002 12 81 7 rfl (by decide) rfl ?_;refine AW.ahJ 2002 [.own 1,.p (.ab 192 2 []),int 0,int 0,int 0,int 0,int 0,.p (.ab 159 7 []),.p (.ab 218 7 []),.p (.ab 220 5 []),int 0,.p (.ab 167 3 []),.own 2,.p (.ab 81 7 [])] Z (ff.same<|ahl<|ff.same<|ff.same<|ff.same<|ff.same<|ff.same<|ahl<|ahl<|ahl<|ff.same<|ahl<|ff.same<|ahl<|ff.nil) Z Z ?_;refine aR<|rT ?_;have hq:zV h=false:=by have h:=V;simpa using h
  rw[afX hq];refine ax ?_ ⟨rfl,rfl,trivial⟩;rfl
 intro V;refine aK<|gT<|aS ?_;have hq:zV h=true:=by have h:=V;simpa using h
 have hlw:=hd.lw;have T7:=hd.ls;refine aL<|aP (.agg [vL _ _ _,vL _ _ _,U _ _,U _ _,U _ _,U _ _,U _ _,vL _ _ _,vL _ _ _,vL _ _ _,U _ _,vL _ _ _,vL _ _ _,vL _ _ _]) EZ Z<|ab (zC [(6,6),(7,7),(8,8)] [6,7,8] [] func49 (agq h (hd.z hq) (acF (af4 hq))) (trivial) Z Z) Z<|lT [1,2,9] [6,7,8,2001,2002] ?_;refine ab (zA 2003 Ig Z) Z<|ab (zB 2003 NA NB Z) Z<|nA<|lf 0 qL Z<|aP (.agg [vL _ _ _,vL _ _ _,U _ _,U _ _]) EY Z<|ab (zC [(1,1),(2,2)] [1,2] [] func50 (aga h.log) (trivial) Z Z) Z<|lT [2,3,12] [1,2,6,7,8,2001,2002,2003] ?_;refine lf 0 qL Z<|ab (zB 2003 Nv Nw Z) Z<|Y<|aS ?_;refine AW.freeze 2 rfl ?_;refine aL<|lf 13 By Z<|iO tE Z<|lf 12 Bz Z<|iO tE Z<|ab (zP 8 jk jl sD Z (Src.own Z Z)) Z<|lT [2,3,18] [1,6,7,8,2001,2002,2003] ?_;refine lf 13 By Z<|ab (zB 2003 Ny Nz Z) Z<|nA<|lf 12 Bz Z<|ab (zB 2003 Ny Nz Z) Z<|lT [2,3] [1,6,7,8,2001,2002,2003] ?_;refine nA<|aP (.agg [.own _,vL _ _ _,U _ _,U _ _,U _ _,U _ _,U _ _,vL _ _ _,vL _ _ _,vL _ _ _,U _ _,.own _,vV _,.own _]) EZ Z<|ab (zB 2002 NA NB Z) Z<|Y ?_;refine AW.obj 8 (uT (h.f9++h.wait)) (congrArg (AO.ai 81 7) (fx fR _ _).symm) ?_;refine AW.freeze 6 rfl ?_;refine AW.freeze 8 rfl ?_;refine AW.pi 2 2002 12 81 7 rfl (by decide) rfl ?_;refine aR ?_;rw[afY hq];refine ax ?_ ⟨rfl,rfl,trivial⟩;rfl
structure aix(I:Nat->mm->Prop):Prop where
 new:∀n,1<=n->n<=600->I 0 (e6 (ahW n))
 mono:∀ {k h},I k h->I (k+1) h
 take:∀ {k h e},I k h->l7 e->ahr h e=0->I k (aht h e)
 sync:∀ {k h},I k h->I k (afL h)
 aiT:∀ {k h} (vA:List Int),I k h->y3 (crD h vA)=0->I (k+1) (e6 (crD h vA))
 wf:∀ {k h},I k h->HbD h
theorem ahF{h:mm}{vA:List Int}(hd:HbD h):qK (crD h vA):=by
 cases q:zV h
 ·rw[agL q];exact x_63
 rw[agM q];exact(aii (af4 q) hd.db).2.1
def DrH(I:Nat->mm->Prop)(m:Nat):AV->List (Nat×AO)->Prop:=fun x ob2=>∃k h,k<=m/\I k h/\x=ahO h/\ob2=obK h
theorem x_55{p:Prop}(c:p:=by exact ⟨stays.ai rfl,stays.ai rfl,trivial⟩):p:=c
theorem x_74{p:Prop}(c:p:=by exact Eq.trans (b:=int _) rfl (congrArg int (by show _=((kJ+1:Nat):Int);omega))):p:=c
theorem x_146{p:Prop}(c:p:=by assumption):p:=c
theorem akk{I:Nat->mm->Prop}(W:aix I)(g:Value)(code:List Int)(i:Nat)(h m:Int)(hc:ahk code i)(hm:0<=m/\m<=100):GX prog 97 [.ptr 0 0 0,int m] [(0,ahm g code i h)] (DrX g code (DrH I (5+m).toNat)):=by
 refine GX.intro (rs:=[.cell 4 56 (some 14)]) func97 rfl ntmps97 x_7 ⟨rfl,rfl,EZ,trivial⟩ ?_;intro L O w0;refine sL<|ab (zA 2004 Ig Z) Z<|nA<|aM Z ?_;refine alX [(0,0)] [] [0] func98 (ahp g code _ _ _ hc) x_9 (ahn) Z ?_;intro xz1 oz1 fa;obtain⟨i1,q1,qC,⟨n1,⟨na1,nb1⟩,rfl⟩,rfl⟩:=fa;refine bg Z<|jK 19 (((8+n1).toNat:Nat):Int) rfl (by omega)<|ab (zC [] [] [] func182 (akh (8+n1).toNat (by omega) (by omega)) (trivial) rfl rfl) Z<|lT [0,1,4,20] [0,2004] ?_;refine cT (.au [.agg [vL _ _ _,vL _ _ _],vB _]) Z<|iB (.agg [vL _ _ _,vL _ _ _]) Z<|eU Z<|ab (zA 2005 Du Z) Z<|lT [0,1,4,5,21,22] [0,2004,2005] ?_;refine ab (zB 2005 Dv Dw Z) Z<|bv Z<|nA<|aP (.agg [vL _ _ _,vL _ _ _]) mE Z<|ab (zC [(1,1),(2,2)] [1,2] [] func27 (ahE (ahW (8+n1).toNat) (ajm _)) (trivial) Z Z) Z<|lT [0,1,4,25] [0,1,2,2004,2005] ?_;refine cT (.au [.agg [.own _,vL _ _ _,U _ _,U _ _,U _ _,U _ _,U _ _,vL _ _ _,vL _ _ _,vL _ _ _,U _ _,vL _ _ _,.own _,vL _ _ _],U _ _]) Z<|iB (.agg [.own _,vL _ _ _,U _ _,U _ _,U _ _,U _ _,U _ _,vL _ _ _,vL _ _ _,vL _ _ _,U _ _,vL _ _ _,.own _,vL _ _ _]) Z<|dE Z<|ab (zA 2007 Ig Z) Z<|lT [0,1,4,7,26,27] [0,1,2,2004,2005,2007] ?_;refine ab (zB 2007 NA NB Z) Z<|ao Z<|Y<|aS<|sL<|aM Z<|ae Z ?_;refine alX [(0,0),(50,50)] [50] [0] func183 (akl g code _ _ m qC hm) x_9 (aiU) Z ?_;intro xz2 oz2 hz2;obtain⟨i2,q2,_,Cj,⟨es1,aiV,rfl,rfl⟩,rfl⟩:=hz2;refine lT [0,4,7,30] [0,1,2,50,2004,2005,2007] ?_;refine ba jZ rfl ?_;refine dC 31 (int (es1.length:Int)) (congrArg (fun n:Nat=>int (n:Int)) (ap ..)) ?_;refine ae Z<|Y ?_;refine AW.freeze 50 rfl ?_;refine aB ?_;refine aW [0,4,7,30,31] [2004,2005] (D:=Nat×Int×Nat×mm) (fun d=>[(32,int (d.2.2.1:Int))]) (fun d=>[(0,ahm g code d.1 d.2.1),(2007,.box 56 none [.own 1,.p (.ab 192 2 (oT d.2.2.2.log.bT.bu)),int d.2.2.2.log.next,int d.2.2.2.log.dP,int d.2.2.2.book.tick,int d.2.2.2.book.next,int d.2.2.2.book.aA,.p (.ab 159 7 (ah aX d.2.2.2.book.ag)),.p (.ab 218 7 (ah go d.2.2.2.book.an)),.p (.ab 220 5 (ah iX d.2.2.2.book.aq)),int d.2.2.2.ia.last,.p (.ab 167 3 (ah ct d.2.2.2.ia.lines)),.own 2,.p (.ab 81 7 (ah fR d.2.2.2.f9))]),(1,.ai 195 1 (oS d.2.2.2.log.bT.cells)),(2,uT d.2.2.2.wait)]) (fun d=>ahk code d.1/\d.2.2.1<=es1.length/\I d.2.2.1 d.2.2.2) (fun d=>es1.length-d.2.2.1) ((_,_,0,e6 (ahW (8+n1).toNat))) (⟨by assumption,Nat.zero_le _,W.new _ (by omega) (by omega)⟩) ⟨rfl,trivial⟩ ⟨rfl,rfl,rfl,rfl,trivial⟩ ?_;intro ⟨iJ,qJ,kJ,hJ⟩ hI;dsimp only;obtain⟨hcJ,hkJ,hgJ⟩:=hI;replace hcJ:ahk code iJ:=hcJ;replace hkJ:kJ<=es1.length:=hkJ;replace hgJ:I kJ hJ:=hgJ;have hdJ:=W.wf hgJ;refine sL<|ak Z<|Y<|aS ?_;refine AW.cond rfl ?_ ?_
 ·intro V;refine aK<|gT<|aS<|aB<|aS ?_;have akV:=aiV.2;have hk:kJ<es1.length:=by have h:=V;simp only[decide_eq_true_eq]at h;omega
  refine aL<|li kJ jk Z (bS hk)<|d6 (.agg [U _ _,U _ _,U _ _,U _ _,U _ _,U _ _,vB _]) dD Z<|ab (zA 2010 jl Z) Z<|lT [0,4,7,10,30,31,32,35] [0,1,2,2004,2005,2007,2010] ?_;refine ab (zB 2010 mZ m0 Z) Z<|Y ?_;refine aJ2 [0,4,7,30,31,32] [2004,2005,2010] (D:=Nat×Int×mm) (fun d=>[]) (fun d=>[(0,ahm g code d.1 d.2.1),(2007,.box 56 none [.own 1,.p (.ab 192 2 (oT d.2.2.log.bT.bu)),int d.2.2.log.next,int d.2.2.log.dP,int d.2.2.book.tick,int d.2.2.book.next,int d.2.2.book.aA,.p (.ab 159 7 (ah aX d.2.2.book.ag)),.p (.ab 218 7 (ah go d.2.2.book.an)),.p (.ab 220 5 (ah iX d.2.2.book.aq)),int d.2.2.ia.last,.p (.ab 167 3 (ah ct d.2.2.ia.lines)),.own 2,.p (.ab 81 7 (ah fR d.2.2.f9))]),(1,.ai 195 1 (oS d.2.2.log.bT.cells)),(2,uT d.2.2.wait)]) (fun d=>ahk code d.1/\I kJ d.2.2) ?_ ?_
  ·by_cases T8:ahr hJ es1[kJ]=0
   ·skip;refine AW.freeze 1 rfl ?_;refine AW.freeze 2 rfl ?_;refine aL<|aP (.agg [vL _ _ _,vL _ _ _,U _ _,U _ _,U _ _,U _ _,U _ _,vL _ _ _,vL _ _ _,vL _ _ _,U _ _,vL _ _ _,vL _ _ _,vL _ _ _]) EZ Z<|aP (.agg [U _ _,U _ _,U _ _,U _ _,U _ _,U _ _,vB _]) dD Z<|ab (zC [(1,81),(2,82)] [81,82] [] func40 (ajj hdJ T8) (trivial) Z Z) Z<|lT [0,4,7,30,31,32,39] [0,81,82,2004,2005,2007,2010] ?_;refine cT (.au [.agg [.own _,vL _ _ _,U _ _,U _ _,U _ _,U _ _,U _ _,vL _ _ _,vL _ _ _,vL _ _ _,U _ _,vL _ _ _,.own _,vL _ _ _],U _ _]) Z<|iB (.agg [.own _,vL _ _ _,U _ _,U _ _,U _ _,U _ _,U _ _,vL _ _ _,vL _ _ _,vL _ _ _,U _ _,vL _ _ _,.own _,vL _ _ _]) Z<|dE Z<|ab (zA 2011 Ig Z) Z<|lT [0,4,7,11,30,31,32,40,41] [0,81,82,2004,2005,2007,2010,2011] ?_;refine ab (zB 2011 NA NB Z) Z<|ao Z<|Y<|aS ?_;skip;refine aL<|ae Z<|ak Z<|bJ 43 true Z (Z)<|Y<|aY Z<|aL<|aP (.agg [.own _,vL _ _ _,U _ _,U _ _,U _ _,U _ _,U _ _,vL _ _ _,vL _ _ _,vL _ _ _,U _ _,vL _ _ _,.own _,vL _ _ _]) EZ Z<|ab (zB 2007 NA NB Z) Z ?_;refine AL.swap 81 1 ?_;refine AL.swap 82 2 ?_;refine lT [0,4,7,30,31,32] [0,1,2,2004,2005,2007,2010,2011] ?_;refine Y ?_;refine⟨(_,_,aht hJ es1[kJ]),⟨by assumption,W.take hgJ (aiV.1 _ (List.getElem_mem _)) T8⟩,trivial,⟨rfl,rfl,rfl,rfl,trivial⟩,rfl,rfl⟩
   skip;refine aL<|aP (.agg [.own _,vL _ _ _,U _ _,U _ _,U _ _,U _ _,U _ _,vL _ _ _,vL _ _ _,vL _ _ _,U _ _,vL _ _ _,.own _,vL _ _ _]) EZ Z<|aP (.agg [U _ _,U _ _,U _ _,U _ _,U _ _,U _ _,vB _]) dD Z<|ab (zL func40 (ajk hdJ T8) Z) Z<|cT (.au [.agg [vV _,vV _,U _ _,U _ _,U _ _,U _ _,U _ _,vV _,vV _,vV _,U _ _,vV _,vV _,vV _],U _ _]) Z<|iB (.agg [vV _,vV _,U _ _,U _ _,U _ _,U _ _,U _ _,vV _,vV _,vV _,U _ _,vV _,vV _,vV _]) Z<|dE Z<|ab (zA 2011 Ig Z) Z<|lT [0,4,7,11,30,31,32,40,41] [0,1,2,2004,2005,2007,2010,2011] ?_;refine ab (zB 2011 NA NB Z) Z<|ao Z<|Y<|aS ?_;skip;refine aL<|ae Z<|ak Z<|bJ 43 false Z (decide_eq_false T8)<|Y<|aN Z<|aK<|gT ?_;refine⟨(_,_,hJ),⟨by assumption,hgJ⟩,trivial,⟨rfl,rfl,rfl,rfl,trivial⟩,rfl,rfl⟩
  intro ⟨iJ9,qJ9,hJ9⟩ hiJ9;dsimp only;obtain⟨ahI,aij⟩:=hiJ9;replace ahI:ahk code iJ9:=ahI;replace aij:I kJ hJ9:=aij;have akm:=W.wf aij;refine sL<|aM Z ?_;refine alX [(0,0)] [] [0] func98 (ahp g code _ _ _ ahI) x_9 (ahn) Z ?_;intro xz3 oz3 hz3;obtain⟨i3,q3,hc3,⟨ahG,⟨na3,nb3⟩,rfl⟩,rfl⟩:=hz3;refine ao Z<|Y ?_;refine aJ [0,4,7,13,30,31,32] [2004,2005,2010] (D:=Nat×Int×mm) (fun d=>[]) (fun d=>[(0,ahm g code d.1 d.2.1),(2007,.box 56 none [.own 1,.p (.ab 192 2 (oT d.2.2.log.bT.bu)),int d.2.2.log.next,int d.2.2.log.dP,int d.2.2.book.tick,int d.2.2.book.next,int d.2.2.book.aA,.p (.ab 159 7 (ah aX d.2.2.book.ag)),.p (.ab 218 7 (ah go d.2.2.book.an)),.p (.ab 220 5 (ah iX d.2.2.book.aq)),int d.2.2.ia.last,.p (.ab 167 3 (ah ct d.2.2.ia.lines)),.own 2,.p (.ab 81 7 (ah fR d.2.2.f9))]),(1,.ai 195 1 (oS d.2.2.log.bT.cells)),(2,uT d.2.2.wait)]) (fun d=>ahk code d.1/\I kJ d.2.2) ?_ ?_
  ·refine sL<|ae Z<|ak Z<|Y ?_;refine AW.cond rfl ?_ ?_
   ·intro h2;refine AW.freeze 1 rfl ?_;refine AW.freeze 2 rfl ?_;refine aL<|aP (.agg [vL _ _ _,vL _ _ _,U _ _,U _ _,U _ _,U _ _,U _ _,vL _ _ _,vL _ _ _,vL _ _ _,U _ _,vL _ _ _,vL _ _ _,vL _ _ _]) EZ Z<|ab (zC [(1,81),(2,82)] [81,82] [] func12 (akj hJ9 akm) (trivial) Z Z) Z<|lT [0,4,7,13,30,31,32,50] [0,81,82,2004,2005,2007,2010] ?_;refine ab (zB 2007 NA NB rfl) rfl ?_;refine AL.swap 81 1 ?_;refine AL.swap 82 2 ?_;refine Y ?_;refine⟨(_,_,afL hJ9),⟨by assumption,W.sync aij⟩,trivial,⟨rfl,rfl,rfl,rfl,trivial⟩,rfl,rfl⟩
   intro h2;refine aK<|gT ?_;refine⟨(_,_,hJ9),⟨by assumption,aij⟩,trivial,⟨rfl,rfl,rfl,rfl,trivial⟩,rfl,rfl⟩
  intro ⟨iJ12,qJ12,hJ12⟩ hiJ12;dsimp only;obtain⟨ahX,ahY⟩:=hiJ12;replace ahX:ahk code iJ12:=ahX;replace ahY:I kJ hJ12:=ahY;have ahv:=W.wf ahY;refine sL<|ae Z<|ak Z<|aQ Z ?_;refine AL.bool (t:=53) rfl ?_ ?_
  ·intro h3;refine aM rfl ?_;refine alX [(0,0)] [] [0] func98 (ahp g code _ _ _ ahX) x_9 (ahn) Z ?_;intro xz4 oz4 hz4;obtain⟨i4,q4,hc4,⟨ahZ,⟨na4,nb4⟩,rfl⟩,rfl⟩:=hz4;refine lT [0,4,7,30,31,32,53,55] [0,1,2,2004,2005,2007,2010] ?_;refine ak Z<|bj Z<|Y ?_;refine AW.cond rfl ?_ ?_
   ·intro h4;refine AW.mU 1 rfl ?_;intro u1;refine AW.mU 2 rfl ?_;intro u2;refine aJ [0,4,7,30,31,32] [1,2,2004,2005,2007,2010] (D:=Nat×Int×Int) (fun d=>[(14,.ptr 2014 0 0),(15,int (y3 (crD hJ12 [128,d.2.2,128,0,128])))]) (fun d=>[(0,ahm g code d.1 d.2.1),(2014,.box 56 none [.own 83,.p (.ab 192 2 (oT (e6 (crD hJ12 [128,d.2.2,128,0,128])).log.bT.bu)),int (e6 (crD hJ12 [128,d.2.2,128,0,128])).log.next,int (e6 (crD hJ12 [128,d.2.2,128,0,128])).log.dP,int (e6 (crD hJ12 [128,d.2.2,128,0,128])).book.tick,int (e6 (crD hJ12 [128,d.2.2,128,0,128])).book.next,int (e6 (crD hJ12 [128,d.2.2,128,0,128])).book.aA,.p (.ab 159 7 (ah aX (e6 (crD hJ12 [128,d.2.2,128,0,128])).book.ag)),.p (.ab 218 7 (ah go (e6 (crD hJ12 [128,d.2.2,128,0,128])).book.an)),.p (.ab 220 5 (ah iX (e6 (crD hJ12 [128,d.2.2,128,0,128])).book.aq)),int (e6 (crD hJ12 [128,d.2.2,128,0,128])).ia.last,.p (.ab 167 3 (ah ct (e6 (crD hJ12 [128,d.2.2,128,0,128])).ia.lines)),.own 84,.p (.ab 81 7 (ah fR (e6 (crD hJ12 [128,d.2.2,128,0,128])).f9))]),(83,.ai 195 1 (oS (e6 (crD hJ12 [128,d.2.2,128,0,128])).log.bT.cells)),(84,uT (e6 (crD hJ12 [128,d.2.2,128,0,128])).wait)]) (fun d=>ahk code d.1) ?_ ?_
    ·refine aF [2,4,10]<|pq 1 (dJ Z) ?_;refine Dt (i:=0) (j:=2) (k:=9) x_37 ?_ ?_ ?_
     ·refine d9.rd (i:=0) (x:=.agg [.own _,vL _ _ _,U _ _,U _ _,U _ _,U _ _,U _ _,vL _ _ _,vL _ _ _,vL _ _ _,U _ _,vL _ _ _,.own _,vL _ _ _]) rfl (sC rfl EZ rfl rfl rfl rfl) rfl rfl (by decide) ?_;refine AF.two (i:=2) (j:=9) x_37 ?_ ?_
      ·refine abq (i:=2) rfl (Un [(0,0)] [] [0] rfl x_66 rfl func98 rfl rfl (ahp g code _ _ _ hc4) ⟨rfl,rfl,rfl⟩ x_9 (ahn) rfl) (.inl rfl) rfl ?_;rintro _ _ ⟨xz6,oz6,hz6,rfl,rfl⟩;obtain⟨i6,q6,hc6,⟨ahB,⟨na6,nb6⟩,rfl⟩,rfl⟩:=hz6;refine fT [0,4,7,30,31,32,59,61] [0,1,2,2004,2005,2007,2010] ?_;refine AF.two (i:=3) (j:=9) x_37 ?_ ?_
       ·refine v1 3 rfl (zS 2062 (ah kt [128,ahB,128,0,128]) iU lY rfl x_29) (.inr rfl) ?_;refine AF.freeze 2062 rfl ?_;refine AF.two (i:=4) (j:=9) x_37 ?_ ?_
        ·refine v1 4 rfl (zC [(1,91),(2,92),(31,1),(32,2)] [91,92] [31,32] func18 (ahP u1 u2 hJ12 [128,ahB,128,0,128] ahv) x_55 rfl rfl) (.inl rfl) ?_;refine AF.freeze 91 rfl ?_;refine AF.freeze 92 rfl ?_;refine AF.two (i:=5) (j:=9) x_37 ?_ ?_
         ·refine v1 5 Z (zC [(1,83),(2,84)] [83,84] [] func27 (ahE (crD hJ12 [128,ahB,128,0,128]) (ahF ahv)) (trivial) Z Z) (.inr Z)<|pq 6 (gL (.au [.agg [.own _,vL _ _ _,U _ _,U _ _,U _ _,U _ _,U _ _,vL _ _ _,vL _ _ _,vL _ _ _,U _ _,vL _ _ _,.own _,vL _ _ _],U _ _]) Z)<|pq 7 (qxX (.agg [.own _,vL _ _ _,U _ _,U _ _,U _ _,U _ _,U _ _,vL _ _ _,vL _ _ _,vL _ _ _,U _ _,vL _ _ _,.own _,vL _ _ _]) Z)<|pq 8 (qxI Z)<|bn 9 Z (zA 2014 Ig Z) (.inr Z)<|fT [0,4,7,14,30,31,32,65,66] [0,1,2,83,84,2004,2005,2007,2010,2014] ?_;refine bn 10 Z (zB 2014 NA NB Z) (.inl Z)<|vq 11 (j8 Z)<|fD<|gT ?_;refine⟨(_,_,_),x_146,⟨rfl,rfl,trivial⟩,⟨rfl,rfl,rfl,rfl,trivial⟩,rfl,rfl⟩
         refine v1 9 Z (zA 2014 Ig Z) (.inr Z)<|bn 5 Z (zC [(1,83),(2,84)] [83,84] [] func27 (ahE (crD hJ12 [128,ahB,128,0,128]) (ahF ahv)) (trivial) Z Z) (.inr Z)<|fT [0,4,7,14,30,31,32,64] [0,1,2,83,84,2004,2005,2007,2010,2014] ?_;refine vq 6 (sj (.au [.agg [.own _,vL _ _ _,U _ _,U _ _,U _ _,U _ _,U _ _,vL _ _ _,vL _ _ _,vL _ _ _,U _ _,vL _ _ _,.own _,vL _ _ _],U _ _]) Z)<|pq 7 (qxX (.agg [.own _,vL _ _ _,U _ _,U _ _,U _ _,U _ _,U _ _,vL _ _ _,vL _ _ _,vL _ _ _,U _ _,vL _ _ _,.own _,vL _ _ _]) Z)<|pq 8 (qxI Z)<|bn 10 Z (zB 2014 NA NB Z) (.inl Z)<|fT [0,4,7,14,30,31,32,66] [0,1,2,83,84,2004,2005,2007,2010,2014] ?_;refine vq 11 (j8 Z)<|fD<|gT ?_;refine⟨(_,_,_),x_146,⟨rfl,rfl,trivial⟩,⟨rfl,rfl,rfl,rfl,trivial⟩,rfl,rfl⟩
        refine v1 9 rfl (zA 2014 Ig rfl) (.inr rfl) ?_;refine bn 4 rfl (zC [(1,91),(2,92),(31,1),(32,2)] [91,92] [31,32] func18 (ahP u1 u2 hJ12 [128,ahB,128,0,128] ahv) x_55 rfl rfl) (.inl rfl) ?_;refine AF.freeze 91 rfl ?_;refine AF.freeze 92 rfl ?_;refine bn 5 Z (zC [(1,83),(2,84)] [83,84] [] func27 (ahE (crD hJ12 [128,ahB,128,0,128]) (ahF ahv)) (trivial) Z Z) (.inr Z)<|fT [0,4,7,14,30,31,32,64] [0,1,2,83,84,2004,2005,2007,2010,2014] ?_;refine vq 6 (sj (.au [.agg [.own _,vL _ _ _,U _ _,U _ _,U _ _,U _ _,U _ _,vL _ _ _,vL _ _ _,vL _ _ _,U _ _,vL _ _ _,.own _,vL _ _ _],U _ _]) Z)<|pq 7 (qxX (.agg [.own _,vL _ _ _,U _ _,U _ _,U _ _,U _ _,U _ _,vL _ _ _,vL _ _ _,vL _ _ _,U _ _,vL _ _ _,.own _,vL _ _ _]) Z)<|pq 8 (qxI Z)<|bn 10 Z (zB 2014 NA NB Z) (.inl Z)<|fT [0,4,7,14,30,31,32,66] [0,1,2,83,84,2004,2005,2007,2010,2014] ?_;refine vq 11 (j8 Z)<|fD<|gT ?_;refine⟨(_,_,_),x_146,⟨rfl,rfl,trivial⟩,⟨rfl,rfl,rfl,rfl,trivial⟩,rfl,rfl⟩
       refine v1 9 rfl (zA 2014 Ig rfl) (.inr rfl)<|bn 3 rfl (zS 2062 (ah kt [128,ahB,128,0,128]) iU lY rfl x_29) (.inr rfl) ?_;refine AF.freeze 2062 rfl ?_;refine bn 4 rfl (zC [(1,91),(2,92),(31,1),(32,2)] [91,92] [31,32] func18 (ahP u1 u2 hJ12 [128,ahB,128,0,128] ahv) x_55 rfl rfl) (.inl rfl)<|fT [0,4,7,14,30,31,32,63] [0,1,2,91,92,2004,2005,2007,2010,2014] ?_;refine AF.freeze 91 rfl ?_;refine AF.freeze 92 rfl ?_;refine bn 5 Z (zC [(1,83),(2,84)] [83,84] [] func27 (ahE (crD hJ12 [128,ahB,128,0,128]) (ahF ahv)) (trivial) Z Z) (.inr Z)<|vq 6 (sj (.au [.agg [.own _,vL _ _ _,U _ _,U _ _,U _ _,U _ _,U _ _,vL _ _ _,vL _ _ _,vL _ _ _,U _ _,vL _ _ _,.own _,vL _ _ _],U _ _]) Z)<|pq 7 (qxX (.agg [.own _,vL _ _ _,U _ _,U _ _,U _ _,U _ _,U _ _,vL _ _ _,vL _ _ _,vL _ _ _,U _ _,vL _ _ _,.own _,vL _ _ _]) Z)<|pq 8 (qxI Z)<|bn 10 Z (zB 2014 NA NB Z) (.inl Z)<|fT [0,4,7,14,30,31,32,66] [0,1,2,83,84,2004,2005,2007,2010,2014] ?_;refine vq 11 (j8 Z)<|fD<|gT ?_;refine⟨(_,_,_),x_146,⟨rfl,rfl,trivial⟩,⟨rfl,rfl,rfl,rfl,trivial⟩,rfl,rfl⟩
      refine v1 9 rfl (zA 2014 Ig rfl) (.inr rfl) ?_;refine abx (i:=2) rfl x_37 (Un [(0,0)] [] [0] rfl x_66 rfl func98 rfl rfl (ahp g code _ _ _ hc4) ⟨rfl,rfl,rfl⟩ x_9 (ahn) rfl) (.inl rfl) rfl ?_;rintro _ _ ⟨xz7,oz7,hz7,rfl,rfl⟩;obtain⟨i7,q7,hc7,⟨ah8,⟨na7,nb7⟩,rfl⟩,rfl⟩:=hz7;refine bn 3 rfl (zS 2062 (ah kt [128,ah8,128,0,128]) iU lY rfl x_29) (.inr rfl)<|fT [0,4,7,14,30,31,32,59,62] [0,1,2,2004,2005,2007,2010,2014,2062] ?_;refine AF.freeze 2062 rfl ?_;refine bn 4 rfl (zC [(1,91),(2,92),(31,1),(32,2)] [91,92] [31,32] func18 (ahP u1 u2 hJ12 [128,ah8,128,0,128] ahv) x_55 rfl rfl) (.inl rfl) ?_;refine AF.freeze 91 rfl ?_;refine AF.freeze 92 rfl ?_;refine bn 5 Z (zC [(1,83),(2,84)] [83,84] [] func27 (ahE (crD hJ12 [128,ah8,128,0,128]) (ahF ahv)) (trivial) Z Z) (.inr Z)<|vq 6 (sj (.au [.agg [.own _,vL _ _ _,U _ _,U _ _,U _ _,U _ _,U _ _,vL _ _ _,vL _ _ _,vL _ _ _,U _ _,vL _ _ _,.own _,vL _ _ _],U _ _]) Z)<|pq 7 (qxX (.agg [.own _,vL _ _ _,U _ _,U _ _,U _ _,U _ _,U _ _,vL _ _ _,vL _ _ _,vL _ _ _,U _ _,vL _ _ _,.own _,vL _ _ _]) Z)<|pq 8 (qxI Z)<|bn 10 Z (zB 2014 NA NB Z) (.inl Z)<|fT [0,4,7,14,30,31,32,66] [0,1,2,83,84,2004,2005,2007,2010,2014] ?_;refine vq 11 (j8 Z)<|fD<|gT ?_;refine⟨(_,_,_),x_146,⟨rfl,rfl,trivial⟩,⟨rfl,rfl,rfl,rfl,trivial⟩,rfl,rfl⟩
     ·refine abq (i:=2) rfl (Un [(0,0)] [] [0] rfl x_66 rfl func98 rfl rfl (ahp g code _ _ _ hc4) ⟨rfl,rfl,rfl⟩ x_9 (ahn) rfl) (.inl rfl) rfl ?_;rintro _ _ ⟨xz8,oz8,hz8,rfl,rfl⟩;obtain⟨i8,q8,hc8,⟨ahC,⟨na8,nb8⟩,rfl⟩,rfl⟩:=hz8;refine sq 0 (dw (.agg [.own _,vL _ _ _,U _ _,U _ _,U _ _,U _ _,U _ _,vL _ _ _,vL _ _ _,vL _ _ _,U _ _,vL _ _ _,.own _,vL _ _ _]) EZ rfl) ?_;refine AF.two (i:=3) (j:=9) x_37 ?_ ?_
      ·refine v1 3 rfl (zS 2062 (ah kt [128,ahC,128,0,128]) iU lY rfl x_29) (.inr rfl)<|fT [0,4,7,30,31,32,59,62] [0,1,2,2004,2005,2007,2010,2062] ?_;refine AF.freeze 2062 rfl ?_;refine AF.two (i:=4) (j:=9) x_37 ?_ ?_
       ·refine v1 4 rfl (zC [(1,91),(2,92),(31,1),(32,2)] [91,92] [31,32] func18 (ahP u1 u2 hJ12 [128,ahC,128,0,128] ahv) x_55 rfl rfl) (.inl rfl) ?_;refine AF.freeze 91 rfl ?_;refine AF.freeze 92 rfl ?_;refine AF.two (i:=5) (j:=9) x_37 ?_ ?_
        ·refine v1 5 Z (zC [(1,83),(2,84)] [83,84] [] func27 (ahE (crD hJ12 [128,ahC,128,0,128]) (ahF ahv)) (trivial) Z Z) (.inr Z)<|pq 6 (gL (.au [.agg [.own _,vL _ _ _,U _ _,U _ _,U _ _,U _ _,U _ _,vL _ _ _,vL _ _ _,vL _ _ _,U _ _,vL _ _ _,.own _,vL _ _ _],U _ _]) Z)<|pq 7 (qxX (.agg [.own _,vL _ _ _,U _ _,U _ _,U _ _,U _ _,U _ _,vL _ _ _,vL _ _ _,vL _ _ _,U _ _,vL _ _ _,.own _,vL _ _ _]) Z)<|pq 8 (qxI Z)<|bn 9 Z (zA 2014 Ig Z) (.inr Z)<|fT [0,4,7,14,30,31,32,65,66] [0,1,2,83,84,2004,2005,2007,2010,2014] ?_;refine bn 10 Z (zB 2014 NA NB Z) (.inl Z)<|vq 11 (j8 Z)<|fD<|gT ?_;refine⟨(_,_,_),x_146,⟨rfl,rfl,trivial⟩,⟨rfl,rfl,rfl,rfl,trivial⟩,rfl,rfl⟩
        refine v1 9 Z (zA 2014 Ig Z) (.inr Z)<|bn 5 Z (zC [(1,83),(2,84)] [83,84] [] func27 (ahE (crD hJ12 [128,ahC,128,0,128]) (ahF ahv)) (trivial) Z Z) (.inr Z)<|fT [0,4,7,14,30,31,32,64] [0,1,2,83,84,2004,2005,2007,2010,2014] ?_;refine vq 6 (sj (.au [.agg [.own _,vL _ _ _,U _ _,U _ _,U _ _,U _ _,U _ _,vL _ _ _,vL _ _ _,vL _ _ _,U _ _,vL _ _ _,.own _,vL _ _ _],U _ _]) Z)<|pq 7 (qxX (.agg [.own _,vL _ _ _,U _ _,U _ _,U _ _,U _ _,U _ _,vL _ _ _,vL _ _ _,vL _ _ _,U _ _,vL _ _ _,.own _,vL _ _ _]) Z)<|pq 8 (qxI Z)<|bn 10 Z (zB 2014 NA NB Z) (.inl Z)<|fT [0,4,7,14,30,31,32,66] [0,1,2,83,84,2004,2005,2007,2010,2014] ?_;refine vq 11 (j8 Z)<|fD<|gT ?_;refine⟨(_,_,_),x_146,⟨rfl,rfl,trivial⟩,⟨rfl,rfl,rfl,rfl,trivial⟩,rfl,rfl⟩
       refine v1 9 rfl (zA 2014 Ig rfl) (.inr rfl) ?_;refine bn 4 rfl (zC [(1,91),(2,92),(31,1),(32,2)] [91,92] [31,32] func18 (ahP u1 u2 hJ12 [128,ahC,128,0,128] ahv) x_55 rfl rfl) (.inl rfl) ?_;refine AF.freeze 91 rfl ?_;refine AF.freeze 92 rfl ?_;refine bn 5 Z (zC [(1,83),(2,84)] [83,84] [] func27 (ahE (crD hJ12 [128,ahC,128,0,128]) (ahF ahv)) (trivial) Z Z) (.inr Z)<|fT [0,4,7,14,30,31,32,64] [0,1,2,83,84,2004,2005,2007,2010,2014] ?_;refine vq 6 (sj (.au [.agg [.own _,vL _ _ _,U _ _,U _ _,U _ _,U _ _,U _ _,vL _ _ _,vL _ _ _,vL _ _ _,U _ _,vL _ _ _,.own _,vL _ _ _],U _ _]) Z)<|pq 7 (qxX (.agg [.own _,vL _ _ _,U _ _,U _ _,U _ _,U _ _,U _ _,vL _ _ _,vL _ _ _,vL _ _ _,U _ _,vL _ _ _,.own _,vL _ _ _]) Z)<|pq 8 (qxI Z)<|bn 10 Z (zB 2014 NA NB Z) (.inl Z)<|fT [0,4,7,14,30,31,32,66] [0,1,2,83,84,2004,2005,2007,2010,2014] ?_;refine vq 11 (j8 Z)<|fD<|gT ?_;refine⟨(_,_,_),x_146,⟨rfl,rfl,trivial⟩,⟨rfl,rfl,rfl,rfl,trivial⟩,rfl,rfl⟩
      refine v1 9 rfl (zA 2014 Ig rfl) (.inr rfl)<|bn 3 rfl (zS 2062 (ah kt [128,ahC,128,0,128]) iU lY rfl x_29) (.inr rfl) ?_;refine AF.freeze 2062 rfl ?_;refine bn 4 rfl (zC [(1,91),(2,92),(31,1),(32,2)] [91,92] [31,32] func18 (ahP u1 u2 hJ12 [128,ahC,128,0,128] ahv) x_55 rfl rfl) (.inl rfl)<|fT [0,4,7,14,30,31,32,63] [0,1,2,91,92,2004,2005,2007,2010,2014] ?_;refine AF.freeze 91 rfl ?_;refine AF.freeze 92 rfl ?_;refine bn 5 Z (zC [(1,83),(2,84)] [83,84] [] func27 (ahE (crD hJ12 [128,ahC,128,0,128]) (ahF ahv)) (trivial) Z Z) (.inr Z)<|vq 6 (sj (.au [.agg [.own _,vL _ _ _,U _ _,U _ _,U _ _,U _ _,U _ _,vL _ _ _,vL _ _ _,vL _ _ _,U _ _,vL _ _ _,.own _,vL _ _ _],U _ _]) Z)<|pq 7 (qxX (.agg [.own _,vL _ _ _,U _ _,U _ _,U _ _,U _ _,U _ _,vL _ _ _,vL _ _ _,vL _ _ _,U _ _,vL _ _ _,.own _,vL _ _ _]) Z)<|pq 8 (qxI Z)<|bn 10 Z (zB 2014 NA NB Z) (.inl Z)<|fT [0,4,7,14,30,31,32,66] [0,1,2,83,84,2004,2005,2007,2010,2014] ?_;refine vq 11 (j8 Z)<|fD<|gT ?_;refine⟨(_,_,_),x_146,⟨rfl,rfl,trivial⟩,⟨rfl,rfl,rfl,rfl,trivial⟩,rfl,rfl⟩
     refine v1 9 rfl (zA 2014 Ig rfl) (.inr rfl) ?_;refine AF.two (i:=0) (j:=2) x_37 ?_ ?_
     ·refine d9.rd (i:=0) (x:=.agg [.own _,vL _ _ _,U _ _,U _ _,U _ _,U _ _,U _ _,vL _ _ _,vL _ _ _,vL _ _ _,U _ _,vL _ _ _,.own _,vL _ _ _]) rfl (sC rfl EZ rfl rfl rfl rfl) rfl rfl (by decide) ?_;refine abx (i:=2) rfl x_37 (Un [(0,0)] [] [0] rfl x_66 rfl func98 rfl rfl (ahp g code _ _ _ hc4) ⟨rfl,rfl,rfl⟩ x_9 (ahn) rfl) (.inl rfl) rfl ?_;rintro _ _ ⟨xz9,oz9,hz9,rfl,rfl⟩;obtain⟨i9,q9,hc9,⟨ahT,⟨na9,nb9⟩,rfl⟩,rfl⟩:=hz9;refine fT [0,4,7,14,30,31,32,59,61] [0,1,2,2004,2005,2007,2010,2014] ?_;refine bn 3 rfl (zS 2062 (ah kt [128,ahT,128,0,128]) iU lY rfl x_29) (.inr rfl) ?_;refine AF.freeze 2062 rfl ?_;refine bn 4 rfl (zC [(1,91),(2,92),(31,1),(32,2)] [91,92] [31,32] func18 (ahP u1 u2 hJ12 [128,ahT,128,0,128] ahv) x_55 rfl rfl) (.inl rfl) ?_;refine AF.freeze 91 rfl ?_;refine AF.freeze 92 rfl ?_;refine bn 5 Z (zC [(1,83),(2,84)] [83,84] [] func27 (ahE (crD hJ12 [128,ahT,128,0,128]) (ahF ahv)) (trivial) Z Z) (.inr Z)<|vq 6 (sj (.au [.agg [.own _,vL _ _ _,U _ _,U _ _,U _ _,U _ _,U _ _,vL _ _ _,vL _ _ _,vL _ _ _,U _ _,vL _ _ _,.own _,vL _ _ _],U _ _]) Z)<|pq 7 (qxX (.agg [.own _,vL _ _ _,U _ _,U _ _,U _ _,U _ _,U _ _,vL _ _ _,vL _ _ _,vL _ _ _,U _ _,vL _ _ _,.own _,vL _ _ _]) Z)<|pq 8 (qxI Z)<|bn 10 Z (zB 2014 NA NB Z) (.inl Z)<|fT [0,4,7,14,30,31,32,66] [0,1,2,83,84,2004,2005,2007,2010,2014] ?_;refine vq 11 (j8 Z)<|fD<|gT ?_;refine⟨(_,_,_),x_146,⟨rfl,rfl,trivial⟩,⟨rfl,rfl,rfl,rfl,trivial⟩,rfl,rfl⟩
     refine abq (i:=2) rfl (Un [(0,0)] [] [0] rfl x_66 rfl func98 rfl rfl (ahp g code _ _ _ hc4) ⟨rfl,rfl,rfl⟩ x_9 (ahn) rfl) (.inl rfl) rfl ?_;rintro _ _ ⟨aiW,aiX,ah0,rfl,rfl⟩;obtain⟨i10,q10,aik,⟨n10,⟨ail,aiY⟩,rfl⟩,rfl⟩:=ah0;refine sq 0 (dw (.agg [.own _,vL _ _ _,U _ _,U _ _,U _ _,U _ _,U _ _,vL _ _ _,vL _ _ _,vL _ _ _,U _ _,vL _ _ _,.own _,vL _ _ _]) EZ rfl)<|bn 3 rfl (zS 2062 (ah kt [128,n10,128,0,128]) iU lY rfl x_29) (.inr rfl)<|fT [0,4,7,14,30,31,32,59,62] [0,1,2,2004,2005,2007,2010,2014,2062] ?_;refine AF.freeze 2062 rfl ?_;refine bn 4 rfl (zC [(1,91),(2,92),(31,1),(32,2)] [91,92] [31,32] func18 (ahP u1 u2 hJ12 [128,n10,128,0,128] ahv) x_55 rfl rfl) (.inl rfl) ?_;refine AF.freeze 91 rfl ?_;refine AF.freeze 92 rfl ?_;refine bn 5 Z (zC [(1,83),(2,84)] [83,84] [] func27 (ahE (crD hJ12 [128,n10,128,0,128]) (ahF ahv)) (trivial) Z Z) (.inr Z)<|vq 6 (sj (.au [.agg [.own _,vL _ _ _,U _ _,U _ _,U _ _,U _ _,U _ _,vL _ _ _,vL _ _ _,vL _ _ _,U _ _,vL _ _ _,.own _,vL _ _ _],U _ _]) Z)<|pq 7 (qxX (.agg [.own _,vL _ _ _,U _ _,U _ _,U _ _,U _ _,U _ _,vL _ _ _,vL _ _ _,vL _ _ _,U _ _,vL _ _ _,.own _,vL _ _ _]) Z)<|pq 8 (qxI Z)<|bn 10 Z (zB 2014 NA NB Z) (.inl Z)<|fT [0,4,7,14,30,31,32,66] [0,1,2,83,84,2004,2005,2007,2010,2014] ?_;refine vq 11 (j8 Z)<|fD<|gT ?_;refine⟨(_,_,_),x_146,⟨rfl,rfl,trivial⟩,⟨rfl,rfl,rfl,rfl,trivial⟩,rfl,rfl⟩
    intro ⟨iW,qW,nW⟩ G8;dsimp only;replace G8:ahk code iW:=G8;refine sL<|ae Z<|ak Z<|Y ?_;refine AW.cond rfl ?_ ?_
    ·intro h5;refine aL<|aP (.agg [.own _,vL _ _ _,U _ _,U _ _,U _ _,U _ _,U _ _,vL _ _ _,vL _ _ _,vL _ _ _,U _ _,vL _ _ _,.own _,vL _ _ _]) EZ Z<|ab (zB 2007 NA NB Z) Z ?_;refine AL.swap 83 1 ?_;refine AL.swap 84 2 ?_;refine lT [0,4,7,30,31,32] [0,1,2,83,84,2004,2005,2007,2010,2014] ?_;refine lN<|gB<|gT<|aL<|bg Z<|ae Z<|Y ?_;skip;refine⟨(_,_,kJ+1,e6 (crD hJ12 [128,nW,128,0,128])),⟨by assumption,hk,W.aiT _ ahY (by have h:=h5;simpa using h)⟩,by show es1.length-(kJ+1)<es1.length-kJ;omega,⟨x_74,trivial⟩,⟨rfl,rfl,rfl,rfl,trivial⟩,rfl,rfl⟩
    intro h5;refine aK<|gB<|gT ?_;refine iQ 1 rfl ?_;refine iQ 2 rfl ?_;refine aL<|bg Z<|ae Z<|Y ?_;skip;refine⟨(_,_,kJ+1,hJ12),⟨by assumption,hk,W.mono ahY⟩,by show es1.length-(kJ+1)<es1.length-kJ;omega,⟨x_74,trivial⟩,⟨rfl,rfl,rfl,rfl,trivial⟩,rfl,rfl⟩
   intro h4;refine aK<|gB<|gT<|aL<|bg Z<|ae Z<|Y ?_;skip;refine⟨(_,_,kJ+1,hJ12),⟨by assumption,hk,W.mono ahY⟩,by show es1.length-(kJ+1)<es1.length-kJ;omega,⟨x_74,trivial⟩,⟨rfl,rfl,rfl,rfl,trivial⟩,rfl,rfl⟩
  intro h3;refine aa Z<|aa Z<|aa Z<|bL Z<|Y<|aN Z<|aK<|gB<|gT<|aL<|bg Z<|lT [0,4,7,30,31,32,70] [0,1,2,2004,2005,2007,2010] ?_;refine ae Z<|Y ?_;skip;refine⟨(_,_,kJ+1,hJ12),⟨by assumption,hk,W.mono ahY⟩,by show es1.length-(kJ+1)<es1.length-kJ;omega,⟨x_74,trivial⟩,⟨rfl,rfl,rfl,rfl,trivial⟩,rfl,rfl⟩
 intro V;refine aE<|eT<|eT<|eB<|gA<|aP (.agg [.own _,vL _ _ _,U _ _,U _ _,U _ _,U _ _,U _ _,vL _ _ _,vL _ _ _,vL _ _ _,U _ _,vL _ _ _,.own _,vL _ _ _]) EZ Z<|ab (zB 2004 NA NB Z) Z<|Y<|aR ?_;refine fN ((ahO hJ)) ((0,ahm g code iJ qJ)::obK hJ) ?_ rfl ⟨rfl,rfl,rfl,trivial⟩;exact⟨_,_,_,hcJ,⟨kJ,hJ,by have:=aiV.2;omega,hgJ,rfl,rfl⟩,rfl⟩
end Go.Proofs.YtflhgkmhmcfimaaGreat

