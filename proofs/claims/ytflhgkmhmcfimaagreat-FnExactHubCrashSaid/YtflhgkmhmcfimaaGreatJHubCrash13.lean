/- Texts of the proof of FnFnExactHubCrash, joined: EP1, MkD, EL1, EL1b. -/
import Derived.Test.YtflhgkmhmcfimaaGreatJHubCrash10
import Derived.Test.YtflhgkmhmcfimaaGreatJHubCrash12
import Derived.Test.YtflhgkmhmcfimaaGreatJHubCrash8
import Derived.Test.YtflhgkmhmcfimaaGreatJHubCrash9
import Derived.Test.YtflhgkmhmcfimaaGreatJHubCrash5
namespace Go.Proofs.YtflhgkmhmcfimaaGreat
open Tryz
open Go.RowKit
set_option maxHeartbeats 16000000
set_option maxRecDepth 100000
set_option linter.unusedSimpArgs false
set_option linter.unusedVariables false
abbrev SH(d:du):List (Nat×AO):=[(1,.ai 195 1 (oS d.cells)),(2,.ai 192 2 (oT d.bu))]
abbrev inV(l:List Int):AV:=.p (.ab 3 1 (ah kt l))
theorem aeM{cs:List Cell}{k:Nat}(hk:k<cs.length):oS (cs.take k)++[[nQ cs[k].bytes]]=oS (cs.take (k+1)):=by
 rw[List.take_succ_eq_append_getElem hk];unfold oS;rw[List.map_append];rfl
theorem ady{cs:List Cell}{i:Nat}{b:List Int}:(oS cs).set i [nQ b]=oS (cs.set i ⟨b⟩):=by unfold oS;rw[List.map_set]
theorem GC.bT{f:FuncId}{args:List AV}{d:du}(h:GC prog f args [] Gn (SH d)):GC prog f args [] (mt d) []:=
 (GX.frozen (Z:=fun y=>y=mt d) h fun x ob ⟨V,h2⟩=>by
   subst V h2;exact⟨_,Still.agg (.cons (Still.row (e:=⟨195,none⟩) (sz:=1) (rows:=oS d.cells) rfl) (.cons (Still.row (e:=⟨192,none⟩) (sz:=2) (rows:=oT d.bu) rfl) .nil)),rfl⟩).mono fun y o ⟨e1,e2⟩=>⟨e2,e1⟩
theorem adz(d:du)(hs:DkS d):GC prog 131 [mt d] [] (Gn) (SH d):=by
 refine GC.intro (rs:=[.cell 2 43 (some 2)]) func131 rfl ntmps131 x_9 x_136 ?_;intro L O w0;refine sL<|ab (zX 2001 Z) Z<|ab (zA 2002 Du Z) Z<|nA<|lq (rd (x:=.agg [vV _,vV _]) (cP Z adU Z Z Z) Z)<|ab (zA 2003 Du Z) Z<|ab (zB 2003 Dv Dw Z) Z<|Y<|aS<|aS ?_;refine AW.pi 1 2003 0 195 1 rfl (by decide) rfl ?_;refine AW.pi 2 2003 1 192 2 rfl (by decide) rfl ?_;refine aL<|lf 0 n9 Z<|bo oB Z<|ba po Z ?_;refine dC 11 (int (d.cells.length:Int)) (congrArg (fun n:Nat=>int (n:Int)) (fU _)) ?_;refine ae Z<|Y<|aB ?_;refine aW [1,2,3,10,11] [2,2001,2002,2003] (D:=Nat) (fun a=>[(12,int (a:Int))]) (fun a=>[(1,.ai 195 1 (oS (d.cells.take a)))]) (fun a=>a<=d.cells.length) (fun a=>d.cells.length-a) (0) (Nat.zero_le _) x_10 x_10 ?_;intro k hI;have eN:k<=d.cells.length:=hI;refine sL<|ak Z<|Y<|aS ?_;refine AW.cond rfl ?_ ?_
 ·intro V;refine aK<|gT<|aS<|aB<|aS ?_;have hk:k<d.cells.length:=by have h:=V;simp only[decide_eq_true_eq]at h;omega
  have oF:=hs.lc;refine aL<|li k xE Z (vw hk)<|d6 (.agg [vL _ _ _]) zn Z<|ab (zA 2005 CB Z) Z<|ab (zB 2005 E2 E3 Z) Z<|lT [1,2,3,5,10,11,12] [1,2,2001,2002,2003,2005] ?_;refine Y<|aG 10 [1,2018]<|tq 0 (rf 0 n9 rfl)<|tq 1 (gC oB rfl)<|tq 3 (rf 0 uB rfl)<|tq 4 (jj kb rfl)<|cm 2 rfl (zS 2018 (ah dF []) fh ie rfl (by intro r hr;cases hr))<|cm 5 rfl (zP 2018 fh ie mu rfl (Src.p rfl) (by have:=hs.bc _ (List.getElem_mem hk);simp[ah];omega)) ?_;refine AG.freeze 2018 rfl ?_;refine yq 6 (rd (x:=.agg [vL _ _ _]) (cP rfl acN rfl rfl rfl) rfl)<|cm 7 rfl (zS 2023 [[nQ d.cells[k].bytes]] xE CB rfl x_141)<|cm 8 rfl (zP 1 xE CB VT rfl x_18 (by first|(simp[fU,pH];done)|(simp[fU,pH];omega)))<|yq 9 (rf 0 n9 rfl)<|yl rfl (zB 2003 VF VG rfl)<|gB<|gT<|aL<|bg Z<|ae Z<|Y ?_;refine⟨(k+1),hk,by show d.cells.length-(k+1)<d.cells.length-k;omega,x_11,⟨(congrArg (AO.ai 195 1) (aeM hk)),trivial⟩,rfl,rfl⟩
 intro V;refine aE<|eT<|eT<|eB<|gT<|aS<|aS ?_;have dZ:k=d.cells.length:=by have h:=V;simp only[decide_eq_false_iff_not]at h;omega
 subst dZ;rw[List.take_length];refine aL<|lf 1 ru Z<|bo sk Z<|ba vT Z ?_;refine dC 29 (int (d.bu.length:Int)) (congrArg (fun n:Nat=>int (n:Int)) (pH _)) ?_;refine ae Z<|Y<|aB ?_;refine aW [2,3,28,29] [1,2001,2002,2003] (D:=Nat) (fun a=>[(30,int (a:Int))]) (fun a=>[(2,.ai 192 2 (oT (d.bu.take a)))]) (fun a=>a<=d.bu.length) (fun a=>d.bu.length-a) (0) (Nat.zero_le _) x_10 x_10 ?_;intro j hI;have ro:j<=d.bu.length:=hI;refine sL<|ak Z<|Y<|aS ?_;refine AW.cond rfl ?_ ?_
 ·intro h2;refine aK<|gT<|aS<|aB<|aS ?_;have hj:j<d.bu.length:=by have h:=h2;simp only[decide_eq_true_eq]at h;omega
  have hlw:=hs.lw;refine aL<|li j uz Z (td hj)<|d6 (.agg [U _ _,vL _ _ _]) AY Z<|ab (zA 2007 CA Z) Z<|lT [2,3,7,28,29,30,33] [1,2,2001,2002,2003,2007] ?_;refine ab (zB 2007 E0 E1 rfl) Z<|Y<|aG 12 [2,2038]<|tq 0 (rf 1 ru rfl)<|tq 1 (gC sk rfl)<|tq 2 (rf 0 xG rfl)<|tq 3 (aZ ac rfl)<|tq 5 (rf 1 zm rfl)<|tq 6 (jj kb rfl)<|cm 4 rfl (zS 2038 (ah dF []) fh ie rfl (by intro r hr;cases hr))<|cm 7 rfl (zP 2038 fh ie mu rfl (Src.p rfl) (by have:=hs.bw _ (List.getElem_mem hj);simp[ah];omega)) ?_;refine AG.freeze 2038 rfl ?_;refine yq 8 (rd (x:=.agg [U _ _,vL _ _ _]) (cP rfl acq rfl rfl rfl) rfl)<|cm 9 rfl (zS 2043 [[.v (.int .i64 d.bu[j].at_),nQ d.bu[j].bytes]] uz CA rfl x_141)<|cm 10 rfl (zP 2 uz CA VS rfl x_18 (by first|(simp[fU,pH];done)|(simp[fU,pH];omega)))<|yq 11 (rf 1 ru rfl)<|yl rfl (zB 2003 VH VI rfl)<|gB<|gT<|aL<|bg Z<|ae Z<|Y ?_;refine⟨(j+1),hj,by show d.bu.length-(j+1)<d.bu.length-j;omega,x_11,⟨(congrArg (AO.ai 192 2) (adr hj)),trivial⟩,rfl,rfl⟩
 intro h2;refine aE<|eT<|eT<|eB<|gT<|aS ?_;have Ji:j=d.bu.length:=by have h:=h2;simp only[decide_eq_false_iff_not]at h;omega
 subst Ji;rw[List.take_length];refine aL<|aP (.agg [.own _,.own _]) mE Z<|ab (zB 2002 Dv Dw Z) Z<|lT [2] [1,2,2001,2002,2003] ?_;refine Y<|aR ?_;refine ax ?_ x_13;rfl
theorem acZ{vA:List Int}{ws:List gq}{k:Nat}{cs:List Cell}(hk:k<ws.length):abP vA (ws.drop k) k cs=abP vA (ws.drop (k+1)) (k+1) (ab8 vA cs k ws[k]):=by
 rw[List.drop_eq_getElem_cons hk];rfl
theorem aeQ{vA:List Int}{k:Nat}{cs:List Cell}{w:gq}(h:(vA[k]?).getD 0<1):ab8 vA cs k w=cs:=if_pos (by unfold acv;omega)
theorem ac0{vA:List Int}{k m:Nat}{cs:List Cell}{w:gq}(h:¬(vA[k]?).getD 0<1)(V:(m:Int)<=(vA[k]?).getD 0)(h2:m<=128)(h3:(vA[k]?).getD 0<=m\/128<=m)(hc:w.at_.toNat<cs.length):ab8 vA cs k w=cs.set w.at_.toNat ⟨abL (cs[w.at_.toNat]).bytes w.bytes m⟩:=by
 have e:acv vA k=m:=by unfold acv;omega
 unfold ab8;rw[e,if_neg (by omega),List.getElem?_eq_getElem hc];rfl
theorem ac1{old new:List Int}{m:Nat}(V:(yP old).length=128)(h2:new.length=128)(hm:m<=128):(abL old new m).length=128:=by
 unfold abL;rw[List.length_append,List.length_take,List.length_drop];omega
theorem adA{c:Cell}(h:lL c=true):(yP c.bytes).length=128:=by
 unfold lL at h;unfold yP;split
 ·simp
 simp_all
theorem aeR{old new:List Int}{m:Nat}(V:(yP old).length=128)(h2:new.length=128)(hm:m<128):(abL old new m).set m (new[m]'(by omega))=abL old new (m+1):=by
 unfold abL;rw[List.set_append_right _ _ (by rw[List.length_take];omega),List.take_succ_eq_append_getElem (by omega),List.append_assoc,List.length_take,show m-min m new.length=0 by omega,List.drop_eq_getElem_cons (show m<(yP old).length by omega)];rfl
theorem aeS{old new:List Int}:abL old new 0=yP old:=by unfold abL;simp
theorem aeU{l:List Int}{i:Nat}{x:Int}:(ah dF l).set i [.v (.int .u8 x)]=ah dF (l.set i x):=by unfold ah;rw[List.map_set];rfl
theorem acC{cs:List Cell}{i:Nat}{b:List Int}(h:cs.all lL=true)(hb:b.length=128):(cs.set i ⟨b⟩).all lL=true:=by
 rw[List.all_eq_true]at *;intro x hx;rcases List.mem_or_eq_of_mem_set hx with q|rfl
 ·exact h x q
 unfold lL;simp[hb]
theorem adB{d:du}{vA:List Int}(h:ik d=true):acU d vA=⟨abP vA d.bu 0 d.cells,[]⟩:=if_pos h
theorem ac2{cs:List Cell}(h:cs.all lL=true){i:Nat}(hi:i<cs.length):lL cs[i]=true:=List.all_eq_true.1 h _ (List.getElem_mem hi)
theorem aeV{c:Cell}(h:lL c=true):c.bytes.length<=128:=by unfold lL at h;simp only[Bool.or_eq_true,decide_eq_true_eq]at h;omega
theorem aeW(d:du)(vA:List Int)(hd:ik d=true):GC prog 71 [mt d,inV vA] [] (Gn) (SH (acU d vA)):=by
 refine GC.intro (rs:=[.cell 4 43 (some 2)]) func71 rfl ntmps71 x_9 x_136 ?_;intro L O w0;refine sL<|ab (zX 2002 Z) Z<|ab (zA 2004 Du Z) Z<|Y<|aS<|aS ?_;have gR:=(wL hd).1;refine aL<|aP (.agg [vL _ _ _,vL _ _ _]) mE Z<|ab (zC [] [] [] func87 (FU d) (trivial) Z Z) Z<|bJ 12 true Z (hd)<|ma Z<|Y<|aN Z<|aK<|gA<|aP (.agg [vL _ _ _,vL _ _ _]) mE Z<|ab (zC [(1,1),(2,2)] [1,2] [] func131 (adz d (acF hd)) (trivial) Z Z) Z<|ab (zA 2005 Du Z) Z<|ab (zB 2005 Dv Dw Z) Z<|nA<|lf 1 ru Z<|ab (zB 2005 VH VI Z) Z<|Y<|aS<|sL<|lf 1 ru Z<|bo sk Z<|ba vT Z ?_;refine dC 20 (int (d.bu.length:Int)) (congrArg (fun n:Nat=>int (n:Int)) (pH _)) ?_;refine ae Z<|Y<|aB ?_;refine aW [1,4,5,19,20] [2002,2004,2005] (D:=Nat×List Cell) (fun a=>[(21,int (a.1:Int))]) (fun a=>[(1,.ai 195 1 (oS a.2))]) (fun a=>a.1<=d.bu.length/\a.2.length=d.cells.length/\a.2.all lL=true/\abP vA (d.bu.drop a.1) a.1 a.2=abP vA d.bu 0 d.cells) (fun a=>d.bu.length-a.1) ((0,d.cells)) (⟨Nat.zero_le _,rfl,(wL hd).2.1,rfl⟩) x_10 x_10 ?_;intro ⟨k,cs⟩ hI;obtain⟨eN,qH,hco,pJ⟩:=hI;replace eN:k<=d.bu.length:=eN;replace qH:cs.length=d.cells.length:=qH;replace hco:cs.all lL=true:=hco;replace pJ:abP vA (d.bu.drop k) k cs=abP vA d.bu 0 d.cells:=pJ;refine sL<|ak Z<|Y<|aS ?_;refine AW.cond rfl ?_ ?_
 ·intro V;refine aK<|gT<|aS<|aB<|aS ?_;have hk:k<d.bu.length:=by have h:=V;simp only[decide_eq_true_eq]at h;omega
  have MQ:=acW hd hk;have abV:d.bu[k].at_.toNat<cs.length:=by omega
  refine aL<|ae Z<|li k uz Z (td hk)<|d6 (.agg [U _ _,vL _ _ _]) AY Z<|ab (zA 2007 CA Z) Z<|lT [1,4,5,7,19,20,21,23,25] [1,2002,2004,2005,2007] ?_;refine ao Z<|ab (zB 2007 E0 E1 Z) Z<|nA<|ao Z<|Y ?_;refine aJ [1,4,5,7,19,20,21] [1,2002,2004,2005,2007] (D:=Unit) (fun jd=>[(8,int ((vA[k]?).getD 0))]) (fun jd=>[]) (fun jd=>True) ?_ ?_
  ·refine sL<|ae Z<|bm Z<|ba x4 Z<|ak Z<|Y ?_;refine AW.cond rfl ?_ ?_
   ·intro h2;have uG:k<vA.length:=by have h:=h2;simp only[ap,decide_eq_true_eq]at h;omega
    refine aL<|bm Z<|ae Z<|li k iU Z (bS uG)<|oy ac Z<|ao Z<|Y ?_;refine⟨(),trivial,⟨(Eq.trans (b:=int _) rfl (congrArg int (show vA[k]=((vA[k]?).getD 0) by rw[List.getElem?_eq_getElem uG];rfl))),trivial⟩,trivial,rfl,rfl⟩
   intro h2;refine aK<|gT ?_;refine⟨(),trivial,⟨(Eq.trans (b:=int _) rfl (congrArg int (show (0:Int)=((vA[k]?).getD 0) by rw[List.getElem?_eq_none (by have h:=h2;simp only[ap,decide_eq_false_iff_not]at h;omega)];rfl))),trivial⟩,trivial,rfl,rfl⟩
  intro jd hJ;refine aS<|sL<|ae Z<|ak Z<|Y ?_;refine AW.cond rfl ?_ ?_
  ·intro h3;refine aE<|eT<|eB<|gT ?_;have acH:((vA[k]?).getD 0)<1:=by have h:=h3;simpa using h
   refine aL<|bg Z<|ae Z<|Y ?_;refine⟨(k+1,cs),⟨hk,qH,hco,by rw[<-pJ,acZ hk,aeQ acH]⟩,by show d.bu.length-(k+1)<d.bu.length-k;omega,x_11,x_10,rfl,rfl⟩
  intro h3;refine aK<|gT<|aS ?_;have acH:¬((vA[k]?).getD 0)<1:=by have h:=h3;simpa using h
  have TP:=adA (ac2 hco abV);refine aL<|lf 0 n9 Z<|iO oB Z<|lf 0 xG Z<|aj ac Z<|lq (rd (x:=.ptr 1 _ 0) (pu (i:=d.bu[k].at_.toNat) rfl xE rfl rfl rfl ?hn1 (by rw[fU];exact abV)) rfl) ?_;case hn1=>exact(Int.toNat_of_nonneg MQ.1).symm
  refine lf 0 uB Z<|lq (rd (x:=vL _ _ _) (dT rfl kb rfl rfl rfl (vw abV) rfl) rfl)<|ab (zC [(1,2043)] [2043] [] func154 (Zy cs[d.bu[k].at_.toNat].bytes (Nat.le_trans (aeV (ac2 hco abV)) (by decide))) (trivial) rfl rfl) Z<|bD Z<|Y<|aS<|sL<|ao Z<|Y<|aB ?_;refine aW [1,4,5,7,8,9,19,20,21] [1,2002,2004,2005,2007] (D:=Nat) (fun b=>[(10,int (b:Int))]) (fun b=>[(2043,iT (abL cs[d.bu[k].at_.toNat].bytes d.bu[k].bytes b))]) (fun b=>b<=128/\(b:Int)<=((vA[k]?).getD 0)) (fun b=>128-b) (0) (⟨Nat.zero_le _,by omega⟩) x_10 ⟨(Eq.trans (b:=iT (yP cs[d.bu[k].at_.toNat].bytes)) rfl (congrArg iT aeS.symm)),trivial⟩ ?_;intro m hI;obtain⟨hm1,hm2⟩:=hI;replace hm1:m<=128:=hm1;replace hm2:(m:Int)<=((vA[k]?).getD 0):=hm2;refine aS<|sL<|ae Z<|ae Z<|ak Z<|aQ Z ?_;refine AL.bool (t:=47) rfl ?_ ?_
  ·intro h4;refine ae Z<|ak Z<|bj Z<|Y ?_;refine AW.cond rfl ?_ ?_
   ·intro h5;refine aK<|gT<|aS<|aB ?_;have hm:(m:Int)<((vA[k]?).getD 0)/\m<128:=by
     have V:=h4;have h2:=h5;simp only[decide_eq_true_eq]at V h2;omega
    have vX:=Jk hd hk;have vd:=ac1 (m:=m) TP vX (by omega);refine aL<|bW Z<|ae Z<|lf 1 zm Z<|bo kb Z<|ae Z<|li m fh rfl (bS (by omega))<|oy tf Z<|lq (rj m fh rfl (by rw[ap];omega))<|ab (zQ 2043 [.v (.int .u8 (d.bu[k].bytes[m]'(by omega)))] Vs Vt rfl (bS (by omega))) Z<|lT [1,4,5,7,8,9,10,19,20,21] [1,2002,2004,2005,2007,2043] ?_;refine lN<|gB<|gT<|aL<|ae Z<|bg Z<|ao Z<|Y ?_;refine⟨(m+1),x_110,by show 128-(m+1)<128-m;omega,x_11,⟨(Eq.trans (congrArg (AO.ai 5 1) aeU) (congrArg iT (aeR TP (Jk hd hk) (by omega)))),trivial⟩,rfl,rfl⟩
   intro h5;refine aE<|eT<|eT<|eB<|gT ?_;have ac3:((vA[k]?).getD 0)<=m\/128<=m:=by first|(have h:=h5;simp only[decide_eq_false_iff_not]at h;omega)|(have h:=h4;simp only[decide_eq_false_iff_not]at h;omega)|(have h:=h3;simp only[decide_eq_false_iff_not]at h;omega)|(have h:=V;simp only[decide_eq_false_iff_not]at h;omega)
   refine aL<|lf 0 n9 Z<|iO oB Z<|lf 0 xG Z<|aj ac Z<|bW Z<|lq (rd (x:=.ptr 1 _ 0) (pu (i:=d.bu[k].at_.toNat) rfl xE rfl rfl rfl ?hn2 (by rw[fU];exact abV)) rfl) ?_;case hn2=>exact(Int.toNat_of_nonneg MQ.1).symm
   refine lf 0 uB rfl ?_;refine AL.freeze 2043 rfl ?_;refine ab (zQ 1 [nQ (abL cs[d.bu[k].at_.toNat].bytes d.bu[k].bytes m)] Ih Ii Z (vw abV)) Z<|lN<|gB<|gT<|aL<|bg Z<|ae Z<|Y ?_;refine⟨(k+1,cs.set d.bu[k].at_.toNat ⟨abL cs[d.bu[k].at_.toNat].bytes d.bu[k].bytes m⟩),⟨hk,by rw[List.length_set];exact qH,acC hco (ac1 TP (Jk hd hk) (by omega)),by rw[<-pJ,acZ hk,ac0 acH (by omega) (by omega) ac3 abV]⟩,by show d.bu.length-(k+1)<d.bu.length-k;omega,x_11,⟨(congrArg (AO.ai 195 1) ady),trivial⟩,rfl,rfl⟩
  intro h4;refine aa Z<|aa Z<|bL Z<|Y<|aN Z<|aE<|eT<|eT<|eB<|gT ?_;have ac3:((vA[k]?).getD 0)<=m\/128<=m:=by first|(have h:=h4;simp only[decide_eq_false_iff_not]at h;omega)|(have h:=h3;simp only[decide_eq_false_iff_not]at h;omega)|(have h:=V;simp only[decide_eq_false_iff_not]at h;omega)
  refine aL<|lf 0 n9 Z<|iO oB Z<|lf 0 xG Z<|aj ac Z<|bW Z<|lq (rd (x:=.ptr 1 _ 0) (pu (i:=d.bu[k].at_.toNat) rfl xE rfl rfl rfl ?hn3 (by rw[fU];exact abV)) rfl) ?_;case hn3=>exact(Int.toNat_of_nonneg MQ.1).symm
  refine lf 0 uB rfl ?_;refine AL.freeze 2043 rfl ?_;refine ab (zQ 1 [nQ (abL cs[d.bu[k].at_.toNat].bytes d.bu[k].bytes m)] Ih Ii Z (vw abV)) Z<|lT [1,4,5,19,20,21] [1,2002,2004,2005,2007] ?_;refine lN<|gB<|gT<|aL<|bg Z<|ae Z<|Y ?_;refine⟨(k+1,cs.set d.bu[k].at_.toNat ⟨abL cs[d.bu[k].at_.toNat].bytes d.bu[k].bytes m⟩),⟨hk,by rw[List.length_set];exact qH,acC hco (ac1 TP (Jk hd hk) (by omega)),by rw[<-pJ,acZ hk,ac0 acH (by omega) (by omega) ac3 abV]⟩,by show d.bu.length-(k+1)<d.bu.length-k;omega,x_11,⟨(congrArg (AO.ai 195 1) ady),trivial⟩,rfl,rfl⟩
 intro V;refine aE<|eT<|eT<|eB<|gT<|aS ?_;have dZ:k=d.bu.length:=by have h:=V;simp only[decide_eq_false_iff_not]at h;omega
 have aeX:cs=abP vA d.bu 0 d.cells:=by rw[<-pJ,dZ,List.drop_length];rfl
 refine aT [4,5] [1,2002,2004,2005] ?_;refine AW.pi 2 2005 1 192 2 rfl (by decide) rfl ?_;refine aL<|aP (.agg [.own _,.own _]) mE Z<|ab (zB 2004 Dv Dw Z) Z<|Y<|aR ?_;rw[adB hd,<-aeX];refine ax ?_ x_13;rfl

section
variable {α:Type}(n:α->Int)(g:α->Int->α)
def mT:List α->Int
 |[]=>0
 |x::l=>n x+mT l
def c7:List α->Int->List α
 |[],_=>[]
 |x::l,k=>g x k::c7 l (k+n x)
def m5(l:List α)(k:Int)(j:Nat):List α:=c7 n g (l.take j) k++l.drop j
def nq:List α->Int->Int
 |[],l=>l
 |x::r,l=>if l-n x<0 then -1 else nq r (l-n x)
variable {n g}
theorem ac4:∀ {a b:List α},mT n (a++b)=mT n a+mT n b
 |[],b=>by simp[mT]
 |x::a,b=>by rw[List.cons_append,mT,mT,ac4];omega
theorem acT{B:Int}:∀ {l:List α},(∀x∈l,0<=n x/\n x<=B)->0<=mT n l/\mT n l<=B*(l.length:Int)
 |[],_=>by simp[mT]
 |x::l,h=>by
  have V:=h x (by simp);have h2:=acT (l:=l) (fun q hq=>h q (by simp[hq]));rw[mT,List.length_cons,Int.natCast_add,Int.mul_add];simp only[Int.cast_ofNat_Int,Int.mul_one];omega
theorem A0(h:∀x,0<=n x):∀(l:List α),0<=mT n l
 |[]=>by simp[mT]
 |x::l=>by rw[mT];have:=h x;have:=A0 h l;omega
theorem Ij(h:∀x,0<=n x):∀ {l:List α} {x:α},x∈l->n x<=mT n l
 |y::l,x,hx=>by
  rw[mT];have:=A0 h l;rcases List.mem_cons.1 hx with rfl|hx
  ·omega
  have:=Ij h hx;grind
theorem acz{l:List α}{j:Nat}(h:j<l.length):mT n (l.take (j+1))=mT n (l.take j)+n l[j]:=by
 rw[List.take_succ_eq_append_getElem h,ac4];simp[mT]
theorem acA(h:∀x,0<=n x){l:List α}{j:Nat}:mT n (l.take j)<=mT n l:=by
 have e:mT n l=mT n (l.take j)+mT n (l.drop j):=by rw[<-ac4,List.take_append_drop]
 have:=A0 h (l.drop j);omega
theorem k7:∀ {l:List α} {k:Int},(c7 n g l k).length=l.length
 |[],_=>rfl
 |p::ps,k=>by unfold c7;rw[List.length_cons,List.length_cons,k7]
theorem adD:∀ {a b:List α} {k:Int},c7 n g (a++b) k=c7 n g a k++c7 n g b (k+mT n a)
 |[],b,k=>by simp[c7,mT]
 |p::a,b,k=>by
  rw[List.cons_append,c7,c7,adD,mT,List.cons_append];congr 3;omega
theorem acO:∀ {ps:List α} {k:Int} {j:Nat} (h:j<ps.length),(c7 n g ps k)[j]'(by rw[k7];exact h)=g ps[j] (k+mT n (ps.take j))
 |p::ps,k,0,h=>by simp[c7,mT]
 |p::ps,k,j+1,h=>by
  have:=acO (ps:=ps) (k:=k+n p) (j:=j) (by simpa using h);simp only[c7,List.getElem_cons_succ,this,List.take_succ_cons,mT];congr 1;omega
theorem abJ{ps:List α}{k:Int}{j:Nat}:(m5 n g ps k j).length=ps.length:=by unfold m5;rw[List.length_append,k7,List.length_take,List.length_drop];omega
theorem acP{ps:List α}{k:Int}:m5 n g ps k 0=ps:=by unfold m5;rw[List.take_zero,List.drop_zero];rfl
theorem adk{ps:List α}{k:Int}:m5 n g ps k ps.length=c7 n g ps k:=by unfold m5;rw[List.take_length,List.drop_length,List.append_nil]
theorem adh{ps:List α}{k:Int}{j:Nat}(h:j<ps.length):(m5 n g ps k j)[j]'(by rw[abJ];exact h)=ps[j]:=by
 unfold m5;have hl:(c7 n g (ps.take j) k).length=j:=by rw[k7,List.length_take];omega
 rw[List.getElem_append_right (by omega)];simp[hl]
theorem acR{ps:List α}{k:Int}{j:Nat}(h:j<ps.length):m5 n g ps k (j+1)=(m5 n g ps k j).set j (g ps[j] (k+mT n (ps.take j))):=by
 unfold m5;have hl:(c7 n g (ps.take j) k).length=j:=by rw[k7,List.length_take];omega
 rw[List.take_succ_eq_append_getElem h,adD,List.set_append_right _ _ (by omega),hl,Nat.sub_self,List.drop_eq_getElem_cons h,List.set_cons_zero,List.append_assoc];rfl
theorem Ik(h:∀x,0<=n x):∀(l:List α) (x:Int),-1<=x->-1<=nq n l x
 |[],x,hx=>hx
 |y::l,x,hx=>by
  unfold nq;split
  ·omega
  exact Ik h l _ (by omega)
theorem Il(h:∀x,0<=n x):∀(l:List α) (x:Int),0<=x->0<=nq n l x->mT n l<=x/\nq n l x=x-mT n l
 |[],x,hx,_=>by simp[mT,nq,hx]
 |y::l,x,hx,hs=>by
  unfold nq at hs ⊢;split at hs
  ·omega
  rename_i q;rw[if_neg q,mT];have:=Il h l (x-n y) (by omega) hs;omega
theorem E5{l:List α}{j:Nat}(h:j<l.length)(x:Int):nq n (l.drop j) x=if x-n l[j]<0 then -1 else nq n (l.drop (j+1)) (x-n l[j]):=by
 rw[List.drop_eq_getElem_cons h];rfl
end
abbrev uD(c:Cell):Int:=(c.bytes.length:Int)
abbrev E6(w:gq):Int:=1+(w.bytes.length:Int)
abbrev uE(w:gq):Int:=(w.bytes.length:Int)
abbrev abR(k:Int)(m:Nat):List Int:=abN (fun k=>k%256) 1 k m
abbrev s0(c:Cell)(k:Int):Cell:=⟨abR k c.bytes.length⟩
abbrev m3(w:gq)(k:Int):gq:=⟨k,abR (k+1) w.bytes.length⟩
theorem CC(c:Cell):0<=uD c:=Int.natCast_nonneg _
theorem abS(w:gq):0<=E6 w:=by unfold E6;omega
theorem CD(w:gq):0<=uE w:=Int.natCast_nonneg _
def abD(d:du):Int:=mT uD d.cells+mT E6 d.bu
def f6(d:du)(k:Int):du:=⟨c7 uD s0 d.cells k,c7 E6 m3 d.bu (k+mT uD d.cells)⟩
def pP(m:Nat)(l:Int):Int:=if l-(m:Int)<0 then -1 else l-(m:Int)
def ow(cs:List Cell)(l:Int):Int:=if l-(cs.length:Int)<0 then -1 else nq uD cs (l-(cs.length:Int))
def sl(ws:List gq)(l:Int):Int:=if l-(ws.length:Int)<0 then -1 else nq uE ws (l-(ws.length:Int))
def qu(d:du)(l:Int):Int:=if ow d.cells l<0 then -1 else sl d.bu (ow d.cells l)
theorem Im{cs:List Cell}{l:Int}(h:0<=ow cs l):(cs.length:Int)+mT uD cs<=l/\ow cs l<=l:=by
 unfold ow at *;split at h
 ·omega
 rename_i q;rw[if_neg q];have:=Il CC cs _ (by omega) h;have:=A0 CC cs;omega
theorem NK{ws:List gq}{l:Int}(h:0<=sl ws l):(ws.length:Int)+mT uE ws<=l/\sl ws l<=l:=by
 unfold sl at *;split at h
 ·omega
 rename_i q;rw[if_neg q];have:=Il CD ws _ (by omega) h;have:=A0 CD ws;omega
theorem Wp(cs:List Cell)(l:Int):-1<=ow cs l:=by
 unfold ow;split
 ·omega
 exact Ik CC cs _ (by omega)
theorem In(ws:List gq)(l:Int):-1<=sl ws l:=by
 unfold sl;split
 ·omega
 exact Ik CD ws _ (by omega)
theorem NL:∀(ws:List gq),mT E6 ws=(ws.length:Int)+mT uE ws
 |[]=>rfl
 |w::ws=>by rw[mT,mT,NL ws,List.length_cons];grind
structure vU(d:du):Prop where
 lc:d.cells.length<=1048576
 lw:d.bu.length<=1048576
 bc:∀c∈d.cells,c.bytes.length<=1048576
 bw:∀w∈d.bu,w.bytes.length<=1048576
 cc:mT uD d.cells<=1048576
 cw:mT E6 d.bu<=1048576
theorem Wq{d:du}(h:0<=qu d 1048576):vU d:=by
 unfold qu at h;split at h
 ·omega
 rename_i q;have V:=Im (cs:=d.cells) (l:=1048576) (by omega);have h2:=NK h;have h3:=A0 CC d.cells;have h4:=A0 CD d.bu;refine⟨by omega,by omega,fun c hc=>?_,fun w hw=>?_,by omega,by rw[NL];omega⟩
 ·have:(c.bytes.length:Int)<=_:=Ij CC hc;omega
 have:(w.bytes.length:Int)<=_:=Ij CD hw;omega
theorem adE{vs:List Value}{bs:List (List Int)}{j:Nat}{v:Value}{b:List Int}(hv:vs[j]? = some v):fY vs (bs.set j b)=(fY vs bs).set j (.ai ⟨5,some v⟩ 1 (ah dF b)):=by
 unfold fY;refine List.ext_getElem? fun i=>?_;rw[List.getElem?_zipWith,List.getElem?_set,List.getElem?_set,List.length_zipWith,List.getElem?_zipWith];by_cases q:j=i
 ·subst q;have hl:=(List.getElem?_eq_some_iff.1 hv).1;simp only[if_true,hv];by_cases z:j<bs.length
  ·rw[if_pos z,if_pos (by omega)]
  rw[if_neg z,if_neg (by omega)]
 rw[if_neg q,if_neg q]
theorem aea{vs:List Value}{cs:List Cell}{j:Nat}{v:Value}{b:List Int}(hv:vs[j]? = some v):fY vs (l9 (cs.set j ⟨b⟩))=(fY vs (l9 cs)).set j (.ai ⟨5,some v⟩ 1 (ah dF b)):=by
 unfold l9;rw[List.map_set];exact adE hv
theorem aed{vs:List Value}{ws:List gq}{j:Nat}{v:Value}{w:gq}(hv:vs[j]? = some v):fY vs (oQ (ws.set j w))=(fY vs (oQ ws)).set j (.ai ⟨5,some v⟩ 1 (ah dF w.bytes)):=by
 unfold oQ;rw[List.map_set];exact adE hv
theorem aec{vs:List Value}{ws:List gq}{j:Nat}{w:gq}{v:Value}(hv:vs[j]? = some v):lW vs (ws.set j w)=(lW vs ws).set j [.v (.int .i64 w.at_),.v v]:=by
 unfold lW;refine List.ext_getElem? fun i=>?_;rw[List.getElem?_zipWith,List.getElem?_set,List.getElem?_set,List.length_zipWith,List.getElem?_zipWith];by_cases q:j=i
 ·subst q;have hl:=(List.getElem?_eq_some_iff.1 hv).1;simp only[if_true,hv];by_cases z:j<ws.length
  ·rw[if_pos z,if_pos (by omega)]
  rw[if_neg z,if_neg (by omega)]
 rw[if_neg q,if_neg q]
theorem dS.set{F:List AO}{j:Nat}{o:AO}(h:dS F)(ho:nr o=true):dS (F.set j o):=fun x hx=>by
 rcases List.mem_or_eq_of_mem_set hx with q|rfl
 ·exact h x q
 omega
section
variable {L:Nat->Prop}{ρ:Nat->Value}{H:Nat->AO}
theorem bI.each{α:Type}{row:α->List PV}{sz:Nat}{dg:World->Nat->Nat->List Value->α->Prop}{w:World}{lo hi b:Nat}(hr:∀cs x,dg w lo hi cs x->cs.length=sz/\∃fp,bP w false (row x) cs fp)(hs:∀x,(row x).length=sz) :
 ∀ {xs:List α} {off:Nat},uF sz dg w lo hi b off xs->∃cs fp,bI w false sz (xs.map row) cs fp/\jo w b off cs/\cs.length=sz*xs.length
 |[],off,_=>⟨[],[],by trivial,fun j v hj=>by grind,rfl⟩
 |x::xs,off,h=>by
  obtain⟨cs,V,h2⟩:=h 0 (by simp);obtain⟨hl,fp,h3⟩:=hr cs _ V;have ht:uF sz dg w lo hi b (off+sz) xs:=fun i hU=>by
   obtain⟨c,k1,k2⟩:=h (i+1) (by simpa using hU);grind
  obtain⟨uU,EC,q1,q2,q3⟩:=bI.each hr hs ht;refine⟨cs++uU,fp++EC,?_,fun j v hj=>?_,by grind⟩
  ·rw[List.map_cons,bI];grind
  rcases Nat.lt_or_ge j cs.length with z|z
  ·rw[List.getElem?_append_left z]at hj;have:=h2 j v hj;grind
  rw[List.getElem?_append_right z]at hj;have:=q2 _ v hj;grind
theorem NM{α:Type}{row:α->List PV}{sz:Nat}{dg:World->Nat->Nat->List Value->α->Prop}{w:World}{lo hi:Nat}{v:Value}{xs:List α}{e:TypeId}(h:dd sz dg w lo hi v xs)(hr:∀cs x,dg w lo hi cs x->cs.length=sz/\∃fp,bP w false (row x) cs fp)(hs:∀x,(row x).length=sz)
 (un:hi<=w.heap.size):∃fp,RW w false (.ab e sz (xs.map row)) v fp:=by
 obtain⟨a,cap,rfl,c1,c2,ml⟩:=h
 rcases ml with hz|⟨b,off,rfl,b1,b2,hel⟩
 ·have:xs=[]:=List.length_eq_zero_iff.1 (by grind)
  subst this
  refine⟨[]++[],?_⟩
  rw[RW]
  refine⟨[],[],[],by trivial,?_,rfl⟩
  unfold iF
  simp only[Bool.false_eq_true,if_false]
  exact⟨_,_,rfl,by simp,c2,.inl x_10⟩
 obtain⟨cs,fp,q1,q2,q3⟩:=bI.each hr hs hel
 refine⟨[b]++fp,?_⟩
 rw[RW]
 refine⟨cs,[b],fp,q1,?_,rfl⟩
 unfold iF
 simp only[Bool.false_eq_true,if_false]
 exact⟨_,_,by simp,by grind,c2,.inr ⟨b,off,rfl,q2,by omega,rfl⟩⟩
end

theorem Wr(x:Acc):GC prog 268 [.agg [int x.kind,int x.ch]] [] (.agg [int x.kind,int x.ch]) []:=by
 refine GC.intro (rs:=[.cell 2 165 (some 2)]) func268 rfl ntmps268 x_9 ⟨rfl,rfl,i0,trivial⟩ ?_;intro L O w0;refine sL<|ab (zX 2001 Z) Z<|ab (zA 2002 NE Z) Z<|nA<|ab (zA 2003 NE Z) Z<|nA<|lf 0 Wi Z<|aj ac Z<|lf 0 oW Z<|ab (zB 2003 ca cb Z) Z<|nA<|lf 1 Wj Z<|aj ac Z<|lf 1 rV Z<|ab (zB 2003 ca cb Z) Z<|nA<|aP (.agg [U _ _,U _ _]) i0 Z ?_;refine ab (zB 2002 Dm ND Z) Z<|Y<|aR ?_;trivial
theorem Ws(x:aO):GC prog 228 [.agg [int x.acc.kind,int x.acc.ch,int x.af]] [] (.agg [int x.acc.kind,int x.acc.ch,int x.af]) []:=by
 refine GC.intro (rs:=[.cell 2 167 (some 3)]) func228 rfl ntmps228 x_9 ⟨rfl,rfl,iV,trivial⟩ ?_;intro L O w0;refine sL<|ab (zX 2001 Z) Z<|ab (zA 2002 eP Z) Z<|nA<|ab (zA 2003 eP Z) Z<|nA<|lf 0 Wm Z<|aP (.agg [U _ _,U _ _]) Wh Z<|ab (zL func268 (Wr _) Z) Z<|lf 0 jf Z<|ab (zB 2003 Dm ND Z) Z<|nA<|lf 2 Wn Z<|aj ac Z<|lf 2 ni Z<|ab (zB 2003 ca cb Z) Z<|nA ?_;refine aP (.agg [U _ _,U _ _,U _ _]) iV Z<|ab (zB 2002 vf vg Z) Z<|lT [2] [2001,2002,2003] ?_;refine Y<|aR ?_;trivial
theorem Wt(x:aV):GC prog 138 [.agg [int x.kind,int x.key,int x.ch,int x.to,int x.af,int x.ay,aD x.yes]] [] (.agg [int x.kind,int x.key,int x.ch,int x.to,int x.af,int x.ay,aD x.yes]) []:=by
 refine GC.intro (rs:=[.cell 2 81 (some 7)]) func138 rfl ntmps138 x_9 ⟨rfl,rfl,dD,trivial⟩ ?_;intro L O w0;refine sL<|ab (zX 2001 Z) Z<|ab (zA 2002 jl Z) Z<|nA<|ab (zA 2003 jl Z) Z<|nA<|lf 0 VL Z<|aj ac Z<|lf 0 jz Z<|ab (zB 2003 ca cb Z) Z<|nA<|lf 1 VM Z<|aj ac Z<|lf 1 gE Z<|ab (zB 2003 ca cb Z) Z<|nA<|lf 2 VN Z ?_;refine aj ac Z<|lf 2 dn Z<|ab (zB 2003 ca cb Z) Z<|lT [1,2,3] [2001,2002,2003] ?_;refine nA<|lf 3 VO Z<|aj ac Z<|lf 3 fK Z<|ab (zB 2003 ca cb Z) Z<|nA<|lf 4 VP Z<|aj ac Z<|lf 4 bN Z<|ab (zB 2003 ca cb Z) Z<|nA<|lf 5 VQ Z<|aj ac Z<|lf 5 fC Z<|ab (zB 2003 ca cb Z) Z<|nA<|lf 6 VR Z<|tT jN Z ?_;refine lf 6 pw Z<|ab (zB 2003 ES ET Z) Z<|lT [2,3] [2001,2002,2003] ?_;refine nA<|aP (.agg [U _ _,U _ _,U _ _,U _ _,U _ _,U _ _,vB _]) dD Z<|ab (zB 2002 mZ m0 Z) Z<|Y<|aR ?_;trivial
theorem Wu(x:be):GC prog 225 [.agg [int x.id,int x.size,int x.loc,int x.aC,int x.base,int x.br,int x.cM]] [] (.agg [int x.id,int x.size,int x.loc,int x.aC,int x.base,int x.br,int x.cM]) []:=by
 refine GC.intro (rs:=[.cell 2 159 (some 7)]) func225 rfl ntmps225 x_9 ⟨rfl,rfl,fF,trivial⟩ ?_;intro L O w0;refine sL<|ab (zX 2001 Z) Z<|ab (zA 2002 dy Z) Z<|nA<|ab (zA 2003 dy Z) Z<|nA<|lf 0 VX Z<|aj ac Z<|lf 0 kM Z<|ab (zB 2003 ca cb Z) Z<|nA<|lf 1 VY Z<|aj ac Z<|lf 1 qS Z<|ab (zB 2003 ca cb Z) Z<|nA<|lf 2 VZ Z ?_;refine aj ac Z<|lf 2 fH Z<|ab (zB 2003 ca cb Z) Z<|lT [1,2,3] [2001,2002,2003] ?_;refine nA<|lf 3 V0 Z<|aj ac Z<|lf 3 ic Z<|ab (zB 2003 ca cb Z) Z<|nA<|lf 4 V1 Z<|aj ac Z<|lf 4 nE Z<|ab (zB 2003 ca cb Z) Z<|nA<|lf 5 V2 Z<|aj ac Z<|lf 5 mH Z<|ab (zB 2003 ca cb Z) Z<|nA<|lf 6 V3 Z<|aj ac Z ?_;refine lf 6 ms Z<|ab (zB 2003 ca cb Z) Z<|lT [2,3] [2001,2002,2003] ?_;refine nA<|aP (.agg [U _ _,U _ _,U _ _,U _ _,U _ _,U _ _,U _ _]) fF Z<|ab (zB 2002 lu lv Z) Z<|Y<|aR ?_;trivial
theorem Wv(x:eV):GC prog 226 [.agg [int x.key,int x.gh,int x.out,int x.cW,int x.c9,aD x.kept,int x.jP]] [] (.agg [int x.key,int x.gh,int x.out,int x.cW,int x.c9,aD x.kept,int x.jP]) []:=by
 refine GC.intro (rs:=[.cell 2 218 (some 7)]) func226 rfl ntmps226 x_9 ⟨rfl,rfl,kZ,trivial⟩ ?_;intro L O w0;refine sL<|ab (zX 2001 Z) Z<|ab (zA 2002 iu Z) Z<|nA<|ab (zA 2003 iu Z) Z<|nA<|lf 0 V5 Z<|aj ac Z<|lf 0 u7 Z<|ab (zB 2003 ca cb Z) Z<|nA<|lf 1 V6 Z<|aj ac Z<|lf 1 oM Z<|ab (zB 2003 ca cb Z) Z<|nA<|lf 2 V7 Z ?_;refine aj ac Z<|lf 2 mJ Z<|ab (zB 2003 ca cb Z) Z<|lT [1,2,3] [2001,2002,2003] ?_;refine nA<|lf 3 V8 Z<|aj ac Z<|lf 3 n3 Z<|ab (zB 2003 ca cb Z) Z<|nA<|lf 4 V9 Z<|aj ac Z<|lf 4 kw Z<|ab (zB 2003 ca cb Z) Z<|nA<|lf 5 V' Z<|tT jN Z<|lf 5 BF Z<|ab (zB 2003 ES ET Z) Z<|nA<|lf 6 Wa Z<|aj ac Z ?_;refine lf 6 tV Z<|ab (zB 2003 ca cb Z) Z<|lT [2,3] [2001,2002,2003] ?_;refine nA<|aP (.agg [U _ _,U _ _,U _ _,U _ _,U _ _,vB _,U _ _]) kZ Z<|ab (zB 2002 nJ nL Z) Z<|Y<|aR ?_;trivial
theorem Ww(x:gz):GC prog 227 [.agg [int x.key,int x.fI,int x.to,int x.af,int x.ay]] [] (.agg [int x.key,int x.fI,int x.to,int x.af,int x.ay]) []:=by
 refine GC.intro (rs:=[.cell 2 220 (some 5)]) func227 rfl ntmps227 x_9 ⟨rfl,rfl,l5,trivial⟩ ?_;intro L O w0;refine sL<|ab (zX 2001 Z) Z<|ab (zA 2002 jO Z) Z<|nA<|ab (zA 2003 jO Z) Z<|nA<|lf 0 Wc Z<|aj ac Z<|lf 0 u9 Z<|ab (zB 2003 ca cb Z) Z<|nA<|lf 1 Wd Z<|aj ac Z<|lf 1 nO Z<|ab (zB 2003 ca cb Z) Z<|nA<|lf 2 We Z ?_;refine aj ac Z<|lf 2 py Z<|ab (zB 2003 ca cb Z) Z<|lT [1,2,3] [2001,2002,2003] ?_;refine nA<|lf 3 Wf Z<|aj ac Z<|lf 3 lO Z<|ab (zB 2003 ca cb Z) Z<|nA<|lf 4 Wg Z<|aj ac Z<|lf 4 pO Z<|ab (zB 2003 ca cb Z) Z<|nA<|aP (.agg [U _ _,U _ _,U _ _,U _ _,U _ _]) l5 Z<|ab (zB 2002 oK oL Z) Z<|Y<|aR ?_;trivial
theorem Wx(l:List aO)(hm:l.length<=1048576):GC prog 137 [.p (.ab 262 3 (ah ct l))] [] (.own 2007) [(2007,.ai 167 3 (ah ct l))]:=by
 refine gi 2 func137 rfl ntmps137 rfl ?_;intro L O w0;refine sL<|e9 Z<|nA<|bm Z<|ba Ie Z<|ab (uq 2007 (m:=l.length) rfl rfl (by decide) cV eP rfl rfl rfl ?hn1 ?hn2 (Nat.le_trans (Nat.mul_le_mul_right _ lE) (by omega)) x_80) rfl ?_;case hn1=>rw[ap]
 case hn2=>rw[ap]
 refine bD Z<|Y<|aS<|sL<|ao Z<|Y<|aB ?_;refine aW [0,2,3] [] (D:=Nat) (fun k=>[(4,int (k:Int))]) (fun k=>[(2007,.ai 167 3 (fill (ah ct l) [.v (.int .i64 0),.v (.int .i64 0),.v (.int .i64 0)] k))]) (fun k=>k<=l.length) (fun k=>l.length-k) (0) (Nat.zero_le _) x_10 ⟨(congrArg (fun q=>AO.ai 167 3 q) (by rw[Ai,ap];rfl)),trivial⟩ ?_;intro k hI;refine aS<|sL<|ae Z<|bm Z<|ba Ie Z<|ak Z<|Y ?_;refine AW.cond rfl ?_ ?_
 ·intro V;refine aK<|gT<|aS<|aB<|aL<|bW Z<|ae Z<|bm Z<|ae Z ?_;have hk:k<l.length:=by simpa[ap]using V
  refine li k VC Z (bS hk)<|d6 (.agg [U _ _,U _ _,U _ _]) Wk Z<|ab (zL func228 (Ws _) Z) Z<|lT [0,2,3,4,14,15,20] [2007] ?_;have hk:k<l.length:=by simpa[ap]using V
  refine lq (rj k cV rfl (by grind[Ak]))<|ab (zQ 2007 [.v (.int .i64 l[k].acc.kind),.v (.int .i64 l[k].acc.ch),.v (.int .i64 l[k].af)] vf vg rfl (Al (by grind))) Z<|lN<|gB<|gT<|aL<|ae Z<|bg Z<|ao Z<|Y ?_;refine⟨k+1,hk,by omega,x_11,⟨(Eq.trans (b:=AO.ai 167 3 ((fill (ah ct l) [.v (.int .i64 0),.v (.int .i64 0),.v (.int .i64 0)] k).set k ((ct l[k]).map PV.v))) rfl (congrArg (fun q=>AO.ai 167 3 q) (Am (bS hk)))),trivial⟩,rfl,rfl⟩
 intro V;refine aE<|eT<|eT<|eB<|gA<|bW Z<|bD Z<|Y<|aR ?_;refine ax ?_ ⟨(congrArg (fun q=>AO.ai 167 3 q) (by grind[ah,Aj])),trivial⟩;rfl
theorem NN(l:List aV)(hm:l.length<=1048576):GC prog 54 [.p (.ab 181 7 (ah fR l))] [] (.own 2007) [(2007,.ai 81 7 (ah fR l))]:=by
 refine gi 2 func54 rfl ntmps54 rfl ?_;intro L O w0;refine sL<|e9 Z<|nA<|bm Z<|ba If Z<|ab (uq 2007 (m:=l.length) rfl rfl (by decide) jk jl rfl rfl rfl ?hn1 ?hn2 (Nat.le_trans (Nat.mul_le_mul_right _ sD) (by omega)) x_80) rfl ?_;case hn1=>rw[ap]
 case hn2=>rw[ap]
 refine bD Z<|Y<|aS<|sL<|ao Z<|Y<|aB ?_;refine aW [0,2,3] [] (D:=Nat) (fun k=>[(4,int (k:Int))]) (fun k=>[(2007,.ai 81 7 (fill (ah fR l) [.v (.int .i64 0),.v (.int .i64 0),.v (.int .i64 0),.v (.int .i64 0),.v (.int .i64 0),.v (.int .i64 0),.v (.bool false)] k))]) (fun k=>k<=l.length) (fun k=>l.length-k) (0) (Nat.zero_le _) x_10 ⟨(congrArg (fun q=>AO.ai 81 7 q) (by rw[Ai,ap];rfl)),trivial⟩ ?_;intro k hI;refine aS<|sL<|ae Z<|bm Z<|ba If Z<|ak Z<|Y ?_;refine AW.cond rfl ?_ ?_
 ·intro V;refine aK<|gT<|aS<|aB<|aL<|bW Z<|ae Z<|bm Z<|ae Z ?_;have hk:k<l.length:=by simpa[ap]using V
  refine li k VE Z (bS hk)<|d6 (.agg [U _ _,U _ _,U _ _,U _ _,U _ _,U _ _,vB _]) VK Z<|ab (zL func138 (Wt _) Z) Z<|lT [0,2,3,4,14,15,20] [2007] ?_;have hk:k<l.length:=by simpa[ap]using V
  refine lq (rj k jk rfl (by grind[Ak]))<|ab (zQ 2007 [.v (.int .i64 l[k].kind),.v (.int .i64 l[k].key),.v (.int .i64 l[k].ch),.v (.int .i64 l[k].to),.v (.int .i64 l[k].af),.v (.int .i64 l[k].ay),.v (.bool l[k].yes)] mZ m0 rfl (Al (by grind))) Z<|lN<|gB<|gT<|aL<|ae Z<|bg Z<|ao Z<|Y ?_;refine⟨k+1,hk,by omega,x_11,⟨(Eq.trans (b:=AO.ai 81 7 ((fill (ah fR l) [.v (.int .i64 0),.v (.int .i64 0),.v (.int .i64 0),.v (.int .i64 0),.v (.int .i64 0),.v (.int .i64 0),.v (.bool false)] k).set k ((fR l[k]).map PV.v))) rfl (congrArg (fun q=>AO.ai 81 7 q) (Am (bS hk)))),trivial⟩,rfl,rfl⟩
 intro V;refine aE<|eT<|eT<|eB<|gA<|bW Z<|bD Z<|Y<|aR ?_;refine ax ?_ ⟨(congrArg (fun q=>AO.ai 81 7 q) (by grind[ah,Aj])),trivial⟩;rfl
theorem Wy(l:List be)(hm:l.length<=1048576):GC prog 134 [.p (.ab 254 7 (ah aX l))] [] (.own 2007) [(2007,.ai 159 7 (ah aX l))]:=by
 refine gi 2 func134 rfl ntmps134 rfl ?_;intro L O w0;refine sL<|e9 Z<|nA<|bm Z<|ba Ib Z<|ab (uq 2007 (m:=l.length) rfl rfl (by decide) cz dy rfl rfl rfl ?hn1 ?hn2 (Nat.le_trans (Nat.mul_le_mul_right _ jL) (by omega)) x_80) rfl ?_;case hn1=>rw[ap]
 case hn2=>rw[ap]
 refine bD Z<|Y<|aS<|sL<|ao Z<|Y<|aB ?_;refine aW [0,2,3] [] (D:=Nat) (fun k=>[(4,int (k:Int))]) (fun k=>[(2007,.ai 159 7 (fill (ah aX l) [.v (.int .i64 0),.v (.int .i64 0),.v (.int .i64 0),.v (.int .i64 0),.v (.int .i64 0),.v (.int .i64 0),.v (.int .i64 0)] k))]) (fun k=>k<=l.length) (fun k=>l.length-k) (0) (Nat.zero_le _) x_10 ⟨(congrArg (fun q=>AO.ai 159 7 q) (by rw[Ai,ap];rfl)),trivial⟩ ?_;intro k hI;refine aS<|sL<|ae Z<|bm Z<|ba Ib Z<|ak Z<|Y ?_;refine AW.cond rfl ?_ ?_
 ·intro V;refine aK<|gT<|aS<|aB<|aL<|bW Z<|ae Z<|bm Z<|ae Z ?_;have hk:k<l.length:=by simpa[ap]using V
  refine li k Vw Z (bS hk)<|d6 (.agg [U _ _,U _ _,U _ _,U _ _,U _ _,U _ _,U _ _]) VW Z<|ab (zL func225 (Wu _) Z) Z<|lT [0,2,3,4,14,15,20] [2007] ?_;have hk:k<l.length:=by simpa[ap]using V
  refine lq (rj k cz rfl (by grind[Ak]))<|ab (zQ 2007 [.v (.int .i64 l[k].id),.v (.int .i64 l[k].size),.v (.int .i64 l[k].loc),.v (.int .i64 l[k].aC),.v (.int .i64 l[k].base),.v (.int .i64 l[k].br),.v (.int .i64 l[k].cM)] lu lv rfl (Al (by grind))) Z<|lN<|gB<|gT<|aL<|ae Z<|bg Z<|ao Z<|Y ?_;refine⟨k+1,hk,by omega,x_11,⟨(Eq.trans (b:=AO.ai 159 7 ((fill (ah aX l) [.v (.int .i64 0),.v (.int .i64 0),.v (.int .i64 0),.v (.int .i64 0),.v (.int .i64 0),.v (.int .i64 0),.v (.int .i64 0)] k).set k ((aX l[k]).map PV.v))) rfl (congrArg (fun q=>AO.ai 159 7 q) (Am (bS hk)))),trivial⟩,rfl,rfl⟩
 intro V;refine aE<|eT<|eT<|eB<|gA<|bW Z<|bD Z<|Y<|aR ?_;refine ax ?_ ⟨(congrArg (fun q=>AO.ai 159 7 q) (by grind[ah,Aj])),trivial⟩;rfl
theorem Wz(l:List eV)(hm:l.length<=1048576):GC prog 135 [.p (.ab 256 7 (ah go l))] [] (.own 2007) [(2007,.ai 218 7 (ah go l))]:=by
 refine gi 2 func135 rfl ntmps135 rfl ?_;intro L O w0;refine sL<|e9 Z<|nA<|bm Z<|ba Ic Z<|ab (uq 2007 (m:=l.length) rfl rfl (by decide) f7 iu rfl rfl rfl ?hn1 ?hn2 (Nat.le_trans (Nat.mul_le_mul_right _ sQ) (by omega)) x_80) rfl ?_;case hn1=>rw[ap]
 case hn2=>rw[ap]
 refine bD Z<|Y<|aS<|sL<|ao Z<|Y<|aB ?_;refine aW [0,2,3] [] (D:=Nat) (fun k=>[(4,int (k:Int))]) (fun k=>[(2007,.ai 218 7 (fill (ah go l) [.v (.int .i64 0),.v (.int .i64 0),.v (.int .i64 0),.v (.int .i64 0),.v (.int .i64 0),.v (.bool false),.v (.int .i64 0)] k))]) (fun k=>k<=l.length) (fun k=>l.length-k) (0) (Nat.zero_le _) x_10 ⟨(congrArg (fun q=>AO.ai 218 7 q) (by rw[Ai,ap];rfl)),trivial⟩ ?_;intro k hI;refine aS<|sL<|ae Z<|bm Z<|ba Ic Z<|ak Z<|Y ?_;refine AW.cond rfl ?_ ?_
 ·intro V;refine aK<|gT<|aS<|aB<|aL<|bW Z<|ae Z<|bm Z<|ae Z ?_;have hk:k<l.length:=by simpa[ap]using V
  refine li k Vx Z (bS hk)<|d6 (.agg [U _ _,U _ _,U _ _,U _ _,U _ _,vB _,U _ _]) V4 Z<|ab (zL func226 (Wv _) Z) Z<|lT [0,2,3,4,14,15,20] [2007] ?_;have hk:k<l.length:=by simpa[ap]using V
  refine lq (rj k f7 rfl (by grind[Ak]))<|ab (zQ 2007 [.v (.int .i64 l[k].key),.v (.int .i64 l[k].gh),.v (.int .i64 l[k].out),.v (.int .i64 l[k].cW),.v (.int .i64 l[k].c9),.v (.bool l[k].kept),.v (.int .i64 l[k].jP)] nJ nL rfl (Al (by grind))) Z<|lN<|gB<|gT<|aL<|ae Z<|bg Z<|ao Z<|Y ?_;refine⟨k+1,hk,by omega,x_11,⟨(Eq.trans (b:=AO.ai 218 7 ((fill (ah go l) [.v (.int .i64 0),.v (.int .i64 0),.v (.int .i64 0),.v (.int .i64 0),.v (.int .i64 0),.v (.bool false),.v (.int .i64 0)] k).set k ((go l[k]).map PV.v))) rfl (congrArg (fun q=>AO.ai 218 7 q) (Am (bS hk)))),trivial⟩,rfl,rfl⟩
 intro V;refine aE<|eT<|eT<|eB<|gA<|bW Z<|bD Z<|Y<|aR ?_;refine ax ?_ ⟨(congrArg (fun q=>AO.ai 218 7 q) (by grind[ah,Aj])),trivial⟩;rfl
theorem WA(l:List gz)(hm:l.length<=1048576):GC prog 136 [.p (.ab 258 5 (ah iX l))] [] (.own 2007) [(2007,.ai 220 5 (ah iX l))]:=by
 refine gi 2 func136 rfl ntmps136 rfl ?_;intro L O w0;refine sL<|e9 Z<|nA<|bm Z<|ba Id Z<|ab (uq 2007 (m:=l.length) rfl rfl (by decide) iI jO rfl rfl rfl ?hn1 ?hn2 (Nat.le_trans (Nat.mul_le_mul_right _ wI) (by omega)) x_80) rfl ?_;case hn1=>rw[ap]
 case hn2=>rw[ap]
 refine bD Z<|Y<|aS<|sL<|ao Z<|Y<|aB ?_;refine aW [0,2,3] [] (D:=Nat) (fun k=>[(4,int (k:Int))]) (fun k=>[(2007,.ai 220 5 (fill (ah iX l) [.v (.int .i64 0),.v (.int .i64 0),.v (.int .i64 0),.v (.int .i64 0),.v (.int .i64 0)] k))]) (fun k=>k<=l.length) (fun k=>l.length-k) (0) (Nat.zero_le _) x_10 ⟨(congrArg (fun q=>AO.ai 220 5 q) (by rw[Ai,ap];rfl)),trivial⟩ ?_;intro k hI;refine aS<|sL<|ae Z<|bm Z<|ba Id Z<|ak Z<|Y ?_;refine AW.cond rfl ?_ ?_
 ·intro V;refine aK<|gT<|aS<|aB<|aL<|bW Z<|ae Z<|bm Z<|ae Z ?_;have hk:k<l.length:=by simpa[ap]using V
  refine li k Vy Z (bS hk)<|d6 (.agg [U _ _,U _ _,U _ _,U _ _,U _ _]) Wb Z<|ab (zL func227 (Ww _) Z) Z<|lT [0,2,3,4,14,15,20] [2007] ?_;have hk:k<l.length:=by simpa[ap]using V
  refine lq (rj k iI rfl (by grind[Ak]))<|ab (zQ 2007 [.v (.int .i64 l[k].key),.v (.int .i64 l[k].fI),.v (.int .i64 l[k].to),.v (.int .i64 l[k].af),.v (.int .i64 l[k].ay)] oK oL rfl (Al (by grind))) Z<|lN<|gB<|gT<|aL<|ae Z<|bg Z<|ao Z<|Y ?_;refine⟨k+1,hk,by omega,x_11,⟨(Eq.trans (b:=AO.ai 220 5 ((fill (ah iX l) [.v (.int .i64 0),.v (.int .i64 0),.v (.int .i64 0),.v (.int .i64 0),.v (.int .i64 0)] k).set k ((iX l[k]).map PV.v))) rfl (congrArg (fun q=>AO.ai 220 5 q) (Am (bS hk)))),trivial⟩,rfl,rfl⟩
 intro V;refine aE<|eT<|eT<|eB<|gA<|bW Z<|bD Z<|Y<|aR ?_;refine ax ?_ ⟨(congrArg (fun q=>AO.ai 220 5 q) (by grind[ah,Aj])),trivial⟩;rfl
theorem agD(l:List Int)(hm:l.length<=1048576):GC prog 19 [.p (.ab 3 1 (ah kt l))] [] (.own 2007) [(2007,.ai 3 1 (ah kt l))]:=by
 refine gi 2 func19 rfl ntmps19 rfl ?_;intro L O w0;refine sL<|e9 Z<|nA<|bm Z<|ba x4 Z<|ab (uq 2007 (m:=l.length) rfl rfl (by decide) iU lY rfl rfl rfl ?hn1 ?hn2 (Nat.le_trans (Nat.mul_le_mul_right _ uy) (by omega)) (by unfold maxLen;omega)) rfl ?_;case hn1=>rw[ap]
 case hn2=>rw[ap]
 refine bD Z<|Y<|aS<|sL<|ao Z<|Y<|aB ?_;refine aW [0,2,3] [] (D:=Nat) (fun k=>[(4,int (k:Int))]) (fun k=>[(2007,.ai 3 1 (fill (ah kt l) [.v (.int .i64 0)] k))]) (fun k=>k<=l.length) (fun k=>l.length-k) (0) (Nat.zero_le _) x_10 ⟨(congrArg (fun q=>AO.ai 3 1 q) (by rw[Ai,ap];rfl)),trivial⟩ ?_;intro k hI;refine aS<|sL<|ae Z<|bm Z<|ba x4 Z<|ak Z<|Y ?_;refine AW.cond rfl ?_ ?_
 ·intro V;refine aK<|gT<|aS<|aB<|aL<|bW Z<|ae Z<|bm Z<|ae Z ?_;have hk:k<l.length:=by simpa[ap]using V
  refine li k iU Z (bS hk)<|oy ac Z ?_;have hk:k<l.length:=by simpa[ap]using V
  refine lq (rj k iU rfl (by rw[Ak _ (by rw[ap];omega),ap];exact hk))<|ab (zQ 2007 [.v (.int .i64 l[k])] ca cb rfl (Al (by rw[ap];exact hk))) Z<|lT [0,2,3,4] [2007] ?_;refine lN<|gB<|gT<|aL<|ae Z<|bg Z<|ao Z<|Y ?_;refine⟨k+1,hk,by omega,x_11,⟨(Eq.trans (b:=AO.ai 3 1 ((fill (ah kt l) [.v (.int .i64 0)] k).set k ((kt l[k]).map PV.v))) rfl (congrArg (fun q=>AO.ai 3 1 q) (Am (bS hk)))),trivial⟩,rfl,rfl⟩
 intro V;refine aE<|eT<|eT<|eB<|gA<|bW Z<|bD Z<|Y<|aR ?_;refine ax ?_ ⟨(congrArg (fun q=>AO.ai 3 1 q) (by have h:=V;simp only[ap,decide_eq_false_iff_not]at h;rw[show k=(ah kt l).length by rw[ap];omega,Aj])),trivial⟩;rfl
theorem WB(x:Acc):GC prog 269 [.agg [int x.kind,int x.ch],.agg [int x.kind,int x.ch]] [] (aD true) []:=by
 refine gi 4 func269 rfl ntmps269 rfl ?_;intro L O w0;refine sL<|ab (zX 2002 rfl) Z<|ab (zX 2003 rfl) Z<|ar Z<|Y<|aS<|sL<|lf 0 oW Z<|aj ac Z<|lf 0 oW Z<|aj ac Z<|ak Z<|bJ 9 false rfl (by simp)<|Y<|aN Z<|aK<|gT<|aS<|sL<|lf 1 rV Z<|aj ac Z<|lf 1 rV Z<|aj ac Z<|ak Z<|bJ 14 false rfl (by simp) ?_;refine Y<|aN Z<|aK<|gA<|cI Z<|Y<|aR ?_;trivial
theorem WC(x:aO):GC prog 233 [.agg [int x.acc.kind,int x.acc.ch,int x.af],.agg [int x.acc.kind,int x.acc.ch,int x.af]] [] (aD true) []:=by
 refine gi 4 func233 rfl ntmps233 rfl ?_;intro L O w0;refine sL<|ab (zX 2002 rfl) Z<|ab (zX 2003 rfl) Z<|ar Z<|Y<|aS<|sL<|lf 0 jf Z<|aP (.agg [U _ _,U _ _]) i0 Z<|lf 0 jf Z<|aP (.agg [U _ _,U _ _]) i0 Z<|ab (zL func269 (WB _) rfl) Z<|ma Z<|bJ 10 false rfl (by simp)<|Y<|aN Z<|aK<|gT<|aS<|sL<|lf 2 ni Z<|aj ac Z<|lf 2 ni Z<|aj ac Z<|ak rfl ?_;refine bJ 15 false rfl (by simp)<|Y<|aN Z<|aK<|gA<|cI Z<|Y<|aR ?_;trivial
theorem WD(x:aV):GC prog 145 [.agg [int x.kind,int x.key,int x.ch,int x.to,int x.af,int x.ay,aD x.yes],.agg [int x.kind,int x.key,int x.ch,int x.to,int x.af,int x.ay,aD x.yes]] [] (aD true) []:=by
 refine gi 4 func145 rfl ntmps145 rfl ?_;intro L O w0;refine sL<|ab (zX 2002 rfl) Z<|ab (zX 2003 rfl) Z<|ar Z<|Y<|aS<|sL<|lf 0 jz Z<|aj ac Z<|lf 0 jz Z<|aj ac Z<|ak Z<|bJ 9 false rfl (by simp)<|Y<|aN Z<|aK<|gT<|aS<|sL<|lf 1 gE Z<|aj ac Z<|lf 1 gE Z<|aj ac Z<|ak Z<|bJ 14 false rfl (by simp) ?_;refine Y<|aN Z<|aK<|gT<|aS<|sL<|lf 2 dn Z<|aj ac Z<|lf 2 dn Z<|aj ac Z<|ak Z<|bJ 19 false rfl (by simp)<|Y<|aN Z<|aK<|gT<|aS<|sL<|lf 3 fK Z<|aj ac Z<|lf 3 fK Z<|aj ac Z<|ak Z<|bJ 24 false rfl (by simp)<|Y ?_;refine aN Z<|aK<|gT<|aS<|sL<|lf 4 bN Z<|aj ac Z<|lf 4 bN Z<|aj ac Z<|ak Z<|bJ 29 false rfl (by simp)<|Y<|aN Z<|aK<|gT<|aS<|sL<|lf 5 fC Z<|aj ac Z<|lT [2,3,4,31] [2002,2003] ?_;refine lf 5 fC Z<|aj ac Z<|ak Z<|bJ 34 false rfl (by simp)<|Y<|aN Z<|aK<|gT<|aS<|sL<|lf 6 pw Z<|tT jN Z<|lf 6 pw Z<|tT jN Z<|lq (rd (x:=vB _) (G6 rfl rfl rfl underlying4) rfl)<|bJ 39 false rfl (by simp)<|Y<|aN Z<|aK<|gA<|cI Z<|Y<|aR ?_;trivial
theorem WE(x:be):GC prog 230 [.agg [int x.id,int x.size,int x.loc,int x.aC,int x.base,int x.br,int x.cM],.agg [int x.id,int x.size,int x.loc,int x.aC,int x.base,int x.br,int x.cM]] [] (aD true) []:=by
 refine gi 4 func230 rfl ntmps230 rfl ?_;intro L O w0;refine sL<|ab (zX 2002 rfl) Z<|ab (zX 2003 rfl) Z<|ar Z<|Y<|aS<|sL<|lf 0 kM Z<|aj ac Z<|lf 0 kM Z<|aj ac Z<|ak Z<|bJ 9 false rfl (by simp)<|Y<|aN Z<|aK<|gT<|aS<|sL<|lf 1 qS Z<|aj ac Z<|lf 1 qS Z<|aj ac Z<|ak Z<|bJ 14 false rfl (by simp) ?_;refine Y<|aN Z<|aK<|gT<|aS<|sL<|lf 2 fH Z<|aj ac Z<|lf 2 fH Z<|aj ac Z<|ak Z<|bJ 19 false rfl (by simp)<|Y<|aN Z<|aK<|gT<|aS<|sL<|lf 3 ic Z<|aj ac Z<|lf 3 ic Z<|aj ac Z<|ak Z<|bJ 24 false rfl (by simp)<|Y ?_;refine aN Z<|aK<|gT<|aS<|sL<|lf 4 nE Z<|aj ac Z<|lf 4 nE Z<|aj ac Z<|ak Z<|bJ 29 false rfl (by simp)<|Y<|aN Z<|aK<|gT<|aS<|sL<|lf 5 mH Z<|aj ac Z<|lT [2,3,4,31] [2002,2003] ?_;refine lf 5 mH Z<|aj ac Z<|ak Z<|bJ 34 false rfl (by simp)<|Y<|aN Z<|aK<|gT<|aS<|sL<|lf 6 ms Z<|aj ac Z<|lf 6 ms Z<|aj ac Z<|ak Z<|bJ 39 false rfl (by simp)<|Y<|aN Z<|aK<|gA<|cI Z<|Y<|aR ?_;trivial
theorem WF(x:eV):GC prog 231 [.agg [int x.key,int x.gh,int x.out,int x.cW,int x.c9,aD x.kept,int x.jP],.agg [int x.key,int x.gh,int x.out,int x.cW,int x.c9,aD x.kept,int x.jP]] [] (aD true) []:=by
 refine gi 4 func231 rfl ntmps231 rfl ?_;intro L O w0;refine sL<|ab (zX 2002 rfl) Z<|ab (zX 2003 rfl) Z<|ar Z<|Y<|aS<|sL<|lf 0 u7 Z<|aj ac Z<|lf 0 u7 Z<|aj ac Z<|ak Z<|bJ 9 false rfl (by simp)<|Y<|aN Z<|aK<|gT<|aS<|sL<|lf 1 oM Z<|aj ac Z<|lf 1 oM Z<|aj ac Z<|ak Z<|bJ 14 false rfl (by simp) ?_;refine Y<|aN Z<|aK<|gT<|aS<|sL<|lf 2 mJ Z<|aj ac Z<|lf 2 mJ Z<|aj ac Z<|ak Z<|bJ 19 false rfl (by simp)<|Y<|aN Z<|aK<|gT<|aS<|sL<|lf 3 n3 Z<|aj ac Z<|lf 3 n3 Z<|aj ac Z<|ak Z<|bJ 24 false rfl (by simp)<|Y ?_;refine aN Z<|aK<|gT<|aS<|sL<|lf 4 kw Z<|aj ac Z<|lf 4 kw Z<|aj ac Z<|ak Z<|bJ 29 false rfl (by simp)<|Y<|aN Z<|aK<|gT<|aS<|sL<|lf 5 BF Z<|tT jN Z<|lT [2,3,4,31] [2002,2003] ?_;refine lf 5 BF Z<|tT jN Z<|lq (rd (x:=vB _) (G6 rfl rfl rfl underlying4) rfl)<|bJ 34 false rfl (by simp)<|Y<|aN Z<|aK<|gT<|aS<|sL<|lf 6 tV Z<|aj ac Z<|lf 6 tV Z<|aj ac Z<|ak Z<|bJ 39 false rfl (by simp)<|Y<|aN Z<|aK<|gA<|cI Z<|Y<|aR ?_;trivial
theorem WG(x:gz):GC prog 232 [.agg [int x.key,int x.fI,int x.to,int x.af,int x.ay],.agg [int x.key,int x.fI,int x.to,int x.af,int x.ay]] [] (aD true) []:=by
 refine gi 4 func232 rfl ntmps232 rfl ?_;intro L O w0;refine sL<|ab (zX 2002 rfl) Z<|ab (zX 2003 rfl) Z<|ar Z<|Y<|aS<|sL<|lf 0 u9 Z<|aj ac Z<|lf 0 u9 Z<|aj ac Z<|ak Z<|bJ 9 false rfl (by simp)<|Y<|aN Z<|aK<|gT<|aS<|sL<|lf 1 nO Z<|aj ac Z<|lf 1 nO Z<|aj ac Z<|ak Z<|bJ 14 false rfl (by simp) ?_;refine Y<|aN Z<|aK<|gT<|aS<|sL<|lf 2 py Z<|aj ac Z<|lf 2 py Z<|aj ac Z<|ak Z<|bJ 19 false rfl (by simp)<|Y<|aN Z<|aK<|gT<|aS<|sL<|lf 3 lO Z<|aj ac Z<|lf 3 lO Z<|aj ac Z<|ak Z<|bJ 24 false rfl (by simp)<|Y ?_;refine aN Z<|aK<|gT<|aS<|sL<|lf 4 pO Z<|aj ac Z<|lf 4 pO Z<|aj ac Z<|ak Z<|bJ 29 false rfl (by simp)<|Y<|aN Z<|aK<|gA<|cI Z<|Y<|aR ?_;trivial
theorem x_48{p:Prop}(c:p:=by exact ⟨k+1,hk,by omega,x_11,trivial,rfl,rfl⟩):p:=c
theorem WH(l:List aO)(hm:l.length<=1000000000):GC prog 144 [.p (.ab 167 3 (ah ct l)),.p (.ab 167 3 (ah ct l))] [] (aD true) []:=by
 refine gi 4 func144 rfl ntmps144 rfl ?_;intro L O w0;refine sL<|ar Z<|Y<|aS<|sL<|bm Z<|ba hZ Z<|bm Z<|ba hZ Z<|ak Z<|bJ 10 false rfl (by simp)<|Y<|aN Z<|aK<|gT<|aS<|sL<|ao Z<|Y<|aB ?_;refine aW [0,1,4] [] (D:=Nat) (fun k=>[(5,int (k:Int))]) (fun k=>[]) (fun k=>k<=l.length) (fun k=>l.length-k) (0) (Nat.zero_le _) x_10 trivial ?_;intro k hI;refine aS<|sL<|ae Z<|bm Z<|ba hZ Z<|ak Z<|Y ?_;refine AW.cond rfl ?_ ?_
 ·intro V;refine aK<|gT<|aS<|aB<|aS<|aF []<|pq 0 (iz Z)<|pq 1 (gL (U _ _) Z) ?_;have hk:k<l.length:=by simpa[ap]using V
  refine sq 2 (ri k cV Z (bS hk))<|sq 3 (gm (.agg [U _ _,U _ _,U _ _]) iV Z)<|pq 4 (iz Z)<|vq 5 (dW Z) ?_;have hk:k<l.length:=by simpa[ap]using V
  refine vq 6 (ri k cV Z (bS hk))<|vq 7 (gm (.agg [U _ _,U _ _,U _ _]) iV Z)<|bn 8 Z (zL func233 (WC _) Z) (.inr Z)<|fT [0,1,4,5,25] [] ?_;refine vq 9 (tJ rfl)<|nw 26 false rfl (by simp)<|fD<|gT<|aN Z<|aK<|gB<|gT<|aL<|ae Z<|bg Z<|ao Z<|Y ?_;refine x_48
 intro V;refine aE<|eT<|eT<|eB<|gA<|cI Z<|Y<|aR ?_;trivial
theorem NO(l:List aV)(hm:l.length<=1000000000):GC prog 62 [.p (.ab 81 7 (ah fR l)),.p (.ab 81 7 (ah fR l))] [] (aD true) []:=by
 refine gi 4 func62 rfl ntmps62 rfl ?_;intro L O w0;refine sL<|ar Z<|Y<|aS<|sL<|bm Z<|ba jZ Z<|bm Z<|ba jZ Z<|ak Z<|bJ 10 false rfl (by simp)<|Y<|aN Z<|aK<|gT<|aS<|sL<|ao Z<|Y<|aB ?_;refine aW [0,1,4] [] (D:=Nat) (fun k=>[(5,int (k:Int))]) (fun k=>[]) (fun k=>k<=l.length) (fun k=>l.length-k) (0) (Nat.zero_le _) x_10 trivial ?_;intro k hI;refine aS<|sL<|ae Z<|bm Z<|ba jZ Z<|ak Z<|Y ?_;refine AW.cond rfl ?_ ?_
 ·intro V;refine aK<|gT<|aS<|aB<|aS<|aF []<|pq 0 (iz Z)<|pq 1 (gL (U _ _) Z) ?_;have hk:k<l.length:=by simpa[ap]using V
  refine sq 2 (ri k jk Z (bS hk))<|sq 3 (gm (.agg [U _ _,U _ _,U _ _,U _ _,U _ _,U _ _,vB _]) dD Z)<|pq 4 (iz Z)<|vq 5 (dW Z) ?_;have hk:k<l.length:=by simpa[ap]using V
  refine vq 6 (ri k jk Z (bS hk))<|vq 7 (gm (.agg [U _ _,U _ _,U _ _,U _ _,U _ _,U _ _,vB _]) dD Z)<|bn 8 Z (zL func145 (WD _) Z) (.inr Z)<|fT [0,1,4,5,25] [] ?_;refine vq 9 (tJ rfl)<|nw 26 false rfl (by simp)<|fD<|gT<|aN Z<|aK<|gB<|gT<|aL<|ae Z<|bg Z<|ao Z<|Y ?_;refine x_48
 intro V;refine aE<|eT<|eT<|eB<|gA<|cI Z<|Y<|aR ?_;trivial
theorem WI(l:List be)(hm:l.length<=1000000000):GC prog 141 [.p (.ab 159 7 (ah aX l)),.p (.ab 159 7 (ah aX l))] [] (aD true) []:=by
 refine gi 4 func141 rfl ntmps141 rfl ?_;intro L O w0;refine sL<|ar Z<|Y<|aS<|sL<|bm Z<|ba kJ Z<|bm Z<|ba kJ Z<|ak Z<|bJ 10 false rfl (by simp)<|Y<|aN Z<|aK<|gT<|aS<|sL<|ao Z<|Y<|aB ?_;refine aW [0,1,4] [] (D:=Nat) (fun k=>[(5,int (k:Int))]) (fun k=>[]) (fun k=>k<=l.length) (fun k=>l.length-k) (0) (Nat.zero_le _) x_10 trivial ?_;intro k hI;refine aS<|sL<|ae Z<|bm Z<|ba kJ Z<|ak Z<|Y ?_;refine AW.cond rfl ?_ ?_
 ·intro V;refine aK<|gT<|aS<|aB<|aS<|aF []<|pq 0 (iz Z)<|pq 1 (gL (U _ _) Z) ?_;have hk:k<l.length:=by simpa[ap]using V
  refine sq 2 (ri k cz Z (bS hk))<|sq 3 (gm (.agg [U _ _,U _ _,U _ _,U _ _,U _ _,U _ _,U _ _]) fF Z)<|pq 4 (iz Z)<|vq 5 (dW Z) ?_;have hk:k<l.length:=by simpa[ap]using V
  refine vq 6 (ri k cz Z (bS hk))<|vq 7 (gm (.agg [U _ _,U _ _,U _ _,U _ _,U _ _,U _ _,U _ _]) fF Z)<|bn 8 Z (zL func230 (WE _) Z) (.inr Z)<|fT [0,1,4,5,25] [] ?_;refine vq 9 (tJ rfl)<|nw 26 false rfl (by simp)<|fD<|gT<|aN Z<|aK<|gB<|gT<|aL<|ae Z<|bg Z<|ao Z<|Y ?_;refine x_48
 intro V;refine aE<|eT<|eT<|eB<|gA<|cI Z<|Y<|aR ?_;trivial
theorem WJ(l:List eV)(hm:l.length<=1000000000):GC prog 142 [.p (.ab 218 7 (ah go l)),.p (.ab 218 7 (ah go l))] [] (aD true) []:=by
 refine gi 4 func142 rfl ntmps142 rfl ?_;intro L O w0;refine sL<|ar Z<|Y<|aS<|sL<|bm Z<|ba jb Z<|bm Z<|ba jb Z<|ak Z<|bJ 10 false rfl (by simp)<|Y<|aN Z<|aK<|gT<|aS<|sL<|ao Z<|Y<|aB ?_;refine aW [0,1,4] [] (D:=Nat) (fun k=>[(5,int (k:Int))]) (fun k=>[]) (fun k=>k<=l.length) (fun k=>l.length-k) (0) (Nat.zero_le _) x_10 trivial ?_;intro k hI;refine aS<|sL<|ae Z<|bm Z<|ba jb Z<|ak Z<|Y ?_;refine AW.cond rfl ?_ ?_
 ·intro V;refine aK<|gT<|aS<|aB<|aS<|aF []<|pq 0 (iz Z)<|pq 1 (gL (U _ _) Z) ?_;have hk:k<l.length:=by simpa[ap]using V
  refine sq 2 (ri k f7 Z (bS hk))<|sq 3 (gm (.agg [U _ _,U _ _,U _ _,U _ _,U _ _,vB _,U _ _]) kZ Z)<|pq 4 (iz Z)<|vq 5 (dW Z) ?_;have hk:k<l.length:=by simpa[ap]using V
  refine vq 6 (ri k f7 Z (bS hk))<|vq 7 (gm (.agg [U _ _,U _ _,U _ _,U _ _,U _ _,vB _,U _ _]) kZ Z)<|bn 8 Z (zL func231 (WF _) Z) (.inr Z)<|fT [0,1,4,5,25] [] ?_;refine vq 9 (tJ rfl)<|nw 26 false rfl (by simp)<|fD<|gT<|aN Z<|aK<|gB<|gT<|aL<|ae Z<|bg Z<|ao Z<|Y ?_;refine x_48
 intro V;refine aE<|eT<|eT<|eB<|gA<|cI Z<|Y<|aR ?_;trivial
theorem WK(l:List gz)(hm:l.length<=1000000000):GC prog 143 [.p (.ab 220 5 (ah iX l)),.p (.ab 220 5 (ah iX l))] [] (aD true) []:=by
 refine gi 4 func143 rfl ntmps143 rfl ?_;intro L O w0;refine sL<|ar Z<|Y<|aS<|sL<|bm Z<|ba j7 Z<|bm Z<|ba j7 Z<|ak Z<|bJ 10 false rfl (by simp)<|Y<|aN Z<|aK<|gT<|aS<|sL<|ao Z<|Y<|aB ?_;refine aW [0,1,4] [] (D:=Nat) (fun k=>[(5,int (k:Int))]) (fun k=>[]) (fun k=>k<=l.length) (fun k=>l.length-k) (0) (Nat.zero_le _) x_10 trivial ?_;intro k hI;refine aS<|sL<|ae Z<|bm Z<|ba j7 Z<|ak Z<|Y ?_;refine AW.cond rfl ?_ ?_
 ·intro V;refine aK<|gT<|aS<|aB<|aS<|aF []<|pq 0 (iz Z)<|pq 1 (gL (U _ _) Z) ?_;have hk:k<l.length:=by simpa[ap]using V
  refine sq 2 (ri k iI Z (bS hk))<|sq 3 (gm (.agg [U _ _,U _ _,U _ _,U _ _,U _ _]) l5 Z)<|pq 4 (iz Z)<|vq 5 (dW Z) ?_;have hk:k<l.length:=by simpa[ap]using V
  refine vq 6 (ri k iI Z (bS hk))<|vq 7 (gm (.agg [U _ _,U _ _,U _ _,U _ _,U _ _]) l5 Z)<|bn 8 Z (zL func232 (WG _) Z) (.inr Z)<|fT [0,1,4,5,25] [] ?_;refine vq 9 (tJ rfl)<|nw 26 false rfl (by simp)<|fD<|gT<|aN Z<|aK<|gB<|gT<|aL<|ae Z<|bg Z<|ao Z<|Y ?_;refine x_48
 intro V;refine aE<|eT<|eT<|eB<|gA<|cI Z<|Y<|aR ?_;trivial
theorem agY(l:List Int)(hm:l.length<=1000000000):GC prog 22 [.p (.ab 3 1 (ah kt l)),.p (.ab 3 1 (ah kt l))] [] (aD true) []:=by
 refine gi 4 func22 rfl ntmps22 rfl ?_;intro L O w0;refine sL<|ar Z<|Y<|aS<|sL<|bm Z<|ba x4 Z<|bm Z<|ba x4 Z<|ak Z<|bJ 10 false rfl (by simp)<|Y<|aN Z<|aK<|gT<|aS<|sL<|ao Z<|Y<|aB ?_;refine aW [0,1,4] [] (D:=Nat) (fun k=>[(5,int (k:Int))]) (fun k=>[]) (fun k=>k<=l.length) (fun k=>l.length-k) (0) (Nat.zero_le _) x_10 trivial ?_;intro k hI;refine aS<|sL<|ae Z<|bm Z<|ba x4 Z<|ak Z<|Y ?_;refine AW.cond rfl ?_ ?_
 ·intro V;refine aK<|gT<|aS<|aB<|aS<|aF []<|pq 0 (iz Z)<|pq 1 (gL (U _ _) Z) ?_;have hk:k<l.length:=by simpa[ap]using V
  refine sq 2 (ri k iU Z (bS hk))<|sq 3 (qU ac Z)<|pq 4 (iz Z)<|vq 5 (dW Z) ?_;have hk:k<l.length:=by simpa[ap]using V
  refine vq 6 (ri k iU rfl (bS hk))<|vq 7 (qU ac rfl)<|vq 8 (dt rfl)<|nw 25 false rfl (by simp)<|fD<|gT<|aN Z<|aK<|gB<|gT<|aL<|ae Z<|bg Z<|ao Z<|Y ?_;refine x_48
 intro V;refine aE<|eT<|eT<|eB<|gA<|cI Z<|Y<|aR ?_;refine ax ?_ trivial;rfl

def acw(k:Int):aO:=⟨⟨k,k+1⟩,k+2⟩
abbrev aco(k:Int)(m:Nat):List aO:=abN acw 3 k m
theorem x_14{p:Prop}(c:p:=by simp[ap,c6];omega):p:=c
theorem x_55{p:Prop}(c:p:=by exact ⟨rfl,(congrArg int (by omega)),trivial⟩):p:=c
theorem x_79{p:Prop}(c:p:=by rw[Ji,List.drop_length,List.append_nil]):p:=c
theorem x_87{p:Prop}(c:p:=by exact ⟨(iq rfl),(iq rfl),trivial⟩):p:=c
theorem afm(u:Value)(l:List aO)(k:Int)(hm:l.length<=100000000)(hk:0<=k/\k<=1000000000000):GC prog 149 [.own 0,int k] [(0,.ai ⟨167,some u⟩ 3 (ah ct l))] (int (k+3*(l.length:Int))) [(0,.ai ⟨167,some u⟩ 3 (ah ct (aco k l.length)))]:=by
 refine gi 4 func149 rfl ntmps149 rfl ?_;intro L O w0;refine sL<|ao Z<|Y<|aS<|sL<|ao Z<|Y<|aB ?_;refine aW [0,4] [] (D:=Nat) (fun j=>[(5,int (j:Int)),(1,int (k+3*(j:Int)))]) (fun j=>[(0,.ai ⟨167,some u⟩ 3 (ah ct (aco k j++l.drop j)))]) (fun j=>j<=l.length) (fun j=>l.length-j) (0) (Nat.zero_le _) x_55 x_10 ?_;intro j hI;refine aS<|sL<|ae Z<|bW Z<|ba hZ Z<|ak Z<|Y ?_;refine AW.cond rfl ?_ ?_
 ·intro V;refine aK<|gT<|aS<|aB<|aS ?_;have hj:j<l.length:=by have h:=V;simp[ap,c6]at h;omega
  refine aL<|bW Z<|ae Z<|ae Z<|lq (rj j cV rfl x_14)<|lf 0 jf Z<|lf 0 oW Z<|ab (zQ 0 [.v (.int .i64 (k+3*(j:Int)))] ca cb rfl (dk (acd c6 hj))) Z<|nA<|ae Z<|bg Z<|jK 19 (k+3*(j:Int)+1) rfl (by omega)<|ao Z<|nA<|bW Z<|ae Z<|ae Z<|lq (rj j cV rfl x_14)<|lf 0 jf Z<|lf 1 rV Z<|ab (zQ 0 [.v (.int .i64 (k+3*(j:Int)+1))] ca cb rfl (List.getElem?_set_self x_14)) Z<|lT [0,1,4,5] [0] ?_;refine nA<|ae Z<|bg Z<|jK 27 (k+3*(j:Int)+2) rfl (by omega)<|ao Z<|nA<|bW Z<|ae Z<|ae Z<|lq (rj j cV rfl x_14)<|lf 2 ni Z<|ab (zQ 0 [.v (.int .i64 (k+3*(j:Int)+2))] ca cb rfl (List.getElem?_set_self x_14)) Z<|Y ?_;refine AW.obj 0 (.ai ⟨167,some u⟩ 3 ((ah ct (aco k j++l.drop j)).set j [.v (.int .i64 (k+3*(j:Int))),.v (.int .i64 (k+3*(j:Int)+1)),.v (.int .i64 (k+3*(j:Int)+2))])) (by show AO.ai _ _ (List.set (List.set (List.set _ _ _) _ _) _ _)=_;simp only[List.set_set];rfl) ?_;refine aL<|ae Z<|bg Z<|jK 34 (k+3*(j:Int)+3) rfl (by omega)<|ao Z<|lN<|gB<|gT<|aL<|ae Z<|bg Z<|ao Z<|Y ?_;refine⟨j+1,hj,by omega,x_87,⟨(Eq.trans (b:=AO.ai ⟨167,some u⟩ 3 ((ah ct (aco k j++l.drop j)).set j ((ct (acw (k+3*(j:Int)))).map PV.v))) rfl (congrArg (AO.ai ⟨167,some u⟩ 3) (lB.trans (congrArg (ah ct) (ace c6 ab2 hj))))),trivial⟩,rfl,rfl⟩
 intro V;refine aE<|eT<|eT<|eB<|gA<|ae Z<|ao Z<|Y<|aR ?_;have Ji:j=l.length:=by have h:=V;simp[ap,c6]at h;omega
 refine ax ?_ ⟨(congrArg (fun q=>AO.ai ⟨167,some u⟩ 3 (ah ct q)) x_79),trivial⟩;rw[Ji];try rfl
def abY(k:Int):aV:=⟨k,k+1,k+2,k+3,k+4,k+5,decide ((k+6).tmod 3=0)⟩
abbrev ab'(k:Int)(m:Nat):List aV:=abN abY 7 k m
theorem x_47{p:Prop}(c:p:=by show AO.ai _ _ (List.set (List.set (List.set (List.set (List.set (List.set (List.set _ _ _) _ _) _ _) _ _) _ _) _ _) _ _)=_;simp only[List.set_set];rfl):p:=c
theorem adP(u:Value)(l:List aV)(k:Int)(hm:l.length<=100000000)(hk:0<=k/\k<=1000000000000):GC prog 66 [.own 0,int k] [(0,.ai ⟨81,some u⟩ 7 (ah fR l))] (int (k+7*(l.length:Int))) [(0,.ai ⟨81,some u⟩ 7 (ah fR (ab' k l.length)))]:=by
 refine gi 4 func66 rfl ntmps66 rfl ?_;intro L O w0;refine sL<|ao Z<|Y<|aS<|sL<|ao Z<|Y<|aB ?_;refine aW [0,4] [] (D:=Nat) (fun j=>[(5,int (j:Int)),(1,int (k+7*(j:Int)))]) (fun j=>[(0,.ai ⟨81,some u⟩ 7 (ah fR (ab' k j++l.drop j)))]) (fun j=>j<=l.length) (fun j=>l.length-j) (0) (Nat.zero_le _) x_55 x_10 ?_;intro j hI;refine aS<|sL<|ae Z<|bW Z<|ba jZ Z<|ak Z<|Y ?_;refine AW.cond rfl ?_ ?_
 ·intro V;refine aK<|gT<|aS<|aB<|aS ?_;have hj:j<l.length:=by have h:=V;simp[ap,c6]at h;omega
  refine aL<|bW Z<|ae Z<|ae Z<|lq (rj j jk rfl x_14)<|lf 0 jz Z<|ab (zQ 0 [.v (.int .i64 (k+7*(j:Int)))] ca cb rfl (dk (acd c6 hj))) Z<|nA<|ae Z<|bg Z<|jK 18 (k+7*(j:Int)+1) rfl (by omega)<|ao Z<|nA<|bW Z<|ae Z<|ae Z<|lq (rj j jk rfl x_14)<|lf 1 gE Z<|ab (zQ 0 [.v (.int .i64 (k+7*(j:Int)+1))] ca cb rfl (List.getElem?_set_self x_14)) Z<|lT [0,1,4,5] [0] ?_;refine nA<|ae Z<|bg Z<|jK 25 (k+7*(j:Int)+2) rfl (by omega)<|ao Z<|nA<|bW Z<|ae Z<|ae Z<|lq (rj j jk rfl x_14)<|lf 2 dn Z<|ab (zQ 0 [.v (.int .i64 (k+7*(j:Int)+2))] ca cb rfl (List.getElem?_set_self x_14)) Z<|nA<|ae Z<|bg Z<|jK 32 (k+7*(j:Int)+3) rfl (by omega)<|ao Z<|nA ?_;refine bW Z<|ae Z<|ae Z<|lq (rj j jk rfl x_14)<|lf 3 fK Z<|ab (zQ 0 [.v (.int .i64 (k+7*(j:Int)+3))] ca cb rfl (List.getElem?_set_self x_14)) Z<|lT [0,1,4,5] [0] ?_;refine nA<|ae Z<|bg Z<|jK 39 (k+7*(j:Int)+4) rfl (by omega)<|ao Z<|nA<|bW Z<|ae Z<|ae Z<|lq (rj j jk rfl x_14)<|lf 4 bN Z<|ab (zQ 0 [.v (.int .i64 (k+7*(j:Int)+4))] ca cb rfl (List.getElem?_set_self x_14)) Z<|nA<|ae Z<|bg Z<|jK 46 (k+7*(j:Int)+5) rfl (by omega)<|ao Z<|nA ?_;refine bW Z<|ae Z<|ae Z<|lq (rj j jk rfl x_14)<|lf 5 fC Z<|ab (zQ 0 [.v (.int .i64 (k+7*(j:Int)+5))] ca cb rfl (List.getElem?_set_self x_14)) Z<|lT [0,1,4,5] [0] ?_;refine nA<|ae Z<|bg Z<|jK 53 (k+7*(j:Int)+6) rfl (by omega)<|ao Z<|nA<|bW Z<|ae Z<|ae rfl ?_;refine eo rfl ⟨rfl,by decide⟩<|ak Z<|lq (rj j jk rfl x_14)<|lf 6 pw Z<|ab (zQ 0 [.v (.bool (decide ((k+7*(j:Int)+6).tmod 3=0)))] ES ET rfl (List.getElem?_set_self x_14)) Z<|Y ?_;refine AW.obj 0 (.ai ⟨81,some u⟩ 7 ((ah fR (ab' k j++l.drop j)).set j [.v (.int .i64 (k+7*(j:Int))),.v (.int .i64 (k+7*(j:Int)+1)),.v (.int .i64 (k+7*(j:Int)+2)),.v (.int .i64 (k+7*(j:Int)+3)),.v (.int .i64 (k+7*(j:Int)+4)),.v (.int .i64 (k+7*(j:Int)+5)),.v (.bool (decide ((k+7*(j:Int)+6).tmod 3=0)))])) x_47 ?_;refine aL<|ae Z<|bg Z<|jK 62 (k+7*(j:Int)+7) rfl (by omega)<|ao Z<|lN<|gB<|gT<|aL<|ae Z<|bg Z<|ao Z<|Y ?_;refine⟨j+1,hj,by omega,x_87,⟨(Eq.trans (b:=AO.ai ⟨81,some u⟩ 7 ((ah fR (ab' k j++l.drop j)).set j ((fR (abY (k+7*(j:Int)))).map PV.v))) rfl (congrArg (AO.ai ⟨81,some u⟩ 7) (lB.trans (congrArg (ah fR) (ace c6 ab2 hj))))),trivial⟩,rfl,rfl⟩
 intro V;refine aE<|eT<|eT<|eB<|gA<|ae Z<|ao Z<|Y<|aR ?_;have Ji:j=l.length:=by have h:=V;simp[ap,c6]at h;omega
 refine ax ?_ ⟨(congrArg (fun q=>AO.ai ⟨81,some u⟩ 7 (ah fR q)) x_79),trivial⟩;rw[Ji];try rfl
def abZ(k:Int):be:=⟨k,k+1,k+2,k+3,k+4,k+5,k+6⟩
abbrev acl(k:Int)(m:Nat):List be:=abN abZ 7 k m
theorem afe(u:Value)(l:List be)(k:Int)(hm:l.length<=100000000)(hk:0<=k/\k<=1000000000000):GC prog 146 [.own 0,int k] [(0,.ai ⟨159,some u⟩ 7 (ah aX l))] (int (k+7*(l.length:Int))) [(0,.ai ⟨159,some u⟩ 7 (ah aX (acl k l.length)))]:=by
 refine gi 4 func146 rfl ntmps146 rfl ?_;intro L O w0;refine sL<|ao Z<|Y<|aS<|sL<|ao Z<|Y<|aB ?_;refine aW [0,4] [] (D:=Nat) (fun j=>[(5,int (j:Int)),(1,int (k+7*(j:Int)))]) (fun j=>[(0,.ai ⟨159,some u⟩ 7 (ah aX (acl k j++l.drop j)))]) (fun j=>j<=l.length) (fun j=>l.length-j) (0) (Nat.zero_le _) x_55 x_10 ?_;intro j hI;refine aS<|sL<|ae Z<|bW Z<|ba kJ Z<|ak Z<|Y ?_;refine AW.cond rfl ?_ ?_
 ·intro V;refine aK<|gT<|aS<|aB<|aS ?_;have hj:j<l.length:=by have h:=V;simp[ap,c6]at h;omega
  refine aL<|bW Z<|ae Z<|ae Z<|lq (rj j cz rfl x_14)<|lf 0 kM Z<|ab (zQ 0 [.v (.int .i64 (k+7*(j:Int)))] ca cb rfl (dk (acd c6 hj))) Z<|nA<|ae Z<|bg Z<|jK 18 (k+7*(j:Int)+1) rfl (by omega)<|ao Z<|nA<|bW Z<|ae Z<|ae Z<|lq (rj j cz rfl x_14)<|lf 1 qS Z<|ab (zQ 0 [.v (.int .i64 (k+7*(j:Int)+1))] ca cb rfl (List.getElem?_set_self x_14)) Z<|lT [0,1,4,5] [0] ?_;refine nA<|ae Z<|bg Z<|jK 25 (k+7*(j:Int)+2) rfl (by omega)<|ao Z<|nA<|bW Z<|ae Z<|ae Z<|lq (rj j cz rfl x_14)<|lf 2 fH Z<|ab (zQ 0 [.v (.int .i64 (k+7*(j:Int)+2))] ca cb rfl (List.getElem?_set_self x_14)) Z<|nA<|ae Z<|bg Z<|jK 32 (k+7*(j:Int)+3) rfl (by omega)<|ao Z<|nA ?_;refine bW Z<|ae Z<|ae Z<|lq (rj j cz rfl x_14)<|lf 3 ic Z<|ab (zQ 0 [.v (.int .i64 (k+7*(j:Int)+3))] ca cb rfl (List.getElem?_set_self x_14)) Z<|lT [0,1,4,5] [0] ?_;refine nA<|ae Z<|bg Z<|jK 39 (k+7*(j:Int)+4) rfl (by omega)<|ao Z<|nA<|bW Z<|ae Z<|ae Z<|lq (rj j cz rfl x_14)<|lf 4 nE Z<|ab (zQ 0 [.v (.int .i64 (k+7*(j:Int)+4))] ca cb rfl (List.getElem?_set_self x_14)) Z<|nA<|ae Z<|bg Z<|jK 46 (k+7*(j:Int)+5) rfl (by omega)<|ao Z<|nA ?_;refine bW Z<|ae Z<|ae Z<|lq (rj j cz rfl x_14)<|lf 5 mH Z<|ab (zQ 0 [.v (.int .i64 (k+7*(j:Int)+5))] ca cb rfl (List.getElem?_set_self x_14)) Z<|lT [0,1,4,5] [0] ?_;refine nA<|ae Z<|bg Z<|jK 53 (k+7*(j:Int)+6) rfl (by omega)<|ao Z<|nA<|bW Z<|ae Z<|ae Z<|lq (rj j cz rfl x_14)<|lf 6 ms Z<|ab (zQ 0 [.v (.int .i64 (k+7*(j:Int)+6))] ca cb rfl (List.getElem?_set_self x_14)) Z<|Y ?_;refine AW.obj 0 (.ai ⟨159,some u⟩ 7 ((ah aX (acl k j++l.drop j)).set j [.v (.int .i64 (k+7*(j:Int))),.v (.int .i64 (k+7*(j:Int)+1)),.v (.int .i64 (k+7*(j:Int)+2)),.v (.int .i64 (k+7*(j:Int)+3)),.v (.int .i64 (k+7*(j:Int)+4)),.v (.int .i64 (k+7*(j:Int)+5)),.v (.int .i64 (k+7*(j:Int)+6))])) x_47 ?_;refine aL<|ae Z<|bg Z<|jK 60 (k+7*(j:Int)+7) rfl (by omega)<|ao Z<|lN<|gB<|gT<|aL<|ae Z<|bg Z<|ao Z<|Y ?_;refine⟨j+1,hj,by omega,x_87,⟨(Eq.trans (b:=AO.ai ⟨159,some u⟩ 7 ((ah aX (acl k j++l.drop j)).set j ((aX (abZ (k+7*(j:Int)))).map PV.v))) rfl (congrArg (AO.ai ⟨159,some u⟩ 7) (lB.trans (congrArg (ah aX) (ace c6 ab2 hj))))),trivial⟩,rfl,rfl⟩
 intro V;refine aE<|eT<|eT<|eB<|gA<|ae Z<|ao Z<|Y<|aR ?_;have Ji:j=l.length:=by have h:=V;simp[ap,c6]at h;omega
 refine ax ?_ ⟨(congrArg (fun q=>AO.ai ⟨159,some u⟩ 7 (ah aX q)) x_79),trivial⟩;rw[Ji];try rfl
def ab0(k:Int):eV:=⟨k,k+1,k+2,k+3,k+4,decide ((k+5).tmod 3=0),k+6⟩
abbrev acm(k:Int)(m:Nat):List eV:=abN ab0 7 k m
theorem aff(u:Value)(l:List eV)(k:Int)(hm:l.length<=100000000)(hk:0<=k/\k<=1000000000000):GC prog 147 [.own 0,int k] [(0,.ai ⟨218,some u⟩ 7 (ah go l))] (int (k+7*(l.length:Int))) [(0,.ai ⟨218,some u⟩ 7 (ah go (acm k l.length)))]:=by
 refine gi 4 func147 rfl ntmps147 rfl ?_;intro L O w0;refine sL<|ao Z<|Y<|aS<|sL<|ao Z<|Y<|aB ?_;refine aW [0,4] [] (D:=Nat) (fun j=>[(5,int (j:Int)),(1,int (k+7*(j:Int)))]) (fun j=>[(0,.ai ⟨218,some u⟩ 7 (ah go (acm k j++l.drop j)))]) (fun j=>j<=l.length) (fun j=>l.length-j) (0) (Nat.zero_le _) x_55 x_10 ?_;intro j hI;refine aS<|sL<|ae Z<|bW Z<|ba jb Z<|ak Z<|Y ?_;refine AW.cond rfl ?_ ?_
 ·intro V;refine aK<|gT<|aS<|aB<|aS ?_;have hj:j<l.length:=by have h:=V;simp[ap,c6]at h;omega
  refine aL<|bW Z<|ae Z<|ae Z<|lq (rj j f7 rfl x_14)<|lf 0 u7 Z<|ab (zQ 0 [.v (.int .i64 (k+7*(j:Int)))] ca cb rfl (dk (acd c6 hj))) Z<|nA<|ae Z<|bg Z<|jK 18 (k+7*(j:Int)+1) rfl (by omega)<|ao Z<|nA<|bW Z<|ae Z<|ae Z<|lq (rj j f7 rfl x_14)<|lf 1 oM Z<|ab (zQ 0 [.v (.int .i64 (k+7*(j:Int)+1))] ca cb rfl (List.getElem?_set_self x_14)) Z<|lT [0,1,4,5] [0] ?_;refine nA<|ae Z<|bg Z<|jK 25 (k+7*(j:Int)+2) rfl (by omega)<|ao Z<|nA<|bW Z<|ae Z<|ae Z<|lq (rj j f7 rfl x_14)<|lf 2 mJ Z<|ab (zQ 0 [.v (.int .i64 (k+7*(j:Int)+2))] ca cb rfl (List.getElem?_set_self x_14)) Z<|nA<|ae Z<|bg Z<|jK 32 (k+7*(j:Int)+3) rfl (by omega)<|ao Z<|nA ?_;refine bW Z<|ae Z<|ae Z<|lq (rj j f7 rfl x_14)<|lf 3 n3 Z<|ab (zQ 0 [.v (.int .i64 (k+7*(j:Int)+3))] ca cb rfl (List.getElem?_set_self x_14)) Z<|lT [0,1,4,5] [0] ?_;refine nA<|ae Z<|bg Z<|jK 39 (k+7*(j:Int)+4) rfl (by omega)<|ao Z<|nA<|bW Z<|ae Z<|ae Z<|lq (rj j f7 rfl x_14)<|lf 4 kw Z<|ab (zQ 0 [.v (.int .i64 (k+7*(j:Int)+4))] ca cb rfl (List.getElem?_set_self x_14)) Z<|nA<|ae Z<|bg Z<|jK 46 (k+7*(j:Int)+5) rfl (by omega)<|ao Z<|nA ?_;refine bW Z<|ae Z<|ae Z ?_;refine eo rfl ⟨rfl,by decide⟩<|ak Z<|lq (rj j f7 rfl x_14)<|lf 5 BF Z<|ab (zQ 0 [.v (.bool (decide ((k+7*(j:Int)+5).tmod 3=0)))] ES ET rfl (List.getElem?_set_self x_14)) Z<|lT [0,1,4,5] [0] ?_;refine nA<|ae Z<|bg Z<|jK 55 (k+7*(j:Int)+6) rfl (by omega)<|ao Z<|nA<|bW Z<|ae Z<|ae Z<|lq (rj j f7 rfl x_14)<|lf 6 tV Z<|ab (zQ 0 [.v (.int .i64 (k+7*(j:Int)+6))] ca cb rfl (List.getElem?_set_self x_14)) Z<|Y ?_;refine AW.obj 0 (.ai ⟨218,some u⟩ 7 ((ah go (acm k j++l.drop j)).set j [.v (.int .i64 (k+7*(j:Int))),.v (.int .i64 (k+7*(j:Int)+1)),.v (.int .i64 (k+7*(j:Int)+2)),.v (.int .i64 (k+7*(j:Int)+3)),.v (.int .i64 (k+7*(j:Int)+4)),.v (.bool (decide ((k+7*(j:Int)+5).tmod 3=0))),.v (.int .i64 (k+7*(j:Int)+6))])) x_47 ?_;refine aL<|ae Z<|bg Z<|jK 62 (k+7*(j:Int)+7) rfl (by omega)<|ao Z<|lN<|gB<|gT<|aL<|ae Z<|bg Z<|ao Z<|Y ?_;refine⟨j+1,hj,by omega,x_87,⟨(Eq.trans (b:=AO.ai ⟨218,some u⟩ 7 ((ah go (acm k j++l.drop j)).set j ((go (ab0 (k+7*(j:Int)))).map PV.v))) rfl (congrArg (AO.ai ⟨218,some u⟩ 7) (lB.trans (congrArg (ah go) (ace c6 ab2 hj))))),trivial⟩,rfl,rfl⟩
 intro V;refine aE<|eT<|eT<|eB<|gA<|ae Z<|ao Z<|Y<|aR ?_;have Ji:j=l.length:=by have h:=V;simp[ap,c6]at h;omega
 refine ax ?_ ⟨(congrArg (fun q=>AO.ai ⟨218,some u⟩ 7 (ah go q)) x_79),trivial⟩;rw[Ji];try rfl
def aca(k:Int):gz:=⟨k,k+1,k+2,k+3,k+4⟩
abbrev acn(k:Int)(m:Nat):List gz:=abN aca 5 k m
theorem afg(u:Value)(l:List gz)(k:Int)(hm:l.length<=100000000)(hk:0<=k/\k<=1000000000000):GC prog 148 [.own 0,int k] [(0,.ai ⟨220,some u⟩ 5 (ah iX l))] (int (k+5*(l.length:Int))) [(0,.ai ⟨220,some u⟩ 5 (ah iX (acn k l.length)))]:=by
 refine gi 4 func148 rfl ntmps148 rfl ?_;intro L O w0;refine sL<|ao Z<|Y<|aS<|sL<|ao Z<|Y<|aB ?_;refine aW [0,4] [] (D:=Nat) (fun j=>[(5,int (j:Int)),(1,int (k+5*(j:Int)))]) (fun j=>[(0,.ai ⟨220,some u⟩ 5 (ah iX (acn k j++l.drop j)))]) (fun j=>j<=l.length) (fun j=>l.length-j) (0) (Nat.zero_le _) x_55 x_10 ?_;intro j hI;refine aS<|sL<|ae Z<|bW Z<|ba j7 Z<|ak Z<|Y ?_;refine AW.cond rfl ?_ ?_
 ·intro V;refine aK<|gT<|aS<|aB<|aS ?_;have hj:j<l.length:=by have h:=V;simp[ap,c6]at h;omega
  refine aL<|bW Z<|ae Z<|ae Z<|lq (rj j iI rfl x_14)<|lf 0 u9 Z<|ab (zQ 0 [.v (.int .i64 (k+5*(j:Int)))] ca cb rfl (dk (acd c6 hj))) Z<|nA<|ae Z<|bg Z<|jK 18 (k+5*(j:Int)+1) rfl (by omega)<|ao Z<|nA<|bW Z<|ae Z<|ae Z<|lq (rj j iI rfl x_14)<|lf 1 nO Z<|ab (zQ 0 [.v (.int .i64 (k+5*(j:Int)+1))] ca cb rfl (List.getElem?_set_self x_14)) Z<|lT [0,1,4,5] [0] ?_;refine nA<|ae Z<|bg Z<|jK 25 (k+5*(j:Int)+2) rfl (by omega)<|ao Z<|nA<|bW Z<|ae Z<|ae Z<|lq (rj j iI rfl x_14)<|lf 2 py Z<|ab (zQ 0 [.v (.int .i64 (k+5*(j:Int)+2))] ca cb rfl (List.getElem?_set_self x_14)) Z<|nA<|ae Z<|bg Z<|jK 32 (k+5*(j:Int)+3) rfl (by omega)<|ao Z<|nA ?_;refine bW Z<|ae Z<|ae Z<|lq (rj j iI rfl x_14)<|lf 3 lO Z<|ab (zQ 0 [.v (.int .i64 (k+5*(j:Int)+3))] ca cb rfl (List.getElem?_set_self x_14)) Z<|lT [0,1,4,5] [0] ?_;refine nA<|ae Z<|bg Z<|jK 39 (k+5*(j:Int)+4) rfl (by omega)<|ao Z<|nA<|bW Z<|ae Z<|ae Z<|lq (rj j iI rfl x_14)<|lf 4 pO Z<|ab (zQ 0 [.v (.int .i64 (k+5*(j:Int)+4))] ca cb rfl (List.getElem?_set_self x_14)) Z<|Y ?_;refine AW.obj 0 (.ai ⟨220,some u⟩ 5 ((ah iX (acn k j++l.drop j)).set j [.v (.int .i64 (k+5*(j:Int))),.v (.int .i64 (k+5*(j:Int)+1)),.v (.int .i64 (k+5*(j:Int)+2)),.v (.int .i64 (k+5*(j:Int)+3)),.v (.int .i64 (k+5*(j:Int)+4))])) (by show AO.ai _ _ (List.set (List.set (List.set (List.set (List.set _ _ _) _ _) _ _) _ _) _ _)=_;simp only[List.set_set];rfl) ?_;refine aL<|ae Z<|bg Z<|jK 46 (k+5*(j:Int)+5) rfl (by omega)<|ao Z<|lN<|gB<|gT<|aL<|ae Z<|bg Z<|ao Z<|Y ?_;refine⟨j+1,hj,by omega,x_87,⟨(Eq.trans (b:=AO.ai ⟨220,some u⟩ 5 ((ah iX (acn k j++l.drop j)).set j ((iX (aca (k+5*(j:Int)))).map PV.v))) rfl (congrArg (AO.ai ⟨220,some u⟩ 5) (lB.trans (congrArg (ah iX) (ace c6 ab2 hj))))),trivial⟩,rfl,rfl⟩
 intro V;refine aE<|eT<|eT<|eB<|gA<|ae Z<|ao Z<|Y<|aR ?_;have Ji:j=l.length:=by have h:=V;simp[ap,c6]at h;omega
 refine ax ?_ ⟨(congrArg (fun q=>AO.ai ⟨220,some u⟩ 5 (ah iX q)) x_79),trivial⟩;rw[Ji];try rfl
def agN(k:Int):Int:=k
abbrev agE(k:Int)(m:Nat):List Int:=abN agN 1 k m
theorem agZ(u:Value)(l:List Int)(k:Int)(hm:l.length<=100000000)(hk:0<=k/\k<=1000000000000):GC prog 23 [.own 0,int k] [(0,.ai ⟨3,some u⟩ 1 (ah kt l))] (int (k+1*(l.length:Int))) [(0,.ai ⟨3,some u⟩ 1 (ah kt (agE k l.length)))]:=by
 refine gi 4 func23 rfl ntmps23 rfl ?_;intro L O w0;refine sL<|ao Z<|Y<|aS<|sL<|ao Z<|Y<|aB ?_;refine aW [0,4] [] (D:=Nat) (fun j=>[(5,int (j:Int)),(1,int (k+1*(j:Int)))]) (fun j=>[(0,.ai ⟨3,some u⟩ 1 (ah kt (agE k j++l.drop j)))]) (fun j=>j<=l.length) (fun j=>l.length-j) (0) (Nat.zero_le _) x_55 x_10 ?_;intro j hI;refine aS<|sL<|ae Z<|bW Z<|ba x4 Z<|ak Z<|Y ?_;refine AW.cond rfl ?_ ?_
 ·intro V;refine aK<|gT<|aS<|aB<|aS ?_;have hj:j<l.length:=by have h:=V;simp[ap,c6]at h;omega
  refine aL<|bW Z<|ae Z<|ae Z<|lq (rj j iU rfl x_14)<|ab (zQ 0 [.v (.int .i64 (k+1*(j:Int)))] ca cb rfl (dk (acd c6 hj))) Z<|Y ?_;refine AW.obj 0 (.ai ⟨3,some u⟩ 1 ((ah kt (agE k j++l.drop j)).set j [.v (.int .i64 (k+1*(j:Int)))])) (by show AO.ai _ _ (List.set _ _ _)=_;rfl) ?_;refine aL<|ae Z<|bg Z<|jK 17 (k+1*(j:Int)+1) rfl (by omega)<|ao Z<|lN<|gB<|gT<|aL<|ae Z<|bg Z<|ao Z<|Y ?_;refine⟨j+1,hj,by omega,x_87,⟨(Eq.trans (b:=AO.ai ⟨3,some u⟩ 1 ((ah kt (agE k j++l.drop j)).set j ((kt (agN (k+1*(j:Int)))).map PV.v))) rfl (congrArg (AO.ai ⟨3,some u⟩ 1) (lB.trans (congrArg (ah kt) (ace c6 ab2 hj))))),trivial⟩,rfl,rfl⟩
 intro V;refine aE<|eT<|eT<|eB<|gA<|ae Z<|ao Z<|Y<|aR ?_;have Ji:j=l.length:=by have h:=V;simp[ap,c6]at h;omega
 refine ax ?_ ⟨(congrArg (fun q=>AO.ai ⟨3,some u⟩ 1 (ah kt q)) x_79),trivial⟩;rw[Ji];try rfl
end Go.Proofs.YtflhgkmhmcfimaaGreat

