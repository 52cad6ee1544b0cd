/- Texts of the proof of FnFnTaken, joined: EP1, MkD, EP2, EP3, ES2. -/
import Derived.Test.YtflhgkmhmcfimaaGreatJTaken11
import Derived.Test.YtflhgkmhmcfimaaGreatJTaken12
import Derived.Test.YtflhgkmhmcfimaaGreatJTaken8
import Derived.Test.YtflhgkmhmcfimaaGreatJTaken5
import Derived.Test.YtflhgkmhmcfimaaGreatJTaken3
namespace Go.Proofs.YtflhgkmhmcfimaaGreat
open Tryz
open Go.RowKit
set_option maxHeartbeats 16000000
set_option maxRecDepth 100000
set_option linter.unusedSimpArgs false
set_option linter.unusedVariables false
abbrev SH(d:du):List (Nat×AO):=[(1,.ai 195 1 (oS d.cells)),(2,.ai 192 2 (oT d.bu))]
abbrev aeL(d:du)(es:List aV):List (Nat×AO):=[(1,.ai 195 1 (oS d.cells)),(2,.ai 192 2 (oT d.bu)),(3,uT es)]
abbrev inV(l:List Int):AV:=.p (.ab 3 1 (ah kt l))
abbrev kAr(l:List Int):AO:=.ai 3 1 (ah kt l)
theorem aeM{cs:List Cell}{k:Nat}(hk:k<cs.length):oS (cs.take k)++[[nQ cs[k].bytes]]=oS (cs.take (k+1)):=by
 rw[List.take_succ_eq_append_getElem hk];unfold oS;rw[List.map_append];rfl
theorem ady{cs:List Cell}{i:Nat}{b:List Int}:(oS cs).set i [nQ b]=oS (cs.set i ⟨b⟩):=by unfold oS;rw[List.map_set]
theorem GC.bT{f:FuncId}{args:List AV}{d:du}(h:GC prog f args [] Gn (SH d)):GC prog f args [] (mt d) []:=
 (GX.frozen (Z:=fun y=>y=mt d) h fun x ob ⟨V,h2⟩=>by
   subst V h2;exact⟨_,Still.agg (.cons (Still.row (e:=⟨195,none⟩) (sz:=1) (rows:=oS d.cells) rfl) (.cons (Still.row (e:=⟨192,none⟩) (sz:=2) (rows:=oT d.bu) rfl) .nil)),rfl⟩).mono fun y o ⟨e1,e2⟩=>⟨e2,e1⟩
theorem GC.aeN{f:FuncId}{args:List AV}{d:du}{b:Bool}(h:GC prog f args [] (.au [Gn,aD b]) (SH d)):GC prog f args [] (.au [mt d,aD b]) []:=
 (GX.frozen (Z:=fun y=>y=.au [mt d,aD b]) h fun x ob ⟨V,h2⟩=>by
   subst V h2;exact⟨_,Still.au (.cons (Still.agg (.cons (Still.row (e:=⟨195,none⟩) (sz:=1) (rows:=oS d.cells) rfl) (.cons (Still.row (e:=⟨192,none⟩) (sz:=2) (rows:=oT d.bu) rfl) .nil))) (.cons (Still.p _) .nil)),rfl⟩).mono fun y o ⟨e1,e2⟩=>⟨e2,e1⟩
theorem x_97{p:Prop}(c:p:=by first|(simp[fU,pH];done)|(simp[fU,pH];omega)):p:=c
theorem adz(d:du)(hs:DkS d):GC prog 131 [mt d] [] (Gn) (SH d):=by
 refine GC.intro (rs:=[.cell 2 43 (some 2)]) func131 rfl ntmps131 x_7 x_140 ?_;intro L O w0;refine sL<|ab (zX 2001 Z) Z<|ab (zA 2002 Du Z) Z<|nA<|lq (rd (x:=.agg [vV _,vV _]) (cP Z adU Z Z Z) Z)<|ab (zA 2003 Du Z) Z<|ab (zB 2003 Dv Dw Z) Z<|Y<|aS<|aS ?_;refine AW.pi 1 2003 0 195 1 rfl (by decide) rfl ?_;refine AW.pi 2 2003 1 192 2 rfl (by decide) rfl ?_;refine aL<|lf 0 n9 Z<|bo oB Z<|ba po Z ?_;refine dC 11 (int (d.cells.length:Int)) (congrArg (fun n:Nat=>int (n:Int)) (fU _)) ?_;refine ae Z<|Y<|aB ?_;refine aW [1,2,3,10,11] [2,2001,2002,2003] (D:=Nat) (fun a=>[(12,int (a:Int))]) (fun a=>[(1,.ai 195 1 (oS (d.cells.take a)))]) (fun a=>a<=d.cells.length) (fun a=>d.cells.length-a) (0) (Nat.zero_le _) ⟨rfl,trivial⟩ ⟨rfl,trivial⟩ ?_;intro k hI;have eN:k<=d.cells.length:=hI;refine sL<|ak Z<|Y<|aS ?_;refine AW.cond rfl ?_ ?_
 ·intro V;refine aK<|gT<|aS<|aB<|aS ?_;have hk:k<d.cells.length:=by have h:=V;simp only[decide_eq_true_eq]at h;omega
  have oF:=hs.lc;refine aL<|li k xE Z (vw hk)<|d6 (.agg [vL _ _ _]) zn Z<|ab (zA 2005 CB Z) Z<|ab (zB 2005 E2 E3 Z) Z<|lT [1,2,3,5,10,11,12] [1,2,2001,2002,2003,2005] ?_;refine Y<|aG 10 [1,2018]<|tq 0 (rf 0 n9 rfl)<|tq 1 (gC oB rfl)<|tq 3 (rf 0 uB rfl)<|tq 4 (jj kb rfl)<|cm 2 rfl (zS 2018 (ah dF []) fh ie rfl x_124)<|cm 5 rfl (zP 2018 fh ie mu rfl (Src.p rfl) (by have:=hs.bc _ (List.getElem_mem hk);simp[ah];omega)) ?_;refine AG.freeze 2018 rfl ?_;refine yq 6 (rd (x:=.agg [vL _ _ _]) (cP rfl acN rfl rfl rfl) rfl)<|cm 7 rfl (zS 2023 [[nQ d.cells[k].bytes]] xE CB rfl x_65)<|cm 8 rfl (zP 1 xE CB VT rfl x_14 x_97)<|yq 9 (rf 0 n9 rfl)<|yl rfl (zB 2003 VF VG rfl)<|gB<|gT<|aL<|bg Z<|ae Z<|Y ?_;refine⟨(k+1),hk,by show d.cells.length-(k+1)<d.cells.length-k;omega,x_10,⟨(congrArg (AO.ai 195 1) (aeM hk)),trivial⟩,rfl,rfl⟩
 intro V;refine aE<|eT<|eT<|eB<|gT<|aS<|aS ?_;have dZ:k=d.cells.length:=by have h:=V;simp only[decide_eq_false_iff_not]at h;omega
 subst dZ;rw[List.take_length];refine aL<|lf 1 ru Z<|bo sk Z<|ba vT Z ?_;refine dC 29 (int (d.bu.length:Int)) (congrArg (fun n:Nat=>int (n:Int)) (pH _)) ?_;refine ae Z<|Y<|aB ?_;refine aW [2,3,28,29] [1,2001,2002,2003] (D:=Nat) (fun a=>[(30,int (a:Int))]) (fun a=>[(2,.ai 192 2 (oT (d.bu.take a)))]) (fun a=>a<=d.bu.length) (fun a=>d.bu.length-a) (0) (Nat.zero_le _) ⟨rfl,trivial⟩ ⟨rfl,trivial⟩ ?_;intro j hI;have ro:j<=d.bu.length:=hI;refine sL<|ak Z<|Y<|aS ?_;refine AW.cond rfl ?_ ?_
 ·intro h2;refine aK<|gT<|aS<|aB<|aS ?_;have hj:j<d.bu.length:=by have h:=h2;simp only[decide_eq_true_eq]at h;omega
  have hlw:=hs.lw;refine aL<|li j uz Z (td hj)<|d6 (.agg [U _ _,vL _ _ _]) AY Z<|ab (zA 2007 CA Z) Z<|lT [2,3,7,28,29,30,33] [1,2,2001,2002,2003,2007] ?_;refine ab (zB 2007 E0 E1 rfl) Z<|Y<|aG 12 [2,2038]<|tq 0 (rf 1 ru rfl)<|tq 1 (gC sk rfl)<|tq 2 (rf 0 xG rfl)<|tq 3 (aZ ac rfl)<|tq 5 (rf 1 zm rfl)<|tq 6 (jj kb rfl)<|cm 4 rfl (zS 2038 (ah dF []) fh ie rfl x_124)<|cm 7 rfl (zP 2038 fh ie mu rfl (Src.p rfl) (by have:=hs.bw _ (List.getElem_mem hj);simp[ah];omega)) ?_;refine AG.freeze 2038 rfl ?_;refine yq 8 (rd (x:=.agg [U _ _,vL _ _ _]) (cP rfl acq rfl rfl rfl) rfl)<|cm 9 rfl (zS 2043 [[.v (.int .i64 d.bu[j].at_),nQ d.bu[j].bytes]] uz CA rfl x_65)<|cm 10 rfl (zP 2 uz CA VS rfl x_14 x_97)<|yq 11 (rf 1 ru rfl)<|yl rfl (zB 2003 VH VI rfl)<|gB<|gT<|aL<|bg Z<|ae Z<|Y ?_;refine⟨(j+1),hj,by show d.bu.length-(j+1)<d.bu.length-j;omega,x_10,⟨(congrArg (AO.ai 192 2) (adr hj)),trivial⟩,rfl,rfl⟩
 intro h2;refine aE<|eT<|eT<|eB<|gT<|aS ?_;have Ji:j=d.bu.length:=by have h:=h2;simp only[decide_eq_false_iff_not]at h;omega
 subst Ji;rw[List.take_length];refine aL<|aP (.agg [.own _,.own _]) mE Z<|ab (zB 2002 Dv Dw Z) Z<|lT [2] [1,2,2001,2002,2003] ?_;refine Y<|aR ?_;refine ax ?_ ⟨rfl,rfl,trivial⟩;rfl
theorem aeO(d:du)(i:Nat)(b:List Int)(hd:ik d=true)(hi:i<d.cells.length)(hw:d.bu.length<600)(hb:b.length=128):GC prog 166 [mt d,int (i:Int),gV b] [] (.au [Gn,aD true]) (SH (v6 d i b)):=by
 refine GC.intro (rs:=[.cell 6 43 (some 2),.tmp 7]) func166 rfl ntmps166 x_7 ⟨rfl,rfl,mE,rfl,trivial⟩ ?_;intro L O w0;refine sL<|ab (zX 2003 Z) Z<|ab (zA 2006 Du Z) Z<|ar Z<|Y<|aS<|aS ?_;have gR:=(wL hd).1;refine aL<|aP (.agg [vL _ _ _,vL _ _ _]) mE Z<|ab (zC [] [] [] func87 (FU d) (trivial) rfl rfl) Z<|bJ 10 true rfl (hd)<|ma Z<|Y<|aN Z<|aK<|gA<|aP (.agg [vL _ _ _,vL _ _ _]) mE Z<|ab (zC [(1,1),(2,2)] [1,2] [] func131 (adz d (acF hd)) (trivial) rfl rfl) Z<|ab (zA 2008 Du rfl) Z<|ab (zB 2008 Dv Dw rfl) Z<|Y<|aS<|aG 10 [2,2018]<|tq 0 (rf 1 ru rfl)<|tq 1 (gC sk rfl)<|tq 2 (dW rfl)<|tq 4 (ng rfl)<|cm 3 rfl (zS 2018 (ah dF []) fh ie rfl x_124)<|gX [6,7,8,16,17,18,19] [1,2,2003,2006,2008,2018] ?_;refine cm 5 rfl (zP 2018 fh ie mu rfl (Src.p rfl) (by have:=hb;simp[ah];omega)) ?_;refine AG.freeze 2018 rfl ?_;refine yq 6 (rd (x:=.agg [U _ _,vL _ _ _]) (cP rfl acq rfl rfl rfl) rfl)<|cm 7 rfl (zS 2022 [[.v (.int .i64 (i:Int)),nQ b]] uz CA rfl x_65)<|cm 8 rfl (zP 2 uz CA VS rfl x_14 x_97)<|yq 9 (rf 1 ru rfl)<|yl rfl (zB 2008 VH VI rfl)<|gT<|aS<|aS ?_;refine AW.obj 2 (.ai 192 2 (oT (v6 d i b).bu)) (congrArg (AO.ai 192 2) (show oT d.bu++[[.v (.int .i64 (i:Int)),nQ b]]=_ by unfold oT v6;rw[List.map_append];rfl)) ?_;refine aL<|aP (.agg [.own _,.own _]) mE Z<|ab (zL func87 (FU (v6 d i b)) Z) Z<|bJ 26 true Z (ab7 hd hi hw hb)<|ma Z<|Y<|aN Z<|aK<|gA<|aP (.agg [.own _,.own _]) mE Z<|ab (zB 2006 Dv Dw Z) Z<|cI Z<|Y<|aR ?_;refine ax ?_ ⟨rfl,rfl,trivial⟩;rfl
theorem aeP(d:du)(i:Nat)(b:List Int)(hd:ik d=true)(hi:i<d.cells.length)(hw:d.bu.length<600)(hb:b.length=128):GC prog 166 [mt d,int (i:Int),gV b] [] (.au [mt (v6 d i b),aD true]) []:=(aeO d i b hd hi hw hb).aeN
theorem acZ{vA:List Int}{ws:List gq}{k:Nat}{cs:List Cell}(hk:k<ws.length):abP vA (ws.drop k) k cs=abP vA (ws.drop (k+1)) (k+1) (ab8 vA cs k ws[k]):=by
 rw[List.drop_eq_getElem_cons hk];rfl
theorem aeQ{vA:List Int}{k:Nat}{cs:List Cell}{w:gq}(h:(vA[k]?).getD 0<1):ab8 vA cs k w=cs:=if_pos (by unfold acv;omega)
theorem ac0{vA:List Int}{k m:Nat}{cs:List Cell}{w:gq}(h:¬(vA[k]?).getD 0<1)(V:(m:Int)<=(vA[k]?).getD 0)(h2:m<=128)(h3:(vA[k]?).getD 0<=m\/128<=m)(hc:w.at_.toNat<cs.length):ab8 vA cs k w=cs.set w.at_.toNat ⟨abL (cs[w.at_.toNat]).bytes w.bytes m⟩:=by
 have e:acv vA k=m:=by unfold acv;omega
 unfold ab8;rw[e,if_neg (by omega),List.getElem?_eq_getElem hc];rfl
theorem ac1{old new:List Int}{m:Nat}(V:(yP old).length=128)(h2:new.length=128)(hm:m<=128):(abL old new m).length=128:=by
 unfold abL;rw[List.length_append,List.length_take,List.length_drop];omega
theorem adA{c:Cell}(h:lL c=true):(yP c.bytes).length=128:=by
 unfold lL at h;unfold yP;split
 ·simp
 simp_all
theorem aeR{old new:List Int}{m:Nat}(V:(yP old).length=128)(h2:new.length=128)(hm:m<128):(abL old new m).set m (new[m]'(by omega))=abL old new (m+1):=by
 unfold abL;rw[List.set_append_right _ _ (by rw[List.length_take];omega),List.take_succ_eq_append_getElem (by omega),List.append_assoc,List.length_take,show m-min m new.length=0 by omega,List.drop_eq_getElem_cons (show m<(yP old).length by omega)];rfl
theorem aeS{old new:List Int}:abL old new 0=yP old:=by unfold abL;simp
theorem aeT{old new:List Int}(V:(yP old).length=128)(h2:new.length=128):abL old new 128=new:=by
 unfold abL;rw[List.take_of_length_le (by omega),List.drop_eq_nil_of_le (by omega),List.append_nil]
theorem aeU{l:List Int}{i:Nat}{x:Int}:(ah dF l).set i [.v (.int .u8 x)]=ah dF (l.set i x):=by unfold ah;rw[List.map_set];rfl
theorem acC{cs:List Cell}{i:Nat}{b:List Int}(h:cs.all lL=true)(hb:b.length=128):(cs.set i ⟨b⟩).all lL=true:=by
 rw[List.all_eq_true]at *;intro x hx;rcases List.mem_or_eq_of_mem_set hx with q|rfl
 ·exact h x q
 unfold lL;simp[hb]
theorem adB{d:du}{vA:List Int}(h:ik d=true):acU d vA=⟨abP vA d.bu 0 d.cells,[]⟩:=if_pos h
theorem ac2{cs:List Cell}(h:cs.all lL=true){i:Nat}(hi:i<cs.length):lL cs[i]=true:=List.all_eq_true.1 h _ (List.getElem_mem hi)
theorem aeV{c:Cell}(h:lL c=true):c.bytes.length<=128:=by unfold lL at h;simp only[Bool.or_eq_true,decide_eq_true_eq]at h;omega
theorem x_35{p:Prop}(c:p:=by exact ⟨hk,by rw[List.length_set];exact qH,acC hco (ac1 TP (Jk hd hk) (by omega)),by rw[<-pJ,acZ hk,ac0 acH (by omega) (by omega) ac3 abV]⟩):p:=c
theorem x_41{p:Prop}(c:p:=by exact ⟨(k+1,cs.set d.bu[k].at_.toNat ⟨abL cs[d.bu[k].at_.toNat].bytes d.bu[k].bytes m⟩),x_35,by show d.bu.length-(k+1)<d.bu.length-k;omega,x_10,⟨(congrArg (AO.ai 195 1) ady),trivial⟩,rfl,rfl⟩):p:=c
theorem aeW(d:du)(vA:List Int)(hd:ik d=true):GC prog 71 [mt d,inV vA] [] (Gn) (SH (acU d vA)):=by
 refine GC.intro (rs:=[.cell 4 43 (some 2)]) func71 rfl ntmps71 x_7 x_140 ?_;intro L O w0;refine sL<|ab (zX 2002 Z) Z<|ab (zA 2004 Du Z) Z<|Y<|aS<|aS ?_;have gR:=(wL hd).1;refine aL<|aP (.agg [vL _ _ _,vL _ _ _]) mE Z<|ab (zC [] [] [] func87 (FU d) (trivial) Z Z) Z<|bJ 12 true Z (hd)<|ma Z<|Y<|aN Z<|aK<|gA<|aP (.agg [vL _ _ _,vL _ _ _]) mE Z<|ab (zC [(1,1),(2,2)] [1,2] [] func131 (adz d (acF hd)) (trivial) Z Z) Z<|ab (zA 2005 Du Z) Z<|ab (zB 2005 Dv Dw Z) Z<|nA<|lf 1 ru Z<|ab (zB 2005 VH VI Z) Z<|Y<|aS<|sL<|lf 1 ru Z<|bo sk Z<|ba vT Z ?_;refine dC 20 (int (d.bu.length:Int)) (congrArg (fun n:Nat=>int (n:Int)) (pH _)) ?_;refine ae Z<|Y<|aB ?_;refine aW [1,4,5,19,20] [2002,2004,2005] (D:=Nat×List Cell) (fun a=>[(21,int (a.1:Int))]) (fun a=>[(1,.ai 195 1 (oS a.2))]) (fun a=>a.1<=d.bu.length/\a.2.length=d.cells.length/\a.2.all lL=true/\abP vA (d.bu.drop a.1) a.1 a.2=abP vA d.bu 0 d.cells) (fun a=>d.bu.length-a.1) ((0,d.cells)) (⟨Nat.zero_le _,rfl,(wL hd).2.1,rfl⟩) ⟨rfl,trivial⟩ ⟨rfl,trivial⟩ ?_;intro ⟨k,cs⟩ hI;obtain⟨eN,qH,hco,pJ⟩:=hI;replace eN:k<=d.bu.length:=eN;replace qH:cs.length=d.cells.length:=qH;replace hco:cs.all lL=true:=hco;replace pJ:abP vA (d.bu.drop k) k cs=abP vA d.bu 0 d.cells:=pJ;refine sL<|ak Z<|Y<|aS ?_;refine AW.cond rfl ?_ ?_
 ·intro V;refine aK<|gT<|aS<|aB<|aS ?_;have hk:k<d.bu.length:=by have h:=V;simp only[decide_eq_true_eq]at h;omega
  have MQ:=acW hd hk;have abV:d.bu[k].at_.toNat<cs.length:=by omega
  refine aL<|ae Z<|li k uz Z (td hk)<|d6 (.agg [U _ _,vL _ _ _]) AY Z<|ab (zA 2007 CA Z) Z<|lT [1,4,5,7,19,20,21,23,25] [1,2002,2004,2005,2007] ?_;refine ao Z<|ab (zB 2007 E0 E1 Z) Z<|nA<|ao Z<|Y ?_;refine aJ [1,4,5,7,19,20,21] [1,2002,2004,2005,2007] (D:=Unit) (fun jd=>[(8,int ((vA[k]?).getD 0))]) (fun jd=>[]) (fun jd=>True) ?_ ?_
  ·refine sL<|ae Z<|bm Z<|ba x4 Z<|ak Z<|Y ?_;refine AW.cond rfl ?_ ?_
   ·intro h2;have uG:k<vA.length:=by have h:=h2;simp only[ap,decide_eq_true_eq]at h;omega
    refine aL<|bm Z<|ae Z<|li k iU Z (bS uG)<|oy ac Z<|ao Z<|Y ?_;refine⟨(),trivial,⟨(Eq.trans (b:=int _) rfl (congrArg int (show vA[k]=((vA[k]?).getD 0) by rw[List.getElem?_eq_getElem uG];rfl))),trivial⟩,trivial,rfl,rfl⟩
   intro h2;refine aK<|gT ?_;refine⟨(),trivial,⟨(Eq.trans (b:=int _) rfl (congrArg int (show (0:Int)=((vA[k]?).getD 0) by rw[List.getElem?_eq_none (by have h:=h2;simp only[ap,decide_eq_false_iff_not]at h;omega)];rfl))),trivial⟩,trivial,rfl,rfl⟩
  intro jd hJ;refine aS<|sL<|ae Z<|ak Z<|Y ?_;refine AW.cond rfl ?_ ?_
  ·intro h3;refine aE<|eT<|eB<|gT ?_;have acH:((vA[k]?).getD 0)<1:=by have h:=h3;simpa using h
   refine aL<|bg Z<|ae Z<|Y ?_;refine⟨(k+1,cs),⟨hk,qH,hco,by rw[<-pJ,acZ hk,aeQ acH]⟩,by show d.bu.length-(k+1)<d.bu.length-k;omega,x_10,⟨rfl,trivial⟩,rfl,rfl⟩
  intro h3;refine aK<|gT<|aS ?_;have acH:¬((vA[k]?).getD 0)<1:=by have h:=h3;simpa using h
  have TP:=adA (ac2 hco abV);refine aL<|lf 0 n9 Z<|iO oB Z<|lf 0 xG Z<|aj ac Z<|lq (rd (x:=.ptr 1 _ 0) (pu (i:=d.bu[k].at_.toNat) rfl xE rfl rfl rfl ?hn1 (by rw[fU];exact abV)) rfl) ?_;case hn1=>exact(Int.toNat_of_nonneg MQ.1).symm
  refine lf 0 uB Z<|lq (rd (x:=vL _ _ _) (dT rfl kb rfl rfl rfl (vw abV) rfl) rfl)<|ab (zC [(1,2043)] [2043] [] func154 (Zy cs[d.bu[k].at_.toNat].bytes (Nat.le_trans (aeV (ac2 hco abV)) (by decide))) (trivial) rfl rfl) Z<|bD Z<|Y<|aS<|sL<|ao Z<|Y<|aB ?_;refine aW [1,4,5,7,8,9,19,20,21] [1,2002,2004,2005,2007] (D:=Nat) (fun b=>[(10,int (b:Int))]) (fun b=>[(2043,iT (abL cs[d.bu[k].at_.toNat].bytes d.bu[k].bytes b))]) (fun b=>b<=128/\(b:Int)<=((vA[k]?).getD 0)) (fun b=>128-b) (0) (⟨Nat.zero_le _,by omega⟩) ⟨rfl,trivial⟩ ⟨(Eq.trans (b:=iT (yP cs[d.bu[k].at_.toNat].bytes)) rfl (congrArg iT aeS.symm)),trivial⟩ ?_;intro m hI;obtain⟨hm1,hm2⟩:=hI;replace hm1:m<=128:=hm1;replace hm2:(m:Int)<=((vA[k]?).getD 0):=hm2;refine aS<|sL<|ae Z<|ae Z<|ak Z<|aQ Z ?_;refine AL.bool (t:=47) rfl ?_ ?_
  ·intro h4;refine ae Z<|ak Z<|bj Z<|Y ?_;refine AW.cond rfl ?_ ?_
   ·intro h5;refine aK<|gT<|aS<|aB ?_;have hm:(m:Int)<((vA[k]?).getD 0)/\m<128:=by
     have V:=h4;have h2:=h5;simp only[decide_eq_true_eq]at V h2;omega
    have vX:=Jk hd hk;have vd:=ac1 (m:=m) TP vX (by omega);refine aL<|bW Z<|ae Z<|lf 1 zm Z<|bo kb Z<|ae Z<|li m fh rfl (bS (by omega))<|oy tf Z<|lq (rj m fh rfl (by rw[ap];omega))<|ab (zQ 2043 [.v (.int .u8 (d.bu[k].bytes[m]'(by omega)))] Vs Vt rfl (bS (by omega))) Z<|lT [1,4,5,7,8,9,10,19,20,21] [1,2002,2004,2005,2007,2043] ?_;refine lN<|gB<|gT<|aL<|ae Z<|bg Z<|ao Z<|Y ?_;refine⟨(m+1),x_106,by show 128-(m+1)<128-m;omega,x_10,⟨(Eq.trans (congrArg (AO.ai 5 1) aeU) (congrArg iT (aeR TP (Jk hd hk) (by omega)))),trivial⟩,rfl,rfl⟩
   intro h5;refine aE<|eT<|eT<|eB<|gT ?_;have ac3:((vA[k]?).getD 0)<=m\/128<=m:=by first|(have h:=h5;simp only[decide_eq_false_iff_not]at h;omega)|(have h:=h4;simp only[decide_eq_false_iff_not]at h;omega)|(have h:=h3;simp only[decide_eq_false_iff_not]at h;omega)|(have h:=V;simp only[decide_eq_false_iff_not]at h;omega)
   refine aL<|lf 0 n9 Z<|iO oB Z<|lf 0 xG Z<|aj ac Z<|bW Z<|lq (rd (x:=.ptr 1 _ 0) (pu (i:=d.bu[k].at_.toNat) rfl xE rfl rfl rfl ?hn2 (by rw[fU];exact abV)) rfl) ?_;case hn2=>exact(Int.toNat_of_nonneg MQ.1).symm
   refine lf 0 uB rfl ?_;refine AL.freeze 2043 rfl ?_;refine ab (zQ 1 [nQ (abL cs[d.bu[k].at_.toNat].bytes d.bu[k].bytes m)] Ih Ii Z (vw abV)) Z<|lN<|gB<|gT<|aL<|bg Z<|ae Z<|Y ?_;refine x_41
  intro h4;refine aa Z<|aa Z<|bL Z<|Y<|aN Z<|aE<|eT<|eT<|eB<|gT ?_;have ac3:((vA[k]?).getD 0)<=m\/128<=m:=by first|(have h:=h4;simp only[decide_eq_false_iff_not]at h;omega)|(have h:=h3;simp only[decide_eq_false_iff_not]at h;omega)|(have h:=V;simp only[decide_eq_false_iff_not]at h;omega)
  refine aL<|lf 0 n9 Z<|iO oB Z<|lf 0 xG Z<|aj ac Z<|bW Z<|lq (rd (x:=.ptr 1 _ 0) (pu (i:=d.bu[k].at_.toNat) rfl xE rfl rfl rfl ?hn3 (by rw[fU];exact abV)) rfl) ?_;case hn3=>exact(Int.toNat_of_nonneg MQ.1).symm
  refine lf 0 uB rfl ?_;refine AL.freeze 2043 rfl ?_;refine ab (zQ 1 [nQ (abL cs[d.bu[k].at_.toNat].bytes d.bu[k].bytes m)] Ih Ii Z (vw abV)) Z<|lT [1,4,5,19,20,21] [1,2002,2004,2005,2007] ?_;refine lN<|gB<|gT<|aL<|bg Z<|ae Z<|Y ?_;refine x_41
 intro V;refine aE<|eT<|eT<|eB<|gT<|aS ?_;have dZ:k=d.bu.length:=by have h:=V;simp only[decide_eq_false_iff_not]at h;omega
 have aeX:cs=abP vA d.bu 0 d.cells:=by rw[<-pJ,dZ,List.drop_length];rfl
 refine aT [4,5] [1,2002,2004,2005] ?_;refine AW.pi 2 2005 1 192 2 rfl (by decide) rfl ?_;refine aL<|aP (.agg [.own _,.own _]) mE Z<|ab (zB 2004 Dv Dw Z) Z<|Y<|aR ?_;rw[adB hd,<-aeX];refine ax ?_ ⟨rfl,rfl,trivial⟩;rfl
theorem adC{vA:List Int}:∀(ws:List gq) (k:Nat) (cs:List Cell),(∀j,k<=j->j<k+ws.length->vA[j]? = some 128)->(∀w∈ws,w.bytes.length=128/\w.at_.toNat<cs.length)->cs.all lL=true->abP vA ws k cs=ws.foldl abT cs
 |[],_,_,_,_,_=>rfl
 |w::ws,k,cs,hk,hw,hc=>by
  have V:=hw w (by simp);have uG:=hk k (Nat.le_refl _) (by simp);have e:ab8 vA cs k w=abT cs w:=by
   rw[ac0 (m:=128) (by rw[uG];decide) (by rw[uG];decide) (by omega) (.inr (by omega)) V.2,aeT (adA (ac2 hc V.2)) V.1];rfl
  show abP vA ws (k+1) (ab8 vA cs k w)=_;rw[e,List.foldl_cons];refine adC ws (k+1) _ (fun j Ox Eg=>hk j (by omega) x_80) (fun x hx=>?_) (acC hc V.1);have:=hw x (by simp[hx]);exact⟨this.1,by unfold abT;rw[List.length_set];exact this.2⟩
theorem aeY{d:du}(h:ik d=true):acU d (List.replicate d.bu.length 128)=abM d:=by
 rw[adB h,acu h];unfold abE;rw[List.take_length];refine congrArg (fun c=>(⟨c,[]⟩:du)) (adC _ 0 _ (fun j _ hj=>by rw[List.getElem?_replicate];exact if_pos (by omega)) (fun w hw=>?_) (wL h).2.1);obtain⟨j,hj,rfl⟩:=List.getElem_of_mem hw;exact⟨Jk h hj,(acW h hj).2⟩
theorem aeZ(d:du)(hd:ik d=true):GC prog 133 [mt d] [] (Gn) (SH (abM d)):=by
 refine GC.intro (rs:=[.cell 2 43 (some 2)]) func133 rfl ntmps133 x_7 x_140 ?_;intro L O w0;refine sL<|ab (zX 2001 Z) Z<|ab (zA 2002 Du Z) Z<|Y<|aS ?_;have gR:=(wL hd).1;refine aL<|ab (zS 2004 (ah kt []) iU lY rfl x_124) Z<|bD Z<|Y<|aS<|sL<|lf 1 ru Z<|bo sk Z<|ba vT rfl ?_;refine dC 7 (int (d.bu.length:Int)) (congrArg (fun n:Nat=>int (n:Int)) (pH _)) ?_;refine ae Z<|Y<|aB ?_;refine aW [1,2,7] [2001,2002] (D:=Nat) (fun a=>[(8,int (a:Int)),(3,.own 2004)]) (fun a=>[(2004,kAr (List.replicate a 128))]) (fun a=>a<=d.bu.length) (fun a=>d.bu.length-a) (0) (Nat.zero_le _) ⟨rfl,rfl,trivial⟩ ⟨rfl,trivial⟩ ?_;intro k hI;have eN:k<=d.bu.length:=hI;refine sL<|ak Z<|Y<|aS ?_;refine AW.cond rfl ?_ ?_
 ·intro V;refine aK<|gT<|aS<|aB ?_;have hk:k<d.bu.length:=by have h:=V;simp only[decide_eq_true_eq]at h;omega
  refine aL<|bW Z<|ab (zS 2011 (ah kt [128]) iU lY rfl) Z<|ab (zP 2004 iU lY uy rfl x_14 (by simp[ah];omega)) Z<|bD Z<|lN<|gB<|gT<|aL<|bg Z<|ae Z<|Y ?_;refine⟨(k+1),hk,by show d.bu.length-(k+1)<d.bu.length-k;omega,x_84,⟨(Eq.trans (b:=AO.ai 3 1 (ah kt (List.replicate k 128)++ah kt [128])) rfl (congrArg (AO.ai 3 1) (by rw[<-rR,<-List.replicate_succ']))),trivial⟩,rfl,rfl⟩
 intro V;refine aE<|eT<|eT<|eB<|gT<|aS ?_;have dZ:k=d.bu.length:=by have h:=V;simp only[decide_eq_false_iff_not]at h;omega
 refine aL<|aP (.agg [vL _ _ _,vL _ _ _]) mE Z<|bW Z ?_;refine AL.freeze 2004 rfl ?_;refine ab (zC [(1,1),(2,2)] [1,2] [] func71 (aeW d (List.replicate k 128) hd) (trivial) Z Z) Z<|lT [2,16] [1,2,2001,2002] ?_;refine ab (zB 2002 Dv Dw Z) Z<|Y<|aR ?_;rw[<-aeY hd,<-dZ];refine ax ?_ ⟨rfl,rfl,trivial⟩;rfl
theorem x_16{p:Prop}(c:p:=by have h:=V;simp only[gt_iff_lt,decide_eq_true_eq]at h;omega):p:=c
theorem x_21{p:Prop}(c:p:=by have h:=h2;simp only[gt_iff_lt,decide_eq_true_eq]at h;omega):p:=c
theorem ae0(d:du)(hb:qK d):GC prog 81 [mt d] [] (.au [.agg [.own 1,.own 2,int (m4 d).next,int (m4 d).dP],.own 3,int (m1 d)]) (aeL (m4 d).bT (ab9 d)):=by
 refine GC.intro (rs:=[.cell 2 45 (some 4),.tmp 3,.tmp 4]) func81 rfl ntmps81 x_7 ⟨rfl,rfl,EY,rfl,rfl,trivial⟩ ?_;intro L O w0;refine sL<|ab (zX 2001 Z) Z<|ab (zA 2002 Nx Z) Z<|e9 Z<|ao Z<|Y<|aS<|sL<|aP (.agg [vL _ _ _,vL _ _ _]) mE Z<|ab (zC [] [] [] func87 (FU d) (trivial) Z Z) Z<|bX Z<|aQ Z ?_;refine AL.bool (t:=15) rfl ?_ ?_
 ·intro V;refine aa Z<|aa Z<|aa Z<|aa Z<|aU Z<|Y<|aY Z<|sL<|lq (rd (x:=.agg [vV _,vV _,U _ _,U _ _]) (cP Z abQ Z Z Z) Z)<|ab (zB 2002 Nv Nw Z) Z<|e9 Z<|ao Z<|Y ?_;refine AW.pi 1 2002 0 195 1 rfl (by decide) rfl ?_;refine AW.pi 2 2002 1 192 2 rfl (by decide) rfl ?_;refine AW.oP 3 3 81 7 rfl ?_;refine aR<|rT ?_;have hc:m1 d=1:=lg1 (by first|exact .inl x_19|exact .inr x_16);have hL:=abU (d:=d) x_51;have hE:=ab1 (d:=d) x_51;rw[hc,hL,hE];refine ax ?_ ⟨rfl,rfl,rfl,trivial⟩;rfl
 intro V;refine lf 1 ru Z<|bo sk Z<|ba vT Z ?_;refine dC 18 (int (d.bu.length:Int)) (congrArg (fun n:Nat=>int (n:Int)) (pH _)) ?_;refine ak Z<|bj Z<|Y ?_;refine AW.cond rfl ?_ ?_
 ·intro h2;refine sL<|lq (rd (x:=.agg [vV _,vV _,U _ _,U _ _]) (cP Z abQ Z Z Z) Z)<|ab (zB 2002 Nv Nw Z) Z<|lT [1,2,3,4] [2001,2002] ?_;refine e9 Z<|ao Z<|Y ?_;refine AW.pi 1 2002 0 195 1 rfl (by decide) rfl ?_;refine AW.pi 2 2002 1 192 2 rfl (by decide) rfl ?_;refine AW.oP 3 3 81 7 rfl ?_;refine aR<|rT ?_;have hc:m1 d=1:=lg1 (by first|exact .inl x_24|exact .inr x_21|exact .inl x_19|exact .inr x_16);have hL:=abU (d:=d) x_51;have hE:=ab1 (d:=d) x_51;rw[hc,hL,hE];refine ax ?_ ⟨rfl,rfl,rfl,trivial⟩;rfl
 intro h2;refine aK<|gT<|aS ?_;have hd:ik d=true:=by first|(have h:=h2;simpa using h;done)|(have h:=V;simpa using h;done)
 have yz:d.bu.length=0:=by first|(have h:=h2;simp only[gt_iff_lt,decide_eq_false_iff_not]at h;omega;done)|(have h:=V;simp only[gt_iff_lt,decide_eq_false_iff_not]at h;omega;done)
 have hle:=acD hd;have gR:=(wL hd).1;obtain⟨Tv,ht1⟩:=acY d;refine aL<|aP (.agg [vL _ _ _,vL _ _ _]) mE Z<|ab (zC [] [] [] func88 (Kc d hb) (trivial) Z Z) Z<|cT (.au [vL _ _ _,U _ _]) Z<|rF Z<|dE Z<|nv Z<|ao Z<|nA<|aP (.agg [vL _ _ _,vL _ _ _]) mE Z<|ab (zC [] [] [] func164 (ae1 d hb) (trivial) Z Z) Z<|ao Z<|Y<|aS<|sL<|ae Z<|lf 0 n9 Z<|bo oB Z<|ba po Z ?_;refine dC 32 (int (d.cells.length:Int)) (congrArg (fun n:Nat=>int (n:Int)) (fU _)) ?_;refine ak Z<|aQ Z ?_;refine AL.bool (t:=34) rfl ?_ ?_
 ·intro h3;refine aa Z<|aa Z<|aU Z<|Y<|aY Z<|sL<|lq (rd (x:=.agg [vV _,vV _,U _ _,U _ _]) (cP Z abQ Z Z Z) Z)<|ab (zB 2002 Nv Nw Z) Z<|lT [1,2,3,4,6,7] [2001,2002] ?_;refine e9 Z<|ao Z<|Y ?_;refine AW.pi 1 2002 0 195 1 rfl (by decide) rfl ?_;refine AW.pi 2 2002 1 192 2 rfl (by decide) rfl ?_;refine AW.oP 3 3 81 7 rfl ?_;refine aR<|rT ?_;have hc:m1 d=2:=lg2 hd yz (by first|exact .inl x_43|exact .inr x_43|exact .inl x_44|exact .inr x_44|exact .inl x_46|exact .inr x_46);have hL:=abU (d:=d) x_51;have hE:=ab1 (d:=d) x_51;rw[hc,hL,hE];refine ax ?_ ⟨rfl,rfl,rfl,trivial⟩;rfl
 intro h3;refine ae Z<|ak Z<|bj Z<|Y ?_;refine AW.cond rfl ?_ ?_
 ·intro h4;refine sL<|lq (rd (x:=.agg [vV _,vV _,U _ _,U _ _]) (cP Z abQ Z Z Z) Z)<|ab (zB 2002 Nv Nw Z) Z<|e9 Z<|ao Z<|Y ?_;refine AW.pi 1 2002 0 195 1 rfl (by decide) rfl ?_;refine AW.pi 2 2002 1 192 2 rfl (by decide) rfl ?_;refine AW.oP 3 3 81 7 rfl ?_;refine aR<|rT ?_;have hc:m1 d=2:=lg2 hd yz (by first|exact .inl x_62|exact .inr x_62|exact .inl x_43|exact .inr x_43|exact .inl x_44|exact .inr x_44|exact .inl x_46|exact .inr x_46);have hL:=abU (d:=d) x_51;have hE:=ab1 (d:=d) x_51;rw[hc,hL,hE];refine ax ?_ ⟨rfl,rfl,rfl,trivial⟩;rfl
 intro h4;refine aK<|gT<|aS ?_;have hn:¬((dH d).length=d.cells.length\/16000000<=m2 d):=by
  have V:=h3;have h2:=h4;simp only[decide_eq_false_iff_not]at V h2;omega
 have eI:(dH d).length<d.cells.length:=by omega
 have hS:=adx hd eI (by omega);have hBl:(oq ⟨(dH d).length,m2 d+1,[66]⟩).length=128:=TB x_7;refine aL<|ae Z<|ae Z<|bg Z<|ab (zS 2043 (ah dF [66]) fh ie Z) Z<|lq (rd (x:=.agg [U _ _,U _ _,.own _]) (cP Z r9 Z Z Z) Z) ?_;refine AL.freeze 2043 rfl ?_;refine ab (zC [] [] [] func165 (ad2 (⟨(dH d).length,m2 d+1,[66]⟩:fb)) (trivial) rfl rfl) rfl ?_;refine dC 45 (.au [gV (oq (⟨(dH d).length,m2 d+1,[66]⟩:fb)),aD true]) (Eq.trans (b:=AV.au [gV (r8 (⟨(dH d).length,m2 d+1,[66]⟩:fb)),aD (i8 (⟨(dH d).length,m2 d+1,[66]⟩:fb))]) rfl (by rw[At hS,hS])) ?_;refine lT [1,2,3,4,6,7,45] [2001,2002] ?_;refine cT (.au [vL _ _ _,vB _]) Z<|rF Z<|eU Z<|nv Z<|bv Z<|nA<|aP (.agg [vL _ _ _,vL _ _ _]) mE Z<|ae Z<|bm Z ?_;refine ab (zC [] [] [] func166 (aeP d (dH d).length (oq (⟨(dH d).length,m2 d+1,[66]⟩:fb)) hd eI (by omega) hBl) (trivial) rfl rfl) Z<|cT (.au [.agg [vL _ _ _,vL _ _ _],vB _]) Z<|iB (.agg [vL _ _ _,vL _ _ _]) Z<|eU Z<|ab (zA 2010 Du rfl) Z<|ab (zB 2010 Dv Dw rfl) Z<|lT [1,2,3,4,6,7,10,54] [2001,2002,2010] ?_;refine bv Z<|Y<|aS<|aF [9]<|sq 0 (dw (.agg [vL _ _ _,vL _ _ _]) mE rfl)<|pq 2 (gL (U _ _) rfl)<|sq 3 (qV rfl (by unfold i64;omega))<|pq 4 (gL (U _ _) rfl)<|sq 5 (qV rfl (by unfold i64;omega))<|sq 7 (dw (.agg [vL _ _ _,vL _ _ _]) mE rfl) ?_;refine bn 1 rfl (zC [(1,1),(2,2)] [1,2] [] func133 (aeZ (v6 d (dH d).length (oq ⟨(dH d).length,m2 d+1,[66]⟩)) (ab7 hd eI (by omega) hBl)) (trivial) rfl rfl) (.inr rfl)<|sq 6 (rd (x:=.agg [.own _,.own _,U _ _,U _ _]) (cP rfl abQ rfl rfl rfl) rfl)<|bn 8 rfl (zC [(1,3)] [3] [] func34 (QW d hb) (trivial) rfl rfl) (.inr rfl)<|bn 9 rfl (zB 2002 Nv Nw rfl) (.inl rfl)<|vq 10 (tF rfl)<|vq 11 (j8 rfl)<|fD<|gT<|aR ?_;have hc:m1 d=0:=lg0 hd yz hn;have hL:=acE hc;have hE:=acG hc;rw[hc,hL,hE];refine ax ?_ ⟨rfl,rfl,rfl,trivial⟩;rfl
theorem ahq{n a b:Int}(h:¬(a<=n/\n<=b)):aI n a b=false:=Bool.eq_false_iff.2 fun q=>h (ahS.1 q)
theorem x_33{p:Prop}(c:p:=by have h:=h3;simp only[gt_iff_lt,decide_eq_true_eq]at h;omega):p:=c
theorem x_54{p:Prop}(c:p:=by have h:=h4;simp only[gt_iff_lt,decide_eq_true_eq]at h;omega):p:=c
theorem x_92{p:Prop}(c:p:=by have h:=h5;simp only[gt_iff_lt,decide_eq_true_eq]at h;omega):p:=c
theorem akc(l:uW)(e:aV):GC prog 108 [G9 l,ju e] [] (.au [.agg [.own 1,.own 2,int (ahu l e).next,int (ahu l e).dP],int (aho l e)]) (SH (ahu l e).bT):=by
 refine GC.intro (rs:=[.cell 4 45 (some 4),.tmp 5]) func108 rfl ntmps108 x_7 ⟨rfl,rfl,EY,rfl,trivial⟩ ?_;intro L O w0;refine sL<|ab (zX 2002 Z) Z<|ab (zX 2003 Z) Z<|ab (zA 2004 Nx Z) Z<|ao Z<|Y<|aS<|sL<|lf 0 Bv Z<|aP (.agg [vL _ _ _,vL _ _ _]) mE Z<|ab (zC [] [] [] func87 (FU l.bT) (trivial) Z Z) Z<|bX Z<|aQ Z ?_;refine AL.bool (t:=16) rfl ?_ ?_
 ·intro V;refine aa Z<|aa Z<|aa Z<|aU Z<|bM Z<|aa Z<|aa Z<|aa Z<|aa Z<|aa Z<|aa Z<|aa Z<|aU Z<|bM Z<|aa Z<|aa Z<|aa Z<|aU Z<|bM Z<|aa Z<|aa Z<|aa Z<|aU Z<|bM Z<|aa Z<|aa Z<|aa Z<|aU Z<|Y ?_;refine aY Z<|sL<|lq (rd (x:=.agg [vV _,vV _,U _ _,U _ _]) (cP Z abQ Z Z Z) Z)<|ab (zB 2004 Nv Nw Z) Z<|lT [2,3,4,5] [2002,2003,2004] ?_;refine ao Z<|Y ?_;refine AW.pi 1 2004 0 195 1 rfl (by decide) rfl ?_;refine AW.pi 2 2004 1 192 2 rfl (by decide) rfl ?_;refine aR<|rT ?_;have hc:aho l e=1:=ad1 (by first|exact .inl x_19|exact .inr (.inl (ahq x_16))|exact .inr (.inr (.inl (ahq x_16)))|exact .inr (.inr (.inr x_19)));have hL:=ahz (l:=l) (e:=e) x_51;rw[hc,hL];refine ax ?_ ⟨rfl,rfl,trivial⟩;rfl
 intro V;refine lf 2 wD Z<|aj ac Z<|ak Z<|bj Z<|aQ Z ?_;refine AL.bool (t:=21) rfl ?_ ?_
 ·intro h2;refine aa Z<|aa Z<|aa Z<|aa Z<|aa Z<|aa Z<|aa Z<|aU Z<|bM Z<|aa Z<|aa Z<|aa Z<|aU Z<|bM Z<|aa Z<|aa Z<|aa Z<|aU Z<|bM Z<|aa Z<|aa Z<|aa Z<|aU Z<|Y<|aY Z<|sL<|lq (rd (x:=.agg [vV _,vV _,U _ _,U _ _]) (cP Z abQ Z Z Z) Z)<|ab (zB 2004 Nv Nw Z) Z ?_;refine lT [2,3,4,5] [2002,2003,2004] ?_;refine ao Z<|Y ?_;refine AW.pi 1 2004 0 195 1 rfl (by decide) rfl ?_;refine AW.pi 2 2004 1 192 2 rfl (by decide) rfl ?_;refine aR<|rT ?_;have hc:aho l e=1:=ad1 (by first|exact .inl x_24|exact .inr (.inl (ahq x_21))|exact .inr (.inr (.inl (ahq x_21)))|exact .inr (.inr (.inr x_24))|exact .inl x_19|exact .inr (.inl (ahq x_16))|exact .inr (.inr (.inl (ahq x_16)))|exact .inr (.inr (.inr x_19)));have hL:=ahz (l:=l) (e:=e) x_51;rw[hc,hL];refine ax ?_ ⟨rfl,rfl,trivial⟩;rfl
 intro h2;refine lf 2 wD Z<|aj ac Z<|lf 0 Bv Z<|lf 0 n9 Z<|bo oB Z<|ba po Z ?_;refine dC 27 (int (l.bT.cells.length:Int)) (congrArg (fun n:Nat=>int (n:Int)) (fU _)) ?_;refine ak Z<|bj Z<|aQ Z ?_;refine AL.bool (t:=30) rfl ?_ ?_
 ·intro h3;refine aa Z<|aa Z<|aa Z<|aU Z<|bM Z<|aa Z<|aa Z<|aa Z<|aU Z<|bM Z<|aa Z<|aa Z<|aa Z<|aU Z<|Y<|aY Z<|sL<|lq (rd (x:=.agg [vV _,vV _,U _ _,U _ _]) (cP Z abQ Z Z Z) Z)<|ab (zB 2004 Nv Nw Z) Z<|lT [2,3,4,5] [2002,2003,2004] ?_;refine ao Z<|Y ?_;refine AW.pi 1 2004 0 195 1 rfl (by decide) rfl ?_;refine AW.pi 2 2004 1 192 2 rfl (by decide) rfl ?_;refine aR<|rT ?_;have hc:aho l e=1:=ad1 (by first|exact .inl x_36|exact .inr (.inl (ahq x_33))|exact .inr (.inr (.inl (ahq x_33)))|exact .inr (.inr (.inr x_36))|exact .inl x_24|exact .inr (.inl (ahq x_21))|exact .inr (.inr (.inl (ahq x_21)))|exact .inr (.inr (.inr x_24))|exact .inl x_19|exact .inr (.inl (ahq x_16))|exact .inr (.inr (.inl (ahq x_16)))|exact .inr (.inr (.inr x_19)));have hL:=ahz (l:=l) (e:=e) x_51;rw[hc,hL];refine ax ?_ ⟨rfl,rfl,trivial⟩;rfl
 intro h3;refine lf 3 zW Z<|aj ac Z<|ak Z<|bj Z<|aQ Z ?_;refine AL.bool (t:=35) rfl ?_ ?_
 ·intro h4;refine aa Z<|aa Z<|aa Z<|aU Z<|bM Z<|aa Z<|aa Z<|aa Z<|aU Z<|Y<|aY Z<|sL<|lq (rd (x:=.agg [vV _,vV _,U _ _,U _ _]) (cP Z abQ Z Z Z) Z)<|ab (zB 2004 Nv Nw Z) Z<|ao Z<|Y ?_;refine AW.pi 1 2004 0 195 1 rfl (by decide) rfl ?_;refine AW.pi 2 2004 1 192 2 rfl (by decide) rfl ?_;refine aR<|rT ?_;have hc:aho l e=1:=ad1 (by first|exact .inl x_64|exact .inr (.inl (ahq x_54))|exact .inr (.inr (.inl (ahq x_54)))|exact .inr (.inr (.inr x_64))|exact .inl x_36|exact .inr (.inl (ahq x_33))|exact .inr (.inr (.inl (ahq x_33)))|exact .inr (.inr (.inr x_36))|exact .inl x_24|exact .inr (.inl (ahq x_21))|exact .inr (.inr (.inl (ahq x_21)))|exact .inr (.inr (.inr x_24))|exact .inl x_19|exact .inr (.inl (ahq x_16))|exact .inr (.inr (.inl (ahq x_16)))|exact .inr (.inr (.inr x_19)));have hL:=ahz (l:=l) (e:=e) x_51;rw[hc,hL];refine ax ?_ ⟨rfl,rfl,trivial⟩;rfl
 intro h4;refine lf 3 zW Z<|aj ac Z<|ak Z<|bj Z<|aQ Z ?_;refine AL.bool (t:=40) rfl ?_ ?_
 ·intro h5;refine aa Z<|aa Z<|aa Z<|aU Z<|Y<|aY Z<|sL<|lq (rd (x:=.agg [vV _,vV _,U _ _,U _ _]) (cP Z abQ Z Z Z) Z)<|ab (zB 2004 Nv Nw Z) Z<|lT [2,3,4,5] [2002,2003,2004] ?_;refine ao Z<|Y ?_;refine AW.pi 1 2004 0 195 1 rfl (by decide) rfl ?_;refine AW.pi 2 2004 1 192 2 rfl (by decide) rfl ?_;refine aR<|rT ?_;have hc:aho l e=1:=ad1 (by first|exact .inl (by simpa using h5)|exact .inr (.inl (ahq x_92))|exact .inr (.inr (.inl (ahq x_92)))|exact .inr (.inr (.inr (by simpa using h5)))|exact .inl x_64|exact .inr (.inl (ahq x_54))|exact .inr (.inr (.inl (ahq x_54)))|exact .inr (.inr (.inr x_64))|exact .inl x_36|exact .inr (.inl (ahq x_33))|exact .inr (.inr (.inl (ahq x_33)))|exact .inr (.inr (.inr x_36))|exact .inl x_24|exact .inr (.inl (ahq x_21))|exact .inr (.inr (.inl (ahq x_21)))|exact .inr (.inr (.inr x_24))|exact .inl x_19|exact .inr (.inl (ahq x_16))|exact .inr (.inr (.inl (ahq x_16)))|exact .inr (.inr (.inr x_19)));have hL:=ahz (l:=l) (e:=e) x_51;rw[hc,hL];refine ax ?_ ⟨rfl,rfl,trivial⟩;rfl
 intro h5;refine aP (.agg [U _ _,U _ _,U _ _,U _ _,U _ _,U _ _,vB _]) dD Z<|ab (zC [] [] [] func195 (Px e) (trivial) Z Z) Z<|bX Z<|bj Z<|Y ?_;refine AW.cond rfl ?_ ?_
 ·intro h6;refine sL<|lq (rd (x:=.agg [vV _,vV _,U _ _,U _ _]) (cP Z abQ Z Z Z) Z)<|ab (zB 2004 Nv Nw Z) Z<|ao Z<|Y ?_;refine AW.pi 1 2004 0 195 1 rfl (by decide) rfl ?_;refine AW.pi 2 2004 1 192 2 rfl (by decide) rfl ?_;refine aR<|rT ?_;have hc:aho l e=1:=ad1 (by first|exact .inl (by simpa using h6)|exact .inr (.inl (ahq (by have h:=h6;simp only[gt_iff_lt,decide_eq_true_eq]at h;omega)))|exact .inr (.inr (.inl (ahq (by have h:=h6;simp only[gt_iff_lt,decide_eq_true_eq]at h;omega))))|exact .inr (.inr (.inr (by simpa using h6)))|exact .inl (by simpa using h5)|exact .inr (.inl (ahq x_92))|exact .inr (.inr (.inl (ahq x_92)))|exact .inr (.inr (.inr (by simpa using h5)))|exact .inl x_64|exact .inr (.inl (ahq x_54))|exact .inr (.inr (.inl (ahq x_54)))|exact .inr (.inr (.inr x_64))|exact .inl x_36|exact .inr (.inl (ahq x_33))|exact .inr (.inr (.inl (ahq x_33)))|exact .inr (.inr (.inr x_36))|exact .inl x_24|exact .inr (.inl (ahq x_21))|exact .inr (.inr (.inl (ahq x_21)))|exact .inr (.inr (.inr x_24))|exact .inl x_19|exact .inr (.inl (ahq x_16))|exact .inr (.inr (.inl (ahq x_16)))|exact .inr (.inr (.inr x_19)));have hL:=ahz (l:=l) (e:=e) x_51;rw[hc,hL];refine ax ?_ ⟨rfl,rfl,trivial⟩;rfl
 intro h6;refine aK<|gT<|aS<|aS ?_;have hd:ik l.bT=true:=by first|(have h:=h6;simpa using h;done)|(have h:=h5;simpa using h;done)|(have h:=h4;simpa using h;done)|(have h:=h3;simpa using h;done)|(have h:=h2;simpa using h;done)|(have h:=V;simpa using h;done)
 have hi:aI l.next 0 l.bT.cells.length=true:=ahS.2 (by
  have V:=h2;have h2:=h3;simp only[decide_eq_false_iff_not]at V h2;omega)
 have hp:aI l.dP 1 16000000=true:=ahS.2 (by
  have V:=h4;have h2:=h5;simp only[decide_eq_false_iff_not]at V h2;omega)
 have he:co e=true:=by first|(have h:=h6;simpa using h;done)|(have h:=h5;simpa using h;done)|(have h:=h4;simpa using h;done)|(have h:=h3;simpa using h;done)|(have h:=h2;simpa using h;done)|(have h:=V;simpa using h;done)
 have gR:=(wL hd).1;have LR:=ahS.1 hi;refine aL<|lf 2 wD Z<|aj ac Z<|lf 0 Bv Z<|lf 0 n9 Z<|bo oB Z<|ba po Z ?_;refine dC 51 (int (l.bT.cells.length:Int)) (congrArg (fun n:Nat=>int (n:Int)) (fU _)) ?_;refine ak Z<|aQ Z ?_;refine AL.bool (t:=53) rfl ?_ ?_
 ·intro h7;refine aa Z<|aa Z<|aa Z<|aa Z<|aa Z<|aU Z<|Y<|aY Z<|sL<|lq (rd (x:=.agg [vV _,vV _,U _ _,U _ _]) (cP Z abQ Z Z Z) Z)<|ab (zB 2004 Nv Nw Z) Z<|lT [2,3,4,5] [2002,2003,2004] ?_;refine ao Z<|Y ?_;refine AW.pi 1 2004 0 195 1 rfl (by decide) rfl ?_;refine AW.pi 2 2004 1 192 2 rfl (by decide) rfl ?_;refine aR<|rT ?_;have hc:aho l e=2:=al0 hd hi hp he (by first|exact .inl (by have h:=h7;simp only[decide_eq_true_eq]at h;omega)|exact .inr (by have h:=h7;simp only[ge_iff_le,decide_eq_true_eq]at h;omega)|exact .inl x_147|exact .inr x_138|exact .inl x_117|exact .inr x_93|exact .inl x_62|exact .inr x_94|exact .inl x_43|exact .inr x_95|exact .inl x_44|exact .inr x_96|exact .inl x_46|exact .inr x_100);have hL:=ahz (l:=l) (e:=e) x_51;rw[hc,hL];refine ax ?_ ⟨rfl,rfl,trivial⟩;rfl
 intro h7;refine lf 0 Bv Z<|lf 1 ru Z<|bo sk Z<|ba vT Z ?_;refine dC 57 (int (l.bT.bu.length:Int)) (congrArg (fun n:Nat=>int (n:Int)) (pH _)) ?_;refine ak Z<|bj Z<|Y ?_;refine AW.cond rfl ?_ ?_
 ·intro h8;refine sL<|lq (rd (x:=.agg [vV _,vV _,U _ _,U _ _]) (cP Z abQ Z Z Z) Z)<|ab (zB 2004 Nv Nw Z) Z<|ao Z<|Y ?_;refine AW.pi 1 2004 0 195 1 rfl (by decide) rfl ?_;refine AW.pi 2 2004 1 192 2 rfl (by decide) rfl ?_;refine aR<|rT ?_;have hc:aho l e=2:=al0 hd hi hp he (by first|exact .inl (by have h:=h8;simp only[decide_eq_true_eq]at h;omega)|exact .inr (by have h:=h8;simp only[ge_iff_le,decide_eq_true_eq]at h;omega)|exact .inl (by have h:=h7;simp only[decide_eq_true_eq]at h;omega)|exact .inr (by have h:=h7;simp only[ge_iff_le,decide_eq_true_eq]at h;omega)|exact .inl x_147|exact .inr x_138|exact .inl x_117|exact .inr x_93|exact .inl x_62|exact .inr x_94|exact .inl x_43|exact .inr x_95|exact .inl x_44|exact .inr x_96|exact .inl x_46|exact .inr x_100);have hL:=ahz (l:=l) (e:=e) x_51;rw[hc,hL];refine ax ?_ ⟨rfl,rfl,trivial⟩;rfl
 intro h8;refine aK<|gT<|aS ?_;have hn:¬(l.next=l.bT.cells.length\/600<=l.bT.bu.length):=by
  have V:=h7;have h2:=h8;simp only[ge_iff_le,decide_eq_false_iff_not]at V h2;omega
 have hS:=ajC (e:=e) hd hi hp (by omega);have hBl:(oq (⟨l.next,l.dP,rY e⟩:fb)).length=128:=TB (by rw[show ((⟨l.next,l.dP,rY e⟩:fb)).body=rY e from rfl,TF];decide);refine aL<|aP (.agg [U _ _,U _ _,U _ _,U _ _,U _ _,U _ _,vB _]) dD Z<|ab (zC [] [] [] func188 (Zn e) (trivial) Z Z) Z ?_;refine dC 63 (.au [gV (rY e),aD true]) (Eq.trans (b:=AV.au [gV (tB e),aD (co e)]) rfl (by rw[wo he,he])) ?_;refine cT (.au [vL _ _ _,vB _]) Z<|rF Z<|eU Z<|nv Z<|bv Z<|nA<|lf 2 wD Z<|aj ac Z<|lf 3 zW Z<|aj ac Z<|bm Z<|lq (rd (x:=.agg [U _ _,U _ _,vL _ _ _]) (cP Z r9 Z Z Z) Z) ?_;refine ab (zC [] [] [] func165 (ad2 (⟨l.next,l.dP,rY e⟩:fb)) (trivial) rfl rfl) rfl ?_;refine dC 73 (.au [gV (oq (⟨l.next,l.dP,rY e⟩:fb)),aD true]) (Eq.trans (b:=AV.au [gV (r8 (⟨l.next,l.dP,rY e⟩:fb)),aD (i8 (⟨l.next,l.dP,rY e⟩:fb))]) rfl (by rw[At hS,hS])) ?_;refine lT [2,4,5,73] [2002,2003,2004] ?_;refine cT (.au [vL _ _ _,vB _]) Z<|rF Z<|eU Z<|nv Z<|bv Z<|nA<|lf 0 Bv Z<|aP (.agg [vL _ _ _,vL _ _ _]) mE Z<|lf 2 wD Z<|aj ac Z<|jK 80 ((l.next.toNat:Nat):Int) rfl (by omega)<|bm rfl ?_;refine ab (zC [(1,1),(2,2)] [1,2] [] func166 (aeO l.bT l.next.toNat (oq (⟨l.next,l.dP,rY e⟩:fb)) hd (by omega) (by omega) hBl) (trivial) rfl rfl) Z<|cT (.au [.agg [.own _,.own _],vB true]) Z<|iB (.agg [.own _,.own _]) Z<|iB (vB true) Z<|ab (zA 2010 Du rfl) Z<|lT [2,4,5,10,83,84] [1,2,2002,2003,2004,2010] ?_;refine ab (zB 2010 Dv Dw Z) Z<|cI Z<|nA<|aP (.agg [.own _,.own _]) mE Z<|lf 2 wD Z<|aj ac Z<|bg Z<|lf 3 zW Z<|aj ac Z<|lq (rd (x:=.agg [.own _,.own _,U _ _,U _ _]) (cP Z abQ Z Z Z) Z)<|ab (zB 2004 Nv Nw Z) Z<|ao Z<|Y<|aR ?_;have hc:aho l e=0:=ad0 hd hi hp he hn;have hL:=aiw hc;rw[hc,hL];refine ax ?_ ⟨rfl,rfl,trivial⟩;rfl
theorem aga(l:uW):GC prog 50 [G9 l] [] (.agg [.own 1,.own 2,int (afM l).next,int (afM l).dP]) (SH (afM l).bT):=by
 refine GC.intro (rs:=[.cell 2 45 (some 4)]) func50 rfl ntmps50 x_7 ⟨rfl,rfl,EY,trivial⟩ ?_;intro L O w0;refine sL<|ab (zX 2001 Z) Z<|ab (zA 2002 Nx Z) Z<|Y<|aS<|sL<|lf 0 Bv Z<|aP (.agg [vL _ _ _,vL _ _ _]) mE Z<|ab (zC [] [] [] func87 (FU l.bT) (trivial) Z Z) Z<|bX Z<|Y ?_;refine AW.cond rfl ?_ ?_
 ·intro V;refine sL<|lq (rd (x:=.agg [vV _,vV _,U _ _,U _ _]) (cP Z abQ Z Z Z) Z)<|ab (zB 2002 Nv Nw Z) Z<|Y ?_;refine AW.pi 1 2002 0 195 1 rfl (by decide) rfl ?_;refine AW.pi 2 2002 1 192 2 rfl (by decide) rfl ?_;refine aR<|rT ?_;have hd:ik l.bT=false:=by first|(have h:=V;simpa using h;done)
  rw[afU hd];refine ax ?_ ⟨rfl,rfl,trivial⟩;rfl
 intro V;refine aK<|gT<|aS ?_;have hd:ik l.bT=true:=by first|(have h:=V;simpa using h;done)
 have gR:=(wL hd).1;refine aF [8]<|pq 0 (qf 0 Bv Z)<|sq 1 (dw (.agg [vL _ _ _,vL _ _ _]) mE Z)<|pq 3 (qf 2 wD Z)<|sq 4 (aZ ac Z)<|pq 5 (qf 3 zW Z)<|sq 6 (aZ ac Z)<|bn 2 Z (zC [(1,1),(2,2)] [1,2] [] func133 (aeZ l.bT hd) (trivial) Z Z) (.inr Z)<|fT [2,10,12,14] [1,2,2001,2002] ?_;refine vq 7 (rd (x:=.agg [.own _,.own _,U _ _,U _ _]) (cP Z abQ Z Z Z) Z)<|bn 8 Z (zB 2002 Nv Nw Z) (.inl Z)<|fD<|gT<|aR ?_;rw[afS hd];refine ax ?_ ⟨rfl,rfl,trivial⟩;rfl

section
variable {α:Type}(n:α->Int)(g:α->Int->α)
def mT:List α->Int
 |[]=>0
 |x::l=>n x+mT l
variable {n g}
theorem acT{B:Int}:∀ {l:List α},(∀x∈l,0<=n x/\n x<=B)->0<=mT n l/\mT n l<=B*(l.length:Int)
 |[],_=>by simp[mT]
 |x::l,h=>by
  have V:=h x (by simp);have h2:=acT (l:=l) (fun q hq=>h q (by simp[hq]));rw[mT,List.length_cons,Int.natCast_add,Int.mul_add];simp only[Int.cast_ofNat_Int,Int.mul_one];omega
end
abbrev uD(c:Cell):Int:=(c.bytes.length:Int)
abbrev E6(w:gq):Int:=1+(w.bytes.length:Int)
theorem CC(c:Cell):0<=uD c:=Int.natCast_nonneg _
theorem abS(w:gq):0<=E6 w:=by unfold E6;omega
structure vU(d:du):Prop where
 lc:d.cells.length<=1048576
 lw:d.bu.length<=1048576
 bc:∀c∈d.cells,c.bytes.length<=1048576
 bw:∀w∈d.bu,w.bytes.length<=1048576
 cc:mT uD d.cells<=1048576
 cw:mT E6 d.bu<=1048576
theorem dS.set{F:List AO}{j:Nat}{o:AO}(h:dS F)(ho:nr o=true):dS (F.set j o):=fun x hx=>by
 rcases List.mem_or_eq_of_mem_set hx with q|rfl
 ·exact h x q
 omega
section
variable {L:Nat->Prop}{ρ:Nat->Value}{H:Nat->AO}
theorem bI.each{α:Type}{row:α->List PV}{sz:Nat}{dg:World->Nat->Nat->List Value->α->Prop}{w:World}{lo hi b:Nat}(hr:∀cs x,dg w lo hi cs x->cs.length=sz/\∃fp,bP w false (row x) cs fp)(hs:∀x,(row x).length=sz) :
 ∀ {xs:List α} {off:Nat},uF sz dg w lo hi b off xs->∃cs fp,bI w false sz (xs.map row) cs fp/\jo w b off cs/\cs.length=sz*xs.length
 |[],off,_=>⟨[],[],by trivial,fun j v hj=>by grind,rfl⟩
 |x::xs,off,h=>by
  obtain⟨cs,V,h2⟩:=h 0 (by simp);obtain⟨hl,fp,h3⟩:=hr cs _ V;have ht:uF sz dg w lo hi b (off+sz) xs:=fun i hU=>by
   obtain⟨c,k1,k2⟩:=h (i+1) (by simpa using hU);grind
  obtain⟨uU,EC,q1,q2,q3⟩:=bI.each hr hs ht;refine⟨cs++uU,fp++EC,?_,fun j v hj=>?_,by grind⟩
  ·rw[List.map_cons,bI];grind
  rcases Nat.lt_or_ge j cs.length with z|z
  ·rw[List.getElem?_append_left z]at hj;have:=h2 j v hj;grind
  rw[List.getElem?_append_right z]at hj;have:=q2 _ v hj;grind
end

structure Is(d:du):Prop where
 lc:d.cells.length<=1000000000
 lw:d.bu.length<=1000000000
 bc:∀c∈d.cells,c.bytes.length<=1000000000
 bw:∀w∈d.bu,w.bytes.length<=1000000000
theorem vU.e{d:du}(h:vU d):Is d:=⟨Nat.le_trans h.lc (by decide),Nat.le_trans h.lw (by decide),fun c hc=>Nat.le_trans (h.bc c hc) (by decide),fun c hc=>Nat.le_trans (h.bw c hc) (by decide)⟩
structure Xb(d:du):Prop where
 lc:d.cells.length<=100000000
 lw:d.bu.length<=100000000
 cc:mT uD d.cells<=100000000
 cw:mT E6 d.bu<=100000000
theorem vU.m{d:du}(h:vU d):Xb d:=⟨Nat.le_trans h.lc (by decide),Nat.le_trans h.lw (by decide),Int.le_trans h.cc (by decide),Int.le_trans h.cw (by decide)⟩

theorem adp:∀(ws:List gq) (cs:List Cell),cs.all lL=true->(∀w∈ws,w.bytes.length=128)->(ws.foldl abT cs).all lL=true
 |[],cs,h,_=>h
 |w::ws,cs,h,hw=>by
  rw[List.foldl_cons];exact adp ws _ (acC h (hw w (by simp))) (fun x hx=>hw x (by simp[hx]))
theorem aen{d:du}(h:ik d=true):ik (abM d)=true:=by
 have V:=wL h;rw[acu h];refine PB ⟨by show 1<=(abE d _).length;rw[abW];exact V.1.1,by show (abE d _).length<=600;rw[abW];exact V.1.2.1,Nat.zero_le _⟩ (adp _ _ V.2.1 fun w hw=>?_) rfl;obtain⟨j,hj,rfl⟩:=List.getElem_of_mem (List.mem_of_mem_take hw);exact Jk h hj
theorem aeo{d:du}(h:ik d=true):vU d:=by
 have V:=(wL h).1;have hc:∀c∈d.cells,c.bytes.length<=128:=fun c hc=>by
  obtain⟨j,hj,rfl⟩:=List.getElem_of_mem hc;exact PC h hj
 have hw:∀c∈d.bu,c.bytes.length<=128:=fun c hc=>by
  obtain⟨j,hj,rfl⟩:=List.getElem_of_mem hc;exact Nat.le_of_eq (Jk h hj)
 have k1:=acT (n:=uD) (B:=128) (l:=d.cells) fun c q=>⟨CC c,by have:=hc c q;show (c.bytes.length:Int)<=128;omega⟩;have k2:=acT (n:=E6) (B:=129) (l:=d.bu) fun c q=>⟨abS c,by have:=hw c q;show 1+(c.bytes.length:Int)<=129;omega⟩;exact⟨by omega,by omega,fun c q=>Nat.le_trans (hc c q) (by decide),fun c q=>Nat.le_trans (hw c q) (by decide),by omega,by omega⟩
theorem adq:vU ⟨[],[]⟩:=⟨by simp,by simp,(fun c h=>by cases h),(fun c h=>by cases h),by simp[mT],by simp[mT]⟩
theorem aep(d:du):m1 d=0/\ik d=true/\ik (m4 d).bT=true\/m1 d≠0/\m4 d=⟨⟨[],[]⟩,0,0⟩:=by
 by_cases hc:m1 d=0
 ·have hd:ik d=true:=by
   unfold m1 at hc;cases h:ik d with
   |true=>rfl
   |false=>rw[h]at hc;cases hc
  have h0:d.bu.length=0:=by
   unfold m1 at hc;by_cases h:d.bu.length=0
   ·exact h
   rw[hd,if_neg (by simp[h])]at hc;cases hc
  have h2:¬((dH d).length=d.cells.length\/16000000<=m2 d):=fun q=>by rw[lg2 hd h0 q]at hc;cases hc
  have:=acD hd;refine .inl ⟨hc,hd,?_⟩;rw[acE hc];exact aen (ab7 hd (by omega) (by omega) (TB x_7))
 exact .inr ⟨hc,abU hc⟩
theorem aeq(d:du):vU (m4 d).bT:=by
 rcases aep d with h|h
 ·exact aeo h.2.2
 rw[h.2];exact adq

theorem RH{a b:aO}(h:¬(a.acc.kind=b.acc.kind/\a.acc.ch=b.acc.ch)):∀(l:List aO),fV (fV l a) b=fV (fV l b) a:=by
 have bG:cg a.acc b.acc=!cg b.acc a.acc:=by
  unfold cg;refine Bool.eq_iff_iff.2 ?_;simp only[Bool.or_eq_true,Bool.and_eq_true,decide_eq_true_eq,beq_iff_eq,Bool.not_eq_true',Bool.or_eq_false_iff,Bool.and_eq_false_iff,decide_eq_false_iff_not,beq_eq_false_iff_ne];omega
 have tr:∀x y z:Acc,cg x y=true->cg x z=false->cg z y=true:=fun x y z=>by
  unfold cg;grind
 intro l;induction l with
 |nil=>
  grind[fV]
 |cons c l ih=>
  grind[fV]
theorem Kx{l:List aO}{k c n k' c' n':Int}(h:¬(k=k'/\c=c')):bR (bR l k c n) k' c' n'=bR (bR l k' c' n') k c n:=by
 grind[bR,RH]
def sI{α:Type}(p:α->Bool)(l:List α)(x:α):List α:=l.take (l.findIdx p)++[x]++l.drop (l.findIdx p)
theorem Ky{α:Type}{p:α->Bool}{l:List α}(h:l.any p=false):l.findIdx p=l.length:=List.findIdx_eq_length.2 fun x hx=>by grind
theorem RI{α:Type}{p:α->Bool}{l:List α}(h:l.any p=true):l.findIdx p<l.length:=by
 grind
theorem RJ{α:Type}{p:α->Bool}{l:List α}{x:α}(h:l.any p=false):sI p l x=l++[x]:=by
 grind[sI,Ky]
theorem RK{α:Type}{p:α->Bool}{l:List α}{x y:α}(h:l.any p=true):sI p (l++[y]) x=sI p l x++[y]:=by
 simp_all[sI,List.findIdx_append,List.take_append_of_le_length,Nat.le_of_lt,List.drop_append_of_le_length]
theorem RL{α:Type}{p:α->Bool}{l:List α}{x y:α}(h:l.any p=false)(h2:p y=true):sI p (l++[y]) x=l++[x,y]:=by
 have q:=Ky h;unfold sI;grind
def lj{α:Type}(p:α->Bool)(x:α)(l:List α):List α:=if l.any p then sI p l x else l
theorem Kz{α:Type}{p:α->Bool}{x:α}{l:List α}{k:Nat}(hk:k<l.length)(h:(l.take k).any p=true):lj p x (l.take (k+1))=lj p x (l.take k)++[l[k]]:=by
 unfold lj;rw[pr hk,h,Bool.true_or,if_pos rfl,if_pos rfl,List.take_succ_eq_append_getElem hk,RK h]
theorem KA{α:Type}{p:α->Bool}{x:α}{l:List α}{k:Nat}(hk:k<l.length)(h:(l.take k).any p=false)(h2:p l[k]=true):lj p x (l.take (k+1))=(lj p x (l.take k)++[x])++[l[k]]:=by
 unfold lj;rw[pr hk,h,h2,Bool.false_or,if_pos rfl,if_neg (by simp),List.take_succ_eq_append_getElem hk,RL h h2];simp
theorem KB{α:Type}{p:α->Bool}{x:α}{l:List α}{k:Nat}(hk:k<l.length)(h:(l.take k).any p=false)(h2:p l[k]=false):lj p x (l.take (k+1))=lj p x (l.take k)++[l[k]]:=by
 unfold lj;rw[pr hk,h,h2,Bool.false_or,if_neg (by simp),if_neg (by simp),List.take_succ_eq_append_getElem hk]
theorem KC{α:Type}{p:α->Bool}{x:α}{l:List α}(h:l.any p=true):lj p x l=sI p l x:=if_pos h
theorem KD{α:Type}{p:α->Bool}{x:α}{l:List α}(h:l.any p=false):lj p x l++[x]=sI p l x:=by simp_all[lj,RJ]
theorem tH{α:Type}{p:α->Bool}{x:α}(l:List α):(lj p x l).length<=l.length+1:=by
 grind[lj,sI]
theorem zY{l:List be}{ch:Int}(h:eS l ch=-1):∀c∈l,c.id≠ch:=fun c hc e=>by
 grind[eS]
def gN(ch:Int)(d:be):Bool:=!decide (d.id<ch)
abbrev jc(e:aV):be:=⟨e.ch,e.af+e.ay,e.af,e.ay,0,0,0⟩
theorem DB{x:aw}{e:aV}(h:gO x e=0):eS x.ag e.ch=-1:=by
 grind[gO,decide,eS,dI,mp]
theorem x_3{p:Prop}(c:p:=by exact ⟨stays.box (Eq.refl 8),trivial⟩):p:=c
theorem x_26{p:Prop}(c:p:=by have:=tH (p:=(gN e.ch)) (x:=jc e) (x.ag.take k);grind[ah]):p:=c
theorem x_68{p:Prop}(c:p:=by exact congrArg (AO.ai 159 7) (fx aX _ [_]).symm):p:=c
theorem RM(g:Value)(x:aw)(e:aV)(sm:kL x)(es:m8 e)(mq:gI e.af e.ay=true):GC prog 199 [.ptr 0 0 0,ju e] (p7 g x [] 0) (.au []) (yd g (sJ x e)):=by
 have hm:x.ag.length<=1000000000:=by have:=sm.lc;omega
 have mG:x.an.length<=1000000000:=by have:=sm.lh;omega
 have lr:x.aq.length<=1000000000:=by have:=sm.li;omega
 have oF:=sm.lc;have hL:decide ((x.ag.length:Int)=20)=decide ((20:Int)<=(x.ag.length:Int)):=by have:=sm.lc;apply decide_eq_decide.2;omega

 refine GC.intro (rs:=[]) func199 rfl ntmps199 x_7 trivial ?_;intro L O w0;refine sL<|ab (zX 2003 Z) Z<|nA<|lf 4 bN Z<|aj ac Z<|lf 5 fC Z<|aj ac Z<|ab (zL func197 (tI _ _) Z) Z<|cT (.au [U _ _,vB _]) Z<|dE Z<|jK 17 (e.af+e.ay) Z (ye mq)<|eU Z<|bJ 18 true Z mq<|ao Z<|cI Z<|Y<|aS<|aS<|aF [3,23,35]<|pq 0 (dJ Z)<|vq 1 (cF Z)<|vq 2 (tJ Z) ?_;refine bn 3 rfl (bF func196 (gt _ _ _ _ _ _ _ _ _ _ _ _ _ _ _ _ _ _ _ ) x_3 rfl rfl) (.inl rfl) ?_;have f0:bE false 0 2=0:=rfl;refine nw 22 false rfl (by rfl)<|fT [0,3,4,22] [0,1,2,3,4,2003] ?_;refine vq 4 (rG Z)<|pq 5 (dJ Z)<|pq 6 (dJ Z)<|pq 7 (qc Z)<|pq 8 (qf 0 c8 Z)<|sq 9 (dw (.agg [U _ _,U _ _,U _ _,.own _,.own _,.own _]) cu Z)<|vq 10 (rf 2 dn Z)<|vq 11 (aZ ac Z)<|bn 12 Z (zL func200 (m9 x _ hm) Z) (.inr Z)<|vq 13 (dt Z)<|vq 14 (dx Z) ?_;refine AF.bool (t:=33) rfl ?_ ?_
 ·intro V;refine al 15 Z<|al 16 Z<|al 17 Z<|al 18 Z<|al 19 Z<|al 20 Z<|al 21 Z<|vq 22 (bA rfl)<|nw 41 (decide (0<=eS x.ag e.ch)||decide ((20:Int)<=(x.ag.length:Int))) rfl (by rw[show decide (0<=eS x.ag e.ch)=true from V];simp) ?_;refine bn 23 rfl (bF func196 (gt _ _ _ _ _ _ _ _ _ _ _ _ _ _ _ _ _ _ _ ) x_3 rfl rfl) (.inl rfl)<|vq 24 (cv rfl)<|vq 25 (dx rfl) ?_;refine AF.bool (t:=44) rfl ?_ ?_
  ·intro h2;refine bi 26 Z<|bi 27 Z<|bi 28 Z<|bi 29 Z<|bi 30 Z<|bi 31 Z<|al 32 Z<|al 33 Z<|al 34 Z<|al 35 Z<|vq 36 (bA Z)<|fD<|gT<|aY Z<|aR<|rT ?_;have cQ:gO x e≠0:=by
    have h:=h2;unfold gO;simp only[f0,Bool.not_eq_true',decide_eq_false_iff_not]at h;rw[fW h];exact h
   rw[sK cQ];refine ax ?_ ⟨(Eq.trans (b:=cD g x.tick x.next x.aA _) rfl (congrArg (cD g x.tick x.next x.aA) (by grind[gO,fW]))),rfl,rfl,rfl,rfl,trivial⟩;rfl
  intro h2;refine pq 26 (dJ Z)<|pq 27 (dJ Z)<|pq 28 (qc Z)<|pq 29 (qf 0 c8 Z)<|pq 30 (qf 2 iW Z)<|sq 31 (aZ ac Z)<|vq 32 (rf 4 bN Z)<|vq 33 (aZ ac Z)<|vq 34 (dt Z) ?_;refine bn 35 rfl (bF func196 (gt _ _ _ _ _ _ _ _ _ _ _ _ _ _ _ _ _ _ _ ) x_3 rfl rfl) (.inl rfl)<|fT [0,3,4,44,54] [0,1,2,3,4,2003] ?_;refine vq 36 (cv Z)<|fD<|gT ?_;refine AW.cond rfl ?_ ?_
  ·intro h3;refine aR<|rT ?_;have cQ:gO x e≠0:=by
    have h:=h3;unfold gO;simp only[f0,Bool.not_eq_true',decide_eq_false_iff_not]at h;exact h
   rw[sK cQ];trivial
  intro h3;refine aK<|gT<|aS ?_;have cQ:gO x e=0:=by
   have h:=h3;unfold gO;simp only[f0,Bool.not_eq_false',decide_eq_true_eq]at h;exact h
  have iY:=zY (DB cQ);refine aL<|ab (zS 2056 [] cz dy rfl (by simp)) Z<|bD Z<|nA<|ar Z<|nA<|lf 2 dn Z<|aj ac Z<|ae Z<|lf 4 bN Z<|aj ac Z<|lf 5 fC Z<|aj ac Z<|lq (rd (x:=.agg [U _ _,U _ _,U _ _,U _ _,U _ _,U _ _,U _ _]) (cP rfl BB rfl rfl rfl) rfl)<|ab (zA 2008 dy rfl) Z<|ab (zB 2008 lu lv rfl) Z<|lT [0,3,6,7,8] [0,1,2,3,4,2003,2008,2056] ?_;refine Y<|aS<|sL<|aM Z<|lc Z<|lf 0 c8 Z<|lf 3 dr Z<|iO eg Z<|ba kJ Z<|ae Z<|Y<|aB ?_;refine aW [0,3,6,8,69,70] [0,1,2,3,4,2003,2008] (D:=Nat) (fun k=>[(7,aD ((x.ag.take k).any (gN e.ch))),(71,int (k:Int))]) (fun k=>[(2056,AO.ai 159 7 (ah aX (lj (gN e.ch) (jc e) (x.ag.take k))))]) (fun k=>k<=x.ag.length) (fun k=>x.ag.length-k) (0) (Nat.zero_le _) ⟨rfl,rfl,trivial⟩ ⟨rfl,trivial⟩ ?_;intro k hI;refine sL<|ak Z<|Y<|aS ?_;refine AW.cond rfl ?_ ?_
  ·intro h4;refine aK<|gT<|aS<|aB<|sL ?_;have hk:k<x.ag.length:=by simpa[ap]using h4
   have RN:=iY x.ag[k] (List.getElem_mem hk);refine lq (rj k cz rfl (by grind))<|lq (rd (x:=.agg [U _ _,U _ _,U _ _,U _ _,U _ _,U _ _,U _ _]) (dT rfl fF rfl rfl rfl (bS hk) rfl) rfl)<|ab (zA 2010 dy rfl) Z<|ab (zB 2010 lu lv rfl) Z<|Y<|aS<|sL<|aQ Z<|bX Z<|aQ rfl ?_;refine AL.bool (t:=77) rfl ?_ ?_
   ·intro h5;refine lf 0 kM Z<|aj ac Z<|lf 2 dn Z<|aj ac Z<|ak Z<|bj Z<|Y ?_;refine AW.cond rfl ?_ ?_
    ·intro h6;refine sL<|bW Z<|aP (.agg [U _ _,U _ _,U _ _,U _ _,U _ _,U _ _,U _ _]) fF Z<|ab (zS 2086 (ah aX [jc e]) cz dy Z) Z<|lT [0,3,6,7,8,10,69,70,71,84,86] [0,1,2,3,4,2003,2008,2010,2056,2086] ?_;refine ab (zP 2056 cz dy jL rfl x_14 x_26) Z<|bD Z<|Y<|aL<|cI Z<|Y<|aL<|bW Z<|aP (.agg [U _ _,U _ _,U _ _,U _ _,U _ _,U _ _,U _ _]) fF Z<|ab (zS 2090 (ah aX [x.ag[k]]) cz dy rfl) Z<|ab (zP 2056 cz dy jL rfl x_14 x_26) Z<|bD Z<|lN<|gB<|gT<|aL<|bg Z<|ae Z<|Y ?_;have ha:(x.ag.take k).any (gN e.ch)=false:=by simpa using h5
     have hb:(gN e.ch) x.ag[k]=true:=by unfold gN;have h:=h6;simp at h ⊢;omega
     refine⟨k+1,hk,by omega,⟨(Eq.trans (b:=aD (true)) rfl (congrArg aD (by simp_all[pr]))),(iq rfl),trivial⟩,⟨(Eq.trans (b:=AO.ai 159 7 (ah aX ((lj (gN e.ch) (jc e) (x.ag.take k)++[jc e])++[x.ag[k]]))) (congrArg (AO.ai 159 7) (by grind[fx])) (congrArg (fun l=>AO.ai 159 7 (ah aX l)) (KA hk ha hb).symm)),trivial⟩,rfl,rfl⟩
    intro h6;refine aK<|gT<|aL<|bW Z<|aP (.agg [U _ _,U _ _,U _ _,U _ _,U _ _,U _ _,U _ _]) fF Z<|ab (zS 2090 (ah aX [x.ag[k]]) cz dy rfl) Z<|ab (zP 2056 cz dy jL rfl x_14 x_26) Z<|lT [0,3,7,8,69,70,71,91] [0,1,2,3,4,2003,2008,2010,2056,2090] ?_;refine bD Z<|lN<|gB<|gT<|aL<|bg Z<|ae Z<|Y ?_;have ha:(x.ag.take k).any (gN e.ch)=false:=by simpa using h5
    have hb:(gN e.ch) x.ag[k]=false:=by unfold gN;have h:=h6;simp at h ⊢;omega
    refine⟨k+1,hk,by omega,⟨(Eq.trans (b:=aD ((x.ag.take k).any (gN e.ch))) rfl (congrArg aD (by simp_all[pr]))),(iq rfl),trivial⟩,⟨(Eq.trans (b:=AO.ai 159 7 (ah aX (lj (gN e.ch) (jc e) (x.ag.take k)++[x.ag[k]]))) (congrArg (AO.ai 159 7) (fx aX _ [_]).symm) (congrArg (fun l=>AO.ai 159 7 (ah aX l)) (KB hk ha hb).symm)),trivial⟩,rfl,rfl⟩
   intro h5;refine aa Z<|aa Z<|aa Z<|aa Z<|aa Z<|bL Z<|Y<|aN Z<|aK<|gT<|aL<|bW Z<|aP (.agg [U _ _,U _ _,U _ _,U _ _,U _ _,U _ _,U _ _]) fF Z<|ab (zS 2090 (ah aX [x.ag[k]]) cz dy rfl) Z<|ab (zP 2056 cz dy jL rfl x_14 x_26) Z<|bD Z<|lN<|gB<|gT<|aL<|bg Z<|ae Z<|Y ?_;have ha:(x.ag.take k).any (gN e.ch)=true:=by simpa using h5
   refine⟨k+1,hk,by omega,⟨(Eq.trans (b:=aD ((x.ag.take k).any (gN e.ch))) rfl (congrArg aD (by grind))),(iq rfl),trivial⟩,⟨(Eq.trans (b:=AO.ai 159 7 (ah aX (lj (gN e.ch) (jc e) (x.ag.take k)++[x.ag[k]]))) (congrArg (AO.ai 159 7) (fx aX _ [_]).symm) (congrArg (fun l=>AO.ai 159 7 (ah aX l)) (Kz hk ha).symm)),trivial⟩,rfl,rfl⟩
  intro h4;refine aE<|eT<|eT<|eB<|gT ?_;refine aJ [0,3,6] [0,1,2,3,4,2003,2008] (D:=Unit) (fun jd=>[]) (fun jd=>[(2056,AO.ai 159 7 (ah aX (ly x.ag (jc e))))]) (fun jd=>True) ?_ ?_
  ·refine aS ?_;have dZ:k=x.ag.length:=by have h:=h4;simp only[ap,decide_eq_false_iff_not]at h;omega
   have qO:x.ag.take k=x.ag:=by rw[dZ,List.take_length]
   refine aL<|aQ Z<|bX Z<|Y ?_;refine AW.cond rfl ?_ ?_
   ·intro h7;refine aL<|bW Z<|aP (.agg [U _ _,U _ _,U _ _,U _ _,U _ _,U _ _,U _ _]) fF Z<|ab (zS 2097 (ah aX [jc e]) cz dy Z) Z<|lT [0,3,6,95,97] [0,1,2,3,4,2003,2008,2056,2097] ?_;refine ab (zP 2056 cz dy jL rfl x_14 x_26) Z<|bD Z<|Y ?_;refine⟨(),trivial,trivial,⟨(Eq.trans (b:=AO.ai 159 7 (ah aX (lj (gN e.ch) (jc e) (x.ag.take k)++[jc e]))) (congrArg (AO.ai 159 7) (fx aX _ [_]).symm) (congrArg (fun l=>AO.ai 159 7 (ah aX l)) (by have h:=h7;rw[qO]at h ⊢;exact KD (by grind)))),trivial⟩,rfl,rfl⟩
   intro h7;refine aK<|gT ?_;refine⟨(),trivial,trivial,⟨(congrArg (fun l=>AO.ai 159 7 (ah aX l)) (by have h:=h7;rw[qO]at h ⊢;exact KC (by grind))),trivial⟩,rfl,rfl⟩
  intro jd hJ;refine sL<|aM Z<|bW Z<|lc Z<|lf 0 c8 Z<|lf 3 dr Z<|ab (zB 0 sM sN Z) Z<|Y<|aS ?_;refine AW.swap 2056 1 ?_;refine aT [0,3] [0,1,2,3,4,2003,2008] ?_;refine aF [12]<|pq 0 (dJ Z)<|pq 1 (dJ Z)<|pq 2 (qc Z)<|pq 3 (qf 0 c8 Z)<|pq 4 (qf 2 iW Z)<|sq 5 (aZ ac Z)<|vq 6 (rf 4 bN Z)<|vq 7 (aZ ac Z) ?_;refine vq 8 (iC rfl ⟨rfl,ce x_116⟩)<|vq 9 (rc rfl)<|vq 10 (rf 0 c8 rfl)<|vq 11 (rf 2 iW rfl)<|bn 12 rfl (zB 0 ca cb rfl) (.inl rfl)<|fD<|gA<|aM Z<|lf 4 bN Z<|aj ac Z<|lq (rd (x:=U _ _) (il rfl rfl (ce x_130)) rfl) ?_;refine ab (bF func198 (jv _ _ _ _ _ _ _ _ _ _ _ _ _ _ ([]) 0 (LG.nil) (by decide) _ _ _ (cL.nil _ _) (jM es.af)) x_3 rfl rfl) Z<|lT [0,3] [0,1,2,3,4,2003,2008] ?_;refine Y<|aL<|aM Z<|lf 2 dn Z<|aj ac Z<|lf 4 bN Z<|aj ac Z ?_;refine ab (bF func198 (jv _ _ _ _ _ _ _ _ _ _ _ _ _ _ (bR [] 1 0 (-e.af)) 1 (LG.nil.add (jM es.af)) (by decide) _ _ _ x_15 (gP es.af)) x_3 rfl rfl) Z<|lN ?_;rw[tK cQ];refine iZ ?_ ⟨(Eq.trans (b:=cD g x.tick x.next (x.aA-e.af) _) rfl (congrArg (cD g x.tick x.next (x.aA-e.af)) (by grind))),rfl,rfl,rfl,(congrArg dc (Kx (by omega))),trivial⟩;rfl
 intro V;refine vq 15 (cG rfl)<|vq 16 (rc rfl)<|vq 17 (rf 0 c8 rfl)<|vq 18 (rf 3 dr rfl)<|vq 19 (gC eg rfl)<|vq 20 (le kJ rfl)<|vq 21 (dt rfl)<|nw 40 (decide ((20:Int)<=(x.ag.length:Int))) rfl x_31<|vq 22 (cv rfl)<|nw 41 (decide (0<=eS x.ag e.ch)||decide ((20:Int)<=(x.ag.length:Int))) rfl (by rw[show decide (0<=eS x.ag e.ch)=false from V];simp) ?_;refine bn 23 rfl (bF func196 (gt _ _ _ _ _ _ _ _ _ _ _ _ _ _ _ _ _ _ _ ) x_3 rfl rfl) (.inl rfl)<|fT [0,3,4,23,42] [0,1,2,3,4,2003] ?_;refine vq 24 (cv Z)<|vq 25 (dx Z) ?_;refine AF.bool (t:=44) rfl ?_ ?_
 ·intro h8;refine bi 26 Z<|bi 27 Z<|bi 28 Z<|bi 29 Z<|bi 30 Z<|bi 31 Z<|al 32 Z<|al 33 Z<|al 34 Z<|al 35 Z<|vq 36 (bA Z)<|fD<|gT<|aY Z<|aR<|rT ?_;have cQ:gO x e≠0:=by
   have h:=h8;unfold gO;simp only[f0,Bool.not_eq_true',decide_eq_false_iff_not]at h;rw[fW h];exact h
  rw[sK cQ];refine ax ?_ ⟨(Eq.trans (b:=cD g x.tick x.next x.aA _) rfl (congrArg (cD g x.tick x.next x.aA) (by grind[gO,fW]))),rfl,rfl,rfl,rfl,trivial⟩;rfl
 intro h8;refine pq 26 (dJ Z)<|pq 27 (dJ Z)<|pq 28 (qc Z)<|pq 29 (qf 0 c8 Z)<|pq 30 (qf 2 iW Z)<|sq 31 (aZ ac Z)<|vq 32 (rf 4 bN Z)<|vq 33 (aZ ac Z)<|vq 34 (dt Z) ?_;refine bn 35 rfl (bF func196 (gt _ _ _ _ _ _ _ _ _ _ _ _ _ _ _ _ _ _ _ ) x_3 rfl rfl) (.inl rfl)<|vq 36 (cv rfl)<|fD<|gT ?_;refine AW.cond rfl ?_ ?_
 ·intro h9;refine aR<|rT ?_;have cQ:gO x e≠0:=by
   have h:=h9;unfold gO;simp only[f0,Bool.not_eq_true',decide_eq_false_iff_not]at h;exact h
  rw[sK cQ];trivial
 intro h9;refine aK<|gT<|aS ?_;have cQ:gO x e=0:=by
  have h:=h9;unfold gO;simp only[f0,Bool.not_eq_false',decide_eq_true_eq]at h;exact h
 have iY:=zY (DB cQ);refine aL<|ab (zS 2056 [] cz dy rfl (by simp)) Z<|lT [0,3,4,56] [0,1,2,3,4,2003,2056] ?_;refine bD Z<|nA<|ar Z<|nA<|lf 2 dn Z<|aj ac Z<|ae Z<|lf 4 bN Z<|aj ac Z<|lf 5 fC Z<|aj ac Z<|lq (rd (x:=.agg [U _ _,U _ _,U _ _,U _ _,U _ _,U _ _,U _ _]) (cP Z BB Z Z Z) Z)<|ab (zA 2008 dy Z) Z<|ab (zB 2008 lu lv Z) Z<|Y<|aS<|sL<|aM Z<|lc Z<|lf 0 c8 Z<|lf 3 dr Z<|iO eg Z ?_;refine ba kJ Z<|ae Z<|Y<|aB ?_;refine aW [0,3,6,8,69,70] [0,1,2,3,4,2003,2008] (D:=Nat) (fun k=>[(7,aD ((x.ag.take k).any (gN e.ch))),(71,int (k:Int))]) (fun k=>[(2056,AO.ai 159 7 (ah aX (lj (gN e.ch) (jc e) (x.ag.take k))))]) (fun k=>k<=x.ag.length) (fun k=>x.ag.length-k) (0) (Nat.zero_le _) ⟨rfl,rfl,trivial⟩ ⟨rfl,trivial⟩ ?_;intro k hI;refine sL<|ak Z<|Y<|aS ?_;refine AW.cond rfl ?_ ?_
 ·intro dh;refine aK<|gT<|aS<|aB<|sL ?_;have hk:k<x.ag.length:=by simpa[ap]using dh
  have RN:=iY x.ag[k] (List.getElem_mem hk);refine lq (rj k cz rfl (by grind))<|lq (rd (x:=.agg [U _ _,U _ _,U _ _,U _ _,U _ _,U _ _,U _ _]) (dT rfl fF rfl rfl rfl (bS hk) rfl) rfl)<|ab (zA 2010 dy rfl) Z<|lT [0,3,6,7,8,10,69,70,71,74] [0,1,2,3,4,2003,2008,2010,2056] ?_;refine ab (zB 2010 lu lv Z) Z<|Y<|aS<|sL<|aQ Z<|bX Z<|aQ Z ?_;refine AL.bool (t:=77) rfl ?_ ?_
  ·intro gp;refine lf 0 kM Z<|aj ac Z<|lf 2 dn Z<|aj ac Z<|ak Z<|bj Z<|Y ?_;refine AW.cond rfl ?_ ?_
   ·intro gM;refine sL<|bW Z<|aP (.agg [U _ _,U _ _,U _ _,U _ _,U _ _,U _ _,U _ _]) fF Z<|ab (zS 2086 (ah aX [jc e]) cz dy rfl) Z<|ab (zP 2056 cz dy jL rfl x_14 x_26) Z<|lT [0,3,7,8,10,69,70,71,87] [0,1,2,3,4,2003,2008,2010,2056,2086] ?_;refine bD Z<|Y<|aL<|cI Z<|Y<|aL<|bW Z<|aP (.agg [U _ _,U _ _,U _ _,U _ _,U _ _,U _ _,U _ _]) fF Z<|ab (zS 2090 (ah aX [x.ag[k]]) cz dy rfl) Z<|ab (zP 2056 cz dy jL rfl x_14 x_26) Z<|bD Z<|lN<|gB<|gT<|aL<|bg Z<|ae Z<|Y ?_;have ha:(x.ag.take k).any (gN e.ch)=false:=by simpa using gp
    have hb:(gN e.ch) x.ag[k]=true:=by unfold gN;have h:=gM;simp at h ⊢;omega
    refine⟨k+1,hk,by omega,⟨(Eq.trans (b:=aD (true)) rfl (congrArg aD (by simp_all[pr]))),(iq rfl),trivial⟩,⟨(Eq.trans (b:=AO.ai 159 7 (ah aX ((lj (gN e.ch) (jc e) (x.ag.take k)++[jc e])++[x.ag[k]]))) (congrArg (AO.ai 159 7) (by grind[fx])) (congrArg (fun l=>AO.ai 159 7 (ah aX l)) (KA hk ha hb).symm)),trivial⟩,rfl,rfl⟩
   intro gM;refine aK<|gT<|aL<|bW Z<|aP (.agg [U _ _,U _ _,U _ _,U _ _,U _ _,U _ _,U _ _]) fF Z<|ab (zS 2090 (ah aX [x.ag[k]]) cz dy rfl) Z<|ab (zP 2056 cz dy jL rfl x_14 x_26) Z<|bD Z<|lN<|gB<|gT<|aL<|bg Z<|ae Z<|Y ?_;have ha:(x.ag.take k).any (gN e.ch)=false:=by simpa using gp
   have hb:(gN e.ch) x.ag[k]=false:=by unfold gN;have h:=gM;simp at h ⊢;omega
   refine⟨k+1,hk,by omega,⟨(Eq.trans (b:=aD ((x.ag.take k).any (gN e.ch))) rfl (congrArg aD (by simp_all[pr]))),(iq rfl),trivial⟩,⟨(Eq.trans (b:=AO.ai 159 7 (ah aX (lj (gN e.ch) (jc e) (x.ag.take k)++[x.ag[k]]))) (congrArg (AO.ai 159 7) (fx aX _ [_]).symm) (congrArg (fun l=>AO.ai 159 7 (ah aX l)) (KB hk ha hb).symm)),trivial⟩,rfl,rfl⟩
  intro gp;refine aa Z<|aa Z<|aa Z<|aa Z<|aa Z<|bL Z<|Y<|aN Z<|aK<|gT<|aL<|bW Z<|aP (.agg [U _ _,U _ _,U _ _,U _ _,U _ _,U _ _,U _ _]) fF Z<|ab (zS 2090 (ah aX [x.ag[k]]) cz dy Z) Z<|lT [0,3,6,7,8,69,70,71,88,90] [0,1,2,3,4,2003,2008,2010,2056,2090] ?_;refine ab (zP 2056 cz dy jL rfl x_14 x_26) Z<|bD Z<|lN<|gB<|gT<|aL<|bg Z<|ae Z<|Y ?_;have ha:(x.ag.take k).any (gN e.ch)=true:=by simpa using gp
  refine⟨k+1,hk,by omega,⟨(Eq.trans (b:=aD ((x.ag.take k).any (gN e.ch))) rfl (congrArg aD (by grind))),(iq rfl),trivial⟩,⟨(Eq.trans (b:=AO.ai 159 7 (ah aX (lj (gN e.ch) (jc e) (x.ag.take k)++[x.ag[k]]))) (congrArg (AO.ai 159 7) (fx aX _ [_]).symm) (congrArg (fun l=>AO.ai 159 7 (ah aX l)) (Kz hk ha).symm)),trivial⟩,rfl,rfl⟩
 intro dh;refine aE<|eT<|eT<|eB<|gT ?_;refine aJ [0,3,6] [0,1,2,3,4,2003,2008] (D:=Unit) (fun jd=>[]) (fun jd=>[(2056,AO.ai 159 7 (ah aX (ly x.ag (jc e))))]) (fun jd=>True) ?_ ?_
 ·refine aS ?_;have dZ:k=x.ag.length:=by have h:=dh;simp only[ap,decide_eq_false_iff_not]at h;omega
  have qO:x.ag.take k=x.ag:=by rw[dZ,List.take_length]
  refine aL<|aQ Z<|bX Z<|Y ?_;refine AW.cond rfl ?_ ?_
  ·intro dO;refine aL<|bW Z<|aP (.agg [U _ _,U _ _,U _ _,U _ _,U _ _,U _ _,U _ _]) fF Z<|ab (zS 2097 (ah aX [jc e]) cz dy rfl) Z<|ab (zP 2056 cz dy jL rfl x_14 x_26) Z<|bD Z<|Y ?_;refine⟨(),trivial,trivial,⟨(Eq.trans (b:=AO.ai 159 7 (ah aX (lj (gN e.ch) (jc e) (x.ag.take k)++[jc e]))) (congrArg (AO.ai 159 7) (fx aX _ [_]).symm) (congrArg (fun l=>AO.ai 159 7 (ah aX l)) (by have h:=dO;rw[qO]at h ⊢;exact KD (by grind)))),trivial⟩,rfl,rfl⟩
  intro dO;refine aK<|gT ?_;refine⟨(),trivial,trivial,⟨(congrArg (fun l=>AO.ai 159 7 (ah aX l)) (by have h:=dO;rw[qO]at h ⊢;exact KC (by grind))),trivial⟩,rfl,rfl⟩
 intro jd hJ;refine sL<|aM Z<|bW Z<|lc Z<|lf 0 c8 Z<|lf 3 dr Z<|ab (zB 0 sM sN Z) Z<|Y<|aS ?_;refine AW.swap 2056 1 ?_;refine aT [0,3] [0,1,2,3,4,2003,2008] ?_;refine aF [12]<|pq 0 (dJ Z)<|pq 1 (dJ Z)<|pq 2 (qc Z)<|pq 3 (qf 0 c8 Z)<|pq 4 (qf 2 iW Z)<|sq 5 (aZ ac Z)<|vq 6 (rf 4 bN Z)<|vq 7 (aZ ac Z) ?_;refine vq 8 (iC rfl ⟨rfl,ce x_116⟩)<|vq 9 (rc rfl)<|vq 10 (rf 0 c8 rfl)<|vq 11 (rf 2 iW rfl)<|bn 12 rfl (zB 0 ca cb rfl) (.inl rfl)<|fD<|gA<|aM Z<|lf 4 bN Z<|aj ac Z<|lq (rd (x:=U _ _) (il rfl rfl (ce x_130)) rfl) ?_;refine ab (bF func198 (jv _ _ _ _ _ _ _ _ _ _ _ _ _ _ ([]) 0 (LG.nil) (by decide) _ _ _ (cL.nil _ _) (jM es.af)) x_3 rfl rfl) Z<|lT [0,3] [0,1,2,3,4,2003,2008] ?_;refine Y<|aL<|aM Z<|lf 2 dn Z<|aj ac Z<|lf 4 bN Z<|aj ac Z ?_;refine ab (bF func198 (jv _ _ _ _ _ _ _ _ _ _ _ _ _ _ (bR [] 1 0 (-e.af)) 1 (LG.nil.add (jM es.af)) (by decide) _ _ _ x_15 (gP es.af)) x_3 rfl rfl) Z<|lN ?_;rw[tK cQ];refine iZ ?_ ⟨(Eq.trans (b:=cD g x.tick x.next (x.aA-e.af) _) rfl (congrArg (cD g x.tick x.next (x.aA-e.af)) (by grind))),rfl,rfl,rfl,(congrArg dc (Kx (by omega))),trivial⟩;rfl
theorem KE{l:List be}{ch:Int}{k:Nat}(hk:k<l.length):ny (l.take (k+1)) ch=ny (l.take k) ch++(if l[k].id=ch then []else [l[k]]):=by
 grind[ny,List.take_succ_eq_append_getElem]
theorem RO{l:List be}{ch:Int}:(ny l ch).length<=l.length:=List.length_filter_le _ _
theorem x_143{p:Prop}(c:p:=by rw[show jw (fun c=>c.id==e.ch) x.ag=_ from hi];simp):p:=c
theorem KF(g:Value)(x:aw)(e:aV)(fi:sO x)(es:m8 e)(tL:0<=e.ay):GC prog 201 [.ptr 0 0 0,ju e] (p7 g x [] 0) (.au []) (yd g (rH x e)):=by
 have sm:=fi.sm;have hm:x.ag.length<=1000000000:=by have:=sm.lc;omega
 have mG:x.an.length<=1000000000:=by have:=sm.lh;omega
 have lr:x.aq.length<=1000000000:=by have:=sm.li;omega
 have oF:=sm.lc;have hL:decide ((x.ag.length:Int)=20)=decide ((20:Int)<=(x.ag.length:Int)):=by have:=sm.lc;apply decide_eq_decide.2;omega

 refine GC.intro (rs:=[]) func201 rfl ntmps201 x_7 trivial ?_;intro L O w0;refine sL<|ab (zX 2003 Z) Z<|Y<|aS<|aF []<|pq 0 (dJ Z)<|pq 1 (qc Z)<|pq 2 (qf 0 c8 Z)<|sq 3 (dw (.agg [U _ _,U _ _,U _ _,.own _,.own _,.own _]) cu Z)<|vq 4 (rf 2 dn Z)<|vq 5 (aZ ac Z) ?_;rcases jt x.ag e.ch with⟨hi,ho⟩|⟨i,c,hi,hc,ho,hid⟩
 ·skip;refine bn 6 rfl (zL func200 (m9 x _ hm) rfl) (.inr rfl)<|vq 7 (j8 rfl)<|fD<|gT<|aS<|sL<|aM Z<|ae Z<|ak Z<|bJ 18 true rfl x_143 ?_;refine ab (bF func196 (gt _ _ _ _ _ _ _ _ _ _ _ _ _ _ _ _ _ _ _ ) x_3 rfl rfl) rfl ?_;have f0:bE false 0 6=0:=rfl;refine bJ 19 true rfl (by rfl)<|Y<|aY Z<|aR<|rT ?_;have cU:ir x e=6:=by unfold ir;rw[j9 hi,fW (dI (mp (by decide))),fW (mp (by decide))];rfl
  have cQ:ir x e≠0:=by rw[cU];decide
  rw[tM cQ,cU];trivial
 have bC:=sm.ag c (dB hc);refine bn 6 Z (zL func200 (m9 x _ hm) Z) (.inr Z)<|fT [0,3,15] [0,1,2,3,4,2003] ?_;refine vq 7 (j8 rfl)<|fD<|gT<|aS<|sL<|aM Z<|ae Z<|ak Z<|bJ 18 false rfl (by grind[jw]) ?_;refine ab (bF func196 (gt _ _ _ _ _ _ _ _ _ _ _ _ _ _ _ _ _ _ _ ) x_3 rfl rfl) rfl ?_;have f0:bE false 0 6=0:=rfl;refine bJ 19 false rfl (by rfl)<|Y<|aN Z<|aK<|gA<|aM Z<|lc Z<|lf 0 c8 Z<|lf 3 dr Z<|iO eg Z<|ae Z<|lq (rd (x:=.ptr 1 _ 0) (pu (i:=i) rfl cz rfl rfl rfl ?hn1 x_31) rfl) ?_;case hn1=>trivial
 refine lq (rd (x:=.agg [U _ _,U _ _,U _ _,U _ _,U _ _,U _ _,U _ _]) (dT Z fF Z Z Z (dk hc) Z) Z)<|ab (zA 2005 dy Z) Z<|lT [0,3,5,27] [0,1,2,3,4,2003,2005] ?_;refine ab (zB 2005 lu lv Z) Z<|Y<|aS<|aS<|aF [8,16]<|pq 0 (dJ Z)<|pq 1 (dJ Z)<|pq 2 (qc Z)<|pq 3 (qf 0 c8 Z)<|sq 4 (dw (.agg [U _ _,U _ _,U _ _,.own _,.own _,.own _]) cu Z)<|vq 5 (rf 2 dn Z)<|vq 6 (aZ ac Z)<|bn 7 Z (zL func252 (RP x _ mG lr) Z) (.inr Z) ?_;refine bn 8 rfl (bF func196 (gt _ _ _ _ _ _ _ _ _ _ _ _ _ _ _ _ _ _ _ ) x_3 rfl rfl) (.inl rfl)<|vq 9 (dx rfl) ?_;refine AF.bool (t:=37) rfl ?_ ?_
 ·intro V;refine bi 10 Z<|bi 11 Z<|bi 12 Z<|al 13 Z<|al 14 Z<|al 15 Z<|al 16 Z<|vq 17 (bA Z)<|fD<|gT<|aY Z<|aR<|rT ?_;have cU:ir x e=bE (oG x e.ch) 0 7:=by
   have h:=V;unfold ir;rw[ka hi,ho];simp only[f0,Bool.not_eq_true',decide_eq_false_iff_not]at h;exact fW h
  have cQ:ir x e≠0:=by
   have h:=V;rw[cU];simp only[f0,Bool.not_eq_true',decide_eq_false_iff_not]at h;exact h
  rw[tM cQ,cU];trivial
 intro V;refine pq 10 (dJ Z)<|pq 11 (qf 5 fC Z)<|sq 12 (aZ ac Z)<|vq 13 (rf 2 fH Z)<|vq 14 (aZ ac Z)<|vq 15 (dt Z) ?_;refine bn 16 rfl (bF func196 (gt _ _ _ _ _ _ _ _ _ _ _ _ _ _ _ _ _ _ _ ) x_3 rfl rfl) (.inl rfl)<|fT [0,3,5,37,44] [0,1,2,3,4,2003,2005] ?_;refine vq 17 (cv Z)<|fD<|gT ?_;refine AW.cond rfl ?_ ?_
 ·intro h2;refine aR<|rT ?_;have cU:ir x e=bE (decide (c.loc<e.ay)) (bE (oG x e.ch) 0 7) 8:=by unfold ir;rw[ka hi,ho]
  have cQ:ir x e≠0:=by
   have h:=h2;rw[cU];simp only[f0,Bool.not_eq_true',decide_eq_false_iff_not]at h;exact h
  rw[tM cQ,cU];trivial
 intro h2;refine aK<|gT<|aS ?_;have cQ:ir x e=0:=by
  have h:=h2;unfold ir;rw[ka hi,ho];simp only[f0,Bool.not_eq_false',decide_eq_true_eq]at h;exact h
 refine aL<|ab (zS 2046 [] cz dy rfl (by simp)) Z<|bD Z<|Y<|aS<|sL<|aM Z<|lc Z<|lf 0 c8 Z<|lf 3 dr Z<|iO eg Z<|ba kJ Z<|ae Z<|Y<|aB ?_;refine aW [0,3,5,6,51,52] [0,1,2,3,4,2003,2005] (D:=Nat) (fun k=>[(53,int (k:Int))]) (fun k=>[(2046,AO.ai 159 7 (ah aX (ny (x.ag.take k) e.ch)))]) (fun k=>k<=x.ag.length) (fun k=>x.ag.length-k) (0) (Nat.zero_le _) ⟨rfl,trivial⟩ ⟨rfl,trivial⟩ ?_;intro k hI;refine sL<|ak Z<|Y<|aS ?_;refine AW.cond rfl ?_ ?_
 ·intro h3;refine aK<|gT<|aS<|aB<|sL ?_;have hk:k<x.ag.length:=by simpa[ap]using h3
  refine lq (rj k cz rfl (by grind))<|lq (rd (x:=.agg [U _ _,U _ _,U _ _,U _ _,U _ _,U _ _,U _ _]) (dT rfl fF rfl rfl rfl (bS hk) rfl) rfl)<|ab (zA 2008 dy rfl) Z<|lT [0,3,5,6,8,51,52,53,56] [0,1,2,3,4,2003,2005,2008,2046] ?_;refine ab (zB 2008 lu lv Z) Z<|nA<|lf 0 kM Z<|aj ac Z<|lf 2 dn Z<|aj ac Z<|ak Z<|Y ?_;refine AW.cond rfl ?_ ?_
  ·intro h4;refine aL<|bW Z<|aP (.agg [U _ _,U _ _,U _ _,U _ _,U _ _,U _ _,U _ _]) fF Z<|ab (zS 2064 (ah aX [x.ag[k]]) cz dy rfl) Z<|ab (zP 2046 cz dy jL rfl x_14 (by grind[RO,ah])) Z<|bD Z<|lN<|gB<|gT<|aL<|bg Z<|ae Z<|Y ?_;refine⟨k+1,hk,by omega,x_10,⟨(Eq.trans (b:=AO.ai 159 7 (ah aX (ny (x.ag.take k) e.ch++[x.ag[k]]))) (congrArg (AO.ai 159 7) (fx aX _ [_]).symm) (congrArg (fun l=>AO.ai 159 7 (ah aX l)) (by simp_all[KE]))),trivial⟩,rfl,rfl⟩
  intro h4;refine aK<|gB<|gT<|aL<|bg Z<|ae Z<|Y ?_;refine⟨k+1,hk,by omega,x_10,⟨(congrArg (fun l=>AO.ai 159 7 (ah aX l)) (by simp_all[KE])),trivial⟩,rfl,rfl⟩
 intro h3;refine aE<|eT<|eT<|eB<|gT<|aS ?_;have dZ:k=x.ag.length:=by have h:=h3;simp only[ap,decide_eq_false_iff_not]at h;omega
 refine AW.obj 2046 (AO.ai 159 7 (ah aX (ny x.ag e.ch))) (congrArg (fun l=>AO.ai 159 7 (ah aX l)) (by grind)) ?_;refine aL<|aM Z<|bW Z<|lc Z<|lf 0 c8 Z<|lf 3 dr Z<|ab (zB 0 sM sN Z) Z<|lT [0,3,5] [0,1,2,3,4,2003,2005,2046] ?_;refine Y<|aS ?_;refine AW.swap 2046 1 ?_;refine aT [0,3,5] [0,1,2,3,4,2003,2005] ?_;refine aF [15]<|pq 0 (dJ Z)<|pq 1 (dJ Z)<|pq 2 (qc Z)<|pq 3 (qf 0 c8 Z)<|pq 4 (qf 2 iW Z)<|sq 5 (aZ ac Z)<|pq 6 (qf 2 fH Z)<|sq 7 (aZ ac Z) ?_;refine sq 8 (iC rfl ⟨rfl,ce x_136⟩)<|vq 9 (rf 5 fC rfl)<|vq 10 (aZ ac rfl) ?_;refine vq 11 (iC rfl ⟨rfl,ce x_136⟩)<|qM 83 (x.aA+(c.loc-e.ay)) rfl (by omega)<|vq 12 (rc rfl)<|vq 13 (rf 0 c8 rfl)<|vq 14 (rf 2 iW rfl)<|bn 15 rfl (zB 0 ca cb rfl) (.inl rfl)<|fT [0,3,5] [0,1,2,3,4,2003,2005] ?_;refine fD<|gA<|aM Z<|lf 2 fH Z<|aj ac Z<|lf 5 fC Z<|aj ac Z ?_;refine eo rfl ⟨rfl,ce x_119⟩ ?_;have tN:¬c.loc<e.ay/\0<=e.ay:=⟨fun q=>by
  grind[mp],tL⟩
 refine ab (bF func198 (jv _ _ _ _ _ _ _ _ _ _ _ _ _ _ ([]) 0 (LG.nil) (by decide) _ _ _ (cL.nil _ _) (gP (by grind[bk]))) x_3 rfl rfl) Z<|nA<|aM Z<|lf 5 fC Z<|aj ac rfl ?_;refine ab (bF func198 (jv _ _ _ _ _ _ _ _ _ _ _ _ _ _ (bR [] 1 0 (c.loc-e.ay)) 1 (LG.nil.add (gP (by grind[bk]))) (by decide) _ _ _ x_15 (gP es.ay)) x_3 rfl rfl) Z<|Y<|aL<|aM Z<|lf 2 dn Z<|aj ac Z<|lf 2 fH Z<|aj ac Z<|lq (rd (x:=U _ _) (il rfl rfl (ce (by grind[bk,i64]))) rfl) ?_;refine ab (bF func198 (jv _ _ _ _ _ _ _ _ _ _ _ _ _ _ (bR (bR [] 1 0 (c.loc-e.ay)) 5 0 e.ay) 2 ((LG.nil.add (gP (by grind[bk]))).add (gP es.ay)) (by decide) _ _ _ (((cL.nil _ _).add (.inl (by decide))).add (.inl (by decide))) (jM bC.1)) x_3 rfl rfl) Z<|lT [] [0,1,2,3,4,2003,2005] ?_;refine lN ?_;rw[yf cQ];unfold zZ;rw[ho];refine iZ ?_ ⟨(Eq.trans (b:=cD g x.tick x.next (x.aA+(c.loc-e.ay)) _) rfl (congrArg (cD g x.tick x.next (x.aA+(c.loc-e.ay))) (by grind))),rfl,rfl,rfl,rfl,trivial⟩;rfl
end Go.Proofs.YtflhgkmhmcfimaaGreat

