/- Texts of the proof of FnFnAgain, joined: EO5, EO6, EO7, E32. -/
import Derived.Test.YtflhgkmhmcfimaaGreatJAgain9
import Derived.Test.YtflhgkmhmcfimaaGreatJAgain5
namespace Go.Proofs.YtflhgkmhmcfimaaGreat
open Tryz
open Go.RowKit
set_option maxHeartbeats 16000000
set_option maxRecDepth 100000
set_option linter.unusedSimpArgs false
set_option linter.unusedVariables false
theorem Jg{b:List Int}(h:b.length=0):yP b=List.replicate 128 0:=if_pos h
theorem Jh{b:List Int}(h:b.length≠0):yP b=b:=if_neg h
theorem Zx(b:List Int)(hl:b.length<=2000000):GC prog 157 [.agg [gV b]] [] (.own 1) [(1,iT (yP b))]:=by
 refine gi 2 func157 rfl ntmps157 rfl ?_;intro L O w0;refine sL<|ab (zX 2001 Z) Z<|e9 Z<|Y<|aS<|sL<|lf 0 uB Z<|bo kb Z<|ba kE Z<|ak Z<|Y<|cE rfl ?_ ?_
 ·intro V;refine sL<|ab (uq 1 (m:=128) rfl rfl x_3 fh ie rfl rfl rfl rfl rfl (Nat.le_trans (Nat.mul_le_mul_right _ mu) x_3) x_3) Z<|bD Z<|Y ?_;refine AW.obj 1 (iT (List.replicate 128 0)) ((Eq.trans (b:=AO.ai 5 1 (List.replicate 128 [PV.v (.int .u8 0)])) rfl (congrArg (AO.ai 5 1) (En 128)))) ?_;refine aR<|rT ?_;have hz:b.length=0:=by have h:=V;simpa[ap]using h
  rw[Jg hz];trivial
 intro V;refine aK<|gA<|lf 0 uB Z<|bo kb Z<|ab (zC [(1,1)] [1] [] func229 (He b hl) (trivial) Z Z) Z<|bD Z<|Y<|aR ?_;have hz:b.length≠0:=by have h:=V;simpa[ap]using h
 rw[Jh hz];trivial
theorem x_106{p:Prop}(c:p:=by intro r hr;cases hr):p:=c
theorem Zy(b:List Int)(hl:b.length<=2000000):GC prog 154 [gV b] [] (.own 1) [(1,iT (yP b))]:=by
 refine gi 2 func154 rfl ntmps154 rfl ?_;intro L O w0;refine sL<|e9 Z<|Y<|aS<|sL<|bm Z<|ba kE Z<|ak Z<|Y<|cE rfl ?_ ?_
 ·intro V;refine sL<|ab (uq 1 (m:=128) rfl rfl x_3 fh ie rfl rfl rfl rfl rfl (Nat.le_trans (Nat.mul_le_mul_right _ mu) x_3) x_3) Z<|bD Z<|Y ?_;refine AW.obj 1 (iT (List.replicate 128 0)) ((Eq.trans (b:=AO.ai 5 1 (List.replicate 128 [PV.v (.int .u8 0)])) rfl (congrArg (AO.ai 5 1) (En 128)))) ?_;refine aR<|rT ?_;have hz:b.length=0:=by have h:=V;simpa[ap]using h
  rw[Jg hz];trivial
 intro V;refine aK<|gA<|ab (zS 1 (ah dF []) fh ie rfl x_106) Z<|bm Z<|ab (zP 1 fh ie mu rfl (Src.p rfl) x_93) Z<|bD Z<|Y<|aR ?_;have hz:b.length≠0:=by have h:=V;simpa[ap]using h
 rw[Jh hz];trivial
theorem Bb{α:Type}{p:α->Bool}{l:List α}{j:Nat}(hj:j<l.length)(h:(l.take j).all p=true)(hp:p l[j]=true):(l.take (j+1)).all p=true:=by grind[List.take_succ_eq_append_getElem]
theorem zD{α:Type}{p:α->Bool}{l:List α}{j:Nat}(hj:j<l.length)(hp:p l[j]=false):l.all p=false:=Bool.eq_false_iff.2 fun q=>by grind
theorem C5{d:du}(h:¬(1<=d.cells.length/\d.cells.length<=600/\d.bu.length<=600)):ik d=false:=by
 unfold ik aI;grind
theorem PA{d:du}(h:d.cells.all lL=false):ik d=false:=by grind[ik]
theorem C6{d:du}(h:d.bu.all (kS d.cells.length)=false):ik d=false:=by grind[ik]
theorem PB{d:du}(h:1<=d.cells.length/\d.cells.length<=600/\d.bu.length<=600)(V:d.cells.all lL=true)(h2:d.bu.all (kS d.cells.length)=true):ik d=true:=by
 grind[ik,aI]
theorem x_20{p:Prop}(c:p:=by exact congrArg (fun n:Nat=>int (n:Int)) (fU _)):p:=c
theorem x_22{p:Prop}(c:p:=by exact congrArg (fun n:Nat=>int (n:Int)) (pH _)):p:=c
theorem x_89{p:Prop}(c:p:=by exact ⟨(j+1),⟨hj,Bb hj hI.2 hc⟩,by omega,x_11,trivial,rfl,rfl⟩):p:=c
theorem J'(d:du):GC prog 91 [mt d] [] (aD (ik d)) []:=by
 refine gi 2 func91 rfl ntmps91 rfl ?_;intro L O w0;refine sL<|ab (zX 2001 Z) Z<|ar Z<|Y<|aS<|sL<|lf 0 n9 Z<|bo oB Z<|ba po Z ?_;refine dC 9 (int (d.cells.length:Int)) (congrArg (fun n:Nat=>int (n:Int)) (fU _)) ?_;refine ab (zL func92 (pp) Z) Z<|bX Z<|aQ Z ?_;refine AL.bool (t:=12) rfl ?_ ?_
 ·intro V;refine aa Z<|aa Z<|aa Z<|aa Z<|aU Z<|Y<|aY Z<|sL<|ar Z<|Y<|aR<|rT ?_;have hF:ik d=false:=C5 (by
   simp[aI]at *;omega)
  rw[hF];trivial
 intro V;refine lf 1 ru Z<|bo sk Z<|ba vT Z ?_;refine dC 15 (int (d.bu.length:Int)) (congrArg (fun n:Nat=>int (n:Int)) (pH _)) ?_;refine ak Z<|bj Z<|Y<|cE rfl ?_ ?_
 ·intro h2;refine sL<|ar Z<|Y<|aR<|rT ?_;have hF:ik d=false:=C5 (by
   simp[aI]at *;omega)
  rw[hF];trivial
 intro h2;refine aK<|gT<|aS<|aS ?_;have gR:1<=d.cells.length/\d.cells.length<=600/\d.bu.length<=600:=by
  simp[aI]at *;omega
 refine aL<|lf 0 n9 Z<|bo oB Z<|ba po Z ?_;refine dC 20 (int (d.cells.length:Int)) (congrArg (fun n:Nat=>int (n:Int)) (fU _)) ?_;refine ae Z<|Y<|aB ?_;refine aW [1,2,19,20] [2001] (D:=Nat) (fun a=>[(21,int (a:Int))]) (fun a=>[]) (fun a=>a<=d.cells.length/\(d.cells.take a).all lL=true) (fun a=>d.cells.length-a) (0) (⟨Nat.zero_le _,rfl⟩) ⟨rfl,trivial⟩ trivial ?_;intro j hI;replace hI:j<=d.cells.length/\(d.cells.take j).all lL=true:=hI;refine sL<|ak Z<|Y<|aS<|cE rfl ?_ ?_
 ·intro h3;refine aK<|gT<|aS<|aB<|aS ?_;have hj:j<d.cells.length:=by have h:=h3;simp only[decide_eq_true_eq]at h;omega
  refine aL<|li j xE Z (vw hj)<|d6 qN zn Z<|ab (zA 2004 CB Z) Z<|lT [1,2,4,19,20,21,24] [2001,2004] ?_;refine ab (zB 2004 E2 E3 Z) Z<|nA<|lf 0 uB Z<|bo kb Z<|ba kE Z<|ak Z<|aQ Z ?_;refine AL.bool (t:=29) rfl ?_ ?_
  ·intro h4;refine lf 0 uB Z<|bo kb Z<|ba kE Z<|ak Z<|bj Z<|Y<|cE rfl ?_ ?_
   ·intro h5;refine sL<|ar Z<|Y<|aR<|rB<|rT<|rT<|rB<|rT ?_;have hc:lL d.cells[j]=false:=by
     unfold lL;try unfold aI
     rw[Bool.eq_iff_iff];simp only[ap,decide_eq_true_eq,decide_eq_false_iff_not,Bool.and_eq_true,Bool.and_eq_false_iff,Bool.or_eq_true,Bool.not_eq_true,Bool.not_eq_false,Bool.not_eq_true',Bool.not_eq_false',Bool.false_eq_true,aI,iff_false,iff_true,ge_iff_le,gt_iff_lt,ne_eq,bne_iff_ne]at *;omega
    rw[PA (zD hj hc)];trivial
   intro h5;refine aK<|gB<|gT<|aL<|bg Z<|ae Z<|Y ?_;have hc:lL d.cells[j]=true:=by
    unfold lL;try unfold aI
    rw[Bool.eq_iff_iff];simp only[ap,decide_eq_true_eq,decide_eq_false_iff_not,Bool.and_eq_true,Bool.and_eq_false_iff,Bool.or_eq_true,Bool.not_eq_true,Bool.not_eq_false,Bool.not_eq_true',Bool.not_eq_false',Bool.false_eq_true,aI,iff_false,iff_true,ge_iff_le,gt_iff_lt,ne_eq,bne_iff_ne]at *;omega
   refine x_89
  intro h4;refine aa Z<|aa Z<|aa Z<|aa Z<|bL Z<|Y<|aN Z<|aK<|gB<|gT<|aL<|bg Z<|ae Z<|Y ?_;have hc:lL d.cells[j]=true:=by
   unfold lL;try unfold aI
   rw[Bool.eq_iff_iff];simp only[ap,decide_eq_true_eq,decide_eq_false_iff_not,Bool.and_eq_true,Bool.and_eq_false_iff,Bool.or_eq_true,Bool.not_eq_true,Bool.not_eq_false,Bool.not_eq_true',Bool.not_eq_false',Bool.false_eq_true,aI,iff_false,iff_true,ge_iff_le,gt_iff_lt,ne_eq,bne_iff_ne]at *;omega
  refine x_89
 intro h3;refine aE<|eT<|eT<|eB<|gT<|aS<|aS ?_;have Ji:j=d.cells.length:=by have h:=h3;have h2:=hI.1;simp only[decide_eq_false_iff_not]at h;omega
 have hA:d.cells.all lL=true:=by have h:=hI.2;rwa [Ji,List.take_length]at h
 clear hI;refine aL<|lf 1 ru Z<|bo sk Z<|ba vT Z ?_;refine dC 38 (int (d.bu.length:Int)) (congrArg (fun n:Nat=>int (n:Int)) (pH _)) ?_;refine ae Z<|Y<|aB ?_;refine aW [1,2,37,38] [2001] (D:=Nat) (fun a=>[(39,int (a:Int))]) (fun a=>[]) (fun a=>a<=d.bu.length/\(d.bu.take a).all (kS d.cells.length)=true) (fun a=>d.bu.length-a) (0) (⟨Nat.zero_le _,rfl⟩) ⟨rfl,trivial⟩ trivial ?_;intro i hI;have hJ:i<=d.bu.length/\(d.bu.take i).all (kS d.cells.length)=true:=hI;refine sL<|ak Z<|Y<|aS<|cE rfl ?_ ?_
 ·intro h6;refine aK<|gT<|aS<|aB<|aS ?_;have hi:i<d.bu.length:=by have h:=h6;simp only[decide_eq_true_eq]at h;omega
  refine aL<|li i uz Z (td hi)<|d6 kj AY Z<|ab (zA 2006 CA Z) Z<|lT [1,2,6,37,38,39,42] [2001,2006] ?_;refine ab (zB 2006 E0 E1 Z) Z<|nA<|lf 0 xG Z<|aj ac Z<|lf 0 n9 Z<|bo oB Z<|ba po Z ?_;refine dC 47 (int (d.cells.length:Int)) (congrArg (fun n:Nat=>int (n:Int)) (fU _)) ?_;refine bg Z<|ab (zL func92 (pp) Z) Z<|bX Z<|aQ Z ?_;refine AL.bool (t:=51) rfl ?_ ?_
  ·intro h7;refine aa Z<|aa Z<|aa Z<|aa Z<|aU Z<|Y<|aY Z<|sL<|ar Z<|Y<|aR<|rB<|rT<|rT<|rB<|rT ?_;have hc:kS d.cells.length d.bu[i]=false:=by
    unfold kS;try unfold aI
    rw[Bool.eq_iff_iff];simp only[ap,decide_eq_true_eq,decide_eq_false_iff_not,Bool.and_eq_true,Bool.and_eq_false_iff,Bool.or_eq_true,Bool.not_eq_true,Bool.not_eq_false,Bool.not_eq_true',Bool.not_eq_false',Bool.false_eq_true,aI,iff_false,iff_true,ge_iff_le,gt_iff_lt,ne_eq,bne_iff_ne]at *;omega
   rw[C6 (zD hi hc)];trivial
  intro h7;refine lf 1 zm Z<|bo kb Z<|ba kE Z<|ak Z<|bj Z<|Y<|cE rfl ?_ ?_
  ·intro h8;refine sL<|ar Z<|Y<|aR<|rB<|rT<|rT<|rB<|rT ?_;have hc:kS d.cells.length d.bu[i]=false:=by
    unfold kS;try unfold aI
    rw[Bool.eq_iff_iff];simp only[ap,decide_eq_true_eq,decide_eq_false_iff_not,Bool.and_eq_true,Bool.and_eq_false_iff,Bool.or_eq_true,Bool.not_eq_true,Bool.not_eq_false,Bool.not_eq_true',Bool.not_eq_false',Bool.false_eq_true,aI,iff_false,iff_true,ge_iff_le,gt_iff_lt,ne_eq,bne_iff_ne]at *;omega
   rw[C6 (zD hi hc)];trivial
  intro h8;refine aK<|gB<|gT<|aL<|bg Z<|ae Z<|Y ?_;have hc:kS d.cells.length d.bu[i]=true:=by
   unfold kS;try unfold aI
   rw[Bool.eq_iff_iff];simp only[ap,decide_eq_true_eq,decide_eq_false_iff_not,Bool.and_eq_true,Bool.and_eq_false_iff,Bool.or_eq_true,Bool.not_eq_true,Bool.not_eq_false,Bool.not_eq_true',Bool.not_eq_false',Bool.false_eq_true,aI,iff_false,iff_true,ge_iff_le,gt_iff_lt,ne_eq,bne_iff_ne]at *;omega
  refine⟨(i+1),⟨hi,Bb hi hJ.2 hc⟩,by omega,x_11,trivial,rfl,rfl⟩
 intro h6;refine aE<|eT<|eT<|eB<|gA<|cI Z<|Y<|aR ?_;have Jj:i=d.bu.length:=by have h:=h6;have h2:=hJ.1;simp only[decide_eq_false_iff_not]at h;omega
 have hB:d.bu.all (kS d.cells.length)=true:=by have h:=hJ.2;rwa [Jj,List.take_length]at h
 rw[PB gR hA hB];trivial
theorem FU(d:du):GC prog 87 [mt d] [] (aD (ik d)) []:=by
 refine gi 2 func87 rfl ntmps87 rfl ?_;intro L O w0;refine sL<|ab (zX 2001 Z) Z<|ar Z<|Y<|aS<|sL<|lf 0 n9 Z<|bo oB Z<|ba po Z ?_;refine dC 9 (int (d.cells.length:Int)) (congrArg (fun n:Nat=>int (n:Int)) (fU _)) ?_;refine ak Z<|aQ Z ?_;refine AL.bool (t:=11) rfl ?_ ?_
 ·intro V;refine aa Z<|aa Z<|aa Z<|aa Z<|aU Z<|bM Z<|aa Z<|aa Z<|aa Z<|aa Z<|aU Z<|Y<|aY Z<|sL<|ar Z<|Y<|aR<|rT ?_;have hF:ik d=false:=C5 (by
   simp[aI]at *;omega)
  rw[hF];trivial
 intro V;refine lf 0 n9 Z<|bo oB Z<|ba po Z ?_;refine dC 14 (int (d.cells.length:Int)) (congrArg (fun n:Nat=>int (n:Int)) (fU _)) ?_;refine ak Z<|bj Z<|aQ Z ?_;refine AL.bool (t:=17) rfl ?_ ?_
 ·intro h2;refine aa Z<|aa Z<|aa Z<|aa Z<|aU Z<|Y<|aY Z<|sL<|ar Z<|Y<|aR<|rT ?_;have hF:ik d=false:=C5 (by
   simp[aI]at *;omega)
  rw[hF];trivial
 intro h2;refine lf 1 ru Z<|bo sk Z<|ba vT Z ?_;refine dC 20 (int (d.bu.length:Int)) (congrArg (fun n:Nat=>int (n:Int)) (pH _)) ?_;refine ak Z<|bj Z<|Y<|cE rfl ?_ ?_
 ·intro h3;refine sL<|ar Z<|Y<|aR<|rT ?_;have hF:ik d=false:=C5 (by
   simp[aI]at *;omega)
  rw[hF];trivial
 intro h3;refine aK<|gT<|aS<|aS ?_;have gR:1<=d.cells.length/\d.cells.length<=600/\d.bu.length<=600:=by
  simp[aI]at *;omega
 refine aL<|lf 0 n9 Z<|bo oB Z<|ba po Z ?_;refine dC 25 (int (d.cells.length:Int)) (congrArg (fun n:Nat=>int (n:Int)) (fU _)) ?_;refine ae Z<|Y<|aB ?_;refine aW [1,2,24,25] [2001] (D:=Nat) (fun a=>[(26,int (a:Int))]) (fun a=>[]) (fun a=>a<=d.cells.length/\(d.cells.take a).all lL=true) (fun a=>d.cells.length-a) (0) (⟨Nat.zero_le _,rfl⟩) ⟨rfl,trivial⟩ trivial ?_;intro j hI;replace hI:j<=d.cells.length/\(d.cells.take j).all lL=true:=hI;refine sL<|ak Z<|lT [1,2,24,25,26,27] [2001] ?_;refine Y<|aS<|cE rfl ?_ ?_
 ·intro h4;refine aK<|gT<|aS<|aB<|aS ?_;have hj:j<d.cells.length:=by have h:=h4;simp only[decide_eq_true_eq]at h;omega
  refine aL<|li j xE Z (vw hj)<|d6 qN zn Z<|ab (zA 2004 CB Z) Z<|ab (zB 2004 E2 E3 Z) Z<|nA<|lf 0 uB Z<|bo kb Z<|ba kE Z<|ak Z<|aQ Z ?_;refine AL.bool (t:=34) rfl ?_ ?_
  ·intro h5;refine lf 0 uB Z<|bo kb Z<|ba kE Z<|ak Z<|bj Z<|Y<|cE rfl ?_ ?_
   ·intro h6;refine sL<|ar Z<|Y<|aR<|rB<|rT<|rT<|rB<|rT ?_;have hc:lL d.cells[j]=false:=by
     unfold lL;try unfold aI
     rw[Bool.eq_iff_iff];simp only[ap,decide_eq_true_eq,decide_eq_false_iff_not,Bool.and_eq_true,Bool.and_eq_false_iff,Bool.or_eq_true,Bool.not_eq_true,Bool.not_eq_false,Bool.not_eq_true',Bool.not_eq_false',Bool.false_eq_true,aI,iff_false,iff_true,ge_iff_le,gt_iff_lt,ne_eq,bne_iff_ne]at *;omega
    rw[PA (zD hj hc)];trivial
   intro h6;refine aK<|gB<|gT<|aL<|bg Z<|ae Z<|Y ?_;have hc:lL d.cells[j]=true:=by
    unfold lL;try unfold aI
    rw[Bool.eq_iff_iff];simp only[ap,decide_eq_true_eq,decide_eq_false_iff_not,Bool.and_eq_true,Bool.and_eq_false_iff,Bool.or_eq_true,Bool.not_eq_true,Bool.not_eq_false,Bool.not_eq_true',Bool.not_eq_false',Bool.false_eq_true,aI,iff_false,iff_true,ge_iff_le,gt_iff_lt,ne_eq,bne_iff_ne]at *;omega
   refine x_89
  intro h5;refine aa Z<|aa Z<|aa Z<|aa Z<|bL Z<|Y<|aN Z<|aK<|gB<|gT<|aL<|bg Z<|ae Z<|Y ?_;have hc:lL d.cells[j]=true:=by
   unfold lL;try unfold aI
   rw[Bool.eq_iff_iff];simp only[ap,decide_eq_true_eq,decide_eq_false_iff_not,Bool.and_eq_true,Bool.and_eq_false_iff,Bool.or_eq_true,Bool.not_eq_true,Bool.not_eq_false,Bool.not_eq_true',Bool.not_eq_false',Bool.false_eq_true,aI,iff_false,iff_true,ge_iff_le,gt_iff_lt,ne_eq,bne_iff_ne]at *;omega
  refine x_89
 intro h4;refine aE<|eT<|eT<|eB<|gT<|aS<|aS ?_;have Ji:j=d.cells.length:=by have h:=h4;have h2:=hI.1;simp only[decide_eq_false_iff_not]at h;omega
 have hA:d.cells.all lL=true:=by have h:=hI.2;rwa [Ji,List.take_length]at h
 clear hI;refine aL<|lf 1 ru Z<|bo sk Z<|ba vT Z ?_;refine dC 43 (int (d.bu.length:Int)) (congrArg (fun n:Nat=>int (n:Int)) (pH _)) ?_;refine ae Z<|Y<|aB ?_;refine aW [1,2,42,43] [2001] (D:=Nat) (fun a=>[(44,int (a:Int))]) (fun a=>[]) (fun a=>a<=d.bu.length/\(d.bu.take a).all (kS d.cells.length)=true) (fun a=>d.bu.length-a) (0) (⟨Nat.zero_le _,rfl⟩) ⟨rfl,trivial⟩ trivial ?_;intro i hI;have hJ:i<=d.bu.length/\(d.bu.take i).all (kS d.cells.length)=true:=hI;refine sL<|ak Z<|Y<|aS<|cE rfl ?_ ?_
 ·intro h7;refine aK<|gT<|aS<|aB<|aS ?_;have hi:i<d.bu.length:=by have h:=h7;simp only[decide_eq_true_eq]at h;omega
  refine aL<|li i uz Z (td hi)<|d6 kj AY Z<|ab (zA 2006 CA Z) Z<|lT [1,2,6,42,43,44,47] [2001,2006] ?_;refine ab (zB 2006 E0 E1 Z) Z<|nA<|lf 0 xG Z<|aj ac Z<|ak Z<|aQ Z ?_;refine AL.bool (t:=51) rfl ?_ ?_
  ·intro h8;refine aa Z<|aa Z<|aa Z<|aa Z<|aa Z<|aa Z<|aU Z<|bM Z<|aa Z<|aa Z<|aa Z<|aa Z<|aU Z<|Y<|aY Z<|sL<|ar Z<|Y<|aR<|rB<|rT<|rT<|rB<|rT ?_;have hc:kS d.cells.length d.bu[i]=false:=by
    unfold kS;try unfold aI
    rw[Bool.eq_iff_iff];simp only[ap,decide_eq_true_eq,decide_eq_false_iff_not,Bool.and_eq_true,Bool.and_eq_false_iff,Bool.or_eq_true,Bool.not_eq_true,Bool.not_eq_false,Bool.not_eq_true',Bool.not_eq_false',Bool.false_eq_true,aI,iff_false,iff_true,ge_iff_le,gt_iff_lt,ne_eq,bne_iff_ne]at *;omega
   rw[C6 (zD hi hc)];trivial
  intro h8;refine lf 0 xG Z<|aj ac Z<|lf 0 n9 Z<|bo oB Z<|ba po Z ?_;refine dC 56 (int (d.cells.length:Int)) (congrArg (fun n:Nat=>int (n:Int)) (fU _)) ?_;refine ak Z<|bj Z<|aQ Z ?_;refine AL.bool (t:=59) rfl ?_ ?_
  ·intro h9;refine aa Z<|aa Z<|aa Z<|aa Z<|aU Z<|Y<|aY Z<|sL<|ar Z<|Y<|aR<|rB<|rT<|rT<|rB<|rT ?_;have hc:kS d.cells.length d.bu[i]=false:=by
    unfold kS;try unfold aI
    rw[Bool.eq_iff_iff];simp only[ap,decide_eq_true_eq,decide_eq_false_iff_not,Bool.and_eq_true,Bool.and_eq_false_iff,Bool.or_eq_true,Bool.not_eq_true,Bool.not_eq_false,Bool.not_eq_true',Bool.not_eq_false',Bool.false_eq_true,aI,iff_false,iff_true,ge_iff_le,gt_iff_lt,ne_eq,bne_iff_ne]at *;omega
   rw[C6 (zD hi hc)];trivial
  intro h9;refine lf 1 zm Z<|bo kb Z<|ba kE Z<|ak Z<|bj Z<|Y<|cE rfl ?_ ?_
  ·intro dh;refine sL<|ar Z<|Y<|aR<|rB<|rT<|rT<|rB<|rT ?_;have hc:kS d.cells.length d.bu[i]=false:=by
    unfold kS;try unfold aI
    rw[Bool.eq_iff_iff];simp only[ap,decide_eq_true_eq,decide_eq_false_iff_not,Bool.and_eq_true,Bool.and_eq_false_iff,Bool.or_eq_true,Bool.not_eq_true,Bool.not_eq_false,Bool.not_eq_true',Bool.not_eq_false',Bool.false_eq_true,aI,iff_false,iff_true,ge_iff_le,gt_iff_lt,ne_eq,bne_iff_ne]at *;omega
   rw[C6 (zD hi hc)];trivial
  intro dh;refine aK<|gB<|gT<|aL<|bg Z<|ae Z<|Y ?_;have hc:kS d.cells.length d.bu[i]=true:=by
   unfold kS;try unfold aI
   rw[Bool.eq_iff_iff];simp only[ap,decide_eq_true_eq,decide_eq_false_iff_not,Bool.and_eq_true,Bool.and_eq_false_iff,Bool.or_eq_true,Bool.not_eq_true,Bool.not_eq_false,Bool.not_eq_true',Bool.not_eq_false',Bool.false_eq_true,aI,iff_false,iff_true,ge_iff_le,gt_iff_lt,ne_eq,bne_iff_ne]at *;omega
  refine⟨(i+1),⟨hi,Bb hi hJ.2 hc⟩,by omega,x_11,trivial,rfl,rfl⟩
 intro h7;refine aE<|eT<|eT<|eB<|gA<|cI Z<|Y<|aR ?_;have Jj:i=d.bu.length:=by have h:=h7;have h2:=hJ.1;simp only[decide_eq_false_iff_not]at h;omega
 have hB:d.bu.all (kS d.cells.length)=true:=by have h:=hJ.2;rwa [Jj,List.take_length]at h
 rw[PB gR hA hB];trivial
theorem wL{d:du}(h:ik d=true):(1<=d.cells.length/\d.cells.length<=600/\d.bu.length<=600)/\d.cells.all lL=true/\d.bu.all (kS d.cells.length)=true:=by
 unfold ik aI at h;grind
theorem Jk{d:du}(h:ik d=true){j:Nat}(hj:j<d.bu.length):d.bu[j].bytes.length=128:=by
 have:=List.all_eq_true.1 (wL h).2.2 _ (List.getElem_mem hj);simp_all[kS]
theorem PC{d:du}(h:ik d=true){j:Nat}(hj:j<d.cells.length):d.cells[j].bytes.length<=128:=by
 have:=List.all_eq_true.1 (wL h).2.1 _ (List.getElem_mem hj);unfold lL at this;grind
theorem PD{i:Int}{b:List Int}:∀(ws:List gq) (j:Nat),kD (ws.drop j) i=some b->kD ws i=some b
 |_,0,h=>h
 |[],_+1,h=>h
 |w::r,j+1,h=>by
  have:=PD r j h;show (match kD r i with|some b=>some b|none=>_)=some b;rw[this]
theorem PE{ws:List gq}{i:Int}{j:Nat}(hj:j<ws.length)(h:kD (ws.drop (j+1)) i=none)(he:ws[j].at_=i):kD ws i=some ws[j].bytes:=PD ws j (by
 rw[List.drop_eq_getElem_cons hj];simp_all[kD])
theorem PF{ws:List gq}{i:Int}{j:Nat}(hj:j<ws.length)(h:kD (ws.drop (j+1)) i=none)(he:ws[j].at_≠i):kD (ws.drop j) i=none:=by
 rw[List.drop_eq_getElem_cons hj];simp_all[kD]
theorem Fx{d:du}{i:Nat}{b:List Int}(h:kD d.bu i=some b):io d i=b:=by grind[io]
theorem Fy{d:du}{i:Nat}(hi:i<d.cells.length)(h:kD d.bu i=none):io d i=yP d.cells[i].bytes:=by grind[io]
theorem x_67{p:Prop}(c:p:=by have h:=h2;simpa using h):p:=c
theorem Zz(d:du)(i:Nat)(hd:ik d=true)(hi:i<d.cells.length):GC prog 248 [mt d,int (i:Int)] [] (.own 1) [(1,iT (io d i))]:=by
 refine gi 4 func248 rfl ntmps248 rfl ?_;intro L O w0;refine sL<|ab (zX 2002 Z) Z<|e9 Z<|Y<|aS<|aS ?_;have gR:=(wL hd).1;refine aL<|lf 1 ru Z<|bo sk Z<|ba vT Z ?_;refine dC 8 (int (d.bu.length:Int)) (congrArg (fun n:Nat=>int (n:Int)) (pH _)) ?_;refine bg Z<|ao Z<|Y<|aB ?_;refine aW [1,2,4] [2002] (D:=Nat) (fun a=>[(5,int ((d.bu.length:Int)-1-(a:Int)))]) (fun a=>[]) (fun a=>a<=d.bu.length/\kD (d.bu.drop (d.bu.length-a)) i=none) (fun a=>d.bu.length-a) (0) (⟨Nat.zero_le _,by rw[Nat.sub_zero,List.drop_length];rfl⟩) x_11 trivial ?_;intro k hI;replace hI:k<=d.bu.length/\kD (d.bu.drop (d.bu.length-k)) i=none:=hI;refine aS<|sL<|ae Z<|ak Z<|Y<|cE rfl ?_ ?_
 ·intro V;refine aK<|gT<|aS<|aB<|aS ?_;have hk:k<d.bu.length:=by have h:=V;simp only[ge_iff_le,decide_eq_true_eq]at h;omega
  have hj:(d.bu.length-1-k)<d.bu.length:=by omega
  have hJ:d.bu.length-(k+1)=(d.bu.length-1-k):=by omega
  have hK:kD (d.bu.drop ((d.bu.length-1-k)+1)) i=none:=by have h:=hI.2;rwa [show d.bu.length-k=(d.bu.length-1-k)+1 by omega]at h
  refine aL<|lf 1 ru Z<|bo sk Z<|ae Z<|jK 16 ((d.bu.length-1-k:Nat):Int) rfl x_2<|li ((d.bu.length-1-k)) uz rfl (td hj)<|lq (rd (x:=.rp _) (nM xG rfl) rfl)<|oy ac Z<|ae Z<|ak Z<|Y<|cE rfl ?_ ?_
  ·intro h2;refine sL<|lf 1 ru Z<|bo sk Z<|ae Z<|jK 24 ((d.bu.length-1-k:Nat):Int) rfl x_2<|li ((d.bu.length-1-k)) uz rfl (td hj)<|lq (rd (x:=.rp _) (nM zm rfl) rfl)<|DO kb Z<|ab (zC [(1,1)] [1] [] func229 (He d.bu[(d.bu.length-1-k)].bytes (by rw[Jk hd hj];decide)) (trivial) rfl rfl) Z<|lT [1,2,4,5,28] [1,2002] ?_;refine bD Z<|Y<|aR<|rB<|rT<|rT<|rB<|rT ?_;rw[Fx (PE hj hK x_67)];trivial
  intro h2;refine aK<|gB<|gT<|aL<|ae Z<|bg Z<|ao Z<|Y ?_;refine⟨(k+1),⟨by omega,by grind[PF]⟩,by omega,x_11,trivial,rfl,rfl⟩
 intro V;refine aE<|eT<|eT<|eB<|gT<|aS ?_;have dZ:k=d.bu.length:=by have h:=V;have h2:=hI.1;simp only[ge_iff_le,decide_eq_false_iff_not]at h;omega
 have hN:kD d.bu i=none:=by have h:=hI.2;rwa [dZ,Nat.sub_self,List.drop_zero]at h
 refine aL<|lf 0 n9 Z<|bo oB Z<|ae Z<|li i xE rfl (vw hi)<|d6 qN zn Z<|ab (zC [(1,1)] [1] [] func157 (Zx d.cells[i].bytes (Nat.le_trans (PC hd hi) x_3)) (trivial) rfl rfl) Z<|bD Z<|Y<|aR ?_;rw[Fy hi hN];trivial
theorem Sq(d:du)(i:Nat)(hd:ik d=true)(hi:i<d.cells.length):GC prog 248 [mt d,int (i:Int)] [] (gV (io d i)) []:=(Zz d i hd hi).ui
theorem ZA(d:du)(i:Nat)(hd:ik d=true)(hi:i<d.cells.length):GC prog 177 [mt d,int (i:Int)] [] (.au [.own 1,aD true]) [(1,iT (io d i))]:=by
 refine GC.intro (rs:=[.tmp 4,.tmp 5]) func177 rfl ntmps177 x_8 ⟨rfl,rfl,trivial⟩ ?_;intro L O w0;refine sL<|ab (zX 2002 rfl) Z<|e9 Z<|ar Z<|Y<|aS<|sL<|aP nq mE Z<|ab (zC [] [] [] func87 (FU d) (trivial) rfl rfl) Z<|bJ 8 true rfl (hd)<|ma Z<|dm Z<|ae Z<|ak Z<|bJ 12 false rfl x_19<|bL Z<|dm Z<|ae Z<|lf 0 n9 Z<|bo oB Z<|ba po rfl ?_;refine dC 18 (int (d.cells.length:Int)) (congrArg (fun n:Nat=>int (n:Int)) (fU _)) ?_;refine ak Z<|bJ 19 false rfl x_14<|bL Z<|Y<|aN Z<|aK<|gT<|aS<|aS ?_;have gR:=(wL hd).1;refine aL<|lf 1 ru Z<|bo sk Z<|ba vT Z ?_;refine dC 23 (int (d.bu.length:Int)) (congrArg (fun n:Nat=>int (n:Int)) (pH _)) ?_;refine bg Z<|ao Z<|Y<|aB ?_;refine aW [1,2,4,5] [2002] (D:=Nat) (fun a=>[(6,int ((d.bu.length:Int)-1-(a:Int)))]) (fun a=>[]) (fun a=>a<=d.bu.length/\kD (d.bu.drop (d.bu.length-a)) i=none) (fun a=>d.bu.length-a) (0) (⟨Nat.zero_le _,by rw[Nat.sub_zero,List.drop_length];rfl⟩) x_11 trivial ?_;intro k hI;replace hI:k<=d.bu.length/\kD (d.bu.drop (d.bu.length-k)) i=none:=hI;refine aS<|sL<|ae Z<|ak Z<|Y<|cE rfl ?_ ?_
 ·intro V;refine aK<|gT<|aS<|aB<|aS ?_;have hk:k<d.bu.length:=by have h:=V;simp only[ge_iff_le,decide_eq_true_eq]at h;omega
  have hj:(d.bu.length-1-k)<d.bu.length:=by omega
  have hJ:d.bu.length-(k+1)=(d.bu.length-1-k):=by omega
  have hK:kD (d.bu.drop ((d.bu.length-1-k)+1)) i=none:=by have h:=hI.2;rwa [show d.bu.length-k=(d.bu.length-1-k)+1 by omega]at h
  refine aL<|lf 1 ru Z<|bo sk Z<|ae Z<|jK 31 ((d.bu.length-1-k:Nat):Int) rfl x_2<|li ((d.bu.length-1-k)) uz rfl (td hj)<|lq (rd (x:=.rp _) (nM xG rfl) rfl)<|oy ac Z<|lT [1,2,4,5,6,34] [2002] ?_;refine ae Z<|ak Z<|Y<|cE rfl ?_ ?_
  ·intro h2;refine sL<|ab (zS 1 (ah dF []) fh ie rfl x_106) Z<|lf 1 ru Z<|bo sk Z<|ae Z<|jK 40 ((d.bu.length-1-k:Nat):Int) rfl x_2<|li ((d.bu.length-1-k)) uz rfl (td hj)<|lq (rd (x:=.rp _) (nM zm rfl) rfl)<|DO kb Z<|ab (zP 1 fh ie mu rfl (Src.p rfl) (by have:=Jk hd hj;simp[ah];omega)) Z<|bD Z<|cI Z<|Y<|aR<|rB<|rT<|rT<|rB<|rT ?_;rw[Fx (PE hj hK x_67)];trivial
  intro h2;refine aK<|gB<|gT<|aL<|ae Z<|bg Z<|ao Z<|Y ?_;refine⟨(k+1),⟨by omega,by grind[PF]⟩,by omega,x_11,trivial,rfl,rfl⟩
 intro V;refine aE<|eT<|eT<|eB<|gT<|aS ?_;have dZ:k=d.bu.length:=by have h:=V;have h2:=hI.1;simp only[ge_iff_le,decide_eq_false_iff_not]at h;omega
 have hN:kD d.bu i=none:=by have h:=hI.2;rwa [dZ,Nat.sub_self,List.drop_zero]at h
 refine aL<|lf 0 n9 Z<|bo oB Z<|ae Z<|li i xE rfl (vw hi)<|lq (rd (x:=.rp _) (nM uB rfl) rfl)<|DO kb Z<|ab (zC [(1,1)] [1] [] func154 (Zy d.cells[i].bytes (Nat.le_trans (PC hd hi) x_3)) (trivial) rfl rfl) Z<|lT [4,5,51] [1,2002] ?_;refine bD Z<|cI Z<|Y<|aR ?_;rw[Fy hi hN];trivial
theorem ZB(d:du)(i:Nat)(hd:ik d=true)(hi:i<d.cells.length):GC prog 177 [mt d,int (i:Int)] [] (.au [gV (io d i),aD true]) []:=(ZA d i hd hi).Aq

def oO(l:List fb):List (List PV):=l.map fun s=>[.v (.int .i64 s.seq),.v (.int .i64 s.dP),nQ s.body]
abbrev qg(l:List fb):AO:=.ai 141 3 (oO l)
theorem sX(l:List fb):(oO l).length=l.length:=List.length_map _
theorem Gi(l:List fb)(s:fb):oO l++[[.v (.int .i64 s.seq),.v (.int .i64 s.dP),nQ s.body]]=oO (l++[s]):=by grind[oO]
def yu(l:List fb):Int:=match l.getLast? with|some s=>s.dP|none=>0
theorem ZC(l:List fb)(s:fb):yu (l++[s])=s.dP:=by grind[yu]
theorem sW{acc:List fb}{b:List Int}:pA acc b=true↔g8 b=true/\(gu b).seq=(acc.length:Int)/\yu acc<=(gu b).dP:=by
 unfold pA yu;cases h:acc.getLast? with
 |some s=>grind
 |none=>
  simp only[Bool.and_true,Bool.and_eq_true,beq_iff_eq];grind[qW,oN]
theorem Jl(d:du):(oh d).length=d.cells.length:=by grind[oh]
theorem PG{d:du}{i:Nat}(h:i<d.cells.length):(oh d).drop i=io d i::(oh d).drop (i+1):=by
 grind[List.drop_eq_getElem_cons,oh]
theorem K4{d:du}{acc:List fb}(h:acc.length<d.cells.length)(hg:pA acc (io d acc.length)=true):og ((oh d).drop acc.length) acc=og ((oh d).drop (acc++[gu (io d acc.length)]).length) (acc++[gu (io d acc.length)]):=by
 simp_all[PG,og]
theorem BR{d:du}{acc:List fb}(h:acc.length<d.cells.length)(hg:pA acc (io d acc.length)=false):og ((oh d).drop acc.length) acc=acc:=by
 simp_all[PG,og]
theorem BS{d:du}{acc:List fb}(h:acc.length=d.cells.length):og ((oh d).drop acc.length) acc=acc:=by
 rw[List.drop_of_length_le (by rw[Jl];omega)];rfl
theorem DP{d:du}(h:ik d=true):dH d=og (oh d) []:=if_pos h
theorem DQ{d:du}(h:ik d=false):dH d=[]:=if_neg x_137
def qK(d:du):Prop:=(∀c∈d.cells,fA c.bytes)/\∀w∈d.bu,fA w.bytes
theorem Jm{i:Int}{b:List Int}:∀ {ws:List gq},kD ws i=some b->∃w∈ws,w.bytes=b
 |[],h=>by cases h
 |w::r,h=>by
  rw[kD]at h;cases q:kD r i with
  |some b'=>
   rw[q]at h;injection h with h;subst h;obtain⟨w',V,h2⟩:=Jm q;exact⟨w',List.mem_cons_of_mem _ V,h2⟩
  |none=>
   rw[q]at h;dsimp only at h;split at h
   ·injection h with h;exact⟨w,List.mem_cons_self,h⟩
   cases h
theorem Gj{d:du}(hb:qK d){i:Nat}(hi:i<d.cells.length):fA (io d i):=by
 cases q:kD d.bu i with
 |some b=>rw[Fx q];obtain⟨w,V,h2⟩:=Jm q;rw[<-h2];exact hb.2 w V
 |none=>
  rw[Fy hi q];unfold yP;split
  ·exact .zero _
  exact hb.1 _ (List.getElem_mem hi)
theorem K3{d:du}(h:ik d=true){i:Nat}(hi:i<d.cells.length):(io d i).length=128:=by
 cases q:kD d.bu i with
 |some b=>
  rw[Fx q];obtain⟨w,V,h2⟩:=Jm q;obtain⟨j,hj,rfl⟩:=List.getElem_of_mem V;grind[Jk]
 |none=>
  rw[Fy hi q];have:=List.all_eq_true.1 (wL h).2.1 _ (List.getElem_mem hi);unfold lL at this;simp only[Bool.or_eq_true,decide_eq_true_eq]at this;grind[Jg,Jh]
theorem x_116{p:Prop}(c:p:=by exact congrArg (fun n:Nat=>int (n:Int)) (by rw[sX,hE])):p:=c
theorem ZD(d:du)(hb:qK d):GC prog 88 [mt d] [] (.au [.own 1,int ((dH d).length:Int)]) [(1,qg (dH d))]:=by
 refine GC.intro (rs:=[.tmp 2,.tmp 3]) func88 rfl ntmps88 x_8 ⟨rfl,rfl,trivial⟩ ?_;intro L O w0;refine sL<|ab (zX 2001 rfl) Z<|e9 Z<|ao Z<|nA<|ab (zS 1 (oO []) tY pB rfl (by trivial)) Z<|bD Z<|Y<|aS<|sL<|aP nq mE Z<|ab (zC [] [] [] func87 (FU d) (trivial) rfl rfl) Z<|bX Z<|Y<|cE rfl ?_ ?_
 ·intro V;refine sL<|bW Z<|bD Z<|ao Z<|Y<|aR<|rT ?_;have hd:ik d=false:=by simpa using V
  rw[DQ hd];trivial
 intro V;refine aK<|gT<|aS ?_;have hd:ik d=true:=by simpa using V
 have gR:=(wL hd).1;refine aL<|ao Z<|Y<|aS<|sL<|ao Z<|Y<|aB ?_;refine aW [1,2,3] [2001] (D:=List fb) (fun l=>[(6,int (l.length:Int)),(5,int (yu l)),(4,.own 1)]) (fun l=>[(1,qg l)]) (fun l=>l.length<=d.cells.length/\og ((oh d).drop l.length) l=dH d) (fun l=>d.cells.length-l.length) ([]) (⟨Nat.zero_le _,(DP hd).symm⟩) ⟨rfl,rfl,rfl,trivial⟩ ⟨rfl,trivial⟩ ?_;intro acc hI;replace hI:acc.length<=d.cells.length/\og ((oh d).drop acc.length) acc=dH d:=hI;refine aS<|sL<|ae Z<|lf 0 n9 Z<|bo oB Z<|ba po Z ?_;refine dC 19 (int (d.cells.length:Int)) (congrArg (fun n:Nat=>int (n:Int)) (fU _)) ?_;refine ak Z<|Y<|cE rfl ?_ ?_
 ·intro h2;refine aK<|gT<|aS<|aB<|aS ?_;have hj:acc.length<d.cells.length:=by have h:=h2;simp only[decide_eq_true_eq]at h;omega
  refine aL<|aP nq mE Z<|ae Z<|ab (zC [] [] [] func177 (ZB d acc.length hd hj) (trivial) Z Z) Z<|lT [1,2,3,4,5,6,26] [1,2001] ?_;refine cT (.au [c7,vB true]) Z<|rF Z<|iB (vB true) Z<|nv Z<|cI Z<|nA<|bm Z<|ab (zC [] [] [] func178 (Zw (io d acc.length) (Gj hb hj) (by grind[K3])) (trivial) rfl rfl) Z<|cT (.au [pv,fy]) Z<|iB pv Z<|eU Z<|ab (zA 2009 pB rfl) Z<|ab (zB 2009 mL mM rfl) Z<|bv Z<|Y<|aS<|sL<|aQ Z<|bX Z<|aQ rfl ?_;refine AL.bool (t:=36) rfl ?_ ?_
  ·intro h3;refine aa Z<|aa Z<|aa Z<|aa Z<|aU Z<|bM Z<|aa Z<|aa Z<|aa Z<|aa Z<|aU Z<|Y<|aY Z<|aE<|eT<|eO<|eT<|eT<|eB<|gT<|aS ?_;have hE:acc=dH d:=by first|(rw[<-hI.2];exact(BS (by have h:=h3;simp only[decide_eq_false_iff_not]at h;omega)).symm)|(rw[<-hI.2];refine(BR hj (Bool.eq_false_iff.2 fun q=>?_)).symm;obtain⟨q1,q2,q3⟩:=sW.1 q;first|(have h:=V;rw[dv q1]at h;simp only[decide_eq_true_eq]at h;omega)|(have h:=V;rw[q1]at h;exact absurd h x_3)|(have h:=V;rw[dv q1]at h;simp[q2]at h;done)|(have h:=h2;rw[dv q1]at h;simp only[decide_eq_true_eq]at h;omega)|(have h:=h2;rw[q1]at h;exact absurd h x_3)|(have h:=h2;rw[dv q1]at h;simp[q2]at h;done)|(have h:=h3;rw[dv q1]at h;simp only[decide_eq_true_eq]at h;omega)|(have h:=h3;rw[q1]at h;exact absurd h x_3)|(have h:=h3;rw[dv q1]at h;simp[q2]at h;done))
   refine aL<|bW Z<|bW Z<|ba yw Z ?_;refine dC 56 (int ((dH d).length:Int)) (Eq.trans (b:=int ((oO acc).length:Int)) rfl (congrArg (fun n:Nat=>int (n:Int)) (by rw[sX,hE]))) ?_;refine bD Z<|ao Z<|Y<|aR ?_;rw[hE];trivial
  intro h3;refine lf 0 tX Z<|aj ac Z<|ae Z<|ak Z<|bj Z<|aQ Z<|lT [1,2,3,4,5,6,9,42] [1,2001,2009] ?_;refine AL.bool (t:=42) rfl ?_ ?_
  ·intro h4;refine aa Z<|aa Z<|aa Z<|aa Z<|aU Z<|Y<|aY Z<|aE<|eT<|eO<|eT<|eT<|eB<|gT<|aS ?_;have hE:acc=dH d:=by first|(rw[<-hI.2];exact(BS (by have h:=h4;simp only[decide_eq_false_iff_not]at h;omega)).symm)|(rw[<-hI.2];refine(BR hj (Bool.eq_false_iff.2 fun q=>?_)).symm;obtain⟨q1,q2,q3⟩:=sW.1 q;first|(have h:=V;rw[dv q1]at h;simp only[decide_eq_true_eq]at h;omega)|(have h:=V;rw[q1]at h;exact absurd h x_3)|(have h:=V;rw[dv q1]at h;simp[q2]at h;done)|(have h:=h2;rw[dv q1]at h;simp only[decide_eq_true_eq]at h;omega)|(have h:=h2;rw[q1]at h;exact absurd h x_3)|(have h:=h2;rw[dv q1]at h;simp[q2]at h;done)|(have h:=h3;rw[dv q1]at h;simp only[decide_eq_true_eq]at h;omega)|(have h:=h3;rw[q1]at h;exact absurd h x_3)|(have h:=h3;rw[dv q1]at h;simp[q2]at h;done)|(have h:=h4;rw[dv q1]at h;simp only[decide_eq_true_eq]at h;omega)|(have h:=h4;rw[q1]at h;exact absurd h x_3)|(have h:=h4;rw[dv q1]at h;simp[q2]at h;done))
   refine aL<|bW Z<|bW Z<|ba yw Z ?_;refine dC 56 (int ((dH d).length:Int)) (Eq.trans (b:=int ((oO acc).length:Int)) rfl (congrArg (fun n:Nat=>int (n:Int)) (by rw[sX,hE]))) ?_;refine bD Z<|ao Z<|Y<|aR ?_;rw[hE];trivial
  intro h4;refine lf 1 rQ Z<|aj ac Z<|ae Z<|ak Z<|bj Z<|Y<|cE rfl ?_ ?_
  ·intro h5;refine aE<|eT<|eO<|eT<|eT<|eB<|gT<|aS ?_;have hE:acc=dH d:=by first|(rw[<-hI.2];exact(BS (by have h:=h5;simp only[decide_eq_false_iff_not]at h;omega)).symm)|(rw[<-hI.2];refine(BR hj (Bool.eq_false_iff.2 fun q=>?_)).symm;obtain⟨q1,q2,q3⟩:=sW.1 q;first|(have h:=V;rw[dv q1]at h;simp only[decide_eq_true_eq]at h;omega)|(have h:=V;rw[q1]at h;exact absurd h x_3)|(have h:=V;rw[dv q1]at h;simp[q2]at h;done)|(have h:=h2;rw[dv q1]at h;simp only[decide_eq_true_eq]at h;omega)|(have h:=h2;rw[q1]at h;exact absurd h x_3)|(have h:=h2;rw[dv q1]at h;simp[q2]at h;done)|(have h:=h3;rw[dv q1]at h;simp only[decide_eq_true_eq]at h;omega)|(have h:=h3;rw[q1]at h;exact absurd h x_3)|(have h:=h3;rw[dv q1]at h;simp[q2]at h;done)|(have h:=h4;rw[dv q1]at h;simp only[decide_eq_true_eq]at h;omega)|(have h:=h4;rw[q1]at h;exact absurd h x_3)|(have h:=h4;rw[dv q1]at h;simp[q2]at h;done)|(have h:=h5;rw[dv q1]at h;simp only[decide_eq_true_eq]at h;omega)|(have h:=h5;rw[q1]at h;exact absurd h x_3)|(have h:=h5;rw[dv q1]at h;simp[q2]at h;done))
   refine aL<|bW Z<|bW Z<|ba yw Z ?_;refine dC 56 (int ((dH d).length:Int)) (Eq.trans (b:=int ((oO acc).length:Int)) rfl (congrArg (fun n:Nat=>int (n:Int)) (by rw[sX,hE]))) ?_;refine bD Z<|ao Z<|Y<|aR ?_;rw[hE];trivial
  intro h5;refine aK<|gT<|aS ?_;have hF:g8 (io d acc.length)=true:=by first|grind|grind|grind|(simpa using h4)|(simpa using h5)
  have hg:pA acc (io d acc.length)=true:=sW.2 ⟨hF,by grind[dv],by grind[dv]⟩;refine aL<|lf 1 rQ Z<|aj ac Z<|ao Z<|Y<|aL<|bW Z<|aP pv nP Z<|ab (zS 2052 [[.v (.int .i64 (kP (io d acc.length)).seq),.v (.int .i64 (kP (io d acc.length)).dP),nQ (kP (io d acc.length)).body]] tY pB rfl x_19) Z<|lT [1,2,3,4,5,6,50,52] [1,2001,2009,2052] ?_;refine ab (zP 1 tY pB Gh rfl x_18 (by grind[sX])) Z<|bD Z<|lN<|gB<|gT<|aL<|ae Z<|bg Z<|ao Z<|Y ?_;refine⟨(acc++[gu (io d acc.length)]),⟨by grind,by grind[K4]⟩,by grind,⟨(Eq.trans (b:=int _) rfl (congrArg int x_19)),(Eq.trans (b:=int (kP (io d acc.length)).dP) rfl (congrArg int (by rw[ZC,dv hF]))),rfl,trivial⟩,⟨(Eq.trans (b:=AO.ai 141 3 (oO acc++[[.v (.int .i64 (kP (io d acc.length)).seq),.v (.int .i64 (kP (io d acc.length)).dP),nQ (kP (io d acc.length)).body]])) rfl (by rw[dv hF,Gi])),trivial⟩,rfl,rfl⟩
 intro h2;refine aE<|eT<|eT<|eB<|gT<|aS ?_;have hE:acc=dH d:=by first|(rw[<-hI.2];exact(BS (by have h:=h2;simp only[decide_eq_false_iff_not]at h;omega)).symm)|(rw[<-hI.2];refine(BR hj (Bool.eq_false_iff.2 fun q=>?_)).symm;obtain⟨q1,q2,q3⟩:=sW.1 q;first|(have h:=V;rw[dv q1]at h;simp only[decide_eq_true_eq]at h;omega)|(have h:=V;rw[q1]at h;exact absurd h x_3)|(have h:=V;rw[dv q1]at h;simp[q2]at h;done)|(have h:=h2;rw[dv q1]at h;simp only[decide_eq_true_eq]at h;omega)|(have h:=h2;rw[q1]at h;exact absurd h x_3)|(have h:=h2;rw[dv q1]at h;simp[q2]at h;done))
 refine aL<|bW Z<|bW Z<|ba yw Z ?_;refine dC 56 (int ((dH d).length:Int)) (Eq.trans (b:=int ((oO acc).length:Int)) rfl (congrArg (fun n:Nat=>int (n:Int)) (by rw[sX,hE]))) ?_;refine bD Z<|ao Z<|Y<|aR ?_;rw[hE];trivial
theorem Kc(d:du)(hb:qK d):GC prog 88 [mt d] [] (.au [.p (.ab 141 3 (oO (dH d))),int ((dH d).length:Int)]) []:=(ZD d hb).Aq
theorem afB(l:List (List Int)):∀t:Int,0<=t->0<=l.foldl (fun t b=>max t (kP b).dP) t:=by
 induction l with
 |nil=>exact fun t h=>h
 |cons b l ih=>exact fun t h=>ih _ (by show 0<=max t (kP b).dP;omega)
theorem acM{d:du}{k:Nat}(hj:k<d.cells.length):abF ((oh d).take (k+1))=max (abF ((oh d).take k)) (kP (io d k)).dP:=by
 rw[List.take_succ_eq_append_getElem (by rw[Jl];exact hj)];unfold abF;rw[List.foldl_append];have:(oh d)[k]'(by rw[Jl];exact hj)=io d k:=by unfold oh;simp
 rw[this];rfl
theorem afC{d:du}{k:Nat}(hj:k<d.cells.length)(h:abF ((oh d).take k)<(kP (io d k)).dP):(kP (io d k)).dP=abF ((oh d).take (k+1)):=by rw[acM hj];omega
theorem afD{d:du}{k:Nat}(hj:k<d.cells.length)(h:¬abF ((oh d).take k)<(kP (io d k)).dP):abF ((oh d).take k)=abF ((oh d).take (k+1)):=by rw[acM hj];omega
theorem afE{d:du}{k:Nat}(hj:k<d.cells.length)(h:g8 (io d k)=false):abF ((oh d).take k)=abF ((oh d).take (k+1)):=by
 have h0:=afB ((oh d).take k) 0 (Int.le_refl _);rw[acM hj,TD h];show _=max _ (0:Int);unfold abF;omega
theorem adS{d:du}(h:ik d=true):m2 d=abF (oh d):=if_pos h
theorem adT{d:du}(h:ik d=false):m2 d=0:=if_neg x_137
theorem ae1(d:du)(hb:qK d):GC prog 164 [mt d] [] (int (m2 d)) []:=by
 refine gi 2 func164 rfl ntmps164 rfl ?_;intro L O w0;refine sL<|ab (zX 2001 Z) Z<|ao Z<|nA<|ao Z<|Y<|aS<|sL<|aP nq mE Z<|ab (zC [] [] [] func87 (FU d) (trivial) Z Z) Z<|bX Z<|Y<|cE rfl ?_ ?_
 ·intro V;refine sL<|ae Z<|ao Z<|Y<|aR<|rT ?_;have hd:ik d=false:=by simpa using V
  rw[adT hd];refine ax ?_ trivial;rfl
 intro V;refine aK<|gT<|aS<|aS ?_;have hd:ik d=true:=by simpa using V
 have gR:=(wL hd).1;refine aL<|ao Z<|Y<|aB ?_;refine aW [1,2] [2001] (D:=Nat) (fun a=>[(4,int (a:Int)),(3,int (abF ((oh d).take a)))]) (fun a=>[]) (fun a=>a<=d.cells.length) (fun a=>d.cells.length-a) (0) (Nat.zero_le _) ⟨rfl,rfl,trivial⟩ trivial ?_;intro k hI;replace hI:k<=d.cells.length:=hI;refine aS<|sL<|ae Z<|lf 0 n9 Z<|bo oB Z<|ba po Z ?_;refine dC 16 (int (d.cells.length:Int)) (congrArg (fun n:Nat=>int (n:Int)) (fU _)) ?_;refine ak Z<|Y<|cE rfl ?_ ?_
 ·intro h2;refine aK<|gT<|aS<|aB<|aS ?_;have hj:k<d.cells.length:=by have h:=h2;simp only[decide_eq_true_eq]at h;omega
  refine aL<|aP nq mE Z<|ae Z<|ab (zC [] [] [] func177 (ZB d k hd hj) (trivial) Z Z) Z<|lT [1,2,3,4,23] [2001] ?_;refine cT (.au [c7,vB true]) Z<|rF Z<|iB (vB true) Z<|nv Z<|cI Z<|nA<|bm Z<|ab (zC [] [] [] func178 (Zw (io d k) (Gj hb hj) (by rw[K3 hd hj];decide)) (trivial) rfl rfl) Z<|cT (.au [pv,fy]) Z<|iB pv Z<|eU Z<|ab (zA 2007 pB rfl) Z<|ab (zB 2007 mL mM rfl) Z<|bv Z<|nA<|aQ Z<|aQ rfl ?_;refine AL.bool (t:=32) rfl ?_ ?_
  ·intro h3;refine lf 1 rQ Z<|aj ac Z<|ae Z<|ak Z<|bj Z<|Y<|cE rfl ?_ ?_
   ·intro h4;refine aL<|lf 1 rQ Z<|aj ac Z<|ao Z<|lN<|gB<|gT<|aL<|ae Z<|bg Z<|ao Z<|Y ?_;refine⟨(k+1),hj,by show d.cells.length-(k+1)<d.cells.length-k;omega,⟨(iq rfl),(Eq.trans (b:=int ((kP (io d k)).dP)) rfl (congrArg int (afC hj x_86))),trivial⟩,trivial,rfl,rfl⟩
   intro h4;refine aK<|gB<|gT<|aL<|ae Z<|bg Z<|ao Z<|Y ?_;refine⟨(k+1),hj,by show d.cells.length-(k+1)<d.cells.length-k;omega,⟨(iq rfl),(Eq.trans (b:=int (abF ((oh d).take k))) rfl (congrArg int (afD hj x_86))),trivial⟩,trivial,rfl,rfl⟩
  intro h3;refine aa Z<|aa Z<|aa Z<|aa Z<|bL Z<|lT [1,2,3,4,7,37] [2001,2007] ?_;refine Y<|aN Z<|aK<|gB<|gT<|aL<|ae Z<|bg Z<|ao Z<|Y ?_;refine⟨(k+1),hj,by show d.cells.length-(k+1)<d.cells.length-k;omega,⟨(iq rfl),(Eq.trans (b:=int (abF ((oh d).take k))) rfl (congrArg int (afE hj x_59))),trivial⟩,trivial,rfl,rfl⟩
 intro h2;refine aE<|eT<|eT<|eB<|gA<|ae Z<|ao Z<|Y<|aR ?_;have hk:k=d.cells.length:=by have h:=h2;simp only[decide_eq_false_iff_not]at h;omega
 have hT:abF (oh d)=abF ((oh d).take k):=by rw[List.take_of_length_le (by rw[Jl];omega)]
 rw[adS hd,hT];refine ax ?_ trivial;rfl
theorem PH{s:fb}:∀ {bs:List (List Int)} {acc:List fb},s∈og bs acc->s∈acc\/∃b∈bs,g8 b=true/\s=gu b
 |[],acc,h=>.inl h
 |b::r,acc,h=>by
  rw[og]at h;split at h
  ·rename_i hg;rcases PH h with q|⟨b',q1,q2⟩
   ·rcases List.mem_append.1 q with q|q
    ·exact .inl q
    exact .inr ⟨b,List.mem_cons_self,(sW.1 hg).1,List.mem_singleton.1 q⟩
   exact .inr ⟨b',List.mem_cons_of_mem _ q1,q2⟩
  exact .inl h
theorem K5{d:du}(hb:qK d){s:fb}(h:s∈dH d):fA s.body/\s.body.length<=100:=by
 cases hd:ik d
 ·grind[DQ]
 rw[DP hd]at h;rcases PH h with q|⟨b,q1,q2,rfl⟩
 ·cases q
 unfold oh at q1;obtain⟨i,hi,rfl⟩:=List.mem_map.1 q1;grind[LY,Gj,qW,oN]
theorem PI:∀ {bs:List (List Int)} {acc:List fb},(og bs acc).length<=acc.length+bs.length
 |[],acc=>by show acc.length<=_;omega
 |b::r,acc=>by
  rw[og];split
  ·have:=PI (bs:=r) (acc:=acc++[gu b]);simp at this ⊢;omega
  omega
theorem Gk(d:du):(dH d).length<=600:=by
 grind[ik,DQ,DP,PI,Jl,wL]
theorem Gg{l:List fb}{i:Nat}(h:i<l.length):(oO l)[i]? = some [.v (.int .i64 l[i].seq),.v (.int .i64 l[i].dP),nQ l[i].body]:=bS h
theorem K6{l:List fb}{k:Nat}(hk:k<l.length)(h:lK l[k].body=true):pj (l.take k)++[t6 l[k].body]=pj (l.take (k+1)):=by
 grind[List.take_succ_eq_append_getElem,Ja,pj]
theorem K7{l:List fb}{k:Nat}(hk:k<l.length)(h:lK l[k].body=false):pj (l.take k)=pj (l.take (k+1)):=by
 grind[List.take_succ_eq_append_getElem,pj]
theorem Gl(l:List fb):(pj l).length<=l.length:=List.length_filterMap_le _ _
abbrev uT(l:List aV):AO:=.ai 81 7 (ah fR l)
theorem QW(d:du)(hb:qK d):GC prog 34 [mt d] [] (.own 1) [(1,uT (f8 d))]:=by
 refine gi 2 func34 rfl ntmps34 rfl ?_;intro L O w0;refine sL<|ab (zX 2001 rfl) Z<|e9 Z<|nA<|ab (zS 1 (ah fR []) jk jl rfl (by trivial)) Z<|bD Z<|nA<|aP nq mE Z<|ab (zC [] [] [] func88 (Kc d hb) (trivial) rfl rfl) Z<|cT (.au [c7,c6]) Z<|rF Z<|dE Z<|nv Z<|ao Z<|Y<|aS<|sL<|bm Z<|ba yw rfl ?_;refine dC 17 (int ((dH d).length:Int)) (congrArg (fun n:Nat=>int (n:Int)) (sX _)) ?_;refine ae Z<|Y<|aB ?_;refine aW [2,16,17] [2001] (D:=Nat) (fun a=>[(18,int (a:Int)),(3,.own 1)]) (fun a=>[(1,uT (pj ((dH d).take a)))]) (fun a=>a<=(dH d).length) (fun a=>(dH d).length-a) (0) (Nat.zero_le _) ⟨rfl,rfl,trivial⟩ ⟨rfl,trivial⟩ ?_;intro k hI;replace hI:k<=(dH d).length:=hI;refine sL<|ak Z<|Y<|aS<|cE rfl ?_ ?_
 ·intro V;refine aK<|gT<|aS<|aB<|aS ?_;have hk:k<(dH d).length:=by have h:=V;simp only[decide_eq_true_eq]at h;omega
  have hS:=K5 hb (List.getElem_mem hk);have hL:=Gk d;have Sv:=Gl ((dH d).take k);have Sw:((dH d).take k).length<=600:=by rw[List.length_take];omega
  refine aL<|li k tY Z (Gg hk)<|d6 pv nP Z<|ab (zA 2007 pB Z) Z<|lT [2,3,7,16,17,18,21] [1,2001,2007] ?_;refine ab (zB 2007 mL mM rfl) Z<|nA<|lf 2 u' Z<|bo kb Z<|ab (zC [] [] [] func100 (Zp (dH d)[k].body hS.1 x_2) (trivial) rfl rfl) Z<|cT (.au [iK,fy]) Z<|iB iK Z<|eU Z<|ab (zA 2008 jl rfl) Z<|ab (zB 2008 mZ m0 rfl) Z<|bv Z<|nA<|aQ Z<|Y<|cE rfl ?_ ?_
  ·intro h2;refine aL<|bW Z<|aP iK dD Z<|ab (zS 2031 (ah fR [t6 (dH d)[k].body]) jk jl Z) Z<|lT [2,3,16,17,18,29,31] [1,2001,2007,2008,2031] ?_;refine ab (zP 1 jk jl sD rfl x_18 x_69) Z<|bD Z<|lN<|gB<|gT<|aL<|bg Z<|ae Z<|Y ?_;refine⟨(k+1),hk,by omega,x_83,⟨(Eq.trans (b:=AO.ai 81 7 (ah fR (pj ((dH d).take k))++ah fR [t6 (dH d)[k].body])) rfl (congrArg (AO.ai 81 7) (Eq.trans (rR _ _ _).symm (congrArg (ah fR) (K6 hk h2))))),trivial⟩,rfl,rfl⟩
  intro h2;refine aK<|gB<|gT<|aL<|bg Z<|ae Z<|Y ?_;refine⟨(k+1),hk,by omega,x_83,⟨(congrArg uT (K7 hk h2)),trivial⟩,rfl,rfl⟩
 intro V;refine aE<|eT<|eT<|eB<|gA<|bW Z<|bD Z<|Y<|aR ?_;have hk:k=(dH d).length:=by have h:=V;simp only[decide_eq_false_iff_not]at h;omega
 refine ax ?_ ⟨(congrArg (fun l=>uT (pj l)) (List.take_of_length_le x_2)),trivial⟩;rfl

theorem Sn{P:Program}{o:Oper}{τ:Nat->AV}{H:Nat->AO}{X:Nat->Bool}{fn:Fn}{c:Operand}{y:AV}(h:(o.op,ev τ c)=(.makeFunc fn #[] #[c],y)):Rd P o τ H X (.fQ fn [] [y]):=by
 simp only[Prod.mk.injEq]at h;rw[<-h.2];exact K0 (f:=[]) (cs:=[c]) h.1
abbrev acb(g:Value)(t:Int):AO:=.box 3 (some g) [int t]
theorem afF(g:Value)(a t:Int)(s:fb)(b:Bool):GC prog 239 [int a,sV s,aD b,.ptr 1 0 0] [(1,acb g t)] (aD true) [(1,acb g (max t s.dP))]:=by
 refine gi 7 func239 rfl ntmps239 rfl ?_;intro L O w0;refine sL<|ab (zX 2005 Z) Z<|ar Z<|nA<|aj ac Z<|lf 1 rQ Z<|aj ac Z<|lq (rd (x:=c6) (aeJ Z Z) Z)<|ab (zB 1 ca cb Z) Z<|nA<|cI Z<|Y<|aR ?_;refine ax ?_ ⟨rfl,trivial⟩;rfl
theorem afG(g:Value)(d:du)(hd:ik d=true)(hb:qK d):GC prog 180 [mt d,.fQ (.func 239) [] [.ptr 1 0 0]] [(1,acb g 0)] (.au []) [(1,acb g (abF (oh d)))]:=by
 refine GC.intro (rs:=[]) func180 rfl ntmps180 x_8 trivial ?_;intro L O w0;refine sL<|ab (zX 2002 Z) Z<|Y<|aS ?_;have gR:=(wL hd).1;refine aL<|lf 0 n9 Z<|bo oB Z<|ba po Z ?_;refine dC 9 (int (d.cells.length:Int)) (congrArg (fun n:Nat=>int (n:Int)) (fU _)) ?_;refine ae Z<|Y<|aB ?_;refine aW [1,2,9] [2002] (D:=Nat) (fun a=>[(10,int (a:Int))]) (fun a=>[(1,acb g (abF ((oh d).take a)))]) (fun a=>a<=d.cells.length) (fun a=>d.cells.length-a) (0) (Nat.zero_le _) ⟨rfl,trivial⟩ ⟨rfl,trivial⟩ ?_;intro k hI;replace hI:k<=d.cells.length:=hI;refine sL<|ak Z<|Y<|aS<|cE rfl ?_ ?_
 ·intro V;refine aK<|gT<|aS<|aB<|aS ?_;have hj:k<d.cells.length:=by have h:=V;simp only[decide_eq_true_eq]at h;omega
  refine aL<|ae Z<|ao Z<|nA<|aP nq mE Z<|ae Z<|ab (zC [] [] [] func248 (Sq d k hd hj) (trivial) rfl rfl) Z<|ab (zC [] [] [] func247 (Sr (io d k) (Gj hb hj) (by rw[K3 hd hj];decide)) (trivial) rfl rfl) Z<|cT (.au [pv,fy]) Z<|iB pv Z<|eU Z<|ab (zA 2005 pB rfl) Z<|lT [1,2,4,5,9,10,18,19] [1,2002,2005] ?_;refine ab (zB 2005 mL mM Z) Z<|bv Z<|nA<|cT (.fQ _ _ [.ptr 1 _ 0]) Z<|ae Z<|aP pv nP Z<|aQ Z ?_;refine ab (zC [(1,1)] [] [1] func239 (afF g (k:Int) (abF ((oh d).take k)) (kP (io d k)) (g8 (io d k))) x_16 rfl rfl) Z<|ma Z<|Y<|aN Z<|aK<|gB<|gT<|aL<|bg Z<|ae Z<|Y ?_;refine⟨(k+1),hj,by show d.cells.length-(k+1)<d.cells.length-k;omega,x_11,⟨(congrArg (acb g) (acM hj).symm),trivial⟩,rfl,rfl⟩
 intro V;refine aE<|eT<|eT<|eB ?_;have hk:k=d.cells.length:=by have h:=V;simp only[decide_eq_false_iff_not]at h;omega
 refine iZ ?_ ⟨(congrArg (acb g) (congrArg abF (List.take_of_length_le (by rw[Jl];omega)))),trivial⟩;rfl
theorem aeI(d:du)(hb:qK d):GC prog 172 [mt d] [] (int (m2 d)) []:=by
 refine gi 2 func172 rfl ntmps172 rfl ?_;intro L O w0;refine sL<|ab (zX 2001 Z) Z<|ao Z<|Y<|aS<|sL<|aP nq mE Z<|ab (zC [] [] [] func91 (J' d) (trivial) Z Z) Z<|bX Z<|Y<|cE rfl ?_ ?_
 ·intro V;refine sL<|ao Z<|Y<|aR<|rT ?_;have hd:ik d=false:=by simpa using V
  rw[adT hd];refine ax ?_ trivial;rfl
 intro V;refine aK<|gT<|aS ?_;have hd:ik d=true:=by simpa using V
 refine aL<|ab (zA 1 lY Z) Z<|ab (zB 1 ca cb Z) Z<|Y<|aS ?_;refine AW.tZ 1 rfl ?_;intro g;refine aL<|aP nq mE Z<|lq (rd (x:=.fQ _ _ [.ptr 1 _ 0]) (Sn Z) Z) ?_;refine ab (zC [(1,1)] [] [1] func180 (afG g d hd hb) x_16 rfl rfl) Z<|nA<|aj ac Z<|ao Z<|Y<|aR ?_;rw[adS hd];refine ax ?_ trivial;rfl
abbrev BP(g:Value):AO:=.box 132 (some g) [.own 2]
theorem qe{acc:List fb}(h:acc.length-1<acc.length):yu acc=acc[acc.length-1].dP:=by
 grind[yu]
def sU(acc:List fb)(b:List Int):List fb:=if pA acc b then acc++[gu b]else acc
theorem x_131{p:Prop}(c:p:=by exact ⟨rfl,(congrArg qg (show acc=sU acc b by grind[sU])),trivial⟩):p:=c
theorem So(g:Value)(acc:List fb)(b:List Int)(hk:acc.length<=600):GC prog 181 [int (acc.length:Int),sV (kP b),aD (g8 b),.ptr 1 0 0] [(1,BP g),(2,qg acc)] (aD (pA acc b)) [(1,BP g),(2,qg (sU acc b))]:=by
 refine gi 7 func181 rfl ntmps181 rfl ?_;intro L O w0;refine sL<|ab (zX 2005 Z) Z<|ar Z<|Y<|aS<|aS<|aF []<|vq 0 (dx Z)<|vq 1 (gQ Z)<|vq 2 (dx Z) ?_;refine AF.bool (t:=10) rfl ?_ ?_
 ·intro V;refine bi 3 Z<|bi 4 Z<|al 5 Z<|al 6 Z<|vq 7 (bA Z)<|vq 8 (cF Z)<|al 9 Z<|al 10 Z<|al 11 Z<|bi 12 Z<|bi 13 Z<|bi 14 Z<|al 15 Z<|al 16 Z<|al 17 Z<|al 18 Z<|al 19 Z<|al 20 Z<|al 21 Z<|vq 22 (bA Z)<|fD<|gT<|aY Z<|sL<|ar Z<|Y<|aR<|rT ?_;have hG:pA acc b=false:=Bool.eq_false_iff.2 fun q=>by
   simp_all[sW]
  rw[hG];refine ax ?_ x_131;rfl
 intro V;refine pq 3 (qf 0 tX Z)<|sq 4 (aZ ac Z)<|vq 5 (dW Z)<|vq 6 (dt Z)<|vq 7 (cv Z)<|vq 8 (dx Z) ?_;refine AF.bool (t:=16) rfl ?_ ?_
 ·intro h2;refine al 9 Z<|al 10 Z<|al 11 Z<|bi 12 Z<|bi 13 Z<|bi 14 Z<|al 15 Z<|al 16 Z<|al 17 Z<|al 18 Z<|al 19 Z<|al 20 Z<|al 21 Z<|vq 22 (bA Z)<|fD<|gT<|aY Z<|sL<|ar Z<|Y<|aR<|rT ?_;have hG:pA acc b=false:=Bool.eq_false_iff.2 fun q=>by
   simp_all[sW,dv]
  rw[hG];refine ax ?_ x_131;rfl
 intro h2;refine vq 9 (dW Z)<|vq 10 (dt Z)<|vq 11 (dx Z) ?_;refine AF.bool (t:=19) rfl ?_ ?_
 ·intro h3;refine pq 12 (qf 1 rQ Z)<|sq 13 (aZ ac Z)<|sq 14 (gC BQ Z)<|vq 15 (dW Z) ?_;have h0:0<acc.length:=by have h:=h3;simp only[decide_eq_true_eq]at h;omega
  refine vq 16 (qV rfl x_82)<|qM 24 ((acc.length-1:Nat):Int) rfl x_2<|vq 17 (rj ((acc.length-1)) tY rfl (by rw[sX];omega))<|vq 18 (rf 1 rQ rfl)<|vq 19 (rd (x:=c6) (dT rfl ac rfl rfl rfl (Gg x_2) rfl) rfl)<|vq 20 (dt rfl)<|vq 21 (cv rfl)<|fT [3,5,7,16,29] [1,2,2005] ?_;refine vq 22 (cv Z)<|fD<|gT<|cE rfl ?_ ?_
  ·intro h4;refine sL<|ar Z<|Y<|aR<|rT ?_;have hG:pA acc b=false:=Bool.eq_false_iff.2 fun q=>by
    obtain⟨q1,q2,q3⟩:=sW.1 q;first|(have h:=V;rw[q1]at h;exact absurd h x_3)|(have h:=V;rw[dv q1]at h;simp[q2]at h;done)|(have h:=V;rw[dv q1,<-qe x_2]at h;simp only[decide_eq_true_eq]at h;omega)|(have h:=h2;rw[q1]at h;exact absurd h x_3)|(have h:=h2;rw[dv q1]at h;simp[q2]at h;done)|(have h:=h2;rw[dv q1,<-qe x_2]at h;simp only[decide_eq_true_eq]at h;omega)|(have h:=h3;rw[q1]at h;exact absurd h x_3)|(have h:=h3;rw[dv q1]at h;simp[q2]at h;done)|(have h:=h3;rw[dv q1,<-qe x_2]at h;simp only[decide_eq_true_eq]at h;omega)|(have h:=h4;rw[q1]at h;exact absurd h x_3)|(have h:=h4;rw[dv q1]at h;simp[q2]at h;done)|(have h:=h4;rw[dv q1,<-qe x_2]at h;grind)
   rw[hG];refine ax ?_ x_131;rfl
  intro h4;refine aK<|gA<|iO BQ Z<|aP pv nP Z<|ab (zS 2033 [[.v (.int .i64 (kP b).seq),.v (.int .i64 (kP b).dP),nQ (kP b).body]] tY pB rfl x_19) Z<|ab (zP 2 tY pB Gh rfl x_18 (by grind[sX])) Z<|ab (zB 1 K1 K2 rfl) Z<|nA<|cI Z<|Y<|aR ?_;have hF:g8 b=true:=by first|grind|(simpa using h2)|(simpa using h3)|(simpa using h4)
  have hG:pA acc b=true:=sW.2 ⟨hF,by grind[dv],by grind[dv,qe]⟩;rw[hG];refine ax ?_ ⟨rfl,(Eq.trans (b:=AO.ai 141 3 (oO acc++[[.v (.int .i64 (kP b).seq),.v (.int .i64 (kP b).dP),nQ (kP b).body]])) rfl (by unfold sU;rw[if_pos hG,dv hF,Gi])),trivial⟩;rfl
 intro h3;refine bi 12 Z<|bi 13 Z<|bi 14 Z<|al 15 Z<|al 16 Z<|al 17 Z<|al 18 Z<|al 19 Z<|al 20 Z<|vq 21 (kK rfl)<|vq 22 (kK rfl)<|fD<|gT<|aN Z<|aK<|gA<|iO BQ Z<|aP pv nP Z<|ab (zS 2033 [[.v (.int .i64 (kP b).seq),.v (.int .i64 (kP b).dP),nQ (kP b).body]] tY pB rfl x_19) Z<|ab (zP 2 tY pB Gh rfl x_18 (by grind[sX])) Z<|lT [3,7,34] [1,2,2005,2033] ?_;refine ab (zB 1 K1 K2 Z) Z<|nA<|cI Z<|Y<|aR ?_;have hF:g8 b=true:=by first|grind|(simpa using h2)|(simpa using h3)
 have hG:pA acc b=true:=sW.2 ⟨hF,by grind[dv],by first|(have h:=V;rw[dv hF,<-qe x_2]at h;simp only[decide_eq_false_iff_not]at h;omega)|(have h:=V;have h0:acc=[]:=List.length_eq_zero_iff.1 x_14;subst h0;have:=(qW.1 (oN.1 hF).2.2.1).2.1;show (0:Int)<=_;omega)|(have h:=h2;rw[dv hF,<-qe x_2]at h;simp only[decide_eq_false_iff_not]at h;omega)|(have h:=h2;have h0:acc=[]:=List.length_eq_zero_iff.1 x_14;subst h0;have:=(qW.1 (oN.1 hF).2.2.1).2.1;show (0:Int)<=_;omega)|(have h:=h3;rw[dv hF,<-qe x_2]at h;simp only[decide_eq_false_iff_not]at h;omega)|(have h:=h3;have h0:acc=[]:=List.length_eq_zero_iff.1 x_14;subst h0;have:=(qW.1 (oN.1 hF).2.2.1).2.1;show (0:Int)<=_;omega)⟩;rw[hG];refine ax ?_ ⟨rfl,(Eq.trans (b:=AO.ai 141 3 (oO acc++[[.v (.int .i64 (kP b).seq),.v (.int .i64 (kP b).dP),nQ (kP b).body]])) rfl (by unfold sU;rw[if_pos hG,dv hF,Gi])),trivial⟩;rfl
theorem Sp(g:Value)(d:du)(hd:ik d=true)(hb:qK d):GC prog 180 [mt d,.fQ (.func 181) [] [.ptr 1 0 0]] [(1,BP g),(2,qg [])] (.au []) [(1,BP g),(2,qg (dH d))]:=by
 refine GC.intro (rs:=[]) func180 rfl ntmps180 x_8 trivial ?_;intro L O w0;refine sL<|ab (zX 2002 Z) Z<|Y<|aS ?_;have gR:=(wL hd).1;refine aL<|lf 0 n9 Z<|bo oB Z<|ba po Z ?_;refine dC 9 (int (d.cells.length:Int)) (congrArg (fun n:Nat=>int (n:Int)) (fU _)) ?_;refine ae Z<|Y<|aB ?_;refine aW [1,2,9] [2002] (D:=List fb) (fun l=>[(10,int (l.length:Int))]) (fun l=>[(1,BP g),(2,qg l)]) (fun l=>l.length<=d.cells.length/\og ((oh d).drop l.length) l=dH d) (fun l=>d.cells.length-l.length) ([]) (⟨Nat.zero_le _,(DP hd).symm⟩) ⟨rfl,trivial⟩ ⟨rfl,rfl,trivial⟩ ?_;intro acc hI;replace hI:acc.length<=d.cells.length/\og ((oh d).drop acc.length) acc=dH d:=hI;refine sL<|ak Z<|Y<|aS<|cE rfl ?_ ?_
 ·intro V;refine aK<|gT<|aS<|aB<|aS ?_;have hj:acc.length<d.cells.length:=by have h:=V;simp only[decide_eq_true_eq]at h;omega
  refine aL<|ae Z<|ao Z<|nA<|aP nq mE Z<|ae Z<|ab (zC [] [] [] func248 (Sq d acc.length hd hj) (trivial) rfl rfl) Z<|ab (zC [] [] [] func247 (Sr (io d acc.length) (Gj hb hj) (by grind[K3])) (trivial) rfl rfl) Z<|cT (.au [pv,fy]) Z<|iB pv Z<|eU Z<|ab (zA 2005 pB rfl) Z<|lT [1,2,4,5,9,10,18,19] [1,2,2002,2005] ?_;refine ab (zB 2005 mL mM Z) Z<|bv Z<|nA<|cT (.fQ _ _ [.ptr 1 _ 0]) Z<|ae Z<|aP pv nP Z<|aQ Z ?_;refine ab (zC [(1,1),(2,2)] [2] [1] func181 (So g acc (io d acc.length) x_2) x_16 rfl rfl) Z<|bX Z<|Y<|cE rfl ?_ ?_
  ·intro h2;refine aR<|rB<|rT<|rT<|rB ?_;have hg:pA acc (io d acc.length)=false:=by simpa using h2
   have hE:sU acc (io d acc.length)=dH d:=by rw[<-hI.2,BR hj hg];exact if_neg (by simp[hg])
   refine ax ?_ ⟨rfl,(congrArg qg hE),trivial⟩;rfl
  intro h2;refine aK<|gB<|gT<|aL<|bg Z<|ae Z<|Y ?_;have hg:pA acc (io d acc.length)=true:=by simpa using h2
  refine⟨(acc++[gu (io d acc.length)]),⟨by grind,by grind[K4]⟩,by grind,⟨(Eq.trans (b:=int _) rfl (congrArg int x_19)),trivial⟩,⟨rfl,(congrArg qg (show sU acc (io d acc.length)=acc++[gu (io d acc.length)]from if_pos hg)),trivial⟩,rfl,rfl⟩
 intro V;refine aE<|eT<|eT<|eB ?_;have hE:acc=dH d:=by rw[<-hI.2];exact(BS x_14).symm
 refine iZ ?_ ⟨rfl,(congrArg qg hE),trivial⟩;rfl
theorem Ss(d:du)(hb:qK d):GC prog 93 [mt d] [] (.au [.own 2,int ((dH d).length:Int)]) [(2,qg (dH d))]:=by
 refine GC.intro (rs:=[.tmp 2,.tmp 3]) func93 rfl ntmps93 x_8 ⟨rfl,rfl,trivial⟩ ?_;intro L O w0;refine sL<|ab (zX 2001 Z) Z<|e9 Z<|ao Z<|Y<|aS<|sL<|aP nq mE Z<|ab (zC [] [] [] func91 (J' d) (trivial) Z Z) Z<|bX Z<|Y<|cE rfl ?_ ?_
 ·intro V;refine sL<|e9 Z<|ao Z<|Y ?_;refine AW.oP 2 2 141 3 rfl ?_;refine aR<|rT ?_;have hd:ik d=false:=by simpa using V
  rw[DQ hd];trivial
 intro V;refine aK<|gT<|aS ?_;have hd:ik d=true:=by simpa using V
 refine aL<|ab (zA 1 Su Z) Z<|Y<|aS ?_;refine AW.pi 2 1 0 141 3 rfl x_3 rfl ?_;refine AW.tZ 1 rfl ?_;intro g;refine aL<|aP nq mE Z<|lq (rd (x:=.fQ _ _ [.ptr 1 _ 0]) (Sn Z) Z) ?_;refine ab (zC [(1,1),(2,2)] [2] [1] func180 (Sp g d hd hb) x_16 rfl rfl) Z<|Y<|aS<|aF []<|sq 0 (gC BQ rfl)<|sq 1 (gC BQ rfl)<|sq 2 (le yw rfl) ?_;refine DR 13 (int ((dH d).length:Int)) (congrArg (fun n:Nat=>int (n:Int)) (sX _)) ?_;refine vq 3 (tF Z)<|vq 4 (j8 Z)<|fD<|gT<|aR ?_;trivial
theorem Kb(d:du)(hb:qK d):GC prog 93 [mt d] [] (.au [.p (.ab 141 3 (oO (dH d))),int ((dH d).length:Int)]) []:=(Ss d hb).Aq
theorem QU(d:du)(hb:qK d):GC prog 33 [mt d] [] (.own 1) [(1,uT (f8 d))]:=by
 refine gi 2 func33 rfl ntmps33 rfl ?_;intro L O w0;refine sL<|ab (zX 2001 Z) Z<|e9 Z<|nA<|aP nq mE Z<|ab (zC [] [] [] func93 (Kb d hb) (trivial) Z Z) Z<|cT (.au [c7,c6]) Z<|rF Z<|dE Z<|nv Z<|ao Z<|nA<|e9 Z<|Y ?_;refine AW.oP 1 5 81 7 rfl ?_;refine aS<|sL<|bm Z<|ba yw Z ?_;refine dC 16 (int ((dH d).length:Int)) (congrArg (fun n:Nat=>int (n:Int)) (sX _)) ?_;refine ae Z<|Y<|aB ?_;refine aW [2,15,16] [2001] (D:=Nat) (fun a=>[(17,int (a:Int)),(5,.own 1)]) (fun a=>[(1,uT (pj ((dH d).take a)))]) (fun a=>a<=(dH d).length) (fun a=>(dH d).length-a) (0) (Nat.zero_le _) ⟨rfl,rfl,trivial⟩ ⟨rfl,trivial⟩ ?_;intro k hI;replace hI:k<=(dH d).length:=hI;refine sL<|ak Z<|Y<|aS<|cE rfl ?_ ?_
 ·intro V;refine aK<|gT<|aS<|aB<|aS ?_;have hk:k<(dH d).length:=by have h:=V;simp only[decide_eq_true_eq]at h;omega
  have hS:=K5 hb (List.getElem_mem hk);have hL:=Gk d;have Sv:=Gl ((dH d).take k);have Sw:((dH d).take k).length<=600:=by rw[List.length_take];omega
  refine aL<|li k tY Z (Gg hk)<|d6 pv nP Z<|ab (zA 2007 pB Z) Z<|lT [2,5,7,15,16,17,20] [1,2001,2007] ?_;refine ab (zB 2007 mL mM rfl) Z<|nA<|lf 2 u' Z<|bo kb Z<|ab (zC [] [] [] func99 (Sx (dH d)[k].body hS.1 x_2) (trivial) rfl rfl) Z<|cT (.au [iK,fy]) Z<|iB iK Z<|eU Z<|ab (zA 2008 jl rfl) Z<|ab (zB 2008 mZ m0 rfl) Z<|bv Z<|nA<|aQ Z<|Y<|cE rfl ?_ ?_
  ·intro h2;refine aL<|bW Z<|aP iK dD Z<|ab (zS 2030 (ah fR [t6 (dH d)[k].body]) jk jl Z) Z<|lT [2,5,15,16,17,28,30] [1,2001,2007,2008,2030] ?_;refine ab (zP 1 jk jl sD rfl x_18 x_69) Z<|bD Z<|lN<|gB<|gT<|aL<|bg Z<|ae Z<|Y ?_;refine⟨(k+1),hk,by omega,x_83,⟨(Eq.trans (b:=AO.ai 81 7 (ah fR (pj ((dH d).take k))++ah fR [t6 (dH d)[k].body])) rfl (congrArg (AO.ai 81 7) (Eq.trans (rR _ _ _).symm (congrArg (ah fR) (K6 hk h2))))),trivial⟩,rfl,rfl⟩
  intro h2;refine aK<|gB<|gT<|aL<|bg Z<|ae Z<|Y ?_;refine⟨(k+1),hk,by omega,x_83,⟨(congrArg uT (K7 hk h2)),trivial⟩,rfl,rfl⟩
 intro V;refine aE<|eT<|eT<|eB<|gA<|bW Z<|bD Z<|Y<|aR ?_;have hk:k=(dH d).length:=by have h:=V;simp only[decide_eq_false_iff_not]at h;omega
 refine ax ?_ ⟨(congrArg (fun l=>uT (pj l)) (List.take_of_length_le x_2)),trivial⟩;rfl

section
variable {P:Program}{L O:Nat->Prop}{w0:World}{N:Nat}{Q:AQ}{c:Code}{F:List AO}
theorem RR.acX(m:Nat){k i:List Nat}{v:List AV}{b:List AO}{o:AO}{ρ:Nat->Value}{fp:Nat->List Nat}{a:Act}{w:World}(hr:RR L O w0 N (eh .bad k v) (tl (eh .gone i b) (F++[o])) ρ fp a w)(hl:(km v&&b.all kR)=true)(hF:dS (F++[o]))(hm:m<F.length) :
 ∃ρ fp,RR L O w0 N (eh .bad k v) (tl (eh .gone i b) (F.set m o)) ρ fp a w:=by
 rw[Bool.and_eq_true]at hl
 have ho:nr o=true:=hF o x_19
 obtain⟨fp1,V,_⟩:=hr.eJ (τ':=eh .bad k v) (H':=tl (eh .gone i b) (F.set m .gone++[o])) (fun t=>.inr rfl) (fun x=>by
  rcases yM x with q|⟨y,rfl⟩
  ·rw[uI q,uI q];exact .inr rfl
  rw[uJ,uJ];by_cases z:y=m
  ·subst z;rw[List.getElem?_append_left (by simpa using hm),List.getElem?_set_self hm];exact .inl rfl
  refine .inr ?_;rcases Nat.lt_or_ge y F.length with g|g
  ·rw[List.getElem?_append_left (by simpa using g),List.getElem?_append_left g,List.getElem?_set_ne (Ne.symm z)]
  rw[List.getElem?_append_right (by simpa using g),List.getElem?_append_right g,List.length_set])
 have Lm:tl (eh .gone i b) (F.set m .gone++[o]) (1000000+F.length)=o:=by rw[uJ,List.getElem?_append_right x_19];simp
 have hmm:tl (eh .gone i b) (F.set m .gone++[o]) (1000000+m)=.gone:=by rw[uJ,List.getElem?_append_left (by simpa using hm),List.getElem?_set_self hm];rfl
 have h2:=V.rename (i:=1000000+F.length) (j:=1000000+m) x_2 hmm (by rw[Lm];exact ho) (cK (1000000+m)) (by simp[cK])
 have Oy:tw (cK (1000000+m)) kT:=fun x hx=>by unfold cK kT;simp;omega
 have e1:(fun t=>bq (cK (1000000+m)) (eh .bad k v t))=eh .bad k v:=funext fun t=>by rw[Ou Oy _ (XY hl.1 t),mf]
 have hF2:dS (F.set m .gone++[o]):=fun x hx=>by
  rcases List.mem_append.1 hx with q|q
  ·rcases List.mem_or_eq_of_mem_set q with q|rfl
   ·exact hF x (by simp[q])
   rfl
  rw[List.mem_singleton.1 q];exact ho
 have e2:aH (aH (fun x=>(tl (eh .gone i b) (F.set m .gone++[o]) x).bq (cK (1000000+m))) (1000000+F.length) .gone) (1000000+m) (tl (eh .gone i b) (F.set m .gone++[o]) (1000000+F.length))=tl (eh .gone i b) (F.set m o):=funext fun x=>by
  rw[Lm];rcases yM x with q|⟨y,rfl⟩
  ·rw[eX _ _ x_2,eX _ _ x_2];show (tl _ _ x).bq _=_;rw[uI q,uI q,kR.bq Oy (XZ hl.2 x),AO.mf]
  rw[uJ];by_cases hy:y=m
  ·subst hy;rw[dV,List.getElem?_set_self hm];rfl
  rw[eX _ _ x_2,List.getElem?_set_ne (Ne.symm hy)];by_cases hn:y=F.length
  ·subst hn;rw[dV];simp
  rw[eX _ _ x_2];show (tl _ _ (1000000+y)).bq _=_;rw[uJ,nr.bq (dS.at hF2 y)];rcases Nat.lt_or_ge y F.length with g|g
  ·rw[List.getElem?_append_left (by simpa using g),List.getElem?_set_ne (Ne.symm hy)]
  rw[List.getElem?_append_right (by simpa using g),List.getElem?_eq_none x_74,List.getElem?_eq_none x_2]
 rw[e1,e2]at h2
 exact⟨_,_,h2⟩
theorem AW.acX(m:Nat){k i:List Nat}{v:List AV}{b:List AO}{o:AO}(hl:(km v&&b.all kR)=true)(hF:dS (F++[o]))(hm:m<F.length)(hK:AW P L O w0 N c (eh .bad k v) (tl (eh .gone i b) (F.set m o)) Q):AW P L O w0 N c (eh .bad k v) (tl (eh .gone i b) (F++[o])) Q:=fun ρ fp a w hr=>by
 obtain⟨ci,bH,h⟩:=hr.acX m hl hF hm;exact hK ci bH a w h
end
end Go.Proofs.YtflhgkmhmcfimaaGreat

