/- Texts of the proof of FnFnOpen, joined: EO5, EO6, EO7, E32. -/
import Derived.Test.YteblcdnhnckkaaaJFnOpen6
import Derived.Test.YteblcdnhnckkaaaJFnOpen4
namespace Go.Proofs.Yteblcdnhnckkaaa
open Go.RowKit
set_option maxHeartbeats 16000000
set_option maxRecDepth 100000
set_option linter.unusedSimpArgs false
set_option linter.unusedVariables false
theorem fullB_0{b:List Int}(h:b.length=0):fullB b=List.replicate 128 0:=if_pos h
theorem fullB_n{b:List Int}(h:b.length≠0):fullB b=b:=if_neg h
theorem cellBytes_o(b:List Int)(hl:b.length≤2000000):GC Try.prog 80 [.agg [byV b]] [] (.own 1) [(1,yAr (fullB b))]:=by
 refine gi 2 Try.func80 rfl Try.ntmps80 rfl ?_
 intro L O w0
 refine sL<|lst (zX 2001 Z) Z<|laV Z<|nG<|aS<|sL<|lf 0 ty.F115_0 Z<|loL ty.kd56 Z<|lnI ty.sl56 Z<|lbB Z<|nG ?_
 refine AW.cond rfl ?_ ?_
 ·intro h1
  refine sL<|lst (St.make 1 (m:=128) rfl rfl (by decide) ty.el56 ty.ze5 rfl rfl rfl rfl rfl (Nat.le_trans (Nat.mul_le_mul_right _ ty.by5) (by decide)) (by decide)) Z<|laO Z<|nG ?_
  refine AW.obj 1 (yAr (List.replicate 128 0)) ((Eq.trans (b:=AO.arr 5 1 (List.replicate 128 [PV.v (.int .u8 0)])) rfl (congrArg (AO.arr 5 1) (zero_rows 128)))) ?_
  refine aR<|rT ?_
  have hz:b.length=0:=by have h:=h1;simpa[length_rowsOf]using h
  rw[fullB_0 hz]
  refine end_ret ?_ ⟨rfl,trivial⟩
  rfl
 ·intro h1
  refine aK<|gA<|lf 0 ty.F115_0 Z<|loL ty.kd56 Z<|lst (zC [(1,1)] [1] [] Try.func99 (copyBytes_o b hl) (trivial) Z Z) Z<|laO Z<|nG<|aR ?_
  have hz:b.length≠0:=by have h:=h1;simpa[length_rowsOf]using h
  rw[fullB_n hz]
  refine end_ret ?_ ⟨rfl,trivial⟩
  rfl
theorem sfull_o(b:List Int)(hl:b.length≤2000000):GC Try.prog 111 [byV b] [] (.own 1) [(1,yAr (fullB b))]:=by
 refine gi 2 Try.func111 rfl Try.ntmps111 rfl ?_
 intro L O w0
 refine sL<|laV Z<|nG<|aS<|sL<|lmL Z<|lnI ty.sl56 Z<|lbB Z<|nG ?_
 refine AW.cond rfl ?_ ?_
 ·intro h1
  refine sL<|lst (St.make 1 (m:=128) rfl rfl (by decide) ty.el56 ty.ze5 rfl rfl rfl rfl rfl (Nat.le_trans (Nat.mul_le_mul_right _ ty.by5) (by decide)) (by decide)) Z<|laO Z<|nG ?_
  refine AW.obj 1 (yAr (List.replicate 128 0)) ((Eq.trans (b:=AO.arr 5 1 (List.replicate 128 [PV.v (.int .u8 0)])) rfl (congrArg (AO.arr 5 1) (zero_rows 128)))) ?_
  refine aR<|rT ?_
  have hz:b.length=0:=by have h:=h1;simpa[length_rowsOf]using h
  rw[fullB_0 hz]
  refine end_ret ?_ ⟨rfl,trivial⟩
  rfl
 ·intro h1
  refine aK<|gA<|lst (zS 1 (rowsOf encU []) ty.el56 ty.ze5 rfl (by intro r hr;cases hr)) Z<|lmL Z<|lst (zP 1 ty.el56 ty.ze5 ty.by5 rfl (Src.p rfl) (by first|(simp[rowsOf,numB_length];done)|(simp[rowsOf,numB_length];omega))) Z<|laO Z<|nG<|aR ?_
  have hz:b.length≠0:=by have h:=h1;simpa[length_rowsOf]using h
  rw[fullB_n hz]
  refine end_ret ?_ ⟨rfl,trivial⟩
  rfl
theorem all_take{α:Type}{p:α→Bool}{l:List α}{j:Nat}(hj:j<l.length)(h:(l.take j).all p=true)(hp:p l[j]=true):(l.take (j+1)).all p=true:=by rw[List.take_succ_eq_append_getElem hj,List.all_append,h];simp[hp]
theorem all_not{α:Type}{p:α→Bool}{l:List α}{j:Nat}(hj:j<l.length)(hp:p l[j]=false):l.all p=false:=Bool.eq_false_iff.2 fun q=>by have:=List.all_eq_true.1 q _ (List.getElem_mem hj);rw[hp]at this;cases this
theorem dok_n1{d:Disk}(h:¬(1≤d.cells.length∧d.cells.length≤600∧d.dirty.length≤600)):diskOk d=false:=by
 unfold diskOk inB
 rw[Bool.eq_false_iff]
 intro q
 simp only[Bool.and_eq_true,decide_eq_true_eq]at q
 omega
theorem dok_n2{d:Disk}(h:d.cells.all cellOk=false):diskOk d=false:=by unfold diskOk;rw[h];simp
theorem dok_n3{d:Disk}(h:d.dirty.all (wrOk d.cells.length)=false):diskOk d=false:=by unfold diskOk;rw[h];simp
theorem dok_y{d:Disk}(h:1≤d.cells.length∧d.cells.length≤600∧d.dirty.length≤600)(h1:d.cells.all cellOk=true)(h2:d.dirty.all (wrOk d.cells.length)=true):diskOk d=true:=by
 unfold diskOk inB
 rw[h1,h2]
 simp
 omega
theorem diskOk_e(d:Disk):GC Try.prog 46 [diskV d] [] (boo (diskOk d)) []:=by
 refine gi 2 Try.func46 rfl Try.ntmps46 rfl ?_
 intro L O w0
 refine sL<|lst (zX 2001 Z) Z<|laZ Z<|nG<|aS<|sL<|lf 0 ty.F34_0 Z<|loL ty.kd31 Z<|lnI ty.sl31 Z ?_
 refine AL.slot 9 (int (d.cells.length:Int)) (congrArg (fun n:Nat=>int (n:Int)) (rowsC_len _)) ?_
 refine lst (zL Try.func47 (in_e _ _ _) Z) Z<|luB Z<|lmB Z ?_
 refine AL.bool (t:=12) rfl ?_ ?_
 ·intro h1
  refine lno Z<|lno Z<|lno Z<|lno Z<|lkT Z<|nG<|aY Z<|sL<|laZ Z<|nG<|aR<|rT ?_
  have hF:diskOk d=false:=dok_n1 (by
   simp[inB]at *
   omega)
  rw[hF]
  refine end_ret ?_ trivial
  rfl
 ·intro h1
  refine lf 1 ty.F34_1 Z<|loL ty.kd32 Z<|lnI ty.sl32 Z ?_
  refine AL.slot 15 (int (d.dirty.length:Int)) (congrArg (fun n:Nat=>int (n:Int)) (rowsW_len _)) ?_
  refine lbB Z<|lkB Z<|nG ?_
  refine AW.cond rfl ?_ ?_
  ·intro h2
   refine sL<|laZ Z<|nG<|aR<|rT ?_
   have hF:diskOk d=false:=dok_n1 (by
    simp[inB]at *
    omega)
   rw[hF]
   refine end_ret ?_ trivial
   rfl
  ·intro h2
   refine aK<|gT<|aS<|aS ?_
   have hsz:1≤d.cells.length∧d.cells.length≤600∧d.dirty.length≤600:=by
    simp[inB]at *
    omega
   refine aL<|lf 0 ty.F34_0 Z<|loL ty.kd31 Z<|lnI ty.sl31 Z ?_
   refine AL.slot 20 (int (d.cells.length:Int)) (congrArg (fun n:Nat=>int (n:Int)) (rowsC_len _)) ?_
   refine lmI Z<|nG<|aB ?_
   refine aW [1,2,19,20] [2001] (D:=Nat) (fun a=>[(21,int (a:Int))]) (fun a=>[]) (fun a=>a≤d.cells.length∧(d.cells.take a).all cellOk=true) (fun a=>d.cells.length-a) (0) (⟨Nat.zero_le _,rfl⟩) ⟨rfl,trivial⟩ trivial ?_
   intro j hI
   replace hI:j≤d.cells.length∧(d.cells.take j).all cellOk=true:=hI
   refine sL<|lbB Z<|nG<|aS ?_
   refine AW.cond rfl ?_ ?_
   ·intro h3
    refine aK<|gT<|aS<|aB<|aS ?_
    have hj:j<d.cells.length:=by have h:=h3;simp only[decide_eq_true_eq]at h;omega
    refine aL<|li j ty.el31 Z (rowsC_at hj)<|lrX (.agg [vL _ _ _]) ty.kd115 Z<|lst (zA 2004 ty.ze115 Z) Z<|lT [1,2,4,19,20,21,24] [2001,2004] ?_
    refine lst (zB 2004 ty.co115 ty.inf115 Z) Z<|nA<|lf 0 ty.F115_0 Z<|loL ty.kd56 Z<|lnI ty.sl56 Z<|lbB Z<|lmB Z ?_
    refine AL.bool (t:=29) rfl ?_ ?_
    ·intro h4
     refine lf 0 ty.F115_0 Z<|loL ty.kd56 Z<|lnI ty.sl56 Z<|lbB Z<|lkB Z<|nG ?_
     refine AW.cond rfl ?_ ?_
     ·intro h5
      refine sL<|laZ Z<|nG<|aR<|rB<|rT<|rT<|rB<|rT ?_
      have hc:cellOk d.cells[j]=false:=by
       unfold cellOk
       try unfold inB
       rw[Bool.eq_iff_iff]
       simp only[length_rowsOf,decide_eq_true_eq,decide_eq_false_iff_not,Bool.and_eq_true,Bool.and_eq_false_iff,Bool.or_eq_true,Bool.not_eq_true,Bool.not_eq_false,Bool.not_eq_true',Bool.not_eq_false',Bool.false_eq_true,inB,iff_false,iff_true,ge_iff_le,gt_iff_lt,ne_eq,bne_iff_ne]at *
       omega
      rw[dok_n2 (all_not hj hc)]
      refine end_ret ?_ trivial
      rfl
     ·intro h5
      refine aK<|gB<|gT<|aL<|lgI Z<|lmI Z<|nG ?_
      have hc:cellOk d.cells[j]=true:=by
       unfold cellOk
       try unfold inB
       rw[Bool.eq_iff_iff]
       simp only[length_rowsOf,decide_eq_true_eq,decide_eq_false_iff_not,Bool.and_eq_true,Bool.and_eq_false_iff,Bool.or_eq_true,Bool.not_eq_true,Bool.not_eq_false,Bool.not_eq_true',Bool.not_eq_false',Bool.false_eq_true,inB,iff_false,iff_true,ge_iff_le,gt_iff_lt,ne_eq,bne_iff_ne]at *
       omega
      refine⟨(j+1),⟨hj,all_take hj hI.2 hc⟩,by show d.cells.length-(j+1)<d.cells.length-j;omega,⟨(iq rfl),trivial⟩,trivial,rfl,rfl⟩
    ·intro h4
     refine lno Z<|lno Z<|lno Z<|lno Z<|lkZ Z<|nG<|aN Z<|aK<|gB<|gT<|aL<|lgI Z<|lmI Z<|nG ?_
     have hc:cellOk d.cells[j]=true:=by
      unfold cellOk
      try unfold inB
      rw[Bool.eq_iff_iff]
      simp only[length_rowsOf,decide_eq_true_eq,decide_eq_false_iff_not,Bool.and_eq_true,Bool.and_eq_false_iff,Bool.or_eq_true,Bool.not_eq_true,Bool.not_eq_false,Bool.not_eq_true',Bool.not_eq_false',Bool.false_eq_true,inB,iff_false,iff_true,ge_iff_le,gt_iff_lt,ne_eq,bne_iff_ne]at *
      omega
     refine⟨(j+1),⟨hj,all_take hj hI.2 hc⟩,by show d.cells.length-(j+1)<d.cells.length-j;omega,⟨(iq rfl),trivial⟩,trivial,rfl,rfl⟩
   ·intro h3
    refine aE<|eT<|eT<|eB<|gT<|aS<|aS ?_
    have hje:j=d.cells.length:=by have h:=h3;have h2:=hI.1;simp only[decide_eq_false_iff_not]at h;omega
    have hA:d.cells.all cellOk=true:=by have h:=hI.2;rwa [hje,List.take_length]at h
    clear hI
    refine aL<|lf 1 ty.F34_1 Z<|loL ty.kd32 Z<|lnI ty.sl32 Z ?_
    refine AL.slot 38 (int (d.dirty.length:Int)) (congrArg (fun n:Nat=>int (n:Int)) (rowsW_len _)) ?_
    refine lmI Z<|nG<|aB ?_
    refine aW [1,2,37,38] [2001] (D:=Nat) (fun a=>[(39,int (a:Int))]) (fun a=>[]) (fun a=>a≤d.dirty.length∧(d.dirty.take a).all (wrOk d.cells.length)=true) (fun a=>d.dirty.length-a) (0) (⟨Nat.zero_le _,rfl⟩) ⟨rfl,trivial⟩ trivial ?_
    intro i hI
    have hJ:i≤d.dirty.length∧(d.dirty.take i).all (wrOk d.cells.length)=true:=hI
    refine sL<|lbB Z<|nG<|aS ?_
    refine AW.cond rfl ?_ ?_
    ·intro h6
     refine aK<|gT<|aS<|aB<|aS ?_
     have hi:i<d.dirty.length:=by have h:=h6;simp only[decide_eq_true_eq]at h;omega
     refine aL<|li i ty.el32 Z (rowsW_at hi)<|lrX (.agg [vI _ _,vL _ _ _]) ty.kd123 Z<|lst (zA 2006 ty.ze123 Z) Z<|lT [1,2,6,37,38,39,42] [2001,2006] ?_
     refine lst (zB 2006 ty.co123 ty.inf123 Z) Z<|nA<|lf 0 ty.F123_0 Z<|loI ty.kd3 Z<|lf 0 ty.F34_0 Z<|loL ty.kd31 Z<|lnI ty.sl31 Z ?_
     refine AL.slot 47 (int (d.cells.length:Int)) (congrArg (fun n:Nat=>int (n:Int)) (rowsC_len _)) ?_
     refine lgI Z<|lst (zL Try.func47 (in_e _ _ _) Z) Z<|luB Z<|lmB Z ?_
     refine AL.bool (t:=51) rfl ?_ ?_
     ·intro h7
      refine lno Z<|lno Z<|lno Z<|lno Z<|lkT Z<|nG<|aY Z<|sL<|laZ Z<|nG<|aR<|rB<|rT<|rT<|rB<|rT ?_
      have hc:wrOk d.cells.length d.dirty[i]=false:=by
       unfold wrOk
       try unfold inB
       rw[Bool.eq_iff_iff]
       simp only[length_rowsOf,decide_eq_true_eq,decide_eq_false_iff_not,Bool.and_eq_true,Bool.and_eq_false_iff,Bool.or_eq_true,Bool.not_eq_true,Bool.not_eq_false,Bool.not_eq_true',Bool.not_eq_false',Bool.false_eq_true,inB,iff_false,iff_true,ge_iff_le,gt_iff_lt,ne_eq,bne_iff_ne]at *
       omega
      rw[dok_n3 (all_not hi hc)]
      refine end_ret ?_ trivial
      rfl
     ·intro h7
      refine lf 1 ty.F123_1 Z<|loL ty.kd56 Z<|lnI ty.sl56 Z<|lbB Z<|lkB Z<|nG ?_
      refine AW.cond rfl ?_ ?_
      ·intro h8
       refine sL<|laZ Z<|nG<|aR<|rB<|rT<|rT<|rB<|rT ?_
       have hc:wrOk d.cells.length d.dirty[i]=false:=by
        unfold wrOk
        try unfold inB
        rw[Bool.eq_iff_iff]
        simp only[length_rowsOf,decide_eq_true_eq,decide_eq_false_iff_not,Bool.and_eq_true,Bool.and_eq_false_iff,Bool.or_eq_true,Bool.not_eq_true,Bool.not_eq_false,Bool.not_eq_true',Bool.not_eq_false',Bool.false_eq_true,inB,iff_false,iff_true,ge_iff_le,gt_iff_lt,ne_eq,bne_iff_ne]at *
        omega
       rw[dok_n3 (all_not hi hc)]
       refine end_ret ?_ trivial
       rfl
      ·intro h8
       refine aK<|gB<|gT<|aL<|lgI Z<|lmI Z<|nG ?_
       have hc:wrOk d.cells.length d.dirty[i]=true:=by
        unfold wrOk
        try unfold inB
        rw[Bool.eq_iff_iff]
        simp only[length_rowsOf,decide_eq_true_eq,decide_eq_false_iff_not,Bool.and_eq_true,Bool.and_eq_false_iff,Bool.or_eq_true,Bool.not_eq_true,Bool.not_eq_false,Bool.not_eq_true',Bool.not_eq_false',Bool.false_eq_true,inB,iff_false,iff_true,ge_iff_le,gt_iff_lt,ne_eq,bne_iff_ne]at *
        omega
       refine⟨(i+1),⟨hi,all_take hi hJ.2 hc⟩,by show d.dirty.length-(i+1)<d.dirty.length-i;omega,⟨(iq rfl),trivial⟩,trivial,rfl,rfl⟩
    ·intro h6
     refine aE<|eT<|eT<|eB<|gA<|laT Z<|nG<|aR ?_
     have hie:i=d.dirty.length:=by have h:=h6;have h2:=hJ.1;simp only[decide_eq_false_iff_not]at h;omega
     have hB:d.dirty.all (wrOk d.cells.length)=true:=by have h:=hJ.2;rwa [hie,List.take_length]at h
     rw[dok_y hsz hA hB]
     refine end_ret ?_ trivial
     rfl
theorem sdiskOk_e(d:Disk):GC Try.prog 41 [diskV d] [] (boo (diskOk d)) []:=by
 refine gi 2 Try.func41 rfl Try.ntmps41 rfl ?_
 intro L O w0
 refine sL<|lst (zX 2001 Z) Z<|laZ Z<|nG<|aS<|sL<|lf 0 ty.F34_0 Z<|loL ty.kd31 Z<|lnI ty.sl31 Z ?_
 refine AL.slot 9 (int (d.cells.length:Int)) (congrArg (fun n:Nat=>int (n:Int)) (rowsC_len _)) ?_
 refine lbB Z<|lmB Z ?_
 refine AL.bool (t:=11) rfl ?_ ?_
 ·intro h1
  refine lno Z<|lno Z<|lno Z<|lno Z<|lkT Z<|lmT Z<|lno Z<|lno Z<|lno Z<|lno Z<|lkT Z<|nG<|aY Z<|sL<|laZ Z<|nG<|aR<|rT ?_
  have hF:diskOk d=false:=dok_n1 (by
   simp[inB]at *
   omega)
  rw[hF]
  refine end_ret ?_ trivial
  rfl
 ·intro h1
  refine lf 0 ty.F34_0 Z<|loL ty.kd31 Z<|lnI ty.sl31 Z ?_
  refine AL.slot 14 (int (d.cells.length:Int)) (congrArg (fun n:Nat=>int (n:Int)) (rowsC_len _)) ?_
  refine lbB Z<|lkB Z<|lmB Z ?_
  refine AL.bool (t:=17) rfl ?_ ?_
  ·intro h2
   refine lno Z<|lno Z<|lno Z<|lno Z<|lkT Z<|nG<|aY Z<|sL<|laZ Z<|nG<|aR<|rT ?_
   have hF:diskOk d=false:=dok_n1 (by
    simp[inB]at *
    omega)
   rw[hF]
   refine end_ret ?_ trivial
   rfl
  ·intro h2
   refine lf 1 ty.F34_1 Z<|loL ty.kd32 Z<|lnI ty.sl32 Z ?_
   refine AL.slot 20 (int (d.dirty.length:Int)) (congrArg (fun n:Nat=>int (n:Int)) (rowsW_len _)) ?_
   refine lbB Z<|lkB Z<|nG ?_
   refine AW.cond rfl ?_ ?_
   ·intro h3
    refine sL<|laZ Z<|nG<|aR<|rT ?_
    have hF:diskOk d=false:=dok_n1 (by
     simp[inB]at *
     omega)
    rw[hF]
    refine end_ret ?_ trivial
    rfl
   ·intro h3
    refine aK<|gT<|aS<|aS ?_
    have hsz:1≤d.cells.length∧d.cells.length≤600∧d.dirty.length≤600:=by
     simp[inB]at *
     omega
    refine aL<|lf 0 ty.F34_0 Z<|loL ty.kd31 Z<|lnI ty.sl31 Z ?_
    refine AL.slot 25 (int (d.cells.length:Int)) (congrArg (fun n:Nat=>int (n:Int)) (rowsC_len _)) ?_
    refine lmI Z<|nG<|aB ?_
    refine aW [1,2,24,25] [2001] (D:=Nat) (fun a=>[(26,int (a:Int))]) (fun a=>[]) (fun a=>a≤d.cells.length∧(d.cells.take a).all cellOk=true) (fun a=>d.cells.length-a) (0) (⟨Nat.zero_le _,rfl⟩) ⟨rfl,trivial⟩ trivial ?_
    intro j hI
    replace hI:j≤d.cells.length∧(d.cells.take j).all cellOk=true:=hI
    refine sL<|lbB Z<|lT [1,2,24,25,26,27] [2001] ?_
    refine nG<|aS ?_
    refine AW.cond rfl ?_ ?_
    ·intro h4
     refine aK<|gT<|aS<|aB<|aS ?_
     have hj:j<d.cells.length:=by have h:=h4;simp only[decide_eq_true_eq]at h;omega
     refine aL<|li j ty.el31 Z (rowsC_at hj)<|lrX (.agg [vL _ _ _]) ty.kd115 Z<|lst (zA 2004 ty.ze115 Z) Z<|lst (zB 2004 ty.co115 ty.inf115 Z) Z<|nA<|lf 0 ty.F115_0 Z<|loL ty.kd56 Z<|lnI ty.sl56 Z<|lbB Z<|lmB Z ?_
     refine AL.bool (t:=34) rfl ?_ ?_
     ·intro h5
      refine lf 0 ty.F115_0 Z<|loL ty.kd56 Z<|lnI ty.sl56 Z<|lbB Z<|lkB Z<|nG ?_
      refine AW.cond rfl ?_ ?_
      ·intro h6
       refine sL<|laZ Z<|nG<|aR<|rB<|rT<|rT<|rB<|rT ?_
       have hc:cellOk d.cells[j]=false:=by
        unfold cellOk
        try unfold inB
        rw[Bool.eq_iff_iff]
        simp only[length_rowsOf,decide_eq_true_eq,decide_eq_false_iff_not,Bool.and_eq_true,Bool.and_eq_false_iff,Bool.or_eq_true,Bool.not_eq_true,Bool.not_eq_false,Bool.not_eq_true',Bool.not_eq_false',Bool.false_eq_true,inB,iff_false,iff_true,ge_iff_le,gt_iff_lt,ne_eq,bne_iff_ne]at *
        omega
       rw[dok_n2 (all_not hj hc)]
       refine end_ret ?_ trivial
       rfl
      ·intro h6
       refine aK<|gB<|gT<|aL<|lgI Z<|lmI Z<|nG ?_
       have hc:cellOk d.cells[j]=true:=by
        unfold cellOk
        try unfold inB
        rw[Bool.eq_iff_iff]
        simp only[length_rowsOf,decide_eq_true_eq,decide_eq_false_iff_not,Bool.and_eq_true,Bool.and_eq_false_iff,Bool.or_eq_true,Bool.not_eq_true,Bool.not_eq_false,Bool.not_eq_true',Bool.not_eq_false',Bool.false_eq_true,inB,iff_false,iff_true,ge_iff_le,gt_iff_lt,ne_eq,bne_iff_ne]at *
        omega
       refine⟨(j+1),⟨hj,all_take hj hI.2 hc⟩,by show d.cells.length-(j+1)<d.cells.length-j;omega,⟨(iq rfl),trivial⟩,trivial,rfl,rfl⟩
     ·intro h5
      refine lno Z<|lno Z<|lno Z<|lno Z<|lkZ Z<|nG<|aN Z<|aK<|gB<|gT<|aL<|lgI Z<|lmI Z<|nG ?_
      have hc:cellOk d.cells[j]=true:=by
       unfold cellOk
       try unfold inB
       rw[Bool.eq_iff_iff]
       simp only[length_rowsOf,decide_eq_true_eq,decide_eq_false_iff_not,Bool.and_eq_true,Bool.and_eq_false_iff,Bool.or_eq_true,Bool.not_eq_true,Bool.not_eq_false,Bool.not_eq_true',Bool.not_eq_false',Bool.false_eq_true,inB,iff_false,iff_true,ge_iff_le,gt_iff_lt,ne_eq,bne_iff_ne]at *
       omega
      refine⟨(j+1),⟨hj,all_take hj hI.2 hc⟩,by show d.cells.length-(j+1)<d.cells.length-j;omega,⟨(iq rfl),trivial⟩,trivial,rfl,rfl⟩
    ·intro h4
     refine aE<|eT<|eT<|eB<|gT<|aS<|aS ?_
     have hje:j=d.cells.length:=by have h:=h4;have h2:=hI.1;simp only[decide_eq_false_iff_not]at h;omega
     have hA:d.cells.all cellOk=true:=by have h:=hI.2;rwa [hje,List.take_length]at h
     clear hI
     refine aL<|lf 1 ty.F34_1 Z<|loL ty.kd32 Z<|lnI ty.sl32 Z ?_
     refine AL.slot 43 (int (d.dirty.length:Int)) (congrArg (fun n:Nat=>int (n:Int)) (rowsW_len _)) ?_
     refine lmI Z<|nG<|aB ?_
     refine aW [1,2,42,43] [2001] (D:=Nat) (fun a=>[(44,int (a:Int))]) (fun a=>[]) (fun a=>a≤d.dirty.length∧(d.dirty.take a).all (wrOk d.cells.length)=true) (fun a=>d.dirty.length-a) (0) (⟨Nat.zero_le _,rfl⟩) ⟨rfl,trivial⟩ trivial ?_
     intro i hI
     have hJ:i≤d.dirty.length∧(d.dirty.take i).all (wrOk d.cells.length)=true:=hI
     refine sL<|lbB Z<|nG<|aS ?_
     refine AW.cond rfl ?_ ?_
     ·intro h7
      refine aK<|gT<|aS<|aB<|aS ?_
      have hi:i<d.dirty.length:=by have h:=h7;simp only[decide_eq_true_eq]at h;omega
      refine aL<|li i ty.el32 Z (rowsW_at hi)<|lrX (.agg [vI _ _,vL _ _ _]) ty.kd123 Z<|lst (zA 2006 ty.ze123 Z) Z<|lT [1,2,6,42,43,44,47] [2001,2006] ?_
      refine lst (zB 2006 ty.co123 ty.inf123 Z) Z<|nA<|lf 0 ty.F123_0 Z<|loI ty.kd3 Z<|lbB Z<|lmB Z ?_
      refine AL.bool (t:=51) rfl ?_ ?_
      ·intro h8
       refine lno Z<|lno Z<|lno Z<|lno Z<|lno Z<|lno Z<|lkT Z<|lmT Z<|lno Z<|lno Z<|lno Z<|lno Z<|lkT Z<|nG<|aY Z<|sL<|laZ Z<|nG<|aR<|rB<|rT<|rT<|rB<|rT ?_
       have hc:wrOk d.cells.length d.dirty[i]=false:=by
        unfold wrOk
        try unfold inB
        rw[Bool.eq_iff_iff]
        simp only[length_rowsOf,decide_eq_true_eq,decide_eq_false_iff_not,Bool.and_eq_true,Bool.and_eq_false_iff,Bool.or_eq_true,Bool.not_eq_true,Bool.not_eq_false,Bool.not_eq_true',Bool.not_eq_false',Bool.false_eq_true,inB,iff_false,iff_true,ge_iff_le,gt_iff_lt,ne_eq,bne_iff_ne]at *
        omega
       rw[dok_n3 (all_not hi hc)]
       refine end_ret ?_ trivial
       rfl
      ·intro h8
       refine lf 0 ty.F123_0 Z<|loI ty.kd3 Z<|lf 0 ty.F34_0 Z<|loL ty.kd31 Z<|lnI ty.sl31 Z ?_
       refine AL.slot 56 (int (d.cells.length:Int)) (congrArg (fun n:Nat=>int (n:Int)) (rowsC_len _)) ?_
       refine lbB Z<|lkB Z<|lmB Z ?_
       refine AL.bool (t:=59) rfl ?_ ?_
       ·intro h9
        refine lno Z<|lno Z<|lno Z<|lno Z<|lkT Z<|nG<|aY Z<|sL<|laZ Z<|nG<|aR<|rB<|rT<|rT<|rB<|rT ?_
        have hc:wrOk d.cells.length d.dirty[i]=false:=by
         unfold wrOk
         try unfold inB
         rw[Bool.eq_iff_iff]
         simp only[length_rowsOf,decide_eq_true_eq,decide_eq_false_iff_not,Bool.and_eq_true,Bool.and_eq_false_iff,Bool.or_eq_true,Bool.not_eq_true,Bool.not_eq_false,Bool.not_eq_true',Bool.not_eq_false',Bool.false_eq_true,inB,iff_false,iff_true,ge_iff_le,gt_iff_lt,ne_eq,bne_iff_ne]at *
         omega
        rw[dok_n3 (all_not hi hc)]
        refine end_ret ?_ trivial
        rfl
       ·intro h9
        refine lf 1 ty.F123_1 Z<|loL ty.kd56 Z<|lnI ty.sl56 Z<|lbB Z<|lkB Z<|nG ?_
        refine AW.cond rfl ?_ ?_
        ·intro h10
         refine sL<|laZ Z<|nG<|aR<|rB<|rT<|rT<|rB<|rT ?_
         have hc:wrOk d.cells.length d.dirty[i]=false:=by
          unfold wrOk
          try unfold inB
          rw[Bool.eq_iff_iff]
          simp only[length_rowsOf,decide_eq_true_eq,decide_eq_false_iff_not,Bool.and_eq_true,Bool.and_eq_false_iff,Bool.or_eq_true,Bool.not_eq_true,Bool.not_eq_false,Bool.not_eq_true',Bool.not_eq_false',Bool.false_eq_true,inB,iff_false,iff_true,ge_iff_le,gt_iff_lt,ne_eq,bne_iff_ne]at *
          omega
         rw[dok_n3 (all_not hi hc)]
         refine end_ret ?_ trivial
         rfl
        ·intro h10
         refine aK<|gB<|gT<|aL<|lgI Z<|lmI Z<|nG ?_
         have hc:wrOk d.cells.length d.dirty[i]=true:=by
          unfold wrOk
          try unfold inB
          rw[Bool.eq_iff_iff]
          simp only[length_rowsOf,decide_eq_true_eq,decide_eq_false_iff_not,Bool.and_eq_true,Bool.and_eq_false_iff,Bool.or_eq_true,Bool.not_eq_true,Bool.not_eq_false,Bool.not_eq_true',Bool.not_eq_false',Bool.false_eq_true,inB,iff_false,iff_true,ge_iff_le,gt_iff_lt,ne_eq,bne_iff_ne]at *
          omega
         refine⟨(i+1),⟨hi,all_take hi hJ.2 hc⟩,by show d.dirty.length-(i+1)<d.dirty.length-i;omega,⟨(iq rfl),trivial⟩,trivial,rfl,rfl⟩
     ·intro h7
      refine aE<|eT<|eT<|eB<|gA<|laT Z<|nG<|aR ?_
      have hie:i=d.dirty.length:=by have h:=h7;have h2:=hJ.1;simp only[decide_eq_false_iff_not]at h;omega
      have hB:d.dirty.all (wrOk d.cells.length)=true:=by have h:=hJ.2;rwa [hie,List.take_length]at h
      rw[dok_y hsz hA hB]
      refine end_ret ?_ trivial
      rfl
theorem dok_iff{d:Disk}(h:diskOk d=true):(1≤d.cells.length∧d.cells.length≤600∧d.dirty.length≤600)∧d.cells.all cellOk=true∧d.dirty.all (wrOk d.cells.length)=true:=by
 unfold diskOk inB at h
 simp only[Bool.and_eq_true,decide_eq_true_eq]at h
 exact⟨⟨by omega,by omega,h.1.1.2⟩,h.1.2,h.2⟩
theorem dok_w{d:Disk}(h:diskOk d=true){j:Nat}(hj:j<d.dirty.length):d.dirty[j].bytes.length=128:=by
 have:=List.all_eq_true.1 (dok_iff h).2.2 _ (List.getElem_mem hj)
 unfold wrOk at this
 simp only[Bool.and_eq_true,decide_eq_true_eq]at this
 exact this.2
theorem dok_c{d:Disk}(h:diskOk d=true){j:Nat}(hj:j<d.cells.length):d.cells[j].bytes.length≤128:=by
 have:=List.all_eq_true.1 (dok_iff h).2.1 _ (List.getElem_mem hj)
 unfold cellOk at this
 simp only[Bool.or_eq_true,decide_eq_true_eq]at this
 omega
theorem lw_drop{i:Int}{b:List Int}:∀(ws:List Write) (j:Nat),lastW (ws.drop j) i=some b→lastW ws i=some b
 |_,0,h=>h
 |[],_+1,h=>h
 |w::r,j+1,h=>by
  have:=lw_drop r j h
  show (match lastW r i with|some b=>some b|none=>_)=some b
  rw[this]
theorem lw_hit{ws:List Write}{i:Int}{j:Nat}(hj:j<ws.length)(h:lastW (ws.drop (j+1)) i=none)(he:ws[j].at_=i):lastW ws i=some ws[j].bytes:=lw_drop ws j (by
 rw[List.drop_eq_getElem_cons hj]
 show (match lastW (ws.drop (j+1)) i with|some b=>some b|none=>if ws[j].at_=i then some ws[j].bytes else none)=_
 rw[h]
 exact if_pos he)
theorem lw_miss{ws:List Write}{i:Int}{j:Nat}(hj:j<ws.length)(h:lastW (ws.drop (j+1)) i=none)(he:ws[j].at_≠i):lastW (ws.drop j) i=none:=by
 rw[List.drop_eq_getElem_cons hj]
 show (match lastW (ws.drop (j+1)) i with|some b=>some b|none=>if ws[j].at_=i then some ws[j].bytes else none)=_
 rw[h]
 exact if_neg he
theorem dAt_w{d:Disk}{i:Nat}{b:List Int}(h:lastW d.dirty i=some b):diskAt d i=b:=by unfold diskAt;rw[h]
theorem dAt_c{d:Disk}{i:Nat}(hi:i<d.cells.length)(h:lastW d.dirty i=none):diskAt d i=fullB d.cells[i].bytes:=by unfold diskAt;rw[h,List.getElem?_eq_getElem hi];rfl
theorem diskRead_o(d:Disk)(i:Nat)(hd:diskOk d=true)(hi:i<d.cells.length):GC Try.prog 119 [diskV d,int (i:Int)] [] (.own 1) [(1,yAr (diskAt d i))]:=by
 refine gi 4 Try.func119 rfl Try.ntmps119 rfl ?_
 intro L O w0
 refine sL<|lst (zX 2002 Z) Z<|laV Z<|nG<|aS<|aS ?_
 have hsz:=(dok_iff hd).1
 refine aL<|lf 1 ty.F34_1 Z<|loL ty.kd32 Z<|lnI ty.sl32 Z ?_
 refine AL.slot 8 (int (d.dirty.length:Int)) (congrArg (fun n:Nat=>int (n:Int)) (rowsW_len _)) ?_
 refine lgI Z<|laI Z<|nG<|aB ?_
 refine aW [1,2,4] [2002] (D:=Nat) (fun a=>[(5,int ((d.dirty.length:Int)-1-(a:Int)))]) (fun a=>[]) (fun a=>a≤d.dirty.length∧lastW (d.dirty.drop (d.dirty.length-a)) i=none) (fun a=>d.dirty.length-a) (0) (⟨Nat.zero_le _,by rw[Nat.sub_zero,List.drop_length];rfl⟩) ⟨(iq rfl),trivial⟩ trivial ?_
 intro k hI
 replace hI:k≤d.dirty.length∧lastW (d.dirty.drop (d.dirty.length-k)) i=none:=hI
 refine aS<|sL<|lmI Z<|lbB Z<|nG ?_
 refine AW.cond rfl ?_ ?_
 ·intro h1
  refine aK<|gT<|aS<|aB<|aS ?_
  have hk:k<d.dirty.length:=by have h:=h1;simp only[ge_iff_le,decide_eq_true_eq]at h;omega
  have hj:(d.dirty.length-1-k)<d.dirty.length:=by omega
  have hJ:d.dirty.length-(k+1)=(d.dirty.length-1-k):=by omega
  have hK:lastW (d.dirty.drop ((d.dirty.length-1-k)+1)) i=none:=by have h:=hI.2;rwa [show d.dirty.length-k=(d.dirty.length-1-k)+1 by omega]at h
  refine aL<|lf 1 ty.F34_1 Z<|loL ty.kd32 Z<|lmI Z<|lsN 16 ((d.dirty.length-1-k:Nat):Int) rfl (by omega)<|li ((d.dirty.length-1-k)) ty.el32 rfl (rowsW_at hj)<|lq (rd (x:=.rp _) (zfr ty.F123_0 rfl) rfl)<|lrI ty.kd3 Z<|lmI Z<|lbB Z<|nG ?_
  refine AW.cond rfl ?_ ?_
  ·intro h2
   refine sL<|lf 1 ty.F34_1 Z<|loL ty.kd32 Z<|lmI Z<|lsN 24 ((d.dirty.length-1-k:Nat):Int) rfl (by omega)<|li ((d.dirty.length-1-k)) ty.el32 rfl (rowsW_at hj)<|lq (rd (x:=.rp _) (zfr ty.F123_1 rfl) rfl)<|lrL ty.kd56 Z<|lst (zC [(1,1)] [1] [] Try.func99 (copyBytes_o d.dirty[(d.dirty.length-1-k)].bytes (by rw[dok_w hd hj];decide)) (trivial) rfl rfl) Z<|lT [1,2,4,5,28] [1,2002] ?_
   refine laO Z<|nG<|aR<|rB<|rT<|rT<|rB<|rT ?_
   rw[dAt_w (lw_hit hj hK (by have h:=h2;simpa using h))]
   refine end_ret ?_ ⟨rfl,trivial⟩
   rfl
  ·intro h2
   refine aK<|gB<|gT<|aL<|lmI Z<|lgI Z<|laI Z<|nG ?_
   refine⟨(k+1),⟨by omega,by rw[hJ];exact lw_miss hj hK (by have h:=h2;simpa using h)⟩,by show d.dirty.length-(k+1)<d.dirty.length-k;omega,⟨(iq rfl),trivial⟩,trivial,rfl,rfl⟩
 ·intro h1
  refine aE<|eT<|eT<|eB<|gT<|aS ?_
  have hke:k=d.dirty.length:=by have h:=h1;have h2:=hI.1;simp only[ge_iff_le,decide_eq_false_iff_not]at h;omega
  have hN:lastW d.dirty i=none:=by have h:=hI.2;rwa [hke,Nat.sub_self,List.drop_zero]at h
  refine aL<|lf 0 ty.F34_0 Z<|loL ty.kd31 Z<|lmI Z<|li i ty.el31 rfl (rowsC_at hi)<|lrX (.agg [vL _ _ _]) ty.kd115 Z<|lst (zC [(1,1)] [1] [] Try.func80 (cellBytes_o d.cells[i].bytes (Nat.le_trans (dok_c hd hi) (by decide))) (trivial) rfl rfl) Z<|laO Z<|nG<|aR ?_
  rw[dAt_c hi hN]
  refine end_ret ?_ ⟨rfl,trivial⟩
  rfl
theorem diskRead_e(d:Disk)(i:Nat)(hd:diskOk d=true)(hi:i<d.cells.length):GC Try.prog 119 [diskV d,int (i:Int)] [] (byV (diskAt d i)) []:=(diskRead_o d i hd hi).frz1
theorem sdiskRead_o(d:Disk)(i:Nat)(hd:diskOk d=true)(hi:i<d.cells.length):GC Try.prog 76 [diskV d,int (i:Int)] [] (.tup [.own 1,boo true]) [(1,yAr (diskAt d i))]:=by
 refine GC.intro (rs:=[.tmp 4,.tmp 5]) Try.func76 rfl Try.ntmps76 (Nat.le_of_ble_eq_true rfl) ⟨rfl,rfl,trivial⟩ ?_
 intro L O w0
 refine sL<|lst (zX 2002 rfl) Z<|laV Z<|laZ Z<|nG<|aS<|sL<|loX (.agg [vL _ _ _,vL _ _ _]) ty.kd34 Z<|lst (zC [] [] [] Try.func41 (sdiskOk_e d) (trivial) rfl rfl) Z<|lsB 8 true rfl (hd)<|luZ Z<|lmZ Z<|lmI Z<|lbB Z<|lsB 12 false rfl (by simp)<|lkZ Z<|lmZ Z<|lmI Z<|lf 0 ty.F34_0 Z<|loL ty.kd31 Z<|lnI ty.sl31 rfl ?_
 refine AL.slot 18 (int (d.cells.length:Int)) (congrArg (fun n:Nat=>int (n:Int)) (rowsC_len _)) ?_
 refine lbB Z<|lsB 19 false rfl (by simp;omega)<|lkZ Z<|nG<|aN Z<|aK<|gT<|aS<|aS ?_
 have hsz:=(dok_iff hd).1
 refine aL<|lf 1 ty.F34_1 Z<|loL ty.kd32 Z<|lnI ty.sl32 Z ?_
 refine AL.slot 23 (int (d.dirty.length:Int)) (congrArg (fun n:Nat=>int (n:Int)) (rowsW_len _)) ?_
 refine lgI Z<|laI Z<|nG<|aB ?_
 refine aW [1,2,4,5] [2002] (D:=Nat) (fun a=>[(6,int ((d.dirty.length:Int)-1-(a:Int)))]) (fun a=>[]) (fun a=>a≤d.dirty.length∧lastW (d.dirty.drop (d.dirty.length-a)) i=none) (fun a=>d.dirty.length-a) (0) (⟨Nat.zero_le _,by rw[Nat.sub_zero,List.drop_length];rfl⟩) ⟨(iq rfl),trivial⟩ trivial ?_
 intro k hI
 replace hI:k≤d.dirty.length∧lastW (d.dirty.drop (d.dirty.length-k)) i=none:=hI
 refine aS<|sL<|lmI Z<|lbB Z<|nG ?_
 refine AW.cond rfl ?_ ?_
 ·intro h1
  refine aK<|gT<|aS<|aB<|aS ?_
  have hk:k<d.dirty.length:=by have h:=h1;simp only[ge_iff_le,decide_eq_true_eq]at h;omega
  have hj:(d.dirty.length-1-k)<d.dirty.length:=by omega
  have hJ:d.dirty.length-(k+1)=(d.dirty.length-1-k):=by omega
  have hK:lastW (d.dirty.drop ((d.dirty.length-1-k)+1)) i=none:=by have h:=hI.2;rwa [show d.dirty.length-k=(d.dirty.length-1-k)+1 by omega]at h
  refine aL<|lf 1 ty.F34_1 Z<|loL ty.kd32 Z<|lmI Z<|lsN 31 ((d.dirty.length-1-k:Nat):Int) rfl (by omega)<|li ((d.dirty.length-1-k)) ty.el32 rfl (rowsW_at hj)<|lq (rd (x:=.rp _) (zfr ty.F123_0 rfl) rfl)<|lrI ty.kd3 Z<|lT [1,2,4,5,6,34] [2002] ?_
  refine lmI Z<|lbB Z<|nG ?_
  refine AW.cond rfl ?_ ?_
  ·intro h2
   refine sL<|lst (zS 1 (rowsOf encU []) ty.el56 ty.ze5 rfl (by intro r hr;cases hr)) Z<|lf 1 ty.F34_1 Z<|loL ty.kd32 Z<|lmI Z<|lsN 40 ((d.dirty.length-1-k:Nat):Int) rfl (by omega)<|li ((d.dirty.length-1-k)) ty.el32 rfl (rowsW_at hj)<|lq (rd (x:=.rp _) (zfr ty.F123_1 rfl) rfl)<|lrL ty.kd56 Z<|lst (zP 1 ty.el56 ty.ze5 ty.by5 rfl (Src.p rfl) (by have:=dok_w hd hj;simp[rowsOf];omega)) Z<|laO Z<|laT Z<|nG<|aR<|rB<|rT<|rT<|rB<|rT ?_
   rw[dAt_w (lw_hit hj hK (by have h:=h2;simpa using h))]
   refine end_ret ?_ ⟨rfl,trivial⟩
   rfl
  ·intro h2
   refine aK<|gB<|gT<|aL<|lmI Z<|lgI Z<|laI Z<|nG ?_
   refine⟨(k+1),⟨by omega,by rw[hJ];exact lw_miss hj hK (by have h:=h2;simpa using h)⟩,by show d.dirty.length-(k+1)<d.dirty.length-k;omega,⟨(iq rfl),trivial⟩,trivial,rfl,rfl⟩
 ·intro h1
  refine aE<|eT<|eT<|eB<|gT<|aS ?_
  have hke:k=d.dirty.length:=by have h:=h1;have h2:=hI.1;simp only[ge_iff_le,decide_eq_false_iff_not]at h;omega
  have hN:lastW d.dirty i=none:=by have h:=hI.2;rwa [hke,Nat.sub_self,List.drop_zero]at h
  refine aL<|lf 0 ty.F34_0 Z<|loL ty.kd31 Z<|lmI Z<|li i ty.el31 rfl (rowsC_at hi)<|lq (rd (x:=.rp _) (zfr ty.F115_0 rfl) rfl)<|lrL ty.kd56 Z<|lst (zC [(1,1)] [1] [] Try.func111 (sfull_o d.cells[i].bytes (Nat.le_trans (dok_c hd hi) (by decide))) (trivial) rfl rfl) Z<|lT [4,5,51] [1,2002] ?_
  refine laO Z<|laT Z<|nG<|aR ?_
  rw[dAt_c hi hN]
  refine end_ret ?_ ⟨rfl,trivial⟩
  rfl
theorem sdiskRead_e(d:Disk)(i:Nat)(hd:diskOk d=true)(hi:i<d.cells.length):GC Try.prog 76 [diskV d,int (i:Int)] [] (.tup [byV (diskAt d i),boo true]) []:=(sdiskRead_o d i hd hi).frz2

def rowsS(l:List Sector):List (List PV):=l.map fun s=>[.v (.int .i64 s.seq),.v (.int .i64 s.epoch),lstB s.body]
abbrev sAr(l:List Sector):AO:=.arr 92 3 (rowsS l)
theorem rowsS_len(l:List Sector):(rowsS l).length=l.length:=List.length_map _
theorem rowsS_app(l:List Sector)(s:Sector):rowsS l++[[.v (.int .i64 s.seq),.v (.int .i64 s.epoch),lstB s.body]]=rowsS (l++[s]):=by unfold rowsS;rw[List.map_append];rfl
def lastE(l:List Sector):Int:=match l.getLast? with|some s=>s.epoch|none=>0
theorem lastE_app(l:List Sector)(s:Sector):lastE (l++[s])=s.epoch:=by unfold lastE;rw[List.getLast?_concat]
theorem goes_iff{acc:List Sector}{b:List Int}:goesOn acc b=true↔secF b=true∧(secC b).seq=(acc.length:Int)∧lastE acc≤(secC b).epoch:=by
 unfold goesOn lastE
 cases h:acc.getLast? with
 |some s=>simp[and_assoc]
 |none=>
  simp only[Bool.and_true,Bool.and_eq_true,beq_iff_eq]
  refine⟨fun⟨h1,h2⟩=>⟨h1,h2,?_⟩,fun⟨h1,h2,_⟩=>⟨h1,h2⟩⟩
  have:=(secOk_iff.1 (secF_iff.1 h1).2.2.1).2.1
  omega
theorem views_len(d:Disk):(views d).length=d.cells.length:=by unfold views;simp
theorem views_at{d:Disk}{i:Nat}(h:i<d.cells.length):(views d).drop i=diskAt d i::(views d).drop (i+1):=by
 rw[List.drop_eq_getElem_cons (by rw[views_len];exact h)]
 congr 1
 unfold views
 simp
theorem run_y{d:Disk}{acc:List Sector}(h:acc.length<d.cells.length)(hg:goesOn acc (diskAt d acc.length)=true):logRun ((views d).drop acc.length) acc=logRun ((views d).drop (acc++[secC (diskAt d acc.length)]).length) (acc++[secC (diskAt d acc.length)]):=by
 rw[views_at h,logRun,if_pos hg];simp
theorem run_n{d:Disk}{acc:List Sector}(h:acc.length<d.cells.length)(hg:goesOn acc (diskAt d acc.length)=false):logRun ((views d).drop acc.length) acc=acc:=by
 rw[views_at h,logRun,if_neg (by simp[hg])]
theorem run_e{d:Disk}{acc:List Sector}(h:acc.length=d.cells.length):logRun ((views d).drop acc.length) acc=acc:=by
 rw[List.drop_of_length_le (by rw[views_len];omega)];rfl
theorem logR_y{d:Disk}(h:diskOk d=true):logR d=logRun (views d) []:=if_pos h
theorem logR_n{d:Disk}(h:diskOk d=false):logR d=[]:=if_neg (by simp[h])
def DkB(d:Disk):Prop:=(∀c∈d.cells,BytesOk c.bytes)∧∀w∈d.dirty,BytesOk w.bytes
theorem lw_mem{i:Int}{b:List Int}:∀ {ws:List Write},lastW ws i=some b→∃w∈ws,w.bytes=b
 |[],h=>by cases h
 |w::r,h=>by
  rw[lastW]at h
  cases q:lastW r i with
  |some b'=>
   rw[q]at h
   injection h with h
   subst h
   obtain⟨w',h1,h2⟩:=lw_mem q
   exact⟨w',List.mem_cons_of_mem _ h1,h2⟩
  |none=>
   rw[q]at h
   dsimp only at h
   split at h
   ·injection h with h;exact⟨w,List.mem_cons_self,h⟩
   ·cases h
theorem diskAt_ok{d:Disk}(hb:DkB d){i:Nat}(hi:i<d.cells.length):BytesOk (diskAt d i):=by
 cases q:lastW d.dirty i with
 |some b=>rw[dAt_w q];obtain⟨w,h1,h2⟩:=lw_mem q;rw[←h2];exact hb.2 w h1
 |none=>
  rw[dAt_c hi q]
  unfold fullB
  split
  ·exact .zero _
  ·exact hb.1 _ (List.getElem_mem hi)
theorem diskAt_len{d:Disk}(h:diskOk d=true){i:Nat}(hi:i<d.cells.length):(diskAt d i).length=128:=by
 cases q:lastW d.dirty i with
 |some b=>
  rw[dAt_w q];obtain⟨w,h1,h2⟩:=lw_mem q
  obtain⟨j,hj,rfl⟩:=List.getElem_of_mem h1
  rw[←h2];exact dok_w h hj
 |none=>
  rw[dAt_c hi q]
  have:=List.all_eq_true.1 (dok_iff h).2.1 _ (List.getElem_mem hi)
  unfold cellOk at this
  simp only[Bool.or_eq_true,decide_eq_true_eq]at this
  rcases this with z|z
  ·rw[fullB_0 z];simp
  ·rw[fullB_n (by omega)];exact z
theorem slogRead_o(d:Disk)(hb:DkB d):GC Try.prog 32 [diskV d] [] (.tup [.own 1,int ((logR d).length:Int)]) [(1,sAr (logR d))]:=by
 refine GC.intro (rs:=[.tmp 2,.tmp 3]) Try.func32 rfl Try.ntmps32 (Nat.le_of_ble_eq_true rfl) ⟨rfl,rfl,trivial⟩ ?_
 intro L O w0
 refine sL<|lst (zX 2001 rfl) Z<|laV Z<|laI Z<|nA<|lst (zS 1 (rowsS []) ty.el58 ty.ze92 rfl (by intro r hr;cases hr)) Z<|laO Z<|nG<|aS<|sL<|loX (.agg [vL _ _ _,vL _ _ _]) ty.kd34 Z<|lst (zC [] [] [] Try.func41 (sdiskOk_e d) (trivial) rfl rfl) Z<|luB Z<|nG ?_
 refine AW.cond rfl ?_ ?_
 ·intro h1
  refine sL<|lmO Z<|laO Z<|laI Z<|nG<|aR<|rT ?_
  have hd:diskOk d=false:=by simpa using h1
  rw[logR_n hd]
  refine end_ret ?_ ⟨rfl,trivial⟩
  rfl
 ·intro h1
  refine aK<|gT<|aS ?_
  have hd:diskOk d=true:=by simpa using h1
  have hsz:=(dok_iff hd).1
  refine aL<|laI Z<|nG<|aS<|sL<|laI Z<|nG<|aB ?_
  refine aW [1,2,3] [2001] (D:=List Sector) (fun l=>[(6,int (l.length:Int)),(5,int (lastE l)),(4,.own 1)]) (fun l=>[(1,sAr l)]) (fun l=>l.length≤d.cells.length∧logRun ((views d).drop l.length) l=logR d) (fun l=>d.cells.length-l.length) ([]) (⟨Nat.zero_le _,(logR_y hd).symm⟩) ⟨rfl,rfl,rfl,trivial⟩ ⟨rfl,trivial⟩ ?_
  intro acc hI
  replace hI:acc.length≤d.cells.length∧logRun ((views d).drop acc.length) acc=logR d:=hI
  refine aS<|sL<|lmI Z<|lf 0 ty.F34_0 Z<|loL ty.kd31 Z<|lnI ty.sl31 Z ?_
  refine AL.slot 19 (int (d.cells.length:Int)) (congrArg (fun n:Nat=>int (n:Int)) (rowsC_len _)) ?_
  refine lbB Z<|nG ?_
  refine AW.cond rfl ?_ ?_
  ·intro h2
   refine aK<|gT<|aS<|aB<|aS ?_
   have hj:acc.length<d.cells.length:=by have h:=h2;simp only[decide_eq_true_eq]at h;omega
   refine aL<|loX (.agg [vL _ _ _,vL _ _ _]) ty.kd34 Z<|lmI Z<|lst (zC [] [] [] Try.func76 (sdiskRead_e d acc.length hd hj) (trivial) Z Z) Z<|lT [1,2,3,4,5,6,26] [1,2001] ?_
   refine lmX (.tup [vL _ _ _,vB true]) Z<|lxL Z<|lxX (vB true) Z<|laL Z<|laT Z<|nA<|lmL Z<|lst (zC [] [] [] Try.func77 (ssectorRead_e (diskAt d acc.length) (diskAt_ok hb hj) (by rw[diskAt_len hd hj];decide)) (trivial) rfl rfl) Z<|lmX (.tup [.agg [vI _ _,vI _ _,vL _ _ _],vB _]) Z<|lxX (.agg [vI _ _,vI _ _,vL _ _ _]) Z<|lxB Z<|lst (zA 2009 ty.ze92 rfl) Z<|lst (zB 2009 ty.co92 ty.inf92 rfl) Z<|laB Z<|nG<|aS<|sL<|lmB Z<|luB Z<|lmB rfl ?_
   refine AL.bool (t:=36) rfl ?_ ?_
   ·intro h3
    refine lno Z<|lno Z<|lno Z<|lno Z<|lkT Z<|lmT Z<|lno Z<|lno Z<|lno Z<|lno Z<|lkT Z<|nG<|aY Z<|aE<|eT<|eO<|eT<|eT<|eB<|gT<|aS ?_
    have hE:acc=logR d:=by first|(rw[←hI.2];exact(run_e (by have h:=h3;simp only[decide_eq_false_iff_not]at h;omega)).symm)|(rw[←hI.2];refine(run_n hj (Bool.eq_false_iff.2 fun q=>?_)).symm;obtain⟨q1,q2,q3⟩:=goes_iff.1 q;first|(have h:=h1;rw[secR_yes q1]at h;simp only[decide_eq_true_eq]at h;omega)|(have h:=h1;rw[q1]at h;exact absurd h (by decide))|(have h:=h1;rw[secR_yes q1]at h;simp[q2]at h;done)|(have h:=h2;rw[secR_yes q1]at h;simp only[decide_eq_true_eq]at h;omega)|(have h:=h2;rw[q1]at h;exact absurd h (by decide))|(have h:=h2;rw[secR_yes q1]at h;simp[q2]at h;done)|(have h:=h3;rw[secR_yes q1]at h;simp only[decide_eq_true_eq]at h;omega)|(have h:=h3;rw[q1]at h;exact absurd h (by decide))|(have h:=h3;rw[secR_yes q1]at h;simp[q2]at h;done))
    refine aL<|lmO Z<|lmO Z<|lnI ty.sl58 Z ?_
    refine AL.slot 56 (int ((logR d).length:Int)) (Eq.trans (b:=int ((rowsS acc).length:Int)) rfl (congrArg (fun n:Nat=>int (n:Int)) (by rw[rowsS_len,hE]))) ?_
    refine laO Z<|laI Z<|nG<|aR ?_
    rw[hE]
    refine end_ret ?_ ⟨rfl,trivial⟩
    rfl
   ·intro h3
    refine lf 0 ty.F92_0 Z<|loI ty.kd3 Z<|lmI Z<|lbB Z<|lkB Z<|lmB Z<|lT [1,2,3,4,5,6,9,42] [1,2001,2009] ?_
    refine AL.bool (t:=42) rfl ?_ ?_
    ·intro h4
     refine lno Z<|lno Z<|lno Z<|lno Z<|lkT Z<|nG<|aY Z<|aE<|eT<|eO<|eT<|eT<|eB<|gT<|aS ?_
     have hE:acc=logR d:=by first|(rw[←hI.2];exact(run_e (by have h:=h4;simp only[decide_eq_false_iff_not]at h;omega)).symm)|(rw[←hI.2];refine(run_n hj (Bool.eq_false_iff.2 fun q=>?_)).symm;obtain⟨q1,q2,q3⟩:=goes_iff.1 q;first|(have h:=h1;rw[secR_yes q1]at h;simp only[decide_eq_true_eq]at h;omega)|(have h:=h1;rw[q1]at h;exact absurd h (by decide))|(have h:=h1;rw[secR_yes q1]at h;simp[q2]at h;done)|(have h:=h2;rw[secR_yes q1]at h;simp only[decide_eq_true_eq]at h;omega)|(have h:=h2;rw[q1]at h;exact absurd h (by decide))|(have h:=h2;rw[secR_yes q1]at h;simp[q2]at h;done)|(have h:=h3;rw[secR_yes q1]at h;simp only[decide_eq_true_eq]at h;omega)|(have h:=h3;rw[q1]at h;exact absurd h (by decide))|(have h:=h3;rw[secR_yes q1]at h;simp[q2]at h;done)|(have h:=h4;rw[secR_yes q1]at h;simp only[decide_eq_true_eq]at h;omega)|(have h:=h4;rw[q1]at h;exact absurd h (by decide))|(have h:=h4;rw[secR_yes q1]at h;simp[q2]at h;done))
     refine aL<|lmO Z<|lmO Z<|lnI ty.sl58 Z ?_
     refine AL.slot 56 (int ((logR d).length:Int)) (Eq.trans (b:=int ((rowsS acc).length:Int)) rfl (congrArg (fun n:Nat=>int (n:Int)) (by rw[rowsS_len,hE]))) ?_
     refine laO Z<|laI Z<|nG<|aR ?_
     rw[hE]
     refine end_ret ?_ ⟨rfl,trivial⟩
     rfl
    ·intro h4
     refine lf 1 ty.F92_1 Z<|loI ty.kd3 Z<|lmI Z<|lbB Z<|lkB Z<|nG ?_
     refine AW.cond rfl ?_ ?_
     ·intro h5
      refine aE<|eT<|eO<|eT<|eT<|eB<|gT<|aS ?_
      have hE:acc=logR d:=by first|(rw[←hI.2];exact(run_e (by have h:=h5;simp only[decide_eq_false_iff_not]at h;omega)).symm)|(rw[←hI.2];refine(run_n hj (Bool.eq_false_iff.2 fun q=>?_)).symm;obtain⟨q1,q2,q3⟩:=goes_iff.1 q;first|(have h:=h1;rw[secR_yes q1]at h;simp only[decide_eq_true_eq]at h;omega)|(have h:=h1;rw[q1]at h;exact absurd h (by decide))|(have h:=h1;rw[secR_yes q1]at h;simp[q2]at h;done)|(have h:=h2;rw[secR_yes q1]at h;simp only[decide_eq_true_eq]at h;omega)|(have h:=h2;rw[q1]at h;exact absurd h (by decide))|(have h:=h2;rw[secR_yes q1]at h;simp[q2]at h;done)|(have h:=h3;rw[secR_yes q1]at h;simp only[decide_eq_true_eq]at h;omega)|(have h:=h3;rw[q1]at h;exact absurd h (by decide))|(have h:=h3;rw[secR_yes q1]at h;simp[q2]at h;done)|(have h:=h4;rw[secR_yes q1]at h;simp only[decide_eq_true_eq]at h;omega)|(have h:=h4;rw[q1]at h;exact absurd h (by decide))|(have h:=h4;rw[secR_yes q1]at h;simp[q2]at h;done)|(have h:=h5;rw[secR_yes q1]at h;simp only[decide_eq_true_eq]at h;omega)|(have h:=h5;rw[q1]at h;exact absurd h (by decide))|(have h:=h5;rw[secR_yes q1]at h;simp[q2]at h;done))
      refine aL<|lmO Z<|lmO Z<|lnI ty.sl58 Z ?_
      refine AL.slot 56 (int ((logR d).length:Int)) (Eq.trans (b:=int ((rowsS acc).length:Int)) rfl (congrArg (fun n:Nat=>int (n:Int)) (by rw[rowsS_len,hE]))) ?_
      refine laO Z<|laI Z<|nG<|aR ?_
      rw[hE]
      refine end_ret ?_ ⟨rfl,trivial⟩
      rfl
     ·intro h5
      refine aK<|gT<|aS ?_
      have hF:secF (diskAt d acc.length)=true:=by first|(simpa using h1)|(simpa using h2)|(simpa using h3)|(simpa using h4)|(simpa using h5)
      have hg:goesOn acc (diskAt d acc.length)=true:=goes_iff.2 ⟨hF,by first|(have h:=h1;rw[secR_yes hF]at h;simpa using h)|(have h:=h2;rw[secR_yes hF]at h;simpa using h)|(have h:=h3;rw[secR_yes hF]at h;simpa using h)|(have h:=h4;rw[secR_yes hF]at h;simpa using h)|(have h:=h5;rw[secR_yes hF]at h;simpa using h),by first|(have h:=h1;rw[secR_yes hF]at h;simp only[decide_eq_false_iff_not]at h;omega)|(have h:=h2;rw[secR_yes hF]at h;simp only[decide_eq_false_iff_not]at h;omega)|(have h:=h3;rw[secR_yes hF]at h;simp only[decide_eq_false_iff_not]at h;omega)|(have h:=h4;rw[secR_yes hF]at h;simp only[decide_eq_false_iff_not]at h;omega)|(have h:=h5;rw[secR_yes hF]at h;simp only[decide_eq_false_iff_not]at h;omega)⟩
      refine aL<|lf 1 ty.F92_1 Z<|loI ty.kd3 Z<|laI Z<|nG<|aL<|lmO Z<|loX (.agg [vI _ _,vI _ _,vL _ _ _]) ty.kd92 Z<|lst (zS 2052 [[.v (.int .i64 (secR (diskAt d acc.length)).seq),.v (.int .i64 (secR (diskAt d acc.length)).epoch),lstB (secR (diskAt d acc.length)).body]] ty.el58 ty.ze92 rfl (by intro r hr;simp at hr;subst hr;rfl)) Z<|lT [1,2,3,4,5,6,50,52] [1,2001,2009,2052] ?_
      refine lst (zP 1 ty.el58 ty.ze92 ty.by92 rfl (Src.own rfl rfl) (by simp[rowsS_len];omega)) Z<|laO Z<|lN<|gB<|gT<|aL<|lmI Z<|lgI Z<|laI Z<|nG ?_
      refine⟨(acc++[secC (diskAt d acc.length)]),⟨by rw[List.length_append];exact hj,by rw[←run_y hj hg];exact hI.2⟩,by show d.cells.length-(acc++[secC (diskAt d acc.length)]).length<d.cells.length-acc.length;rw[List.length_append,List.length_singleton];omega,⟨(Eq.trans (b:=int _) rfl (congrArg int (by rw[List.length_append,List.length_singleton];omega))),(Eq.trans (b:=int (secR (diskAt d acc.length)).epoch) rfl (congrArg int (by rw[lastE_app,secR_yes hF]))),rfl,trivial⟩,⟨(Eq.trans (b:=AO.arr 92 3 (rowsS acc++[[.v (.int .i64 (secR (diskAt d acc.length)).seq),.v (.int .i64 (secR (diskAt d acc.length)).epoch),lstB (secR (diskAt d acc.length)).body]])) rfl (by rw[secR_yes hF,rowsS_app])),trivial⟩,rfl,rfl⟩
  ·intro h2
   refine aE<|eT<|eT<|eB<|gT<|aS ?_
   have hE:acc=logR d:=by first|(rw[←hI.2];exact(run_e (by have h:=h2;simp only[decide_eq_false_iff_not]at h;omega)).symm)|(rw[←hI.2];refine(run_n hj (Bool.eq_false_iff.2 fun q=>?_)).symm;obtain⟨q1,q2,q3⟩:=goes_iff.1 q;first|(have h:=h1;rw[secR_yes q1]at h;simp only[decide_eq_true_eq]at h;omega)|(have h:=h1;rw[q1]at h;exact absurd h (by decide))|(have h:=h1;rw[secR_yes q1]at h;simp[q2]at h;done)|(have h:=h2;rw[secR_yes q1]at h;simp only[decide_eq_true_eq]at h;omega)|(have h:=h2;rw[q1]at h;exact absurd h (by decide))|(have h:=h2;rw[secR_yes q1]at h;simp[q2]at h;done))
   refine aL<|lmO Z<|lmO Z<|lnI ty.sl58 Z ?_
   refine AL.slot 56 (int ((logR d).length:Int)) (Eq.trans (b:=int ((rowsS acc).length:Int)) rfl (congrArg (fun n:Nat=>int (n:Int)) (by rw[rowsS_len,hE]))) ?_
   refine laO Z<|laI Z<|nG<|aR ?_
   rw[hE]
   refine end_ret ?_ ⟨rfl,trivial⟩
   rfl
theorem slogRead_e(d:Disk)(hb:DkB d):GC Try.prog 32 [diskV d] [] (.tup [.p (.lst 92 3 (rowsS (logR d))),int ((logR d).length:Int)]) []:=(slogRead_o d hb).frz2
theorem top_nn(l:List (List Int)):∀t:Int,0≤t→0≤l.foldl (fun t b=>max t (secR b).epoch) t:=by
 induction l with
 |nil=>exact fun t h=>h
 |cons b l ih=>exact fun t h=>ih _ (by show 0≤max t (secR b).epoch;omega)
theorem top_step{d:Disk}{k:Nat}(hj:k<d.cells.length):topOf ((views d).take (k+1))=max (topOf ((views d).take k)) (secR (diskAt d k)).epoch:=by
 rw[List.take_succ_eq_append_getElem (by rw[views_len];exact hj)]
 unfold topOf
 rw[List.foldl_append]
 have:(views d)[k]'(by rw[views_len];exact hj)=diskAt d k:=by unfold views;simp
 rw[this]
 rfl
theorem top_y{d:Disk}{k:Nat}(hj:k<d.cells.length)(h:topOf ((views d).take k)<(secR (diskAt d k)).epoch):(secR (diskAt d k)).epoch=topOf ((views d).take (k+1)):=by rw[top_step hj];omega
theorem top_n1{d:Disk}{k:Nat}(hj:k<d.cells.length)(h:¬topOf ((views d).take k)<(secR (diskAt d k)).epoch):topOf ((views d).take k)=topOf ((views d).take (k+1)):=by rw[top_step hj];omega
theorem top_n2{d:Disk}{k:Nat}(hj:k<d.cells.length)(h:secF (diskAt d k)=false):topOf ((views d).take k)=topOf ((views d).take (k+1)):=by
 have h0:=top_nn ((views d).take k) 0 (Int.le_refl _)
 rw[top_step hj,secR_no h]
 show _=max _ (0:Int)
 unfold topOf
 omega
theorem logTop_y{d:Disk}(h:diskOk d=true):logTop d=topOf (views d):=if_pos h
theorem logTop_n{d:Disk}(h:diskOk d=false):logTop d=0:=if_neg (by simp[h])
theorem slogTop_e(d:Disk)(hb:DkB d):GC Try.prog 33 [diskV d] [] (int (logTop d)) []:=by
 refine gi 2 Try.func33 rfl Try.ntmps33 rfl ?_
 intro L O w0
 refine sL<|lst (zX 2001 Z) Z<|laI Z<|nA<|laI Z<|nG<|aS<|sL<|loX (.agg [vL _ _ _,vL _ _ _]) ty.kd34 Z<|lst (zC [] [] [] Try.func41 (sdiskOk_e d) (trivial) Z Z) Z<|luB Z<|nG ?_
 refine AW.cond rfl ?_ ?_
 ·intro h1
  refine sL<|lmI Z<|laI Z<|nG<|aR<|rT ?_
  have hd:diskOk d=false:=by simpa using h1
  rw[logTop_n hd]
  refine end_ret ?_ trivial
  rfl
 ·intro h1
  refine aK<|gT<|aS<|aS ?_
  have hd:diskOk d=true:=by simpa using h1
  have hsz:=(dok_iff hd).1
  refine aL<|laI Z<|nG<|aB ?_
  refine aW [1,2] [2001] (D:=Nat) (fun a=>[(4,int (a:Int)),(3,int (topOf ((views d).take a)))]) (fun a=>[]) (fun a=>a≤d.cells.length) (fun a=>d.cells.length-a) (0) (Nat.zero_le _) ⟨rfl,rfl,trivial⟩ trivial ?_
  intro k hI
  replace hI:k≤d.cells.length:=hI
  refine aS<|sL<|lmI Z<|lf 0 ty.F34_0 Z<|loL ty.kd31 Z<|lnI ty.sl31 Z ?_
  refine AL.slot 16 (int (d.cells.length:Int)) (congrArg (fun n:Nat=>int (n:Int)) (rowsC_len _)) ?_
  refine lbB Z<|nG ?_
  refine AW.cond rfl ?_ ?_
  ·intro h2
   refine aK<|gT<|aS<|aB<|aS ?_
   have hj:k<d.cells.length:=by have h:=h2;simp only[decide_eq_true_eq]at h;omega
   refine aL<|loX (.agg [vL _ _ _,vL _ _ _]) ty.kd34 Z<|lmI Z<|lst (zC [] [] [] Try.func76 (sdiskRead_e d k hd hj) (trivial) Z Z) Z<|lT [1,2,3,4,23] [2001] ?_
   refine lmX (.tup [vL _ _ _,vB true]) Z<|lxL Z<|lxX (vB true) Z<|laL Z<|laT Z<|nA<|lmL Z<|lst (zC [] [] [] Try.func77 (ssectorRead_e (diskAt d k) (diskAt_ok hb hj) (by rw[diskAt_len hd hj];decide)) (trivial) rfl rfl) Z<|lmX (.tup [.agg [vI _ _,vI _ _,vL _ _ _],vB _]) Z<|lxX (.agg [vI _ _,vI _ _,vL _ _ _]) Z<|lxB Z<|lst (zA 2007 ty.ze92 rfl) Z<|lst (zB 2007 ty.co92 ty.inf92 rfl) Z<|laB Z<|nA<|lmB Z<|lmB rfl ?_
   refine AL.bool (t:=32) rfl ?_ ?_
   ·intro h3
    refine lf 1 ty.F92_1 Z<|loI ty.kd3 Z<|lmI Z<|lbB Z<|lkB Z<|nG ?_
    refine AW.cond rfl ?_ ?_
    ·intro h4
     refine aL<|lf 1 ty.F92_1 Z<|loI ty.kd3 Z<|laI Z<|lN<|gB<|gT<|aL<|lmI Z<|lgI Z<|laI Z<|nG ?_
     refine⟨(k+1),hj,by show d.cells.length-(k+1)<d.cells.length-k;omega,⟨(iq rfl),(Eq.trans (b:=int ((secR (diskAt d k)).epoch)) rfl (congrArg int (top_y hj (by simpa using h4)))),trivial⟩,trivial,rfl,rfl⟩
    ·intro h4
     refine aK<|gB<|gT<|aL<|lmI Z<|lgI Z<|laI Z<|nG ?_
     refine⟨(k+1),hj,by show d.cells.length-(k+1)<d.cells.length-k;omega,⟨(iq rfl),(Eq.trans (b:=int (topOf ((views d).take k))) rfl (congrArg int (top_n1 hj (by simpa using h4)))),trivial⟩,trivial,rfl,rfl⟩
   ·intro h3
    refine lno Z<|lno Z<|lno Z<|lno Z<|lkZ Z<|lT [1,2,3,4,7,37] [2001,2007] ?_
    refine nG<|aN Z<|aK<|gB<|gT<|aL<|lmI Z<|lgI Z<|laI Z<|nG ?_
    refine⟨(k+1),hj,by show d.cells.length-(k+1)<d.cells.length-k;omega,⟨(iq rfl),(Eq.trans (b:=int (topOf ((views d).take k))) rfl (congrArg int (top_n2 hj (by simpa using h3)))),trivial⟩,trivial,rfl,rfl⟩
  ·intro h2
   refine aE<|eT<|eT<|eB<|gA<|lmI Z<|laI Z<|nG<|aR ?_
   have hk:k=d.cells.length:=by have h:=h2;simp only[decide_eq_false_iff_not]at h;omega
   have hT:topOf (views d)=topOf ((views d).take k):=by rw[List.take_of_length_le (by rw[views_len];omega)]
   rw[logTop_y hd,hT]
   refine end_ret ?_ trivial
   rfl
theorem run_mem{s:Sector}:∀ {bs:List (List Int)} {acc:List Sector},s∈logRun bs acc→s∈acc∨∃b∈bs,secF b=true∧s=secC b
 |[],acc,h=>.inl h
 |b::r,acc,h=>by
  rw[logRun]at h
  split at h
  ·rename_i hg
   rcases run_mem h with q|⟨b',q1,q2⟩
   ·rcases List.mem_append.1 q with q|q
    ·exact .inl q
    ·exact .inr ⟨b,List.mem_cons_self,(goes_iff.1 hg).1,List.mem_singleton.1 q⟩
   ·exact .inr ⟨b',List.mem_cons_of_mem _ q1,q2⟩
  ·exact .inl h
theorem logR_ok{d:Disk}(hb:DkB d){s:Sector}(h:s∈logR d):BytesOk s.body∧s.body.length≤100:=by
 cases hd:diskOk d
 ·rw[logR_n hd]at h;cases h
 ·rw[logR_y hd]at h
  rcases run_mem h with q|⟨b,q1,q2,rfl⟩
  ·cases q
  ·unfold views at q1
   obtain⟨i,hi,rfl⟩:=List.mem_map.1 q1
   exact⟨secC_body (diskAt_ok hb (List.mem_range.1 hi)),(secOk_iff.1 (secF_iff.1 q2).2.2.1).2.2⟩
theorem run_len:∀ {bs:List (List Int)} {acc:List Sector},(logRun bs acc).length≤acc.length+bs.length
 |[],acc=>by show acc.length≤_;omega
 |b::r,acc=>by
  rw[logRun]
  split
  ·have:=run_len (bs:=r) (acc:=acc++[secC b])
   simp at this ⊢
   omega
  ·omega
theorem logR_len(d:Disk):(logR d).length≤600:=by
 cases hd:diskOk d
 ·rw[logR_n hd];decide
 ·rw[logR_y hd]
  have h1:=run_len (bs:=views d) (acc:=[])
  rw[views_len]at h1
  have h2:=(dok_iff hd).1.2.1
  simp at h1
  omega
theorem rowsS_at{l:List Sector}{i:Nat}(h:i<l.length):(rowsS l)[i]? = some [.v (.int .i64 l[i].seq),.v (.int .i64 l[i].epoch),lstB l[i].body]:=row_map h
theorem evs_y{l:List Sector}{k:Nat}(hk:k<l.length)(h:evF l[k].body=true):evsOf (l.take k)++[evR l[k].body]=evsOf (l.take (k+1)):=by
 rw[List.take_succ_eq_append_getElem hk,evR_y h];unfold evsOf;rw[List.filterMap_append];simp[h]
theorem evs_n{l:List Sector}{k:Nat}(hk:k<l.length)(h:evF l[k].body=false):evsOf (l.take k)=evsOf (l.take (k+1)):=by
 rw[List.take_succ_eq_append_getElem hk];unfold evsOf;rw[List.filterMap_append];simp[h]
theorem evs_len(l:List Sector):(evsOf l).length≤l.length:=List.length_filterMap_le _ _
abbrev eAr(l:List Event):AO:=.arr 40 7 (rowsOf encEvent l)
theorem slogEvents_o(d:Disk)(hb:DkB d):GC Try.prog 18 [diskV d] [] (.own 1) [(1,eAr (logE d))]:=by
 refine gi 2 Try.func18 rfl Try.ntmps18 rfl ?_
 intro L O w0
 refine sL<|lst (zX 2001 rfl) Z<|laV Z<|nA<|lst (zS 1 (rowsOf encEvent []) ty.el46 ty.ze40 rfl (by intro r hr;cases hr)) Z<|laO Z<|nA<|loX (.agg [vL _ _ _,vL _ _ _]) ty.kd34 Z<|lst (zC [] [] [] Try.func32 (slogRead_e d hb) (trivial) rfl rfl) Z<|lmX (.tup [vL _ _ _,vI _ _]) Z<|lxL Z<|lxI Z<|laL Z<|laI Z<|nG<|aS<|sL<|lmL Z<|lnI ty.sl58 rfl ?_
 refine AL.slot 17 (int ((logR d).length:Int)) (congrArg (fun n:Nat=>int (n:Int)) (rowsS_len _)) ?_
 refine lmI Z<|nG<|aB ?_
 refine aW [2,16,17] [2001] (D:=Nat) (fun a=>[(18,int (a:Int)),(3,.own 1)]) (fun a=>[(1,eAr (evsOf ((logR d).take a)))]) (fun a=>a≤(logR d).length) (fun a=>(logR d).length-a) (0) (Nat.zero_le _) ⟨rfl,rfl,trivial⟩ ⟨rfl,trivial⟩ ?_
 intro k hI
 replace hI:k≤(logR d).length:=hI
 refine sL<|lbB Z<|nG<|aS ?_
 refine AW.cond rfl ?_ ?_
 ·intro h1
  refine aK<|gT<|aS<|aB<|aS ?_
  have hk:k<(logR d).length:=by have h:=h1;simp only[decide_eq_true_eq]at h;omega
  have hS:=logR_ok hb (List.getElem_mem hk)
  have hL:=logR_len d
  have hEl:=evs_len ((logR d).take k)
  have hTl:((logR d).take k).length≤600:=by rw[List.length_take];omega
  refine aL<|li k ty.el58 Z (rowsS_at hk)<|lrX (.agg [vI _ _,vI _ _,vL _ _ _]) ty.kd92 Z<|lst (zA 2007 ty.ze92 Z) Z<|lT [2,3,7,16,17,18,21] [1,2001,2007] ?_
  refine lst (zB 2007 ty.co92 ty.inf92 rfl) Z<|nA<|lf 2 ty.F92_2 Z<|loL ty.kd56 Z<|lst (zC [] [] [] Try.func55 (sbodyEvent_e (logR d)[k].body hS.1 (by have:=hS.2;omega)) (trivial) rfl rfl) Z<|lmX (.tup [.agg [vI _ _,vI _ _,vI _ _,vI _ _,vI _ _,vI _ _,vB _],vB _]) Z<|lxX (.agg [vI _ _,vI _ _,vI _ _,vI _ _,vI _ _,vI _ _,vB _]) Z<|lxB Z<|lst (zA 2008 ty.ze40 rfl) Z<|lst (zB 2008 ty.co40 ty.inf40 rfl) Z<|laB Z<|nA<|lmB Z<|nG ?_
  refine AW.cond rfl ?_ ?_
  ·intro h2
   refine aL<|lmO Z<|loX (.agg [vI _ _,vI _ _,vI _ _,vI _ _,vI _ _,vI _ _,vB _]) ty.kd40 Z<|lst (zS 2031 (rowsOf encEvent [evR (logR d)[k].body]) ty.el46 ty.ze40 Z) Z<|lT [2,3,16,17,18,29,31] [1,2001,2007,2008,2031] ?_
   refine lst (zP 1 ty.el46 ty.ze40 ty.by40 rfl (Src.own rfl rfl) (by simp[rowsOf];omega)) Z<|laO Z<|lN<|gB<|gT<|aL<|lgI Z<|lmI Z<|nG ?_
   refine⟨(k+1),hk,by show (logR d).length-(k+1)<(logR d).length-k;omega,⟨(iq rfl),rfl,trivial⟩,⟨(Eq.trans (b:=AO.arr 40 7 (rowsOf encEvent (evsOf ((logR d).take k))++rowsOf encEvent [evR (logR d)[k].body])) rfl (congrArg (AO.arr 40 7) (Eq.trans (oapp _ _ _).symm (congrArg (rowsOf encEvent) (evs_y hk h2))))),trivial⟩,rfl,rfl⟩
  ·intro h2
   refine aK<|gB<|gT<|aL<|lgI Z<|lmI Z<|nG ?_
   refine⟨(k+1),hk,by show (logR d).length-(k+1)<(logR d).length-k;omega,⟨(iq rfl),rfl,trivial⟩,⟨(congrArg eAr (evs_n hk h2)),trivial⟩,rfl,rfl⟩
 ·intro h1
  refine aE<|eT<|eT<|eB<|gA<|lmO Z<|laO Z<|nG<|aR ?_
  have hk:k=(logR d).length:=by have h:=h1;simp only[decide_eq_false_iff_not]at h;omega
  refine end_ret ?_ ⟨(congrArg (fun l=>eAr (evsOf l)) (List.take_of_length_le (by omega))),trivial⟩
  rfl

theorem rd_mkfL{P:Program}{o:Oper}{τ:Nat→AV}{H:Nat→AO}{X:Nat→Bool}{fn:Fn}{c:Operand}{y:AV}(h:(o.op,ev τ c)=(.makeFunc fn #[] #[c],y)):Rd P o τ H X (.clo fn [] [y]):=by
 simp only[Prod.mk.injEq]at h
 rw[←h.2]
 exact rd_mkf (f:=[]) (cs:=[c]) h.1
abbrev lBox(g:Value):AO:=.box 58 (some g) [.own 2]
theorem lastE_at{acc:List Sector}(h:acc.length-1<acc.length):lastE acc=acc[acc.length-1].epoch:=by
 unfold lastE
 rw[List.getLast?_eq_getElem?,List.getElem?_eq_getElem h]
def goS(acc:List Sector)(b:List Int):List Sector:=if goesOn acc b then acc++[secC b]else acc
theorem readC_e(g:Value)(acc:List Sector)(b:List Int)(hk:acc.length≤600):GC Try.prog 72 [int (acc.length:Int),secV (secR b),boo (secF b),.ptr 1 0 0] [(1,lBox g),(2,sAr acc)] (boo (goesOn acc b)) [(1,lBox g),(2,sAr (goS acc b))]:=by
 refine gi 7 Try.func72 rfl Try.ntmps72 rfl ?_
 intro L O w0
 refine sL<|lst (zX 2005 Z) Z<|laZ Z<|nG<|aS<|aS<|aF []<|vq 0 (rmB Z)<|vq 1 (ruB Z)<|vq 2 (rmB Z) ?_
 refine AF.bool (t:=10) rfl ?_ ?_
 ·intro h1
  refine pno 3 Z<|pno 4 Z<|vno 5 Z<|vno 6 Z<|vq 7 (rkT Z)<|vq 8 (rmT Z)<|vno 9 Z<|vno 10 Z<|vno 11 Z<|pno 12 Z<|pno 13 Z<|pno 14 Z<|vno 15 Z<|vno 16 Z<|vno 17 Z<|vno 18 Z<|vno 19 Z<|vno 20 Z<|vno 21 Z<|vq 22 (rkT Z)<|fD<|gT<|aY Z<|sL<|laZ Z<|nG<|aR<|rT ?_
  have hG:goesOn acc b=false:=Bool.eq_false_iff.2 fun q=>by
   obtain⟨q1,q2,q3⟩:=goes_iff.1 q
   first|(have h:=h1;rw[q1]at h;exact absurd h (by decide))|(have h:=h1;rw[secR_yes q1]at h;simp[q2]at h;done)|(have h:=h1;rw[secR_yes q1,←lastE_at (by omega)]at h;simp only[decide_eq_true_eq]at h;omega)
  rw[hG]
  refine end_ret ?_ ⟨rfl,(congrArg sAr (show acc=goS acc b by unfold goS;rw[hG];rfl)),trivial⟩
  rfl
 ·intro h1
  refine pq 3 (qf 0 ty.F92_0 Z)<|sq 4 (roI ty.kd3 Z)<|vq 5 (rmI Z)<|vq 6 (rbB Z)<|vq 7 (rkB Z)<|vq 8 (rmB Z) ?_
  refine AF.bool (t:=16) rfl ?_ ?_
  ·intro h2
   refine vno 9 Z<|vno 10 Z<|vno 11 Z<|pno 12 Z<|pno 13 Z<|pno 14 Z<|vno 15 Z<|vno 16 Z<|vno 17 Z<|vno 18 Z<|vno 19 Z<|vno 20 Z<|vno 21 Z<|vq 22 (rkT Z)<|fD<|gT<|aY Z<|sL<|laZ Z<|nG<|aR<|rT ?_
   have hG:goesOn acc b=false:=Bool.eq_false_iff.2 fun q=>by
    obtain⟨q1,q2,q3⟩:=goes_iff.1 q
    first|(have h:=h1;rw[q1]at h;exact absurd h (by decide))|(have h:=h1;rw[secR_yes q1]at h;simp[q2]at h;done)|(have h:=h1;rw[secR_yes q1,←lastE_at (by omega)]at h;simp only[decide_eq_true_eq]at h;omega)|(have h:=h2;rw[q1]at h;exact absurd h (by decide))|(have h:=h2;rw[secR_yes q1]at h;simp[q2]at h;done)|(have h:=h2;rw[secR_yes q1,←lastE_at (by omega)]at h;simp only[decide_eq_true_eq]at h;omega)
   rw[hG]
   refine end_ret ?_ ⟨rfl,(congrArg sAr (show acc=goS acc b by unfold goS;rw[hG];rfl)),trivial⟩
   rfl
  ·intro h2
   refine vq 9 (rmI Z)<|vq 10 (rbB Z)<|vq 11 (rmB Z) ?_
   refine AF.bool (t:=19) rfl ?_ ?_
   ·intro h3
    refine pq 12 (qf 1 ty.F92_1 Z)<|sq 13 (roI ty.kd3 Z)<|sq 14 (roO ty.kd58 Z)<|vq 15 (rmI Z) ?_
    have h0:0<acc.length:=by have h:=h3;simp only[decide_eq_true_eq]at h;omega
    refine vq 16 (rgI rfl (by unfold i64;omega))<|fsN 24 ((acc.length-1:Nat):Int) rfl (by omega)<|vq 17 (rj ((acc.length-1)) ty.el58 rfl (by rw[rowsS_len];omega))<|vq 18 (rf 1 ty.F92_1 rfl)<|vq 19 (rd (x:=vI _ _) (rd_load_arr rfl ty.kd3 rfl rfl rfl (rowsS_at (by omega)) rfl) rfl)<|vq 20 (rbB rfl)<|vq 21 (rkB rfl)<|fT [3,5,7,16,29] [1,2,2005] ?_
    refine vq 22 (rkB Z)<|fD<|gT ?_
    refine AW.cond rfl ?_ ?_
    ·intro h4
     refine sL<|laZ Z<|nG<|aR<|rT ?_
     have hG:goesOn acc b=false:=Bool.eq_false_iff.2 fun q=>by
      obtain⟨q1,q2,q3⟩:=goes_iff.1 q
      first|(have h:=h1;rw[q1]at h;exact absurd h (by decide))|(have h:=h1;rw[secR_yes q1]at h;simp[q2]at h;done)|(have h:=h1;rw[secR_yes q1,←lastE_at (by omega)]at h;simp only[decide_eq_true_eq]at h;omega)|(have h:=h2;rw[q1]at h;exact absurd h (by decide))|(have h:=h2;rw[secR_yes q1]at h;simp[q2]at h;done)|(have h:=h2;rw[secR_yes q1,←lastE_at (by omega)]at h;simp only[decide_eq_true_eq]at h;omega)|(have h:=h3;rw[q1]at h;exact absurd h (by decide))|(have h:=h3;rw[secR_yes q1]at h;simp[q2]at h;done)|(have h:=h3;rw[secR_yes q1,←lastE_at (by omega)]at h;simp only[decide_eq_true_eq]at h;omega)|(have h:=h4;rw[q1]at h;exact absurd h (by decide))|(have h:=h4;rw[secR_yes q1]at h;simp[q2]at h;done)|(have h:=h4;rw[secR_yes q1,←lastE_at (by omega)]at h;simp only[decide_eq_true_eq]at h;omega)
     rw[hG]
     refine end_ret ?_ ⟨rfl,(congrArg sAr (show acc=goS acc b by unfold goS;rw[hG];rfl)),trivial⟩
     rfl
    ·intro h4
     refine aK<|gA<|loO ty.kd58 Z<|loX (.agg [vI _ _,vI _ _,vL _ _ _]) ty.kd92 Z<|lst (zS 2033 [[.v (.int .i64 (secR b).seq),.v (.int .i64 (secR b).epoch),lstB (secR b).body]] ty.el58 ty.ze92 rfl (by intro r hr;simp at hr;subst hr;rfl)) Z<|lst (zP 2 ty.el58 ty.ze92 ty.by92 rfl (Src.own rfl rfl) (by simp[rowsS_len];omega)) Z<|lst (zB 1 ty.co58 ty.inf58 rfl) Z<|nA<|laT Z<|nG<|aR ?_
     have hF:secF b=true:=by first|(simpa using h1)|(simpa using h2)|(simpa using h3)|(simpa using h4)
     have hG:goesOn acc b=true:=goes_iff.2 ⟨hF,by first|(have h:=h1;rw[secR_yes hF]at h;simpa using h)|(have h:=h2;rw[secR_yes hF]at h;simpa using h)|(have h:=h3;rw[secR_yes hF]at h;simpa using h)|(have h:=h4;rw[secR_yes hF]at h;simpa using h),by first|(have h:=h1;rw[secR_yes hF,←lastE_at (by omega)]at h;simp only[decide_eq_false_iff_not]at h;omega)|(have h:=h1;have h0:acc=[]:=List.length_eq_zero_iff.1 (by simp only[decide_eq_false_iff_not]at h;omega);subst h0;have:=(secOk_iff.1 (secF_iff.1 hF).2.2.1).2.1;show (0:Int)≤_;omega)|(have h:=h2;rw[secR_yes hF,←lastE_at (by omega)]at h;simp only[decide_eq_false_iff_not]at h;omega)|(have h:=h2;have h0:acc=[]:=List.length_eq_zero_iff.1 (by simp only[decide_eq_false_iff_not]at h;omega);subst h0;have:=(secOk_iff.1 (secF_iff.1 hF).2.2.1).2.1;show (0:Int)≤_;omega)|(have h:=h3;rw[secR_yes hF,←lastE_at (by omega)]at h;simp only[decide_eq_false_iff_not]at h;omega)|(have h:=h3;have h0:acc=[]:=List.length_eq_zero_iff.1 (by simp only[decide_eq_false_iff_not]at h;omega);subst h0;have:=(secOk_iff.1 (secF_iff.1 hF).2.2.1).2.1;show (0:Int)≤_;omega)|(have h:=h4;rw[secR_yes hF,←lastE_at (by omega)]at h;simp only[decide_eq_false_iff_not]at h;omega)|(have h:=h4;have h0:acc=[]:=List.length_eq_zero_iff.1 (by simp only[decide_eq_false_iff_not]at h;omega);subst h0;have:=(secOk_iff.1 (secF_iff.1 hF).2.2.1).2.1;show (0:Int)≤_;omega)⟩
     rw[hG]
     refine end_ret ?_ ⟨rfl,(Eq.trans (b:=AO.arr 92 3 (rowsS acc++[[.v (.int .i64 (secR b).seq),.v (.int .i64 (secR b).epoch),lstB (secR b).body]])) rfl (by unfold goS;rw[if_pos hG,secR_yes hF,rowsS_app])),trivial⟩
     rfl
   ·intro h3
    refine pno 12 Z<|pno 13 Z<|pno 14 Z<|vno 15 Z<|vno 16 Z<|vno 17 Z<|vno 18 Z<|vno 19 Z<|vno 20 Z<|vq 21 (rkZ rfl)<|vq 22 (rkZ rfl)<|fD<|gT<|aN Z<|aK<|gA<|loO ty.kd58 Z<|loX (.agg [vI _ _,vI _ _,vL _ _ _]) ty.kd92 Z<|lst (zS 2033 [[.v (.int .i64 (secR b).seq),.v (.int .i64 (secR b).epoch),lstB (secR b).body]] ty.el58 ty.ze92 rfl (by intro r hr;simp at hr;subst hr;rfl)) Z<|lst (zP 2 ty.el58 ty.ze92 ty.by92 rfl (Src.own rfl rfl) (by simp[rowsS_len];omega)) Z<|lT [3,7,34] [1,2,2005,2033] ?_
    refine lst (zB 1 ty.co58 ty.inf58 Z) Z<|nA<|laT Z<|nG<|aR ?_
    have hF:secF b=true:=by first|(simpa using h1)|(simpa using h2)|(simpa using h3)
    have hG:goesOn acc b=true:=goes_iff.2 ⟨hF,by first|(have h:=h1;rw[secR_yes hF]at h;simpa using h)|(have h:=h2;rw[secR_yes hF]at h;simpa using h)|(have h:=h3;rw[secR_yes hF]at h;simpa using h),by first|(have h:=h1;rw[secR_yes hF,←lastE_at (by omega)]at h;simp only[decide_eq_false_iff_not]at h;omega)|(have h:=h1;have h0:acc=[]:=List.length_eq_zero_iff.1 (by simp only[decide_eq_false_iff_not]at h;omega);subst h0;have:=(secOk_iff.1 (secF_iff.1 hF).2.2.1).2.1;show (0:Int)≤_;omega)|(have h:=h2;rw[secR_yes hF,←lastE_at (by omega)]at h;simp only[decide_eq_false_iff_not]at h;omega)|(have h:=h2;have h0:acc=[]:=List.length_eq_zero_iff.1 (by simp only[decide_eq_false_iff_not]at h;omega);subst h0;have:=(secOk_iff.1 (secF_iff.1 hF).2.2.1).2.1;show (0:Int)≤_;omega)|(have h:=h3;rw[secR_yes hF,←lastE_at (by omega)]at h;simp only[decide_eq_false_iff_not]at h;omega)|(have h:=h3;have h0:acc=[]:=List.length_eq_zero_iff.1 (by simp only[decide_eq_false_iff_not]at h;omega);subst h0;have:=(secOk_iff.1 (secF_iff.1 hF).2.2.1).2.1;show (0:Int)≤_;omega)⟩
    rw[hG]
    refine end_ret ?_ ⟨rfl,(Eq.trans (b:=AO.arr 92 3 (rowsS acc++[[.v (.int .i64 (secR b).seq),.v (.int .i64 (secR b).epoch),lstB (secR b).body]])) rfl (by unfold goS;rw[if_pos hG,secR_yes hF,rowsS_app])),trivial⟩
    rfl
theorem decRead_e(g:Value)(d:Disk)(hd:diskOk d=true)(hb:DkB d):GC Try.prog 71 [diskV d,.clo (.func 72) [] [.ptr 1 0 0]] [(1,lBox g),(2,sAr [])] (.tup []) [(1,lBox g),(2,sAr (logR d))]:=by
 refine GC.intro (rs:=[]) Try.func71 rfl Try.ntmps71 (Nat.le_of_ble_eq_true rfl) trivial ?_
 intro L O w0
 refine sL<|lst (zX 2002 Z) Z<|nG<|aS ?_
 have hsz:=(dok_iff hd).1
 refine aL<|lf 0 ty.F34_0 Z<|loL ty.kd31 Z<|lnI ty.sl31 Z ?_
 refine AL.slot 9 (int (d.cells.length:Int)) (congrArg (fun n:Nat=>int (n:Int)) (rowsC_len _)) ?_
 refine lmI Z<|nG<|aB ?_
 refine aW [1,2,9] [2002] (D:=List Sector) (fun l=>[(10,int (l.length:Int))]) (fun l=>[(1,lBox g),(2,sAr l)]) (fun l=>l.length≤d.cells.length∧logRun ((views d).drop l.length) l=logR d) (fun l=>d.cells.length-l.length) ([]) (⟨Nat.zero_le _,(logR_y hd).symm⟩) ⟨rfl,trivial⟩ ⟨rfl,rfl,trivial⟩ ?_
 intro acc hI
 replace hI:acc.length≤d.cells.length∧logRun ((views d).drop acc.length) acc=logR d:=hI
 refine sL<|lbB Z<|nG<|aS ?_
 refine AW.cond rfl ?_ ?_
 ·intro h1
  refine aK<|gT<|aS<|aB<|aS ?_
  have hj:acc.length<d.cells.length:=by have h:=h1;simp only[decide_eq_true_eq]at h;omega
  refine aL<|lmI Z<|laI Z<|nA<|loX (.agg [vL _ _ _,vL _ _ _]) ty.kd34 Z<|lmI Z<|lst (zC [] [] [] Try.func119 (diskRead_e d acc.length hd hj) (trivial) rfl rfl) Z<|lst (zC [] [] [] Try.func118 (sectorRead_e (diskAt d acc.length) (diskAt_ok hb hj) (by rw[diskAt_len hd hj];decide)) (trivial) rfl rfl) Z<|lmX (.tup [.agg [vI _ _,vI _ _,vL _ _ _],vB _]) Z<|lxX (.agg [vI _ _,vI _ _,vL _ _ _]) Z<|lxB Z<|lst (zA 2005 ty.ze92 rfl) Z<|lT [1,2,4,5,9,10,18,19] [1,2,2002,2005] ?_
  refine lst (zB 2005 ty.co92 ty.inf92 Z) Z<|laB Z<|nA<|lmX (.clo _ _ [.ptr 1 _ 0]) Z<|lmI Z<|loX (.agg [vI _ _,vI _ _,vL _ _ _]) ty.kd92 Z<|lmB Z ?_
  refine lst (zC [(1,1),(2,2)] [2] [1] Try.func72 (readC_e g acc (diskAt d acc.length) (by omega)) (⟨stays.box rfl,trivial⟩) rfl rfl) Z<|luB Z<|nG ?_
  refine AW.cond rfl ?_ ?_
  ·intro h2
   refine aR<|rB<|rT<|rT<|rB ?_
   have hg:goesOn acc (diskAt d acc.length)=false:=by simpa using h2
   have hE:goS acc (diskAt d acc.length)=logR d:=by rw[←hI.2,run_n hj hg];exact if_neg (by simp[hg])
   refine end_ret ?_ ⟨rfl,(congrArg sAr hE),trivial⟩
   rfl
  ·intro h2
   refine aK<|gB<|gT<|aL<|lgI Z<|lmI Z<|nG ?_
   have hg:goesOn acc (diskAt d acc.length)=true:=by simpa using h2
   refine⟨(acc++[secC (diskAt d acc.length)]),⟨by rw[List.length_append];exact hj,by rw[←run_y hj hg];exact hI.2⟩,by show d.cells.length-(acc++[secC (diskAt d acc.length)]).length<d.cells.length-acc.length;rw[List.length_append,List.length_singleton];omega,⟨(Eq.trans (b:=int _) rfl (congrArg int (by rw[List.length_append,List.length_singleton];omega))),trivial⟩,⟨rfl,(congrArg sAr (show goS acc (diskAt d acc.length)=acc++[secC (diskAt d acc.length)]from if_pos hg)),trivial⟩,rfl,rfl⟩
 ·intro h1
  refine aE<|eT<|eT<|eB ?_
  have hE:acc=logR d:=by rw[←hI.2];exact(run_e (by have h:=h1;simp only[decide_eq_false_iff_not]at h;omega)).symm
  refine end_go ?_ ⟨rfl,(congrArg sAr hE),trivial⟩
  rfl
theorem logRead_o(d:Disk)(hb:DkB d):GC Try.prog 29 [diskV d] [] (.tup [.own 2,int ((logR d).length:Int)]) [(2,sAr (logR d))]:=by
 refine GC.intro (rs:=[.tmp 2,.tmp 3]) Try.func29 rfl Try.ntmps29 (Nat.le_of_ble_eq_true rfl) ⟨rfl,rfl,trivial⟩ ?_
 intro L O w0
 refine sL<|lst (zX 2001 Z) Z<|laV Z<|laI Z<|nG<|aS<|sL<|loX (.agg [vL _ _ _,vL _ _ _]) ty.kd34 Z<|lst (zC [] [] [] Try.func46 (diskOk_e d) (trivial) Z Z) Z<|luB Z<|nG ?_
 refine AW.cond rfl ?_ ?_
 ·intro h1
  refine sL<|laV Z<|laI Z<|nG ?_
  refine AW.adoptT 2 2 92 3 rfl ?_
  refine aR<|rT ?_
  have hd:diskOk d=false:=by simpa using h1
  rw[logR_n hd]
  refine end_ret ?_ ⟨rfl,trivial⟩
  rfl
 ·intro h1
  refine aK<|gT<|aS ?_
  have hd:diskOk d=true:=by simpa using h1
  refine aL<|lst (zA 1 ty.ze58 Z) Z<|nG<|aS ?_
  refine AW.adoptB 2 1 0 92 3 rfl (by decide) rfl ?_
  refine AW.pinB 1 rfl ?_
  intro g
  refine aL<|loX (.agg [vL _ _ _,vL _ _ _]) ty.kd34 Z<|lq (rd (x:=.clo _ _ [.ptr 1 _ 0]) (rd_mkfL Z) Z) ?_
  refine lst (zC [(1,1),(2,2)] [2] [1] Try.func71 (decRead_e g d hd hb) (⟨stays.box rfl,trivial⟩) rfl rfl) Z<|nG<|aS<|aF []<|sq 0 (roO ty.kd58 rfl)<|sq 1 (roO ty.kd58 rfl)<|sq 2 (rnI ty.sl58 rfl) ?_
  refine AF.slot 13 (int ((logR d).length:Int)) (congrArg (fun n:Nat=>int (n:Int)) (rowsS_len _)) ?_
  refine vq 3 (raO Z)<|vq 4 (raI Z)<|fD<|gT<|aR ?_
  skip
  refine end_ret ?_ ⟨rfl,trivial⟩
  rfl
theorem logRead_e(d:Disk)(hb:DkB d):GC Try.prog 29 [diskV d] [] (.tup [.p (.lst 92 3 (rowsS (logR d))),int ((logR d).length:Int)]) []:=(logRead_o d hb).frz2
theorem logEvents_o(d:Disk)(hb:DkB d):GC Try.prog 20 [diskV d] [] (.own 1) [(1,eAr (logE d))]:=by
 refine gi 2 Try.func20 rfl Try.ntmps20 rfl ?_
 intro L O w0
 refine sL<|lst (zX 2001 Z) Z<|laV Z<|nA<|loX (.agg [vL _ _ _,vL _ _ _]) ty.kd34 Z<|lst (zC [] [] [] Try.func29 (logRead_e d hb) (trivial) Z Z) Z<|lmX (.tup [vL _ _ _,vI _ _]) Z<|lxL Z<|lxI Z<|laL Z<|laI Z<|nA<|laV Z<|nG ?_
 refine AW.adoptT 1 5 40 7 rfl ?_
 refine aS<|sL<|lmL Z<|lnI ty.sl58 Z ?_
 refine AL.slot 16 (int ((logR d).length:Int)) (congrArg (fun n:Nat=>int (n:Int)) (rowsS_len _)) ?_
 refine lmI Z<|nG<|aB ?_
 refine aW [2,15,16] [2001] (D:=Nat) (fun a=>[(17,int (a:Int)),(5,.own 1)]) (fun a=>[(1,eAr (evsOf ((logR d).take a)))]) (fun a=>a≤(logR d).length) (fun a=>(logR d).length-a) (0) (Nat.zero_le _) ⟨rfl,rfl,trivial⟩ ⟨rfl,trivial⟩ ?_
 intro k hI
 replace hI:k≤(logR d).length:=hI
 refine sL<|lbB Z<|nG<|aS ?_
 refine AW.cond rfl ?_ ?_
 ·intro h1
  refine aK<|gT<|aS<|aB<|aS ?_
  have hk:k<(logR d).length:=by have h:=h1;simp only[decide_eq_true_eq]at h;omega
  have hS:=logR_ok hb (List.getElem_mem hk)
  have hL:=logR_len d
  have hEl:=evs_len ((logR d).take k)
  have hTl:((logR d).take k).length≤600:=by rw[List.length_take];omega
  refine aL<|li k ty.el58 Z (rowsS_at hk)<|lrX (.agg [vI _ _,vI _ _,vL _ _ _]) ty.kd92 Z<|lst (zA 2007 ty.ze92 Z) Z<|lT [2,5,7,15,16,17,20] [1,2001,2007] ?_
  refine lst (zB 2007 ty.co92 ty.inf92 rfl) Z<|nA<|lf 2 ty.F92_2 Z<|loL ty.kd56 Z<|lst (zC [] [] [] Try.func58 (bodyEvent_e (logR d)[k].body hS.1 (by have:=hS.2;omega)) (trivial) rfl rfl) Z<|lmX (.tup [.agg [vI _ _,vI _ _,vI _ _,vI _ _,vI _ _,vI _ _,vB _],vB _]) Z<|lxX (.agg [vI _ _,vI _ _,vI _ _,vI _ _,vI _ _,vI _ _,vB _]) Z<|lxB Z<|lst (zA 2008 ty.ze40 rfl) Z<|lst (zB 2008 ty.co40 ty.inf40 rfl) Z<|laB Z<|nA<|lmB Z<|nG ?_
  refine AW.cond rfl ?_ ?_
  ·intro h2
   refine aL<|lmO Z<|loX (.agg [vI _ _,vI _ _,vI _ _,vI _ _,vI _ _,vI _ _,vB _]) ty.kd40 Z<|lst (zS 2030 (rowsOf encEvent [evR (logR d)[k].body]) ty.el46 ty.ze40 Z) Z<|lT [2,5,15,16,17,28,30] [1,2001,2007,2008,2030] ?_
   refine lst (zP 1 ty.el46 ty.ze40 ty.by40 rfl (Src.own rfl rfl) (by simp[rowsOf];omega)) Z<|laO Z<|lN<|gB<|gT<|aL<|lgI Z<|lmI Z<|nG ?_
   refine⟨(k+1),hk,by show (logR d).length-(k+1)<(logR d).length-k;omega,⟨(iq rfl),rfl,trivial⟩,⟨(Eq.trans (b:=AO.arr 40 7 (rowsOf encEvent (evsOf ((logR d).take k))++rowsOf encEvent [evR (logR d)[k].body])) rfl (congrArg (AO.arr 40 7) (Eq.trans (oapp _ _ _).symm (congrArg (rowsOf encEvent) (evs_y hk h2))))),trivial⟩,rfl,rfl⟩
  ·intro h2
   refine aK<|gB<|gT<|aL<|lgI Z<|lmI Z<|nG ?_
   refine⟨(k+1),hk,by show (logR d).length-(k+1)<(logR d).length-k;omega,⟨(iq rfl),rfl,trivial⟩,⟨(congrArg eAr (evs_n hk h2)),trivial⟩,rfl,rfl⟩
 ·intro h1
  refine aE<|eT<|eT<|eB<|gA<|lmO Z<|laO Z<|nG<|aR ?_
  have hk:k=(logR d).length:=by have h:=h1;simp only[decide_eq_false_iff_not]at h;omega
  refine end_ret ?_ ⟨(congrArg (fun l=>eAr (evsOf l)) (List.take_of_length_le (by omega))),trivial⟩
  rfl

section
variable {P:Program}{L O:Nat→Prop}{w0:World}{N:Nat}{Q:AQ}{c:Code}{F:List AO}
theorem RR.moveIn(m:Nat){k i:List Nat}{v:List AV}{b:List AO}{o:AO}{ρ:Nat→Value}{fp:Nat→List Nat}{a:Act}{w:World}(hr:RR L O w0 N (of2 .bad k v) (tl (of2 .gone i b) (F++[o])) ρ fp a w)(hl:(lowL v&&b.all lowO)=true)(hF:rowF (F++[o]))(hm:m<F.length) :
 ∃ρ fp,RR L O w0 N (of2 .bad k v) (tl (of2 .gone i b) (F.set m o)) ρ fp a w:=by
 rw[Bool.and_eq_true]at hl
 have ho:rowO o=true:=hF o (by simp)
 obtain⟨fp1,h1,_⟩:=hr.weak (τ':=of2 .bad k v) (H':=tl (of2 .gone i b) (F.set m .gone++[o])) (fun t=>.inr rfl) (fun x=>by
  rcases lo_or_hi x with q|⟨y,rfl⟩
  ·rw[tl_lo q,tl_lo q];exact .inr rfl
  ·rw[tl_hi,tl_hi]
   by_cases z:y=m
   ·subst z;rw[List.getElem?_append_left (by simpa using hm),List.getElem?_set_self hm];exact .inl rfl
   ·refine .inr ?_
    rcases Nat.lt_or_ge y F.length with g|g
    ·rw[List.getElem?_append_left (by simpa using g),List.getElem?_append_left g,List.getElem?_set_ne (Ne.symm z)]
    ·rw[List.getElem?_append_right (by simpa using g),List.getElem?_append_right g,List.length_set])
 have hlast:tl (of2 .gone i b) (F.set m .gone++[o]) (1000000+F.length)=o:=by rw[tl_hi,List.getElem?_append_right (by simp)];simp
 have hmm:tl (of2 .gone i b) (F.set m .gone++[o]) (1000000+m)=.gone:=by rw[tl_hi,List.getElem?_append_left (by simpa using hm),List.getElem?_set_self hm];rfl
 have h2:=h1.rename (i:=1000000+F.length) (j:=1000000+m) (by omega) hmm (by rw[hlast];exact ho) (one? (1000000+m)) (by simp[one?])
 have lowK:lowEq (one? (1000000+m)) noK:=fun x hx=>by unfold one? noK;simp;omega
 have e1:(fun t=>kil (one? (1000000+m)) (of2 .bad k v t))=of2 .bad k v:=funext fun t=>by rw[kil_low lowK _ (of2_low hl.1 t),kil_no]
 have hF2:rowF (F.set m .gone++[o]):=fun x hx=>by
  rcases List.mem_append.1 hx with q|q
  ·rcases List.mem_or_eq_of_mem_set q with q|rfl
   ·exact hF x (by simp[q])
   ·rfl
  ·rw[List.mem_singleton.1 q];exact ho
 have e2:upd (upd (fun x=>(tl (of2 .gone i b) (F.set m .gone++[o]) x).kil (one? (1000000+m))) (1000000+F.length) .gone) (1000000+m) (tl (of2 .gone i b) (F.set m .gone++[o]) (1000000+F.length))=tl (of2 .gone i b) (F.set m o):=funext fun x=>by
  rw[hlast]
  rcases lo_or_hi x with q|⟨y,rfl⟩
  ·rw[upd_ne _ _ (by omega),upd_ne _ _ (by omega)]
   show (tl _ _ x).kil _=_
   rw[tl_lo q,tl_lo q,lowO.kil lowK (of2_lowO hl.2 x),AO.kil_no]
  ·rw[tl_hi]
   by_cases hy:y=m
   ·subst hy;rw[upd_same,List.getElem?_set_self hm];rfl
   ·rw[upd_ne _ _ (by omega),List.getElem?_set_ne (Ne.symm hy)]
    by_cases hn:y=F.length
    ·subst hn;rw[upd_same];simp
    ·rw[upd_ne _ _ (by omega)]
     show (tl _ _ (1000000+y)).kil _=_
     rw[tl_hi,rowO.kil (rowF.at hF2 y)]
     rcases Nat.lt_or_ge y F.length with g|g
     ·rw[List.getElem?_append_left (by simpa using g),List.getElem?_set_ne (Ne.symm hy)]
     ·rw[List.getElem?_append_right (by simpa using g),List.getElem?_eq_none (by simp;omega),List.getElem?_eq_none (by omega)]
 rw[e1,e2]at h2
 exact⟨_,_,h2⟩
theorem AW.moveIn(m:Nat){k i:List Nat}{v:List AV}{b:List AO}{o:AO}(hl:(lowL v&&b.all lowO)=true)(hF:rowF (F++[o]))(hm:m<F.length)(hK:AW P L O w0 N c (of2 .bad k v) (tl (of2 .gone i b) (F.set m o)) Q):AW P L O w0 N c (of2 .bad k v) (tl (of2 .gone i b) (F++[o])) Q:=fun ρ fp a w hr=>by
 obtain⟨ρ',fp',h⟩:=hr.moveIn m hl hF hm
 exact hK ρ' fp' a w h
end
end Go.Proofs.Yteblcdnhnckkaaa

