/- FnExactApply is proved: the given statement holds with no condition. Texts joined: EL1, EL1b, App2, EL2, ELA, LFnExactApply, CFnExactApply. -/
import Derived.Test.YtohobndkbmpfcaaGreatJExactApply5
import Derived.Test.YtohobndkbmpfcaaGreatJExactApply2
import Derived.Test.YtohobndkbmpfcaaGreatKHBook
import Derived.Test.YtohobndkbmpfcaaGreatRows
import Derived.Test.YtohobndkbmpfcaaGreatKOpn
/- The laws' helpers, over data. -/
namespace Go.Proofs.YtohobndkbmpfcaaGreat
open Go.RowKit
set_option maxHeartbeats 16000000
set_option maxRecDepth 100000
set_option linter.unusedSimpArgs false
set_option linter.unusedVariables false
theorem toEvent_e (x : Event) : GC Tryz.prog 8 [.agg [int x.kind,int x.key,int x.ch,int x.to,int x.amt,int x.fee,boo x.yes]] [] (.agg [int x.kind,int x.key,int x.ch,int x.to,int x.amt,int x.fee,boo x.yes]) [] := by
 refine GC.intro (rs := [.cell 2 41 (some 7)]) Tryz.func8 rfl Tryz.ntmps8 (Nat.le_of_ble_eq_true rfl) ⟨rfl,rfl,ty.kd41,trivial⟩ ?_
 intro L O w0
 refine sL<|lst (zX 2001 Z) Z<|lst (zA 2002 ty.ze41 Z) Z<|nA<|lst (zA 2003 ty.ze41 Z) Z<|nA<|lf 0 ty.F28_0 Z<|loI ty.kd3 Z<|lf 0 ty.F41_0 Z<|lst (zB 2003 ty.co3 ty.inf3 Z) Z<|nA<|lf 1 ty.F28_1 Z<|loI ty.kd3 Z<|lf 1 ty.F41_1 Z<|lst (zB 2003 ty.co3 ty.inf3 Z) Z<|nA<|lf 2 ty.F28_2 Z ?_
 refine loI ty.kd3 Z<|lf 2 ty.F41_2 Z<|lst (zB 2003 ty.co3 ty.inf3 Z) Z<|lT [1,2,3] [.ptr 2001 _ 0,.ptr 2002 _ 0,.ptr 2003 _ 0] [2001,2002,2003] [.box _ _ [vI _ _,vI _ _,vI _ _,vI _ _,vI _ _,vI _ _,vB _],.box _ _ [vI _ _,vI _ _,vI _ _,vI _ _,vI _ _,vI _ _,vB false],.box _ _ [vI _ _,vI _ _,vI _ _,vI _ _,vI _ _,vI _ _,vB false]] Z Z<|nA<|lf 3 ty.F28_3 Z<|loI ty.kd3 Z<|lf 3 ty.F41_3 Z<|lst (zB 2003 ty.co3 ty.inf3 Z) Z<|nA<|lf 4 ty.F28_4 Z<|loI ty.kd3 Z<|lf 4 ty.F41_4 Z<|lst (zB 2003 ty.co3 ty.inf3 Z) Z<|nA<|lf 5 ty.F28_5 Z<|loI ty.kd3 Z<|lf 5 ty.F41_5 Z<|lst (zB 2003 ty.co3 ty.inf3 Z) Z<|nG ?_
 refine sL<|lf 6 ty.F28_6 Z<|loB ty.kd4 Z<|lf 6 ty.F41_6 Z<|lst (zB 2003 ty.co4 ty.inf4 Z) Z<|lT [2,3] [.ptr 2002 _ 0,.ptr 2003 _ 0] [2001,2002,2003] [.box _ _ [vI _ _,vI _ _,vI _ _,vI _ _,vI _ _,vI _ _,vB _],.box _ _ [vI _ _,vI _ _,vI _ _,vI _ _,vI _ _,vI _ _,vB false],.box _ _ [vI _ _,vI _ _,vI _ _,vI _ _,vI _ _,vI _ _,vB _]] Z Z<|nA<|loX (.agg [vI _ _,vI _ _,vI _ _,vI _ _,vI _ _,vI _ _,vB _]) ty.kd41 Z<|lst (zB 2002 ty.co41 ty.inf41 Z) Z<|nG<|aR ?_
 refine end_ret ?_ trivial
 rfl
theorem toChan_e (x : Chan) : GC Tryz.prog 92 [.agg [int x.id,int x.size,int x.loc,int x.remote,int x.base,int x.ppm,int x.score]] [] (.agg [int x.id,int x.size,int x.loc,int x.remote,int x.base,int x.ppm,int x.score]) [] := by
 refine GC.intro (rs := [.cell 2 78 (some 7)]) Tryz.func92 rfl Tryz.ntmps92 (Nat.le_of_ble_eq_true rfl) ⟨rfl,rfl,ty.kd78,trivial⟩ ?_
 intro L O w0
 refine sL<|lst (zX 2001 Z) Z<|lst (zA 2002 ty.ze78 Z) Z<|nA<|lst (zA 2003 ty.ze78 Z) Z<|nA<|lf 0 ty.F122_0 Z<|loI ty.kd3 Z<|lf 0 ty.F78_0 Z<|lst (zB 2003 ty.co3 ty.inf3 Z) Z<|nA<|lf 1 ty.F122_1 Z<|loI ty.kd3 Z<|lf 1 ty.F78_1 Z<|lst (zB 2003 ty.co3 ty.inf3 Z) Z<|nA<|lf 2 ty.F122_2 Z ?_
 refine loI ty.kd3 Z<|lf 2 ty.F78_2 Z<|lst (zB 2003 ty.co3 ty.inf3 Z) Z<|lT [1,2,3] [.ptr 2001 _ 0,.ptr 2002 _ 0,.ptr 2003 _ 0] [2001,2002,2003] [.box _ _ [vI _ _,vI _ _,vI _ _,vI _ _,vI _ _,vI _ _,vI _ _],.box _ _ [vI _ _,vI _ _,vI _ _,vI _ _,vI _ _,vI _ _,vI _ _],.box _ _ [vI _ _,vI _ _,vI _ _,vI _ _,vI _ _,vI _ _,vI _ _]] Z Z<|nA<|lf 3 ty.F122_3 Z<|loI ty.kd3 Z<|lf 3 ty.F78_3 Z<|lst (zB 2003 ty.co3 ty.inf3 Z) Z<|nA<|lf 4 ty.F122_4 Z<|loI ty.kd3 Z<|lf 4 ty.F78_4 Z<|lst (zB 2003 ty.co3 ty.inf3 Z) Z<|nA<|lf 5 ty.F122_5 Z<|loI ty.kd3 Z<|lf 5 ty.F78_5 Z<|lst (zB 2003 ty.co3 ty.inf3 Z) Z<|nG ?_
 refine sL<|lf 6 ty.F122_6 Z<|loI ty.kd3 Z<|lf 6 ty.F78_6 Z<|lst (zB 2003 ty.co3 ty.inf3 Z) Z<|lT [2,3] [.ptr 2002 _ 0,.ptr 2003 _ 0] [2001,2002,2003] [.box _ _ [vI _ _,vI _ _,vI _ _,vI _ _,vI _ _,vI _ _,vI _ _],.box _ _ [vI _ _,vI _ _,vI _ _,vI _ _,vI _ _,vI _ _,vI _ _],.box _ _ [vI _ _,vI _ _,vI _ _,vI _ _,vI _ _,vI _ _,vI _ _]] Z Z<|nA<|loX (.agg [vI _ _,vI _ _,vI _ _,vI _ _,vI _ _,vI _ _,vI _ _]) ty.kd78 Z<|lst (zB 2002 ty.co78 ty.inf78 Z) Z<|nG<|aR ?_
 refine end_ret ?_ trivial
 rfl
theorem toHtlc_e (x : Htlc) : GC Tryz.prog 93 [.agg [int x.key,int x.inn,int x.out,int x.amtIn,int x.amtOut,boo x.kept,int x.age]] [] (.agg [int x.key,int x.inn,int x.out,int x.amtIn,int x.amtOut,boo x.kept,int x.age]) [] := by
 refine GC.intro (rs := [.cell 2 117 (some 7)]) Tryz.func93 rfl Tryz.ntmps93 (Nat.le_of_ble_eq_true rfl) ⟨rfl,rfl,ty.kd117,trivial⟩ ?_
 intro L O w0
 refine sL<|lst (zX 2001 Z) Z<|lst (zA 2002 ty.ze117 Z) Z<|nA<|lst (zA 2003 ty.ze117 Z) Z<|nA<|lf 0 ty.F124_0 Z<|loI ty.kd3 Z<|lf 0 ty.F117_0 Z<|lst (zB 2003 ty.co3 ty.inf3 Z) Z<|nA<|lf 1 ty.F124_1 Z<|loI ty.kd3 Z<|lf 1 ty.F117_1 Z<|lst (zB 2003 ty.co3 ty.inf3 Z) Z<|nA<|lf 2 ty.F124_2 Z ?_
 refine loI ty.kd3 Z<|lf 2 ty.F117_2 Z<|lst (zB 2003 ty.co3 ty.inf3 Z) Z<|lT [1,2,3] [.ptr 2001 _ 0,.ptr 2002 _ 0,.ptr 2003 _ 0] [2001,2002,2003] [.box _ _ [vI _ _,vI _ _,vI _ _,vI _ _,vI _ _,vB _,vI _ _],.box _ _ [vI _ _,vI _ _,vI _ _,vI _ _,vI _ _,vB false,vI _ _],.box _ _ [vI _ _,vI _ _,vI _ _,vI _ _,vI _ _,vB false,vI _ _]] Z Z<|nA<|lf 3 ty.F124_3 Z<|loI ty.kd3 Z<|lf 3 ty.F117_3 Z<|lst (zB 2003 ty.co3 ty.inf3 Z) Z<|nA<|lf 4 ty.F124_4 Z<|loI ty.kd3 Z<|lf 4 ty.F117_4 Z<|lst (zB 2003 ty.co3 ty.inf3 Z) Z<|nA<|lf 5 ty.F124_5 Z<|loB ty.kd4 Z<|lf 5 ty.F117_5 Z<|lst (zB 2003 ty.co4 ty.inf4 Z) Z<|nG ?_
 refine sL<|lf 6 ty.F124_6 Z<|loI ty.kd3 Z<|lf 6 ty.F117_6 Z<|lst (zB 2003 ty.co3 ty.inf3 Z) Z<|lT [2,3] [.ptr 2002 _ 0,.ptr 2003 _ 0] [2001,2002,2003] [.box _ _ [vI _ _,vI _ _,vI _ _,vI _ _,vI _ _,vB _,vI _ _],.box _ _ [vI _ _,vI _ _,vI _ _,vI _ _,vI _ _,vB false,vI _ _],.box _ _ [vI _ _,vI _ _,vI _ _,vI _ _,vI _ _,vB _,vI _ _]] Z Z<|nA<|loX (.agg [vI _ _,vI _ _,vI _ _,vI _ _,vI _ _,vB _,vI _ _]) ty.kd117 Z<|lst (zB 2002 ty.co117 ty.inf117 Z) Z<|nG<|aR ?_
 refine end_ret ?_ trivial
 rfl
theorem toCircle_e (x : Circle) : GC Tryz.prog 94 [.agg [int x.key,int x.frm,int x.to,int x.amt,int x.fee]] [] (.agg [int x.key,int x.frm,int x.to,int x.amt,int x.fee]) [] := by
 refine GC.intro (rs := [.cell 2 120 (some 5)]) Tryz.func94 rfl Tryz.ntmps94 (Nat.le_of_ble_eq_true rfl) ⟨rfl,rfl,ty.kd120,trivial⟩ ?_
 intro L O w0
 refine sL<|lst (zX 2001 Z) Z<|lst (zA 2002 ty.ze120 Z) Z<|nA<|lst (zA 2003 ty.ze120 Z) Z<|nA<|lf 0 ty.F126_0 Z<|loI ty.kd3 Z<|lf 0 ty.F120_0 Z<|lst (zB 2003 ty.co3 ty.inf3 Z) Z<|nA<|lf 1 ty.F126_1 Z<|loI ty.kd3 Z<|lf 1 ty.F120_1 Z<|lst (zB 2003 ty.co3 ty.inf3 Z) Z<|nA<|lf 2 ty.F126_2 Z ?_
 refine loI ty.kd3 Z<|lf 2 ty.F120_2 Z<|lst (zB 2003 ty.co3 ty.inf3 Z) Z<|lT [1,2,3] [.ptr 2001 _ 0,.ptr 2002 _ 0,.ptr 2003 _ 0] [2001,2002,2003] [.box _ _ [vI _ _,vI _ _,vI _ _,vI _ _,vI _ _],.box _ _ [vI _ _,vI _ _,vI _ _,vI _ _,vI _ _],.box _ _ [vI _ _,vI _ _,vI _ _,vI _ _,vI _ _]] Z Z<|nA<|lf 3 ty.F126_3 Z<|loI ty.kd3 Z<|lf 3 ty.F120_3 Z<|lst (zB 2003 ty.co3 ty.inf3 Z) Z<|nA<|lf 4 ty.F126_4 Z<|loI ty.kd3 Z<|lf 4 ty.F120_4 Z<|lst (zB 2003 ty.co3 ty.inf3 Z) Z<|nA<|loX (.agg [vI _ _,vI _ _,vI _ _,vI _ _,vI _ _]) ty.kd120 Z<|lst (zB 2002 ty.co120 ty.inf120 Z) Z<|nG<|aR ?_
 refine end_ret ?_ trivial
 rfl
theorem toChanS_e (l : List Chan) (hm : l.length ≤ 1048576) : GC Tryz.prog 45 [.p (.lst 122 7 (rowsOf encChan l))] [] (.own 2007) [(2007,.arr 78 7 (rowsOf encChan l))] := by
 refine GC.intro (rs := [.tmp 2]) Tryz.func45 rfl Tryz.ntmps45 (Nat.le_of_ble_eq_true rfl) ⟨rfl,trivial⟩ ?_
 intro L O w0
 refine sL<|laV Z<|nA<|lmL Z<|lnI ty.sl22 Z<|lst (St.make 2007 (m := l.length) rfl rfl (by decide) ty.el30 ty.ze78 rfl rfl rfl ?hn1 ?hn2 (Nat.le_trans (Nat.mul_le_mul_right _ ty.by78) (by omega)) (by unfold maxLen;omega)) rfl ?_
 case hn1 => rw [length_rowsOf]
 case hn2 => rw [length_rowsOf]
 refine laO Z<|nG<|aS<|sL<|laI Z<|nG<|aB ?_
 refine AW.loopE [(0,.p (.lst _ _ _)),(2,.p (.v _)),(3,.own _)] [] (D := Nat) (fun k => [(4,int (k : Int))]) (fun k => [(2007,.arr 78 7 (fill (rowsOf encChan l) [.v (.int .i64 0),.v (.int .i64 0),.v (.int .i64 0),.v (.int .i64 0),.v (.int .i64 0),.v (.int .i64 0),.v (.int .i64 0)] k))]) (fun k => k ≤ l.length) (fun k => l.length - k) (0) (Nat.zero_le _) ⟨rfl,trivial⟩ ⟨(congrArg (fun q => AO.arr 78 7 q) (by rw [fill_zero,length_rowsOf];rfl)),trivial⟩ ⟨rfl,rfl,rfl,trivial⟩ trivial ?_
 intro k hI
 refine aS<|sL<|lmI Z<|lmL Z<|lnI ty.sl22 Z<|lbB Z<|nG ?_
 refine AW.cond rfl ?_ ?_
 ·intro h1
  refine aK<|gT<|aS<|aB<|aL<|lmO Z<|lmI Z<|lmL Z<|lmI Z ?_
  have hk : k < l.length := by simpa [length_rowsOf] using h1
  refine li k ty.el22 Z (row_map hk)<|lrX (.agg [vI _ _,vI _ _,vI _ _,vI _ _,vI _ _,vI _ _,vI _ _]) ty.kd122 Z<|lst (zL Tryz.func92 (toChan_e _) Z) Z<|lT [0,2,3,4,14,15,20] [vL _ _ _,vV _,.own _,vI _ _,.own _,vI _ _,.agg [vI _ _,vI _ _,vI _ _,vI _ _,vI _ _,vI _ _,vI _ _]] [2007] [.arr _ _ _] Z Z ?_
  have hk : k < l.length := by simpa [length_rowsOf] using h1
  refine lq (rj k ty.el30 rfl (by rw [fill_len _ (by rw [length_rowsOf];omega),length_rowsOf];exact hk))<|lst (zQ 2007 [.v (.int .i64 l[k].id),.v (.int .i64 l[k].size),.v (.int .i64 l[k].loc),.v (.int .i64 l[k].remote),.v (.int .i64 l[k].base),.v (.int .i64 l[k].ppm),.v (.int .i64 l[k].score)] ty.co78 ty.inf78 rfl (fill_get (by rw [length_rowsOf];exact hk))) Z<|lN<|gB<|gT<|aL<|lmI Z<|lgI Z<|laI Z<|nG ?_
  refine ⟨k + 1,hk,by omega,⟨(Eq.trans (b := int _) rfl (congrArg int (by omega))),trivial⟩,⟨(Eq.trans (b := AO.arr 78 7 ((fill (rowsOf encChan l) [.v (.int .i64 0),.v (.int .i64 0),.v (.int .i64 0),.v (.int .i64 0),.v (.int .i64 0),.v (.int .i64 0),.v (.int .i64 0)] k).set k ((encChan l[k]).map PV.v))) rfl (congrArg (fun q => AO.arr 78 7 q) (fill_set (row_map hk)))),trivial⟩,⟨rfl,rfl,rfl,trivial⟩,trivial⟩
 ·intro h1
  refine aE<|eT<|eT<|eB<|gA<|lmO Z<|laO Z<|nG<|aR ?_
  refine end_ret ?_ ⟨(congrArg (fun q => AO.arr 78 7 q) (by have h := h1;simp only [length_rowsOf,decide_eq_false_iff_not] at h;rw [show k = (rowsOf encChan l).length by rw [length_rowsOf];omega,fill_all])),trivial⟩
  rfl
theorem toHtlcS_e (l : List Htlc) (hm : l.length ≤ 1048576) : GC Tryz.prog 46 [.p (.lst 124 7 (rowsOf encHtlc l))] [] (.own 2007) [(2007,.arr 117 7 (rowsOf encHtlc l))] := by
 refine GC.intro (rs := [.tmp 2]) Tryz.func46 rfl Tryz.ntmps46 (Nat.le_of_ble_eq_true rfl) ⟨rfl,trivial⟩ ?_
 intro L O w0
 refine sL<|laV Z<|nA<|lmL Z<|lnI ty.sl23 Z<|lst (St.make 2007 (m := l.length) rfl rfl (by decide) ty.el31 ty.ze117 rfl rfl rfl ?hn1 ?hn2 (Nat.le_trans (Nat.mul_le_mul_right _ ty.by117) (by omega)) (by unfold maxLen;omega)) rfl ?_
 case hn1 => rw [length_rowsOf]
 case hn2 => rw [length_rowsOf]
 refine laO Z<|nG<|aS<|sL<|laI Z<|nG<|aB ?_
 refine AW.loopE [(0,.p (.lst _ _ _)),(2,.p (.v _)),(3,.own _)] [] (D := Nat) (fun k => [(4,int (k : Int))]) (fun k => [(2007,.arr 117 7 (fill (rowsOf encHtlc l) [.v (.int .i64 0),.v (.int .i64 0),.v (.int .i64 0),.v (.int .i64 0),.v (.int .i64 0),.v (.bool false),.v (.int .i64 0)] k))]) (fun k => k ≤ l.length) (fun k => l.length - k) (0) (Nat.zero_le _) ⟨rfl,trivial⟩ ⟨(congrArg (fun q => AO.arr 117 7 q) (by rw [fill_zero,length_rowsOf];rfl)),trivial⟩ ⟨rfl,rfl,rfl,trivial⟩ trivial ?_
 intro k hI
 refine aS<|sL<|lmI Z<|lmL Z<|lnI ty.sl23 Z<|lbB Z<|nG ?_
 refine AW.cond rfl ?_ ?_
 ·intro h1
  refine aK<|gT<|aS<|aB<|aL<|lmO Z<|lmI Z<|lmL Z<|lmI Z ?_
  have hk : k < l.length := by simpa [length_rowsOf] using h1
  refine li k ty.el23 Z (row_map hk)<|lrX (.agg [vI _ _,vI _ _,vI _ _,vI _ _,vI _ _,vB _,vI _ _]) ty.kd124 Z<|lst (zL Tryz.func93 (toHtlc_e _) Z) Z<|lT [0,2,3,4,14,15,20] [vL _ _ _,vV _,.own _,vI _ _,.own _,vI _ _,.agg [vI _ _,vI _ _,vI _ _,vI _ _,vI _ _,vB _,vI _ _]] [2007] [.arr _ _ _] Z Z ?_
  have hk : k < l.length := by simpa [length_rowsOf] using h1
  refine lq (rj k ty.el31 rfl (by rw [fill_len _ (by rw [length_rowsOf];omega),length_rowsOf];exact hk))<|lst (zQ 2007 [.v (.int .i64 l[k].key),.v (.int .i64 l[k].inn),.v (.int .i64 l[k].out),.v (.int .i64 l[k].amtIn),.v (.int .i64 l[k].amtOut),.v (.bool l[k].kept),.v (.int .i64 l[k].age)] ty.co117 ty.inf117 rfl (fill_get (by rw [length_rowsOf];exact hk))) Z<|lN<|gB<|gT<|aL<|lmI Z<|lgI Z<|laI Z<|nG ?_
  refine ⟨k + 1,hk,by omega,⟨(Eq.trans (b := int _) rfl (congrArg int (by omega))),trivial⟩,⟨(Eq.trans (b := AO.arr 117 7 ((fill (rowsOf encHtlc l) [.v (.int .i64 0),.v (.int .i64 0),.v (.int .i64 0),.v (.int .i64 0),.v (.int .i64 0),.v (.bool false),.v (.int .i64 0)] k).set k ((encHtlc l[k]).map PV.v))) rfl (congrArg (fun q => AO.arr 117 7 q) (fill_set (row_map hk)))),trivial⟩,⟨rfl,rfl,rfl,trivial⟩,trivial⟩
 ·intro h1
  refine aE<|eT<|eT<|eB<|gA<|lmO Z<|laO Z<|nG<|aR ?_
  refine end_ret ?_ ⟨(congrArg (fun q => AO.arr 117 7 q) (by have h := h1;simp only [length_rowsOf,decide_eq_false_iff_not] at h;rw [show k = (rowsOf encHtlc l).length by rw [length_rowsOf];omega,fill_all])),trivial⟩
  rfl
theorem toCircleS_e (l : List Circle) (hm : l.length ≤ 1048576) : GC Tryz.prog 47 [.p (.lst 126 5 (rowsOf encCircle l))] [] (.own 2007) [(2007,.arr 120 5 (rowsOf encCircle l))] := by
 refine GC.intro (rs := [.tmp 2]) Tryz.func47 rfl Tryz.ntmps47 (Nat.le_of_ble_eq_true rfl) ⟨rfl,trivial⟩ ?_
 intro L O w0
 refine sL<|laV Z<|nA<|lmL Z<|lnI ty.sl24 Z<|lst (St.make 2007 (m := l.length) rfl rfl (by decide) ty.el32 ty.ze120 rfl rfl rfl ?hn1 ?hn2 (Nat.le_trans (Nat.mul_le_mul_right _ ty.by120) (by omega)) (by unfold maxLen;omega)) rfl ?_
 case hn1 => rw [length_rowsOf]
 case hn2 => rw [length_rowsOf]
 refine laO Z<|nG<|aS<|sL<|laI Z<|nG<|aB ?_
 refine AW.loopE [(0,.p (.lst _ _ _)),(2,.p (.v _)),(3,.own _)] [] (D := Nat) (fun k => [(4,int (k : Int))]) (fun k => [(2007,.arr 120 5 (fill (rowsOf encCircle l) [.v (.int .i64 0),.v (.int .i64 0),.v (.int .i64 0),.v (.int .i64 0),.v (.int .i64 0)] k))]) (fun k => k ≤ l.length) (fun k => l.length - k) (0) (Nat.zero_le _) ⟨rfl,trivial⟩ ⟨(congrArg (fun q => AO.arr 120 5 q) (by rw [fill_zero,length_rowsOf];rfl)),trivial⟩ ⟨rfl,rfl,rfl,trivial⟩ trivial ?_
 intro k hI
 refine aS<|sL<|lmI Z<|lmL Z<|lnI ty.sl24 Z<|lbB Z<|nG ?_
 refine AW.cond rfl ?_ ?_
 ·intro h1
  refine aK<|gT<|aS<|aB<|aL<|lmO Z<|lmI Z<|lmL Z<|lmI Z ?_
  have hk : k < l.length := by simpa [length_rowsOf] using h1
  refine li k ty.el24 Z (row_map hk)<|lrX (.agg [vI _ _,vI _ _,vI _ _,vI _ _,vI _ _]) ty.kd126 Z<|lst (zL Tryz.func94 (toCircle_e _) Z) Z<|lT [0,2,3,4,14,15,20] [vL _ _ _,vV _,.own _,vI _ _,.own _,vI _ _,.agg [vI _ _,vI _ _,vI _ _,vI _ _,vI _ _]] [2007] [.arr _ _ _] Z Z ?_
  have hk : k < l.length := by simpa [length_rowsOf] using h1
  refine lq (rj k ty.el32 rfl (by rw [fill_len _ (by rw [length_rowsOf];omega),length_rowsOf];exact hk))<|lst (zQ 2007 [.v (.int .i64 l[k].key),.v (.int .i64 l[k].frm),.v (.int .i64 l[k].to),.v (.int .i64 l[k].amt),.v (.int .i64 l[k].fee)] ty.co120 ty.inf120 rfl (fill_get (by rw [length_rowsOf];exact hk))) Z<|lN<|gB<|gT<|aL<|lmI Z<|lgI Z<|laI Z<|nG ?_
  refine ⟨k + 1,hk,by omega,⟨(Eq.trans (b := int _) rfl (congrArg int (by omega))),trivial⟩,⟨(Eq.trans (b := AO.arr 120 5 ((fill (rowsOf encCircle l) [.v (.int .i64 0),.v (.int .i64 0),.v (.int .i64 0),.v (.int .i64 0),.v (.int .i64 0)] k).set k ((encCircle l[k]).map PV.v))) rfl (congrArg (fun q => AO.arr 120 5 q) (fill_set (row_map hk)))),trivial⟩,⟨rfl,rfl,rfl,trivial⟩,trivial⟩
 ·intro h1
  refine aE<|eT<|eT<|eB<|gA<|lmO Z<|laO Z<|nG<|aR ?_
  refine end_ret ?_ ⟨(congrArg (fun q => AO.arr 120 5 q) (by have h := h1;simp only [length_rowsOf,decide_eq_false_iff_not] at h;rw [show k = (rowsOf encCircle l).length by rw [length_rowsOf];omega,fill_all])),trivial⟩
  rfl
theorem eqAcc_e (x : Acc) : GC Tryz.prog 131 [.agg [int x.kind,int x.ch],.agg [int x.kind,int x.ch]] [] (boo true) [] := by
 refine GC.intro (rs := [.tmp 4]) Tryz.func131 rfl Tryz.ntmps131 (Nat.le_of_ble_eq_true rfl) ⟨rfl,trivial⟩ ?_
 intro L O w0
 refine sL<|lst (zX 2002 rfl) Z<|lst (zX 2003 rfl) Z<|laZ Z<|nG<|aS<|sL<|lf 0 ty.F107_0 Z<|loI ty.kd3 Z<|lf 0 ty.F107_0 Z<|loI ty.kd3 Z<|lbB Z<|lsB 9 false rfl (by simp)<|nG<|aN Z<|aK<|gT<|aS<|sL<|lf 1 ty.F107_1 Z<|loI ty.kd3 Z<|lf 1 ty.F107_1 Z<|loI ty.kd3 Z<|lbB Z<|lsB 14 false rfl (by simp) ?_
 refine nG<|aN Z<|aK<|gA<|laT Z<|nG<|aR ?_
 refine end_ret ?_ trivial
 rfl
theorem eqLine_e (x : Line) : GC Tryz.prog 118 [.agg [int x.acc.kind,int x.acc.ch,int x.amt],.agg [int x.acc.kind,int x.acc.ch,int x.amt]] [] (boo true) [] := by
 refine GC.intro (rs := [.tmp 4]) Tryz.func118 rfl Tryz.ntmps118 (Nat.le_of_ble_eq_true rfl) ⟨rfl,trivial⟩ ?_
 intro L O w0
 refine sL<|lst (zX 2002 rfl) Z<|lst (zX 2003 rfl) Z<|laZ Z<|nG<|aS<|sL<|lf 0 ty.F109_0 Z<|loX (.agg [vI _ _,vI _ _]) ty.kd107 Z<|lf 0 ty.F109_0 Z<|loX (.agg [vI _ _,vI _ _]) ty.kd107 Z<|lst (zL Tryz.func131 (eqAcc_e _) rfl) Z<|luZ Z<|lsB 10 false rfl (by simp)<|nG<|aN Z<|aK<|gT<|aS<|sL<|lf 2 ty.F109_1 Z<|loI ty.kd3 Z<|lf 2 ty.F109_1 Z<|loI ty.kd3 Z<|lbB rfl ?_
 refine lsB 15 false rfl (by simp)<|nG<|aN Z<|aK<|gA<|laT Z<|nG<|aR ?_
 refine end_ret ?_ trivial
 rfl
theorem eqChan_e (x : Chan) : GC Tryz.prog 115 [.agg [int x.id,int x.size,int x.loc,int x.remote,int x.base,int x.ppm,int x.score],.agg [int x.id,int x.size,int x.loc,int x.remote,int x.base,int x.ppm,int x.score]] [] (boo true) [] := by
 refine GC.intro (rs := [.tmp 4]) Tryz.func115 rfl Tryz.ntmps115 (Nat.le_of_ble_eq_true rfl) ⟨rfl,trivial⟩ ?_
 intro L O w0
 refine sL<|lst (zX 2002 rfl) Z<|lst (zX 2003 rfl) Z<|laZ Z<|nG<|aS<|sL<|lf 0 ty.F78_0 Z<|loI ty.kd3 Z<|lf 0 ty.F78_0 Z<|loI ty.kd3 Z<|lbB Z<|lsB 9 false rfl (by simp)<|nG<|aN Z<|aK<|gT<|aS<|sL<|lf 1 ty.F78_1 Z<|loI ty.kd3 Z<|lf 1 ty.F78_1 Z<|loI ty.kd3 Z<|lbB Z<|lsB 14 false rfl (by simp) ?_
 refine nG<|aN Z<|aK<|gT<|aS<|sL<|lf 2 ty.F78_2 Z<|loI ty.kd3 Z<|lf 2 ty.F78_2 Z<|loI ty.kd3 Z<|lbB Z<|lsB 19 false rfl (by simp)<|nG<|aN Z<|aK<|gT<|aS<|sL<|lf 3 ty.F78_3 Z<|loI ty.kd3 Z<|lf 3 ty.F78_3 Z<|loI ty.kd3 Z<|lbB Z<|lsB 24 false rfl (by simp)<|nG ?_
 refine aN Z<|aK<|gT<|aS<|sL<|lf 4 ty.F78_4 Z<|loI ty.kd3 Z<|lf 4 ty.F78_4 Z<|loI ty.kd3 Z<|lbB Z<|lsB 29 false rfl (by simp)<|nG<|aN Z<|aK<|gT<|aS<|sL<|lf 5 ty.F78_5 Z<|loI ty.kd3 Z<|lT [2,3,4,31] [.ptr 2002 _ 0,.ptr 2003 _ 0,vB false,vI _ _] [2002,2003] [.box _ _ [vI _ _,vI _ _,vI _ _,vI _ _,vI _ _,vI _ _,vI _ _],.box _ _ [vI _ _,vI _ _,vI _ _,vI _ _,vI _ _,vI _ _,vI _ _]] rfl Z<|lf 5 ty.F78_5 Z<|loI ty.kd3 Z<|lbB Z<|lsB 34 false rfl (by simp)<|nG<|aN rfl ?_
 refine aK<|gT<|aS<|sL<|lf 6 ty.F78_6 Z<|loI ty.kd3 Z<|lf 6 ty.F78_6 Z<|loI ty.kd3 Z<|lbB Z<|lsB 39 false rfl (by simp)<|nG<|aN Z<|aK<|gA<|laT Z<|nG<|aR ?_
 refine end_ret ?_ trivial
 rfl
theorem eqHtlc_e (x : Htlc) : GC Tryz.prog 116 [.agg [int x.key,int x.inn,int x.out,int x.amtIn,int x.amtOut,boo x.kept,int x.age],.agg [int x.key,int x.inn,int x.out,int x.amtIn,int x.amtOut,boo x.kept,int x.age]] [] (boo true) [] := by
 refine GC.intro (rs := [.tmp 4]) Tryz.func116 rfl Tryz.ntmps116 (Nat.le_of_ble_eq_true rfl) ⟨rfl,trivial⟩ ?_
 intro L O w0
 refine sL<|lst (zX 2002 rfl) Z<|lst (zX 2003 rfl) Z<|laZ Z<|nG<|aS<|sL<|lf 0 ty.F117_0 Z<|loI ty.kd3 Z<|lf 0 ty.F117_0 Z<|loI ty.kd3 Z<|lbB Z<|lsB 9 false rfl (by simp)<|nG<|aN Z<|aK<|gT<|aS<|sL<|lf 1 ty.F117_1 Z<|loI ty.kd3 Z<|lf 1 ty.F117_1 Z<|loI ty.kd3 Z<|lbB Z<|lsB 14 false rfl (by simp) ?_
 refine nG<|aN Z<|aK<|gT<|aS<|sL<|lf 2 ty.F117_2 Z<|loI ty.kd3 Z<|lf 2 ty.F117_2 Z<|loI ty.kd3 Z<|lbB Z<|lsB 19 false rfl (by simp)<|nG<|aN Z<|aK<|gT<|aS<|sL<|lf 3 ty.F117_3 Z<|loI ty.kd3 Z<|lf 3 ty.F117_3 Z<|loI ty.kd3 Z<|lbB Z<|lsB 24 false rfl (by simp)<|nG ?_
 refine aN Z<|aK<|gT<|aS<|sL<|lf 4 ty.F117_4 Z<|loI ty.kd3 Z<|lf 4 ty.F117_4 Z<|loI ty.kd3 Z<|lbB Z<|lsB 29 false rfl (by simp)<|nG<|aN Z<|aK<|gT<|aS<|sL<|lf 5 ty.F117_5 Z<|loB ty.kd4 Z<|lT [2,3,4,31] [.ptr 2002 _ 0,.ptr 2003 _ 0,vB false,vB _] [2002,2003] [.box _ _ [vI _ _,vI _ _,vI _ _,vI _ _,vI _ _,vB _,vI _ _],.box _ _ [vI _ _,vI _ _,vI _ _,vI _ _,vI _ _,vB _,vI _ _]] rfl Z<|lf 5 ty.F117_5 Z<|loB ty.kd4 Z<|lq (rd (x := vB _) (rd_neB rfl rfl rfl Tryz.underlying4) rfl)<|lsB 34 false rfl (by simp)<|nG<|aN rfl ?_
 refine aK<|gT<|aS<|sL<|lf 6 ty.F117_6 Z<|loI ty.kd3 Z<|lf 6 ty.F117_6 Z<|loI ty.kd3 Z<|lbB Z<|lsB 39 false rfl (by simp)<|nG<|aN Z<|aK<|gA<|laT Z<|nG<|aR ?_
 refine end_ret ?_ trivial
 rfl
theorem eqCircle_e (x : Circle) : GC Tryz.prog 117 [.agg [int x.key,int x.frm,int x.to,int x.amt,int x.fee],.agg [int x.key,int x.frm,int x.to,int x.amt,int x.fee]] [] (boo true) [] := by
 refine GC.intro (rs := [.tmp 4]) Tryz.func117 rfl Tryz.ntmps117 (Nat.le_of_ble_eq_true rfl) ⟨rfl,trivial⟩ ?_
 intro L O w0
 refine sL<|lst (zX 2002 rfl) Z<|lst (zX 2003 rfl) Z<|laZ Z<|nG<|aS<|sL<|lf 0 ty.F120_0 Z<|loI ty.kd3 Z<|lf 0 ty.F120_0 Z<|loI ty.kd3 Z<|lbB Z<|lsB 9 false rfl (by simp)<|nG<|aN Z<|aK<|gT<|aS<|sL<|lf 1 ty.F120_1 Z<|loI ty.kd3 Z<|lf 1 ty.F120_1 Z<|loI ty.kd3 Z<|lbB Z<|lsB 14 false rfl (by simp) ?_
 refine nG<|aN Z<|aK<|gT<|aS<|sL<|lf 2 ty.F120_2 Z<|loI ty.kd3 Z<|lf 2 ty.F120_2 Z<|loI ty.kd3 Z<|lbB Z<|lsB 19 false rfl (by simp)<|nG<|aN Z<|aK<|gT<|aS<|sL<|lf 3 ty.F120_3 Z<|loI ty.kd3 Z<|lf 3 ty.F120_3 Z<|loI ty.kd3 Z<|lbB Z<|lsB 24 false rfl (by simp)<|nG ?_
 refine aN Z<|aK<|gT<|aS<|sL<|lf 4 ty.F120_4 Z<|loI ty.kd3 Z<|lf 4 ty.F120_4 Z<|loI ty.kd3 Z<|lbB Z<|lsB 29 false rfl (by simp)<|nG<|aN Z<|aK<|gA<|laT Z<|nG<|aR ?_
 refine end_ret ?_ trivial
 rfl
theorem eqLineS_e (l : List Line) (hm : l.length ≤ 1000000000) : GC Tryz.prog 64 [.p (.lst 109 3 (rowsOf encLine l)),.p (.lst 109 3 (rowsOf encLine l))] [] (boo true) [] := by
 refine GC.intro (rs := [.tmp 4]) Tryz.func64 rfl Tryz.ntmps64 (Nat.le_of_ble_eq_true rfl) ⟨rfl,trivial⟩ ?_
 intro L O w0
 refine sL<|laZ Z<|nG<|aS<|sL<|lmL Z<|lnI ty.sl35 Z<|lmL Z<|lnI ty.sl35 Z<|lbB Z<|lsB 10 false rfl (by simp)<|nG<|aN Z<|aK<|gT<|aS<|sL<|laI Z<|nG<|aB ?_
 refine AW.loopE [(0,.p (.lst _ _ _)),(1,.p (.lst _ _ _)),(4,.p (.v (.bool false)))] [] (D := Nat) (fun k => [(5,int (k : Int))]) (fun k => []) (fun k => k ≤ l.length) (fun k => l.length - k) (0) (Nat.zero_le _) ⟨rfl,trivial⟩ trivial ⟨rfl,rfl,rfl,trivial⟩ trivial ?_
 intro k hI
 refine aS<|sL<|lmI Z<|lmL Z<|lnI ty.sl35 Z<|lbB Z<|nG ?_
 refine AW.cond rfl ?_ ?_
 ·intro h1
  refine aK<|gT<|aS<|aB<|aS<|aF []<|pq 0 (qmL Z)<|pq 1 (qmX (vI _ _) Z) ?_
  have hk : k < l.length := by simpa [length_rowsOf] using h1
  refine sq 2 (ri k ty.el35 Z (row_map hk))<|sq 3 (rrX (.agg [vI _ _,vI _ _,vI _ _]) ty.kd109 Z)<|pq 4 (qmL Z)<|vq 5 (rmI Z) ?_
  have hk : k < l.length := by simpa [length_rowsOf] using h1
  refine vq 6 (ri k ty.el35 rfl (row_map hk))<|vq 7 (rrX (.agg [vI _ _,vI _ _,vI _ _]) ty.kd109 rfl)<|vst 8 rfl (zL Tryz.func118 (eqLine_e _) rfl) (.inr rfl)<|fT [0,1,4,5,25] [vL _ _ _,vL _ _ _,vB false,vI _ _,vB true] [] [] rfl Z<|vq 9 (ruZ rfl)<|fsB 26 false rfl (by simp)<|fD<|gT<|aN Z<|aK<|gB<|gT<|aL<|lmI Z<|lgI Z<|laI Z<|nG ?_
  refine ⟨k + 1,hk,by omega,⟨(Eq.trans (b := int _) rfl (congrArg int (by omega))),trivial⟩,trivial,⟨rfl,rfl,rfl,trivial⟩,trivial⟩
 ·intro h1
  refine aE<|eT<|eT<|eB<|gA<|laT Z<|nG<|aR ?_
  refine end_ret ?_ trivial
  rfl
theorem eqChanS_e (l : List Chan) (hm : l.length ≤ 1000000000) : GC Tryz.prog 61 [.p (.lst 78 7 (rowsOf encChan l)),.p (.lst 78 7 (rowsOf encChan l))] [] (boo true) [] := by
 refine GC.intro (rs := [.tmp 4]) Tryz.func61 rfl Tryz.ntmps61 (Nat.le_of_ble_eq_true rfl) ⟨rfl,trivial⟩ ?_
 intro L O w0
 refine sL<|laZ Z<|nG<|aS<|sL<|lmL Z<|lnI ty.sl30 Z<|lmL Z<|lnI ty.sl30 Z<|lbB Z<|lsB 10 false rfl (by simp)<|nG<|aN Z<|aK<|gT<|aS<|sL<|laI Z<|nG<|aB ?_
 refine AW.loopE [(0,.p (.lst _ _ _)),(1,.p (.lst _ _ _)),(4,.p (.v (.bool false)))] [] (D := Nat) (fun k => [(5,int (k : Int))]) (fun k => []) (fun k => k ≤ l.length) (fun k => l.length - k) (0) (Nat.zero_le _) ⟨rfl,trivial⟩ trivial ⟨rfl,rfl,rfl,trivial⟩ trivial ?_
 intro k hI
 refine aS<|sL<|lmI Z<|lmL Z<|lnI ty.sl30 Z<|lbB Z<|nG ?_
 refine AW.cond rfl ?_ ?_
 ·intro h1
  refine aK<|gT<|aS<|aB<|aS<|aF []<|pq 0 (qmL Z)<|pq 1 (qmX (vI _ _) Z) ?_
  have hk : k < l.length := by simpa [length_rowsOf] using h1
  refine sq 2 (ri k ty.el30 Z (row_map hk))<|sq 3 (rrX (.agg [vI _ _,vI _ _,vI _ _,vI _ _,vI _ _,vI _ _,vI _ _]) ty.kd78 Z)<|pq 4 (qmL Z)<|vq 5 (rmI Z) ?_
  have hk : k < l.length := by simpa [length_rowsOf] using h1
  refine vq 6 (ri k ty.el30 rfl (row_map hk))<|vq 7 (rrX (.agg [vI _ _,vI _ _,vI _ _,vI _ _,vI _ _,vI _ _,vI _ _]) ty.kd78 rfl)<|vst 8 rfl (zL Tryz.func115 (eqChan_e _) rfl) (.inr rfl)<|fT [0,1,4,5,25] [vL _ _ _,vL _ _ _,vB false,vI _ _,vB true] [] [] rfl Z<|vq 9 (ruZ rfl)<|fsB 26 false rfl (by simp)<|fD<|gT<|aN Z<|aK<|gB<|gT<|aL<|lmI Z<|lgI Z<|laI Z<|nG ?_
  refine ⟨k + 1,hk,by omega,⟨(Eq.trans (b := int _) rfl (congrArg int (by omega))),trivial⟩,trivial,⟨rfl,rfl,rfl,trivial⟩,trivial⟩
 ·intro h1
  refine aE<|eT<|eT<|eB<|gA<|laT Z<|nG<|aR ?_
  refine end_ret ?_ trivial
  rfl
theorem eqHtlcS_e (l : List Htlc) (hm : l.length ≤ 1000000000) : GC Tryz.prog 62 [.p (.lst 117 7 (rowsOf encHtlc l)),.p (.lst 117 7 (rowsOf encHtlc l))] [] (boo true) [] := by
 refine GC.intro (rs := [.tmp 4]) Tryz.func62 rfl Tryz.ntmps62 (Nat.le_of_ble_eq_true rfl) ⟨rfl,trivial⟩ ?_
 intro L O w0
 refine sL<|laZ Z<|nG<|aS<|sL<|lmL Z<|lnI ty.sl31 Z<|lmL Z<|lnI ty.sl31 Z<|lbB Z<|lsB 10 false rfl (by simp)<|nG<|aN Z<|aK<|gT<|aS<|sL<|laI Z<|nG<|aB ?_
 refine AW.loopE [(0,.p (.lst _ _ _)),(1,.p (.lst _ _ _)),(4,.p (.v (.bool false)))] [] (D := Nat) (fun k => [(5,int (k : Int))]) (fun k => []) (fun k => k ≤ l.length) (fun k => l.length - k) (0) (Nat.zero_le _) ⟨rfl,trivial⟩ trivial ⟨rfl,rfl,rfl,trivial⟩ trivial ?_
 intro k hI
 refine aS<|sL<|lmI Z<|lmL Z<|lnI ty.sl31 Z<|lbB Z<|nG ?_
 refine AW.cond rfl ?_ ?_
 ·intro h1
  refine aK<|gT<|aS<|aB<|aS<|aF []<|pq 0 (qmL Z)<|pq 1 (qmX (vI _ _) Z) ?_
  have hk : k < l.length := by simpa [length_rowsOf] using h1
  refine sq 2 (ri k ty.el31 Z (row_map hk))<|sq 3 (rrX (.agg [vI _ _,vI _ _,vI _ _,vI _ _,vI _ _,vB _,vI _ _]) ty.kd117 Z)<|pq 4 (qmL Z)<|vq 5 (rmI Z) ?_
  have hk : k < l.length := by simpa [length_rowsOf] using h1
  refine vq 6 (ri k ty.el31 rfl (row_map hk))<|vq 7 (rrX (.agg [vI _ _,vI _ _,vI _ _,vI _ _,vI _ _,vB _,vI _ _]) ty.kd117 rfl)<|vst 8 rfl (zL Tryz.func116 (eqHtlc_e _) rfl) (.inr rfl)<|fT [0,1,4,5,25] [vL _ _ _,vL _ _ _,vB false,vI _ _,vB true] [] [] rfl Z<|vq 9 (ruZ rfl)<|fsB 26 false rfl (by simp)<|fD<|gT<|aN Z<|aK<|gB<|gT<|aL<|lmI Z<|lgI Z<|laI Z<|nG ?_
  refine ⟨k + 1,hk,by omega,⟨(Eq.trans (b := int _) rfl (congrArg int (by omega))),trivial⟩,trivial,⟨rfl,rfl,rfl,trivial⟩,trivial⟩
 ·intro h1
  refine aE<|eT<|eT<|eB<|gA<|laT Z<|nG<|aR ?_
  refine end_ret ?_ trivial
  rfl
theorem eqCircleS_e (l : List Circle) (hm : l.length ≤ 1000000000) : GC Tryz.prog 63 [.p (.lst 120 5 (rowsOf encCircle l)),.p (.lst 120 5 (rowsOf encCircle l))] [] (boo true) [] := by
 refine GC.intro (rs := [.tmp 4]) Tryz.func63 rfl Tryz.ntmps63 (Nat.le_of_ble_eq_true rfl) ⟨rfl,trivial⟩ ?_
 intro L O w0
 refine sL<|laZ Z<|nG<|aS<|sL<|lmL Z<|lnI ty.sl32 Z<|lmL Z<|lnI ty.sl32 Z<|lbB Z<|lsB 10 false rfl (by simp)<|nG<|aN Z<|aK<|gT<|aS<|sL<|laI Z<|nG<|aB ?_
 refine AW.loopE [(0,.p (.lst _ _ _)),(1,.p (.lst _ _ _)),(4,.p (.v (.bool false)))] [] (D := Nat) (fun k => [(5,int (k : Int))]) (fun k => []) (fun k => k ≤ l.length) (fun k => l.length - k) (0) (Nat.zero_le _) ⟨rfl,trivial⟩ trivial ⟨rfl,rfl,rfl,trivial⟩ trivial ?_
 intro k hI
 refine aS<|sL<|lmI Z<|lmL Z<|lnI ty.sl32 Z<|lbB Z<|nG ?_
 refine AW.cond rfl ?_ ?_
 ·intro h1
  refine aK<|gT<|aS<|aB<|aS<|aF []<|pq 0 (qmL Z)<|pq 1 (qmX (vI _ _) Z) ?_
  have hk : k < l.length := by simpa [length_rowsOf] using h1
  refine sq 2 (ri k ty.el32 Z (row_map hk))<|sq 3 (rrX (.agg [vI _ _,vI _ _,vI _ _,vI _ _,vI _ _]) ty.kd120 Z)<|pq 4 (qmL Z)<|vq 5 (rmI Z) ?_
  have hk : k < l.length := by simpa [length_rowsOf] using h1
  refine vq 6 (ri k ty.el32 rfl (row_map hk))<|vq 7 (rrX (.agg [vI _ _,vI _ _,vI _ _,vI _ _,vI _ _]) ty.kd120 rfl)<|vst 8 rfl (zL Tryz.func117 (eqCircle_e _) rfl) (.inr rfl)<|fT [0,1,4,5,25] [vL _ _ _,vL _ _ _,vB false,vI _ _,vB true] [] [] rfl Z<|vq 9 (ruZ rfl)<|fsB 26 false rfl (by simp)<|fD<|gT<|aN Z<|aK<|gB<|gT<|aL<|lmI Z<|lgI Z<|laI Z<|nG ?_
  refine ⟨k + 1,hk,by omega,⟨(Eq.trans (b := int _) rfl (congrArg int (by omega))),trivial⟩,trivial,⟨rfl,rfl,rfl,trivial⟩,trivial⟩
 ·intro h1
  refine aE<|eT<|eT<|eB<|gA<|laT Z<|nG<|aR ?_
  refine end_ret ?_ trivial
  rfl
end Go.Proofs.YtohobndkbmpfcaaGreat

/- The laws' helpers that mark, over data. -/
namespace Go.Proofs.YtohobndkbmpfcaaGreat
open Go.RowKit
set_option maxHeartbeats 16000000
set_option maxRecDepth 100000
set_option linter.unusedSimpArgs false
set_option linter.unusedVariables false
def mk1Line (k : Int) : Line := ⟨⟨k,k + 1⟩,k + 2⟩
abbrev mkdLine (k : Int) (m : Nat) : List Line := mkLs mk1Line 3 k m
theorem markLineS_e (u : Value) (l : List Line) (k : Int) (hm : l.length ≤ 100000000) (hk : 0 ≤ k ∧ k ≤ 1000000000000) : GC Tryz.prog 68 [.own 0,int k] [(0,.arr ⟨109,some u⟩ 3 (rowsOf encLine l))] (int (k + 3 * (l.length : Int))) [(0,.arr ⟨109,some u⟩ 3 (rowsOf encLine (mkdLine k l.length)))] := by
 refine GC.intro (rs := [.tmp 4]) Tryz.func68 rfl Tryz.ntmps68 (Nat.le_of_ble_eq_true rfl) ⟨rfl,trivial⟩ ?_
 intro L O w0
 refine sL<|laI Z<|nG<|aS<|sL<|laI Z<|nG<|aB ?_
 refine AW.loopE [(0,.own _),(4,.p (.v (.int _ _)))] [] (D := Nat) (fun j => [(5,int (j : Int)),(1,int (k + 3 * (j : Int)))]) (fun j => [(0,.arr ⟨109,some u⟩ 3 (rowsOf encLine (mkdLine k j ++ l.drop j)))]) (fun j => j ≤ l.length) (fun j => l.length - j) (0) (Nat.zero_le _) ⟨rfl,(congrArg int (by omega)),trivial⟩ ⟨rfl,trivial⟩ ⟨rfl,rfl,trivial⟩ trivial ?_
 intro j hI
 refine aS<|sL<|lmI Z<|lmO Z<|lnI ty.sl35 Z<|lbB Z<|nG ?_
 refine AW.cond rfl ?_ ?_
 ·intro h1
  refine aK<|gT<|aS<|aB<|aS ?_
  have hj : j < l.length := by have h := h1;simp [length_rowsOf,mkLs_len] at h;omega
  refine aL<|lmO Z<|lmI Z<|lmI Z<|lq (rj j ty.el35 rfl (by simp [length_rowsOf,mkLs_len];omega))<|lf 0 ty.F109_0 Z<|lf 0 ty.F107_0 Z<|lst (zQ 0 [.v (.int .i64 (k + 3 * (j : Int)))] ty.co3 ty.inf3 rfl (rows_some (marked_get mkLs_len hj))) Z<|nG ?_
  refine AW.obj 0 (.arr ⟨109,some u⟩ 3 ((rowsOf encLine (mkdLine k j ++ l.drop j)).set j [.v (.int .i64 (k + 3 * (j : Int))),.v (.int .i64 l[j].acc.ch),.v (.int .i64 l[j].amt)])) (rfl) ?_
  refine sL<|lmI Z<|lgI Z<|lsN 19 (k + 3 * (j : Int) + 1) rfl (by omega)<|laI Z<|nA<|lmO Z<|lmI Z<|lmI Z<|lq (rj j ty.el35 rfl (by simp [length_rowsOf,mkLs_len];omega))<|lf 0 ty.F109_0 Z<|lf 1 ty.F107_1 Z<|lst (zQ 0 [.v (.int .i64 (k + 3 * (j : Int) + 1))] ty.co3 ty.inf3 rfl (List.getElem?_set_self (by simp [length_rowsOf,mkLs_len];omega))) Z<|lT [0,1,4,5] [.own _,vI _ _,vI _ _,vI _ _] [0] [.arr _ _ _] rfl Z<|nG ?_
  refine AW.obj 0 (.arr ⟨109,some u⟩ 3 ((rowsOf encLine (mkdLine k j ++ l.drop j)).set j [.v (.int .i64 (k + 3 * (j : Int))),.v (.int .i64 (k + 3 * (j : Int) + 1)),.v (.int .i64 l[j].amt)])) (Eq.trans (b := AO.arr ⟨109,some u⟩ 3 (((rowsOf encLine (mkdLine k j ++ l.drop j)).set j [.v (.int .i64 (k + 3 * (j : Int))),.v (.int .i64 l[j].acc.ch),.v (.int .i64 l[j].amt)]).set j [.v (.int .i64 (k + 3 * (j : Int))),.v (.int .i64 (k + 3 * (j : Int) + 1)),.v (.int .i64 l[j].amt)])) rfl (congrArg (AO.arr ⟨109,some u⟩ 3) (List.set_set ..))) ?_
  refine sL<|lmI Z<|lgI Z<|lsN 27 (k + 3 * (j : Int) + 2) rfl (by omega)<|laI Z<|nA<|lmO Z<|lmI Z<|lmI Z<|lq (rj j ty.el35 rfl (by simp [length_rowsOf,mkLs_len];omega))<|lf 2 ty.F109_1 Z<|lst (zQ 0 [.v (.int .i64 (k + 3 * (j : Int) + 2))] ty.co3 ty.inf3 rfl (List.getElem?_set_self (by simp [length_rowsOf,mkLs_len];omega))) Z<|nG ?_
  refine AW.obj 0 (.arr ⟨109,some u⟩ 3 ((rowsOf encLine (mkdLine k j ++ l.drop j)).set j [.v (.int .i64 (k + 3 * (j : Int))),.v (.int .i64 (k + 3 * (j : Int) + 1)),.v (.int .i64 (k + 3 * (j : Int) + 2))])) (Eq.trans (b := AO.arr ⟨109,some u⟩ 3 (((rowsOf encLine (mkdLine k j ++ l.drop j)).set j [.v (.int .i64 (k + 3 * (j : Int))),.v (.int .i64 (k + 3 * (j : Int) + 1)),.v (.int .i64 l[j].amt)]).set j [.v (.int .i64 (k + 3 * (j : Int))),.v (.int .i64 (k + 3 * (j : Int) + 1)),.v (.int .i64 (k + 3 * (j : Int) + 2))])) rfl (congrArg (AO.arr ⟨109,some u⟩ 3) (List.set_set ..))) ?_
  refine aL<|lmI Z<|lgI Z<|lsN 34 (k + 3 * (j : Int) + 3) rfl (by omega)<|laI Z<|lN<|gB<|gT<|aL<|lmI Z<|lgI Z<|laI Z<|nG ?_
  refine ⟨j + 1,hj,by omega,⟨(Eq.trans (b := int _) rfl (congrArg int (by omega))),(Eq.trans (b := int _) rfl (congrArg int (by omega))),trivial⟩,⟨(Eq.trans (b := AO.arr ⟨109,some u⟩ 3 ((rowsOf encLine (mkdLine k j ++ l.drop j)).set j ((encLine (mk1Line (k + 3 * (j : Int)))).map PV.v))) rfl (congrArg (AO.arr ⟨109,some u⟩ 3) (rows_set.trans (congrArg (rowsOf encLine) (marked_set mkLs_len mkLs_succ hj))))),trivial⟩,⟨rfl,rfl,trivial⟩,trivial⟩
 ·intro h1
  refine aE<|eT<|eT<|eB<|gA<|lmI Z<|laI Z<|nG<|aR ?_
  have hje : j = l.length := by have h := h1;simp [length_rowsOf,mkLs_len] at h;omega
  refine end_ret ?_ ⟨(congrArg (fun q => AO.arr ⟨109,some u⟩ 3 (rowsOf encLine q)) (by rw [hje,List.drop_length,List.append_nil])),trivial⟩
  rw [hje]
  try rfl
theorem heldLineS_e (m : Nat) (k : Int) (hm : m ≤ 100000000) (hk : 0 ≤ k ∧ k ≤ 1000000000000) : GC Tryz.prog 72 [.p (.lst 109 3 (rowsOf encLine (mkdLine k m))),int k] [] (int (k + 3 * (m : Int))) [] := by
 refine GC.intro (rs := [.tmp 4]) Tryz.func72 rfl Tryz.ntmps72 (Nat.le_of_ble_eq_true rfl) ⟨rfl,trivial⟩ ?_
 intro L O w0
 refine sL<|laI Z<|nG<|aS<|sL<|laI Z<|nG<|aB ?_
 refine AW.loopE [(0,.p (.lst _ _ _)),(4,.p (.v (.int _ _)))] [] (D := Nat) (fun j => [(5,int (j : Int)),(1,int (k + 3 * (j : Int)))]) (fun j => []) (fun j => j ≤ m) (fun j => m - j) (0) (Nat.zero_le _) ⟨rfl,(congrArg int (by omega)),trivial⟩ trivial ⟨rfl,rfl,trivial⟩ trivial ?_
 intro j hI
 refine aS<|sL<|lmI Z<|lmL Z<|lnI ty.sl35 Z<|lbB Z<|nG ?_
 refine AW.cond rfl ?_ ?_
 ·intro h1
  refine aK<|gT<|aS<|aB<|aS<|aS ?_
  have hj : j < m := by have h := h1;simp [length_rowsOf,mkLs_len] at h;omega
  refine aL<|lmL Z<|lmI Z<|li j ty.el35 rfl (rows_some (mkLs_get hj))<|lq (rd (x := .rp _) (zfr ty.F109_0 rfl) rfl)<|lq (rd (x := .rp _) (zfr ty.F107_0 rfl) rfl)<|lrI ty.kd3 Z<|lmI Z<|lbB Z<|lsB 19 false rfl (by unfold mk1Line;simp)<|nG<|aN Z<|aK<|gA<|lmI Z<|lgI Z<|lsN 21 (k + 3 * (j : Int) + 1) rfl (by omega)<|laI Z<|nG<|aS<|sL<|lmL Z<|lmI Z<|li j ty.el35 rfl (rows_some (mkLs_get hj))<|lq (rd (x := .rp _) (zfr ty.F109_0 rfl) rfl) ?_
  refine lq (rd (x := .rp _) (zfr ty.F107_1 rfl) rfl)<|lrI ty.kd3 Z<|lmI Z<|lbB Z<|lsB 29 false rfl (by unfold mk1Line;simp)<|nG<|aN Z<|aK<|gA<|lmI Z<|lgI Z<|lsN 31 (k + 3 * (j : Int) + 2) rfl (by omega)<|laI Z<|nG<|aS<|sL<|lmL Z<|lmI Z<|lT [0,1,4,5,32,33] [vL _ _ _,vI _ _,vI _ _,vI _ _,vL _ _ _,vI _ _] [] [] rfl Z<|li j ty.el35 rfl (rows_some (mkLs_get hj))<|lq (rd (x := .rp _) (zfr ty.F109_1 rfl) rfl)<|lrI ty.kd3 Z<|lmI Z<|lbB Z<|lsB 38 false rfl (by unfold mk1Line;simp) ?_
  refine nG<|aN Z<|aK<|gT<|aL<|lmI Z<|lgI Z<|lsN 40 (k + 3 * (j : Int) + 3) rfl (by omega)<|laI Z<|lN<|gB<|gT<|aL<|lmI Z<|lgI Z<|laI Z<|nG ?_
  refine ⟨j + 1,hj,by omega,⟨(Eq.trans (b := int _) rfl (congrArg int (by omega))),(Eq.trans (b := int _) rfl (congrArg int (by omega))),trivial⟩,trivial,⟨rfl,rfl,trivial⟩,trivial⟩
 ·intro h1
  refine aE<|eT<|eT<|eB<|gA<|lmI Z<|laI Z<|nG<|aR ?_
  have hje : j = m := by have h := h1;simp [length_rowsOf,mkLs_len] at h;omega
  refine end_ret ?_ trivial
  rw [hje]
  try rfl
def mk1Chan (k : Int) : Chan := ⟨k,k + 1,k + 2,k + 3,k + 4,k + 5,k + 6⟩
abbrev mkdChan (k : Int) (m : Nat) : List Chan := mkLs mk1Chan 7 k m
theorem markChanS_e (u : Value) (l : List Chan) (k : Int) (hm : l.length ≤ 100000000) (hk : 0 ≤ k ∧ k ≤ 1000000000000) : GC Tryz.prog 65 [.own 0,int k] [(0,.arr ⟨78,some u⟩ 7 (rowsOf encChan l))] (int (k + 7 * (l.length : Int))) [(0,.arr ⟨78,some u⟩ 7 (rowsOf encChan (mkdChan k l.length)))] := by
 refine GC.intro (rs := [.tmp 4]) Tryz.func65 rfl Tryz.ntmps65 (Nat.le_of_ble_eq_true rfl) ⟨rfl,trivial⟩ ?_
 intro L O w0
 refine sL<|laI Z<|nG<|aS<|sL<|laI Z<|nG<|aB ?_
 refine AW.loopE [(0,.own _),(4,.p (.v (.int _ _)))] [] (D := Nat) (fun j => [(5,int (j : Int)),(1,int (k + 7 * (j : Int)))]) (fun j => [(0,.arr ⟨78,some u⟩ 7 (rowsOf encChan (mkdChan k j ++ l.drop j)))]) (fun j => j ≤ l.length) (fun j => l.length - j) (0) (Nat.zero_le _) ⟨rfl,(congrArg int (by omega)),trivial⟩ ⟨rfl,trivial⟩ ⟨rfl,rfl,trivial⟩ trivial ?_
 intro j hI
 refine aS<|sL<|lmI Z<|lmO Z<|lnI ty.sl30 Z<|lbB Z<|nG ?_
 refine AW.cond rfl ?_ ?_
 ·intro h1
  refine aK<|gT<|aS<|aB<|aS ?_
  have hj : j < l.length := by have h := h1;simp [length_rowsOf,mkLs_len] at h;omega
  refine aL<|lmO Z<|lmI Z<|lmI Z<|lq (rj j ty.el30 rfl (by simp [length_rowsOf,mkLs_len];omega))<|lf 0 ty.F78_0 Z<|lst (zQ 0 [.v (.int .i64 (k + 7 * (j : Int)))] ty.co3 ty.inf3 rfl (rows_some (marked_get mkLs_len hj))) Z<|nG ?_
  refine AW.obj 0 (.arr ⟨78,some u⟩ 7 ((rowsOf encChan (mkdChan k j ++ l.drop j)).set j [.v (.int .i64 (k + 7 * (j : Int))),.v (.int .i64 l[j].size),.v (.int .i64 l[j].loc),.v (.int .i64 l[j].remote),.v (.int .i64 l[j].base),.v (.int .i64 l[j].ppm),.v (.int .i64 l[j].score)])) (rfl) ?_
  refine sL<|lmI Z<|lgI Z<|lsN 18 (k + 7 * (j : Int) + 1) rfl (by omega)<|laI Z<|nA<|lmO Z<|lmI Z<|lmI Z<|lq (rj j ty.el30 rfl (by simp [length_rowsOf,mkLs_len];omega))<|lf 1 ty.F78_1 Z<|lst (zQ 0 [.v (.int .i64 (k + 7 * (j : Int) + 1))] ty.co3 ty.inf3 rfl (List.getElem?_set_self (by simp [length_rowsOf,mkLs_len];omega))) Z<|lT [0,1,4,5] [.own _,vI _ _,vI _ _,vI _ _] [0] [.arr _ _ _] rfl Z<|nG ?_
  refine AW.obj 0 (.arr ⟨78,some u⟩ 7 ((rowsOf encChan (mkdChan k j ++ l.drop j)).set j [.v (.int .i64 (k + 7 * (j : Int))),.v (.int .i64 (k + 7 * (j : Int) + 1)),.v (.int .i64 l[j].loc),.v (.int .i64 l[j].remote),.v (.int .i64 l[j].base),.v (.int .i64 l[j].ppm),.v (.int .i64 l[j].score)])) (Eq.trans (b := AO.arr ⟨78,some u⟩ 7 (((rowsOf encChan (mkdChan k j ++ l.drop j)).set j [.v (.int .i64 (k + 7 * (j : Int))),.v (.int .i64 l[j].size),.v (.int .i64 l[j].loc),.v (.int .i64 l[j].remote),.v (.int .i64 l[j].base),.v (.int .i64 l[j].ppm),.v (.int .i64 l[j].score)]).set j [.v (.int .i64 (k + 7 * (j : Int))),.v (.int .i64 (k + 7 * (j : Int) + 1)),.v (.int .i64 l[j].loc),.v (.int .i64 l[j].remote),.v (.int .i64 l[j].base),.v (.int .i64 l[j].ppm),.v (.int .i64 l[j].score)])) rfl (congrArg (AO.arr ⟨78,some u⟩ 7) (List.set_set ..))) ?_
  refine sL<|lmI Z<|lgI Z<|lsN 25 (k + 7 * (j : Int) + 2) rfl (by omega)<|laI Z<|nA<|lmO Z<|lmI Z<|lmI Z<|lq (rj j ty.el30 rfl (by simp [length_rowsOf,mkLs_len];omega))<|lf 2 ty.F78_2 Z<|lst (zQ 0 [.v (.int .i64 (k + 7 * (j : Int) + 2))] ty.co3 ty.inf3 rfl (List.getElem?_set_self (by simp [length_rowsOf,mkLs_len];omega))) Z<|nG ?_
  refine AW.obj 0 (.arr ⟨78,some u⟩ 7 ((rowsOf encChan (mkdChan k j ++ l.drop j)).set j [.v (.int .i64 (k + 7 * (j : Int))),.v (.int .i64 (k + 7 * (j : Int) + 1)),.v (.int .i64 (k + 7 * (j : Int) + 2)),.v (.int .i64 l[j].remote),.v (.int .i64 l[j].base),.v (.int .i64 l[j].ppm),.v (.int .i64 l[j].score)])) (Eq.trans (b := AO.arr ⟨78,some u⟩ 7 (((rowsOf encChan (mkdChan k j ++ l.drop j)).set j [.v (.int .i64 (k + 7 * (j : Int))),.v (.int .i64 (k + 7 * (j : Int) + 1)),.v (.int .i64 l[j].loc),.v (.int .i64 l[j].remote),.v (.int .i64 l[j].base),.v (.int .i64 l[j].ppm),.v (.int .i64 l[j].score)]).set j [.v (.int .i64 (k + 7 * (j : Int))),.v (.int .i64 (k + 7 * (j : Int) + 1)),.v (.int .i64 (k + 7 * (j : Int) + 2)),.v (.int .i64 l[j].remote),.v (.int .i64 l[j].base),.v (.int .i64 l[j].ppm),.v (.int .i64 l[j].score)])) rfl (congrArg (AO.arr ⟨78,some u⟩ 7) (List.set_set ..))) ?_
  refine sL<|lmI Z<|lgI Z<|lsN 32 (k + 7 * (j : Int) + 3) rfl (by omega)<|laI Z<|nA<|lmO Z<|lmI Z<|lmI Z<|lq (rj j ty.el30 rfl (by simp [length_rowsOf,mkLs_len];omega))<|lf 3 ty.F78_3 Z<|lst (zQ 0 [.v (.int .i64 (k + 7 * (j : Int) + 3))] ty.co3 ty.inf3 rfl (List.getElem?_set_self (by simp [length_rowsOf,mkLs_len];omega))) Z<|lT [0,1,4,5] [.own _,vI _ _,vI _ _,vI _ _] [0] [.arr _ _ _] rfl Z<|nG ?_
  refine AW.obj 0 (.arr ⟨78,some u⟩ 7 ((rowsOf encChan (mkdChan k j ++ l.drop j)).set j [.v (.int .i64 (k + 7 * (j : Int))),.v (.int .i64 (k + 7 * (j : Int) + 1)),.v (.int .i64 (k + 7 * (j : Int) + 2)),.v (.int .i64 (k + 7 * (j : Int) + 3)),.v (.int .i64 l[j].base),.v (.int .i64 l[j].ppm),.v (.int .i64 l[j].score)])) (Eq.trans (b := AO.arr ⟨78,some u⟩ 7 (((rowsOf encChan (mkdChan k j ++ l.drop j)).set j [.v (.int .i64 (k + 7 * (j : Int))),.v (.int .i64 (k + 7 * (j : Int) + 1)),.v (.int .i64 (k + 7 * (j : Int) + 2)),.v (.int .i64 l[j].remote),.v (.int .i64 l[j].base),.v (.int .i64 l[j].ppm),.v (.int .i64 l[j].score)]).set j [.v (.int .i64 (k + 7 * (j : Int))),.v (.int .i64 (k + 7 * (j : Int) + 1)),.v (.int .i64 (k + 7 * (j : Int) + 2)),.v (.int .i64 (k + 7 * (j : Int) + 3)),.v (.int .i64 l[j].base),.v (.int .i64 l[j].ppm),.v (.int .i64 l[j].score)])) rfl (congrArg (AO.arr ⟨78,some u⟩ 7) (List.set_set ..))) ?_
  refine sL<|lmI Z<|lgI Z<|lsN 39 (k + 7 * (j : Int) + 4) rfl (by omega)<|laI Z<|nA<|lmO Z<|lmI Z<|lmI Z<|lq (rj j ty.el30 rfl (by simp [length_rowsOf,mkLs_len];omega))<|lf 4 ty.F78_4 Z<|lst (zQ 0 [.v (.int .i64 (k + 7 * (j : Int) + 4))] ty.co3 ty.inf3 rfl (List.getElem?_set_self (by simp [length_rowsOf,mkLs_len];omega))) Z<|nG ?_
  refine AW.obj 0 (.arr ⟨78,some u⟩ 7 ((rowsOf encChan (mkdChan k j ++ l.drop j)).set j [.v (.int .i64 (k + 7 * (j : Int))),.v (.int .i64 (k + 7 * (j : Int) + 1)),.v (.int .i64 (k + 7 * (j : Int) + 2)),.v (.int .i64 (k + 7 * (j : Int) + 3)),.v (.int .i64 (k + 7 * (j : Int) + 4)),.v (.int .i64 l[j].ppm),.v (.int .i64 l[j].score)])) (Eq.trans (b := AO.arr ⟨78,some u⟩ 7 (((rowsOf encChan (mkdChan k j ++ l.drop j)).set j [.v (.int .i64 (k + 7 * (j : Int))),.v (.int .i64 (k + 7 * (j : Int) + 1)),.v (.int .i64 (k + 7 * (j : Int) + 2)),.v (.int .i64 (k + 7 * (j : Int) + 3)),.v (.int .i64 l[j].base),.v (.int .i64 l[j].ppm),.v (.int .i64 l[j].score)]).set j [.v (.int .i64 (k + 7 * (j : Int))),.v (.int .i64 (k + 7 * (j : Int) + 1)),.v (.int .i64 (k + 7 * (j : Int) + 2)),.v (.int .i64 (k + 7 * (j : Int) + 3)),.v (.int .i64 (k + 7 * (j : Int) + 4)),.v (.int .i64 l[j].ppm),.v (.int .i64 l[j].score)])) rfl (congrArg (AO.arr ⟨78,some u⟩ 7) (List.set_set ..))) ?_
  refine sL<|lmI Z<|lgI Z<|lsN 46 (k + 7 * (j : Int) + 5) rfl (by omega)<|laI Z<|nA<|lmO Z<|lmI Z<|lmI Z<|lq (rj j ty.el30 rfl (by simp [length_rowsOf,mkLs_len];omega))<|lf 5 ty.F78_5 Z<|lst (zQ 0 [.v (.int .i64 (k + 7 * (j : Int) + 5))] ty.co3 ty.inf3 rfl (List.getElem?_set_self (by simp [length_rowsOf,mkLs_len];omega))) Z<|lT [0,1,4,5] [.own _,vI _ _,vI _ _,vI _ _] [0] [.arr _ _ _] rfl Z<|nG ?_
  refine AW.obj 0 (.arr ⟨78,some u⟩ 7 ((rowsOf encChan (mkdChan k j ++ l.drop j)).set j [.v (.int .i64 (k + 7 * (j : Int))),.v (.int .i64 (k + 7 * (j : Int) + 1)),.v (.int .i64 (k + 7 * (j : Int) + 2)),.v (.int .i64 (k + 7 * (j : Int) + 3)),.v (.int .i64 (k + 7 * (j : Int) + 4)),.v (.int .i64 (k + 7 * (j : Int) + 5)),.v (.int .i64 l[j].score)])) (Eq.trans (b := AO.arr ⟨78,some u⟩ 7 (((rowsOf encChan (mkdChan k j ++ l.drop j)).set j [.v (.int .i64 (k + 7 * (j : Int))),.v (.int .i64 (k + 7 * (j : Int) + 1)),.v (.int .i64 (k + 7 * (j : Int) + 2)),.v (.int .i64 (k + 7 * (j : Int) + 3)),.v (.int .i64 (k + 7 * (j : Int) + 4)),.v (.int .i64 l[j].ppm),.v (.int .i64 l[j].score)]).set j [.v (.int .i64 (k + 7 * (j : Int))),.v (.int .i64 (k + 7 * (j : Int) + 1)),.v (.int .i64 (k + 7 * (j : Int) + 2)),.v (.int .i64 (k + 7 * (j : Int) + 3)),.v (.int .i64 (k + 7 * (j : Int) + 4)),.v (.int .i64 (k + 7 * (j : Int) + 5)),.v (.int .i64 l[j].score)])) rfl (congrArg (AO.arr ⟨78,some u⟩ 7) (List.set_set ..))) ?_
  refine sL<|lmI Z<|lgI Z<|lsN 53 (k + 7 * (j : Int) + 6) rfl (by omega)<|laI Z<|nA<|lmO Z<|lmI Z<|lmI Z<|lq (rj j ty.el30 rfl (by simp [length_rowsOf,mkLs_len];omega))<|lf 6 ty.F78_6 Z<|lst (zQ 0 [.v (.int .i64 (k + 7 * (j : Int) + 6))] ty.co3 ty.inf3 rfl (List.getElem?_set_self (by simp [length_rowsOf,mkLs_len];omega))) Z<|nG ?_
  refine AW.obj 0 (.arr ⟨78,some u⟩ 7 ((rowsOf encChan (mkdChan k j ++ l.drop j)).set j [.v (.int .i64 (k + 7 * (j : Int))),.v (.int .i64 (k + 7 * (j : Int) + 1)),.v (.int .i64 (k + 7 * (j : Int) + 2)),.v (.int .i64 (k + 7 * (j : Int) + 3)),.v (.int .i64 (k + 7 * (j : Int) + 4)),.v (.int .i64 (k + 7 * (j : Int) + 5)),.v (.int .i64 (k + 7 * (j : Int) + 6))])) (Eq.trans (b := AO.arr ⟨78,some u⟩ 7 (((rowsOf encChan (mkdChan k j ++ l.drop j)).set j [.v (.int .i64 (k + 7 * (j : Int))),.v (.int .i64 (k + 7 * (j : Int) + 1)),.v (.int .i64 (k + 7 * (j : Int) + 2)),.v (.int .i64 (k + 7 * (j : Int) + 3)),.v (.int .i64 (k + 7 * (j : Int) + 4)),.v (.int .i64 (k + 7 * (j : Int) + 5)),.v (.int .i64 l[j].score)]).set j [.v (.int .i64 (k + 7 * (j : Int))),.v (.int .i64 (k + 7 * (j : Int) + 1)),.v (.int .i64 (k + 7 * (j : Int) + 2)),.v (.int .i64 (k + 7 * (j : Int) + 3)),.v (.int .i64 (k + 7 * (j : Int) + 4)),.v (.int .i64 (k + 7 * (j : Int) + 5)),.v (.int .i64 (k + 7 * (j : Int) + 6))])) rfl (congrArg (AO.arr ⟨78,some u⟩ 7) (List.set_set ..))) ?_
  refine aL<|lmI Z<|lgI Z<|lsN 60 (k + 7 * (j : Int) + 7) rfl (by omega)<|laI Z<|lN<|gB<|gT<|aL<|lmI Z<|lgI Z<|laI Z<|nG ?_
  refine ⟨j + 1,hj,by omega,⟨(Eq.trans (b := int _) rfl (congrArg int (by omega))),(Eq.trans (b := int _) rfl (congrArg int (by omega))),trivial⟩,⟨(Eq.trans (b := AO.arr ⟨78,some u⟩ 7 ((rowsOf encChan (mkdChan k j ++ l.drop j)).set j ((encChan (mk1Chan (k + 7 * (j : Int)))).map PV.v))) rfl (congrArg (AO.arr ⟨78,some u⟩ 7) (rows_set.trans (congrArg (rowsOf encChan) (marked_set mkLs_len mkLs_succ hj))))),trivial⟩,⟨rfl,rfl,trivial⟩,trivial⟩
 ·intro h1
  refine aE<|eT<|eT<|eB<|gA<|lmI Z<|laI Z<|nG<|aR ?_
  have hje : j = l.length := by have h := h1;simp [length_rowsOf,mkLs_len] at h;omega
  refine end_ret ?_ ⟨(congrArg (fun q => AO.arr ⟨78,some u⟩ 7 (rowsOf encChan q)) (by rw [hje,List.drop_length,List.append_nil])),trivial⟩
  rw [hje]
  try rfl
theorem heldChanS_e (m : Nat) (k : Int) (hm : m ≤ 100000000) (hk : 0 ≤ k ∧ k ≤ 1000000000000) : GC Tryz.prog 69 [.p (.lst 78 7 (rowsOf encChan (mkdChan k m))),int k] [] (int (k + 7 * (m : Int))) [] := by
 refine GC.intro (rs := [.tmp 4]) Tryz.func69 rfl Tryz.ntmps69 (Nat.le_of_ble_eq_true rfl) ⟨rfl,trivial⟩ ?_
 intro L O w0
 refine sL<|laI Z<|nG<|aS<|sL<|laI Z<|nG<|aB ?_
 refine AW.loopE [(0,.p (.lst _ _ _)),(4,.p (.v (.int _ _)))] [] (D := Nat) (fun j => [(5,int (j : Int)),(1,int (k + 7 * (j : Int)))]) (fun j => []) (fun j => j ≤ m) (fun j => m - j) (0) (Nat.zero_le _) ⟨rfl,(congrArg int (by omega)),trivial⟩ trivial ⟨rfl,rfl,trivial⟩ trivial ?_
 intro j hI
 refine aS<|sL<|lmI Z<|lmL Z<|lnI ty.sl30 Z<|lbB Z<|nG ?_
 refine AW.cond rfl ?_ ?_
 ·intro h1
  refine aK<|gT<|aS<|aB<|aS<|aS ?_
  have hj : j < m := by have h := h1;simp [length_rowsOf,mkLs_len] at h;omega
  refine aL<|lmL Z<|lmI Z<|li j ty.el30 rfl (rows_some (mkLs_get hj))<|lq (rd (x := .rp _) (zfr ty.F78_0 rfl) rfl)<|lrI ty.kd3 Z<|lmI Z<|lbB Z<|lsB 18 false rfl (by unfold mk1Chan;simp)<|nG<|aN Z<|aK<|gA<|lmI Z<|lgI Z<|lsN 20 (k + 7 * (j : Int) + 1) rfl (by omega)<|laI Z<|nG<|aS<|sL<|lmL Z<|lmI Z<|li j ty.el30 rfl (rows_some (mkLs_get hj))<|lq (rd (x := .rp _) (zfr ty.F78_1 rfl) rfl)<|lrI ty.kd3 rfl ?_
  refine lmI Z<|lbB Z<|lsB 27 false rfl (by unfold mk1Chan;simp)<|nG<|aN Z<|aK<|gA<|lmI Z<|lgI Z<|lsN 29 (k + 7 * (j : Int) + 2) rfl (by omega)<|laI Z<|nG<|aS<|sL<|lmL Z<|lmI Z<|li j ty.el30 rfl (rows_some (mkLs_get hj))<|lq (rd (x := .rp _) (zfr ty.F78_2 rfl) rfl)<|lT [0,1,4,5,33] [vL _ _ _,vI _ _,vI _ _,vI _ _,.rp _] [] [] rfl Z<|lrI ty.kd3 Z<|lmI Z<|lbB Z<|lsB 36 false rfl (by unfold mk1Chan;simp)<|nG ?_
  refine aN Z<|aK<|gA<|lmI Z<|lgI Z<|lsN 38 (k + 7 * (j : Int) + 3) rfl (by omega)<|laI Z<|nG<|aS<|sL<|lmL Z<|lmI Z<|li j ty.el30 rfl (rows_some (mkLs_get hj))<|lq (rd (x := .rp _) (zfr ty.F78_3 rfl) rfl)<|lrI ty.kd3 Z<|lmI Z<|lbB Z<|lsB 45 false rfl (by unfold mk1Chan;simp)<|nG<|aN Z<|aK<|gA<|lmI rfl ?_
  refine lgI Z<|lsN 47 (k + 7 * (j : Int) + 4) rfl (by omega)<|laI Z<|nG<|aS<|sL<|lmL Z<|lmI Z<|li j ty.el30 rfl (rows_some (mkLs_get hj))<|lq (rd (x := .rp _) (zfr ty.F78_4 rfl) rfl)<|lrI ty.kd3 Z<|lmI Z<|lbB Z<|lsB 54 false rfl (by unfold mk1Chan;simp)<|nG<|aN Z<|aK<|gA<|lmI Z<|lgI Z<|lsN 56 (k + 7 * (j : Int) + 5) rfl (by omega)<|laI Z<|nG<|aS ?_
  refine sL<|lmL Z<|lmI Z<|li j ty.el30 rfl (rows_some (mkLs_get hj))<|lq (rd (x := .rp _) (zfr ty.F78_5 rfl) rfl)<|lT [0,1,4,5,60] [vL _ _ _,vI _ _,vI _ _,vI _ _,.rp _] [] [] rfl Z<|lrI ty.kd3 Z<|lmI Z<|lbB Z<|lsB 63 false rfl (by unfold mk1Chan;simp)<|nG<|aN Z<|aK<|gA<|lmI Z<|lgI Z<|lsN 65 (k + 7 * (j : Int) + 6) rfl (by omega)<|laI Z<|nG<|aS<|sL<|lmL Z<|lmI Z<|li j ty.el30 rfl (rows_some (mkLs_get hj)) ?_
  refine lq (rd (x := .rp _) (zfr ty.F78_6 rfl) rfl)<|lrI ty.kd3 Z<|lmI Z<|lbB Z<|lsB 72 false rfl (by unfold mk1Chan;simp)<|nG<|aN Z<|aK<|gT<|aL<|lmI Z<|lgI Z<|lsN 74 (k + 7 * (j : Int) + 7) rfl (by omega)<|laI Z<|lN<|gB<|gT<|aL<|lmI Z<|lgI Z<|laI Z<|nG ?_
  refine ⟨j + 1,hj,by omega,⟨(Eq.trans (b := int _) rfl (congrArg int (by omega))),(Eq.trans (b := int _) rfl (congrArg int (by omega))),trivial⟩,trivial,⟨rfl,rfl,trivial⟩,trivial⟩
 ·intro h1
  refine aE<|eT<|eT<|eB<|gA<|lmI Z<|laI Z<|nG<|aR ?_
  have hje : j = m := by have h := h1;simp [length_rowsOf,mkLs_len] at h;omega
  refine end_ret ?_ trivial
  rw [hje]
  try rfl
def mk1Htlc (k : Int) : Htlc := ⟨k,k + 1,k + 2,k + 3,k + 4,decide ((k + 5).tmod 3 = 0),k + 6⟩
abbrev mkdHtlc (k : Int) (m : Nat) : List Htlc := mkLs mk1Htlc 7 k m
theorem markHtlcS_e (u : Value) (l : List Htlc) (k : Int) (hm : l.length ≤ 100000000) (hk : 0 ≤ k ∧ k ≤ 1000000000000) : GC Tryz.prog 66 [.own 0,int k] [(0,.arr ⟨117,some u⟩ 7 (rowsOf encHtlc l))] (int (k + 7 * (l.length : Int))) [(0,.arr ⟨117,some u⟩ 7 (rowsOf encHtlc (mkdHtlc k l.length)))] := by
 refine GC.intro (rs := [.tmp 4]) Tryz.func66 rfl Tryz.ntmps66 (Nat.le_of_ble_eq_true rfl) ⟨rfl,trivial⟩ ?_
 intro L O w0
 refine sL<|laI Z<|nG<|aS<|sL<|laI Z<|nG<|aB ?_
 refine AW.loopE [(0,.own _),(4,.p (.v (.int _ _)))] [] (D := Nat) (fun j => [(5,int (j : Int)),(1,int (k + 7 * (j : Int)))]) (fun j => [(0,.arr ⟨117,some u⟩ 7 (rowsOf encHtlc (mkdHtlc k j ++ l.drop j)))]) (fun j => j ≤ l.length) (fun j => l.length - j) (0) (Nat.zero_le _) ⟨rfl,(congrArg int (by omega)),trivial⟩ ⟨rfl,trivial⟩ ⟨rfl,rfl,trivial⟩ trivial ?_
 intro j hI
 refine aS<|sL<|lmI Z<|lmO Z<|lnI ty.sl31 Z<|lbB Z<|nG ?_
 refine AW.cond rfl ?_ ?_
 ·intro h1
  refine aK<|gT<|aS<|aB<|aS ?_
  have hj : j < l.length := by have h := h1;simp [length_rowsOf,mkLs_len] at h;omega
  refine aL<|lmO Z<|lmI Z<|lmI Z<|lq (rj j ty.el31 rfl (by simp [length_rowsOf,mkLs_len];omega))<|lf 0 ty.F117_0 Z<|lst (zQ 0 [.v (.int .i64 (k + 7 * (j : Int)))] ty.co3 ty.inf3 rfl (rows_some (marked_get mkLs_len hj))) Z<|nG ?_
  refine AW.obj 0 (.arr ⟨117,some u⟩ 7 ((rowsOf encHtlc (mkdHtlc k j ++ l.drop j)).set j [.v (.int .i64 (k + 7 * (j : Int))),.v (.int .i64 l[j].inn),.v (.int .i64 l[j].out),.v (.int .i64 l[j].amtIn),.v (.int .i64 l[j].amtOut),.v (.bool l[j].kept),.v (.int .i64 l[j].age)])) (rfl) ?_
  refine sL<|lmI Z<|lgI Z<|lsN 18 (k + 7 * (j : Int) + 1) rfl (by omega)<|laI Z<|nA<|lmO Z<|lmI Z<|lmI Z<|lq (rj j ty.el31 rfl (by simp [length_rowsOf,mkLs_len];omega))<|lf 1 ty.F117_1 Z<|lst (zQ 0 [.v (.int .i64 (k + 7 * (j : Int) + 1))] ty.co3 ty.inf3 rfl (List.getElem?_set_self (by simp [length_rowsOf,mkLs_len];omega))) Z<|lT [0,1,4,5] [.own _,vI _ _,vI _ _,vI _ _] [0] [.arr _ _ _] rfl Z<|nG ?_
  refine AW.obj 0 (.arr ⟨117,some u⟩ 7 ((rowsOf encHtlc (mkdHtlc k j ++ l.drop j)).set j [.v (.int .i64 (k + 7 * (j : Int))),.v (.int .i64 (k + 7 * (j : Int) + 1)),.v (.int .i64 l[j].out),.v (.int .i64 l[j].amtIn),.v (.int .i64 l[j].amtOut),.v (.bool l[j].kept),.v (.int .i64 l[j].age)])) (Eq.trans (b := AO.arr ⟨117,some u⟩ 7 (((rowsOf encHtlc (mkdHtlc k j ++ l.drop j)).set j [.v (.int .i64 (k + 7 * (j : Int))),.v (.int .i64 l[j].inn),.v (.int .i64 l[j].out),.v (.int .i64 l[j].amtIn),.v (.int .i64 l[j].amtOut),.v (.bool l[j].kept),.v (.int .i64 l[j].age)]).set j [.v (.int .i64 (k + 7 * (j : Int))),.v (.int .i64 (k + 7 * (j : Int) + 1)),.v (.int .i64 l[j].out),.v (.int .i64 l[j].amtIn),.v (.int .i64 l[j].amtOut),.v (.bool l[j].kept),.v (.int .i64 l[j].age)])) rfl (congrArg (AO.arr ⟨117,some u⟩ 7) (List.set_set ..))) ?_
  refine sL<|lmI Z<|lgI Z<|lsN 25 (k + 7 * (j : Int) + 2) rfl (by omega)<|laI Z<|nA<|lmO Z<|lmI Z<|lmI Z<|lq (rj j ty.el31 rfl (by simp [length_rowsOf,mkLs_len];omega))<|lf 2 ty.F117_2 Z<|lst (zQ 0 [.v (.int .i64 (k + 7 * (j : Int) + 2))] ty.co3 ty.inf3 rfl (List.getElem?_set_self (by simp [length_rowsOf,mkLs_len];omega))) Z<|nG ?_
  refine AW.obj 0 (.arr ⟨117,some u⟩ 7 ((rowsOf encHtlc (mkdHtlc k j ++ l.drop j)).set j [.v (.int .i64 (k + 7 * (j : Int))),.v (.int .i64 (k + 7 * (j : Int) + 1)),.v (.int .i64 (k + 7 * (j : Int) + 2)),.v (.int .i64 l[j].amtIn),.v (.int .i64 l[j].amtOut),.v (.bool l[j].kept),.v (.int .i64 l[j].age)])) (Eq.trans (b := AO.arr ⟨117,some u⟩ 7 (((rowsOf encHtlc (mkdHtlc k j ++ l.drop j)).set j [.v (.int .i64 (k + 7 * (j : Int))),.v (.int .i64 (k + 7 * (j : Int) + 1)),.v (.int .i64 l[j].out),.v (.int .i64 l[j].amtIn),.v (.int .i64 l[j].amtOut),.v (.bool l[j].kept),.v (.int .i64 l[j].age)]).set j [.v (.int .i64 (k + 7 * (j : Int))),.v (.int .i64 (k + 7 * (j : Int) + 1)),.v (.int .i64 (k + 7 * (j : Int) + 2)),.v (.int .i64 l[j].amtIn),.v (.int .i64 l[j].amtOut),.v (.bool l[j].kept),.v (.int .i64 l[j].age)])) rfl (congrArg (AO.arr ⟨117,some u⟩ 7) (List.set_set ..))) ?_
  refine sL<|lmI Z<|lgI Z<|lsN 32 (k + 7 * (j : Int) + 3) rfl (by omega)<|laI Z<|nA<|lmO Z<|lmI Z<|lmI Z<|lq (rj j ty.el31 rfl (by simp [length_rowsOf,mkLs_len];omega))<|lf 3 ty.F117_3 Z<|lst (zQ 0 [.v (.int .i64 (k + 7 * (j : Int) + 3))] ty.co3 ty.inf3 rfl (List.getElem?_set_self (by simp [length_rowsOf,mkLs_len];omega))) Z<|lT [0,1,4,5] [.own _,vI _ _,vI _ _,vI _ _] [0] [.arr _ _ _] rfl Z<|nG ?_
  refine AW.obj 0 (.arr ⟨117,some u⟩ 7 ((rowsOf encHtlc (mkdHtlc k j ++ l.drop j)).set j [.v (.int .i64 (k + 7 * (j : Int))),.v (.int .i64 (k + 7 * (j : Int) + 1)),.v (.int .i64 (k + 7 * (j : Int) + 2)),.v (.int .i64 (k + 7 * (j : Int) + 3)),.v (.int .i64 l[j].amtOut),.v (.bool l[j].kept),.v (.int .i64 l[j].age)])) (Eq.trans (b := AO.arr ⟨117,some u⟩ 7 (((rowsOf encHtlc (mkdHtlc k j ++ l.drop j)).set j [.v (.int .i64 (k + 7 * (j : Int))),.v (.int .i64 (k + 7 * (j : Int) + 1)),.v (.int .i64 (k + 7 * (j : Int) + 2)),.v (.int .i64 l[j].amtIn),.v (.int .i64 l[j].amtOut),.v (.bool l[j].kept),.v (.int .i64 l[j].age)]).set j [.v (.int .i64 (k + 7 * (j : Int))),.v (.int .i64 (k + 7 * (j : Int) + 1)),.v (.int .i64 (k + 7 * (j : Int) + 2)),.v (.int .i64 (k + 7 * (j : Int) + 3)),.v (.int .i64 l[j].amtOut),.v (.bool l[j].kept),.v (.int .i64 l[j].age)])) rfl (congrArg (AO.arr ⟨117,some u⟩ 7) (List.set_set ..))) ?_
  refine sL<|lmI Z<|lgI Z<|lsN 39 (k + 7 * (j : Int) + 4) rfl (by omega)<|laI Z<|nA<|lmO Z<|lmI Z<|lmI Z<|lq (rj j ty.el31 rfl (by simp [length_rowsOf,mkLs_len];omega))<|lf 4 ty.F117_4 Z<|lst (zQ 0 [.v (.int .i64 (k + 7 * (j : Int) + 4))] ty.co3 ty.inf3 rfl (List.getElem?_set_self (by simp [length_rowsOf,mkLs_len];omega))) Z<|nG ?_
  refine AW.obj 0 (.arr ⟨117,some u⟩ 7 ((rowsOf encHtlc (mkdHtlc k j ++ l.drop j)).set j [.v (.int .i64 (k + 7 * (j : Int))),.v (.int .i64 (k + 7 * (j : Int) + 1)),.v (.int .i64 (k + 7 * (j : Int) + 2)),.v (.int .i64 (k + 7 * (j : Int) + 3)),.v (.int .i64 (k + 7 * (j : Int) + 4)),.v (.bool l[j].kept),.v (.int .i64 l[j].age)])) (Eq.trans (b := AO.arr ⟨117,some u⟩ 7 (((rowsOf encHtlc (mkdHtlc k j ++ l.drop j)).set j [.v (.int .i64 (k + 7 * (j : Int))),.v (.int .i64 (k + 7 * (j : Int) + 1)),.v (.int .i64 (k + 7 * (j : Int) + 2)),.v (.int .i64 (k + 7 * (j : Int) + 3)),.v (.int .i64 l[j].amtOut),.v (.bool l[j].kept),.v (.int .i64 l[j].age)]).set j [.v (.int .i64 (k + 7 * (j : Int))),.v (.int .i64 (k + 7 * (j : Int) + 1)),.v (.int .i64 (k + 7 * (j : Int) + 2)),.v (.int .i64 (k + 7 * (j : Int) + 3)),.v (.int .i64 (k + 7 * (j : Int) + 4)),.v (.bool l[j].kept),.v (.int .i64 l[j].age)])) rfl (congrArg (AO.arr ⟨117,some u⟩ 7) (List.set_set ..))) ?_
  refine sL<|lmI Z<|lgI Z<|lsN 46 (k + 7 * (j : Int) + 5) rfl (by omega)<|laI Z<|nA<|lmO Z<|lmI Z<|lmI rfl ?_
  refine lhI rfl ⟨rfl,by decide⟩<|lbB Z<|lq (rj j ty.el31 rfl (by simp [length_rowsOf,mkLs_len];omega))<|lf 5 ty.F117_5 Z<|lst (zQ 0 [.v (.bool (decide ((k + 7 * (j : Int) + 5).tmod 3 = 0)))] ty.co4 ty.inf4 rfl (List.getElem?_set_self (by simp [length_rowsOf,mkLs_len];omega))) Z<|lT [0,1,4,5] [.own _,vI _ _,vI _ _,vI _ _] [0] [.arr _ _ _] rfl Z<|nG ?_
  refine AW.obj 0 (.arr ⟨117,some u⟩ 7 ((rowsOf encHtlc (mkdHtlc k j ++ l.drop j)).set j [.v (.int .i64 (k + 7 * (j : Int))),.v (.int .i64 (k + 7 * (j : Int) + 1)),.v (.int .i64 (k + 7 * (j : Int) + 2)),.v (.int .i64 (k + 7 * (j : Int) + 3)),.v (.int .i64 (k + 7 * (j : Int) + 4)),.v (.bool (decide ((k + 7 * (j : Int) + 5).tmod 3 = 0))),.v (.int .i64 l[j].age)])) (Eq.trans (b := AO.arr ⟨117,some u⟩ 7 (((rowsOf encHtlc (mkdHtlc k j ++ l.drop j)).set j [.v (.int .i64 (k + 7 * (j : Int))),.v (.int .i64 (k + 7 * (j : Int) + 1)),.v (.int .i64 (k + 7 * (j : Int) + 2)),.v (.int .i64 (k + 7 * (j : Int) + 3)),.v (.int .i64 (k + 7 * (j : Int) + 4)),.v (.bool l[j].kept),.v (.int .i64 l[j].age)]).set j [.v (.int .i64 (k + 7 * (j : Int))),.v (.int .i64 (k + 7 * (j : Int) + 1)),.v (.int .i64 (k + 7 * (j : Int) + 2)),.v (.int .i64 (k + 7 * (j : Int) + 3)),.v (.int .i64 (k + 7 * (j : Int) + 4)),.v (.bool (decide ((k + 7 * (j : Int) + 5).tmod 3 = 0))),.v (.int .i64 l[j].age)])) rfl (congrArg (AO.arr ⟨117,some u⟩ 7) (List.set_set ..))) ?_
  refine sL<|lmI Z<|lgI Z<|lsN 55 (k + 7 * (j : Int) + 6) rfl (by omega)<|laI Z<|nA<|lmO Z<|lmI Z<|lmI Z<|lq (rj j ty.el31 rfl (by simp [length_rowsOf,mkLs_len];omega))<|lf 6 ty.F117_6 Z<|lst (zQ 0 [.v (.int .i64 (k + 7 * (j : Int) + 6))] ty.co3 ty.inf3 rfl (List.getElem?_set_self (by simp [length_rowsOf,mkLs_len];omega))) Z<|nG ?_
  refine AW.obj 0 (.arr ⟨117,some u⟩ 7 ((rowsOf encHtlc (mkdHtlc k j ++ l.drop j)).set j [.v (.int .i64 (k + 7 * (j : Int))),.v (.int .i64 (k + 7 * (j : Int) + 1)),.v (.int .i64 (k + 7 * (j : Int) + 2)),.v (.int .i64 (k + 7 * (j : Int) + 3)),.v (.int .i64 (k + 7 * (j : Int) + 4)),.v (.bool (decide ((k + 7 * (j : Int) + 5).tmod 3 = 0))),.v (.int .i64 (k + 7 * (j : Int) + 6))])) (Eq.trans (b := AO.arr ⟨117,some u⟩ 7 (((rowsOf encHtlc (mkdHtlc k j ++ l.drop j)).set j [.v (.int .i64 (k + 7 * (j : Int))),.v (.int .i64 (k + 7 * (j : Int) + 1)),.v (.int .i64 (k + 7 * (j : Int) + 2)),.v (.int .i64 (k + 7 * (j : Int) + 3)),.v (.int .i64 (k + 7 * (j : Int) + 4)),.v (.bool (decide ((k + 7 * (j : Int) + 5).tmod 3 = 0))),.v (.int .i64 l[j].age)]).set j [.v (.int .i64 (k + 7 * (j : Int))),.v (.int .i64 (k + 7 * (j : Int) + 1)),.v (.int .i64 (k + 7 * (j : Int) + 2)),.v (.int .i64 (k + 7 * (j : Int) + 3)),.v (.int .i64 (k + 7 * (j : Int) + 4)),.v (.bool (decide ((k + 7 * (j : Int) + 5).tmod 3 = 0))),.v (.int .i64 (k + 7 * (j : Int) + 6))])) rfl (congrArg (AO.arr ⟨117,some u⟩ 7) (List.set_set ..))) ?_
  refine aL<|lmI Z<|lgI Z<|lsN 62 (k + 7 * (j : Int) + 7) rfl (by omega)<|laI Z<|lN<|gB<|gT<|aL<|lmI Z<|lgI Z<|laI Z<|nG ?_
  refine ⟨j + 1,hj,by omega,⟨(Eq.trans (b := int _) rfl (congrArg int (by omega))),(Eq.trans (b := int _) rfl (congrArg int (by omega))),trivial⟩,⟨(Eq.trans (b := AO.arr ⟨117,some u⟩ 7 ((rowsOf encHtlc (mkdHtlc k j ++ l.drop j)).set j ((encHtlc (mk1Htlc (k + 7 * (j : Int)))).map PV.v))) rfl (congrArg (AO.arr ⟨117,some u⟩ 7) (rows_set.trans (congrArg (rowsOf encHtlc) (marked_set mkLs_len mkLs_succ hj))))),trivial⟩,⟨rfl,rfl,trivial⟩,trivial⟩
 ·intro h1
  refine aE<|eT<|eT<|eB<|gA<|lmI Z<|laI Z<|nG<|aR ?_
  have hje : j = l.length := by have h := h1;simp [length_rowsOf,mkLs_len] at h;omega
  refine end_ret ?_ ⟨(congrArg (fun q => AO.arr ⟨117,some u⟩ 7 (rowsOf encHtlc q)) (by rw [hje,List.drop_length,List.append_nil])),trivial⟩
  rw [hje]
  try rfl
theorem heldHtlcS_e (m : Nat) (k : Int) (hm : m ≤ 100000000) (hk : 0 ≤ k ∧ k ≤ 1000000000000) : GC Tryz.prog 70 [.p (.lst 117 7 (rowsOf encHtlc (mkdHtlc k m))),int k] [] (int (k + 7 * (m : Int))) [] := by
 refine GC.intro (rs := [.tmp 4]) Tryz.func70 rfl Tryz.ntmps70 (Nat.le_of_ble_eq_true rfl) ⟨rfl,trivial⟩ ?_
 intro L O w0
 refine sL<|laI Z<|nG<|aS<|sL<|laI Z<|nG<|aB ?_
 refine AW.loopE [(0,.p (.lst _ _ _)),(4,.p (.v (.int _ _)))] [] (D := Nat) (fun j => [(5,int (j : Int)),(1,int (k + 7 * (j : Int)))]) (fun j => []) (fun j => j ≤ m) (fun j => m - j) (0) (Nat.zero_le _) ⟨rfl,(congrArg int (by omega)),trivial⟩ trivial ⟨rfl,rfl,trivial⟩ trivial ?_
 intro j hI
 refine aS<|sL<|lmI Z<|lmL Z<|lnI ty.sl31 Z<|lbB Z<|nG ?_
 refine AW.cond rfl ?_ ?_
 ·intro h1
  refine aK<|gT<|aS<|aB<|aS<|aS ?_
  have hj : j < m := by have h := h1;simp [length_rowsOf,mkLs_len] at h;omega
  refine aL<|lmL Z<|lmI Z<|li j ty.el31 rfl (rows_some (mkLs_get hj))<|lq (rd (x := .rp _) (zfr ty.F117_0 rfl) rfl)<|lrI ty.kd3 Z<|lmI Z<|lbB Z<|lsB 18 false rfl (by unfold mk1Htlc;simp)<|nG<|aN Z<|aK<|gA<|lmI Z<|lgI Z<|lsN 20 (k + 7 * (j : Int) + 1) rfl (by omega)<|laI Z<|nG<|aS<|sL<|lmL Z<|lmI Z<|li j ty.el31 rfl (rows_some (mkLs_get hj))<|lq (rd (x := .rp _) (zfr ty.F117_1 rfl) rfl)<|lrI ty.kd3 rfl ?_
  refine lmI Z<|lbB Z<|lsB 27 false rfl (by unfold mk1Htlc;simp)<|nG<|aN Z<|aK<|gA<|lmI Z<|lgI Z<|lsN 29 (k + 7 * (j : Int) + 2) rfl (by omega)<|laI Z<|nG<|aS<|sL<|lmL Z<|lmI Z<|li j ty.el31 rfl (rows_some (mkLs_get hj))<|lq (rd (x := .rp _) (zfr ty.F117_2 rfl) rfl)<|lT [0,1,4,5,33] [vL _ _ _,vI _ _,vI _ _,vI _ _,.rp _] [] [] rfl Z<|lrI ty.kd3 Z<|lmI Z<|lbB Z<|lsB 36 false rfl (by unfold mk1Htlc;simp)<|nG ?_
  refine aN Z<|aK<|gA<|lmI Z<|lgI Z<|lsN 38 (k + 7 * (j : Int) + 3) rfl (by omega)<|laI Z<|nG<|aS<|sL<|lmL Z<|lmI Z<|li j ty.el31 rfl (rows_some (mkLs_get hj))<|lq (rd (x := .rp _) (zfr ty.F117_3 rfl) rfl)<|lrI ty.kd3 Z<|lmI Z<|lbB Z<|lsB 45 false rfl (by unfold mk1Htlc;simp)<|nG<|aN Z<|aK<|gA<|lmI rfl ?_
  refine lgI Z<|lsN 47 (k + 7 * (j : Int) + 4) rfl (by omega)<|laI Z<|nG<|aS<|sL<|lmL Z<|lmI Z<|li j ty.el31 rfl (rows_some (mkLs_get hj))<|lq (rd (x := .rp _) (zfr ty.F117_4 rfl) rfl)<|lrI ty.kd3 Z<|lmI Z<|lbB Z<|lsB 54 false rfl (by unfold mk1Htlc;simp)<|nG<|aN Z<|aK<|gA<|lmI Z<|lgI Z<|lsN 56 (k + 7 * (j : Int) + 5) rfl (by omega)<|laI Z<|nG<|aS ?_
  refine sL<|lmL Z<|lmI Z<|li j ty.el31 Z (rows_some (mkLs_get hj))<|lq (rd (x := .rp _) (zfr ty.F117_5 Z) Z)<|lT [0,1,4,5,60] [vL _ _ _,vI _ _,vI _ _,vI _ _,.rp _] [] [] Z Z<|lrB ty.kd4 Z<|lmI Z ?_
  refine lhI rfl ⟨rfl,by decide⟩<|lbB Z<|lq (rd (x := vB _) (rd_neB rfl rfl rfl Tryz.underlying4) rfl)<|lsB 65 false rfl (by unfold mk1Htlc;simp)<|nG<|aN Z<|aK<|gA<|lmI Z<|lgI Z<|lsN 67 (k + 7 * (j : Int) + 6) rfl (by omega)<|laI Z<|nG<|aS<|sL<|lmL Z<|lmI Z<|li j ty.el31 rfl (rows_some (mkLs_get hj))<|lq (rd (x := .rp _) (zfr ty.F117_6 rfl) rfl)<|lrI ty.kd3 Z<|lmI Z<|lbB Z<|lsB 74 false rfl (by unfold mk1Htlc;simp)<|nG ?_
  refine aN Z<|aK<|gT<|aL<|lmI Z<|lgI Z<|lsN 76 (k + 7 * (j : Int) + 7) rfl (by omega)<|laI Z<|lN<|gB<|gT<|aL<|lmI Z<|lgI Z<|laI Z<|nG ?_
  refine ⟨j + 1,hj,by omega,⟨(Eq.trans (b := int _) rfl (congrArg int (by omega))),(Eq.trans (b := int _) rfl (congrArg int (by omega))),trivial⟩,trivial,⟨rfl,rfl,trivial⟩,trivial⟩
 ·intro h1
  refine aE<|eT<|eT<|eB<|gA<|lmI Z<|laI Z<|nG<|aR ?_
  have hje : j = m := by have h := h1;simp [length_rowsOf,mkLs_len] at h;omega
  refine end_ret ?_ trivial
  rw [hje]
  try rfl
def mk1Circle (k : Int) : Circle := ⟨k,k + 1,k + 2,k + 3,k + 4⟩
abbrev mkdCircle (k : Int) (m : Nat) : List Circle := mkLs mk1Circle 5 k m
theorem markCircleS_e (u : Value) (l : List Circle) (k : Int) (hm : l.length ≤ 100000000) (hk : 0 ≤ k ∧ k ≤ 1000000000000) : GC Tryz.prog 67 [.own 0,int k] [(0,.arr ⟨120,some u⟩ 5 (rowsOf encCircle l))] (int (k + 5 * (l.length : Int))) [(0,.arr ⟨120,some u⟩ 5 (rowsOf encCircle (mkdCircle k l.length)))] := by
 refine GC.intro (rs := [.tmp 4]) Tryz.func67 rfl Tryz.ntmps67 (Nat.le_of_ble_eq_true rfl) ⟨rfl,trivial⟩ ?_
 intro L O w0
 refine sL<|laI Z<|nG<|aS<|sL<|laI Z<|nG<|aB ?_
 refine AW.loopE [(0,.own _),(4,.p (.v (.int _ _)))] [] (D := Nat) (fun j => [(5,int (j : Int)),(1,int (k + 5 * (j : Int)))]) (fun j => [(0,.arr ⟨120,some u⟩ 5 (rowsOf encCircle (mkdCircle k j ++ l.drop j)))]) (fun j => j ≤ l.length) (fun j => l.length - j) (0) (Nat.zero_le _) ⟨rfl,(congrArg int (by omega)),trivial⟩ ⟨rfl,trivial⟩ ⟨rfl,rfl,trivial⟩ trivial ?_
 intro j hI
 refine aS<|sL<|lmI Z<|lmO Z<|lnI ty.sl32 Z<|lbB Z<|nG ?_
 refine AW.cond rfl ?_ ?_
 ·intro h1
  refine aK<|gT<|aS<|aB<|aS ?_
  have hj : j < l.length := by have h := h1;simp [length_rowsOf,mkLs_len] at h;omega
  refine aL<|lmO Z<|lmI Z<|lmI Z<|lq (rj j ty.el32 rfl (by simp [length_rowsOf,mkLs_len];omega))<|lf 0 ty.F120_0 Z<|lst (zQ 0 [.v (.int .i64 (k + 5 * (j : Int)))] ty.co3 ty.inf3 rfl (rows_some (marked_get mkLs_len hj))) Z<|nG ?_
  refine AW.obj 0 (.arr ⟨120,some u⟩ 5 ((rowsOf encCircle (mkdCircle k j ++ l.drop j)).set j [.v (.int .i64 (k + 5 * (j : Int))),.v (.int .i64 l[j].frm),.v (.int .i64 l[j].to),.v (.int .i64 l[j].amt),.v (.int .i64 l[j].fee)])) (rfl) ?_
  refine sL<|lmI Z<|lgI Z<|lsN 18 (k + 5 * (j : Int) + 1) rfl (by omega)<|laI Z<|nA<|lmO Z<|lmI Z<|lmI Z<|lq (rj j ty.el32 rfl (by simp [length_rowsOf,mkLs_len];omega))<|lf 1 ty.F120_1 Z<|lst (zQ 0 [.v (.int .i64 (k + 5 * (j : Int) + 1))] ty.co3 ty.inf3 rfl (List.getElem?_set_self (by simp [length_rowsOf,mkLs_len];omega))) Z<|lT [0,1,4,5] [.own _,vI _ _,vI _ _,vI _ _] [0] [.arr _ _ _] rfl Z<|nG ?_
  refine AW.obj 0 (.arr ⟨120,some u⟩ 5 ((rowsOf encCircle (mkdCircle k j ++ l.drop j)).set j [.v (.int .i64 (k + 5 * (j : Int))),.v (.int .i64 (k + 5 * (j : Int) + 1)),.v (.int .i64 l[j].to),.v (.int .i64 l[j].amt),.v (.int .i64 l[j].fee)])) (Eq.trans (b := AO.arr ⟨120,some u⟩ 5 (((rowsOf encCircle (mkdCircle k j ++ l.drop j)).set j [.v (.int .i64 (k + 5 * (j : Int))),.v (.int .i64 l[j].frm),.v (.int .i64 l[j].to),.v (.int .i64 l[j].amt),.v (.int .i64 l[j].fee)]).set j [.v (.int .i64 (k + 5 * (j : Int))),.v (.int .i64 (k + 5 * (j : Int) + 1)),.v (.int .i64 l[j].to),.v (.int .i64 l[j].amt),.v (.int .i64 l[j].fee)])) rfl (congrArg (AO.arr ⟨120,some u⟩ 5) (List.set_set ..))) ?_
  refine sL<|lmI Z<|lgI Z<|lsN 25 (k + 5 * (j : Int) + 2) rfl (by omega)<|laI Z<|nA<|lmO Z<|lmI Z<|lmI Z<|lq (rj j ty.el32 rfl (by simp [length_rowsOf,mkLs_len];omega))<|lf 2 ty.F120_2 Z<|lst (zQ 0 [.v (.int .i64 (k + 5 * (j : Int) + 2))] ty.co3 ty.inf3 rfl (List.getElem?_set_self (by simp [length_rowsOf,mkLs_len];omega))) Z<|nG ?_
  refine AW.obj 0 (.arr ⟨120,some u⟩ 5 ((rowsOf encCircle (mkdCircle k j ++ l.drop j)).set j [.v (.int .i64 (k + 5 * (j : Int))),.v (.int .i64 (k + 5 * (j : Int) + 1)),.v (.int .i64 (k + 5 * (j : Int) + 2)),.v (.int .i64 l[j].amt),.v (.int .i64 l[j].fee)])) (Eq.trans (b := AO.arr ⟨120,some u⟩ 5 (((rowsOf encCircle (mkdCircle k j ++ l.drop j)).set j [.v (.int .i64 (k + 5 * (j : Int))),.v (.int .i64 (k + 5 * (j : Int) + 1)),.v (.int .i64 l[j].to),.v (.int .i64 l[j].amt),.v (.int .i64 l[j].fee)]).set j [.v (.int .i64 (k + 5 * (j : Int))),.v (.int .i64 (k + 5 * (j : Int) + 1)),.v (.int .i64 (k + 5 * (j : Int) + 2)),.v (.int .i64 l[j].amt),.v (.int .i64 l[j].fee)])) rfl (congrArg (AO.arr ⟨120,some u⟩ 5) (List.set_set ..))) ?_
  refine sL<|lmI Z<|lgI Z<|lsN 32 (k + 5 * (j : Int) + 3) rfl (by omega)<|laI Z<|nA<|lmO Z<|lmI Z<|lmI Z<|lq (rj j ty.el32 rfl (by simp [length_rowsOf,mkLs_len];omega))<|lf 3 ty.F120_3 Z<|lst (zQ 0 [.v (.int .i64 (k + 5 * (j : Int) + 3))] ty.co3 ty.inf3 rfl (List.getElem?_set_self (by simp [length_rowsOf,mkLs_len];omega))) Z<|lT [0,1,4,5] [.own _,vI _ _,vI _ _,vI _ _] [0] [.arr _ _ _] rfl Z<|nG ?_
  refine AW.obj 0 (.arr ⟨120,some u⟩ 5 ((rowsOf encCircle (mkdCircle k j ++ l.drop j)).set j [.v (.int .i64 (k + 5 * (j : Int))),.v (.int .i64 (k + 5 * (j : Int) + 1)),.v (.int .i64 (k + 5 * (j : Int) + 2)),.v (.int .i64 (k + 5 * (j : Int) + 3)),.v (.int .i64 l[j].fee)])) (Eq.trans (b := AO.arr ⟨120,some u⟩ 5 (((rowsOf encCircle (mkdCircle k j ++ l.drop j)).set j [.v (.int .i64 (k + 5 * (j : Int))),.v (.int .i64 (k + 5 * (j : Int) + 1)),.v (.int .i64 (k + 5 * (j : Int) + 2)),.v (.int .i64 l[j].amt),.v (.int .i64 l[j].fee)]).set j [.v (.int .i64 (k + 5 * (j : Int))),.v (.int .i64 (k + 5 * (j : Int) + 1)),.v (.int .i64 (k + 5 * (j : Int) + 2)),.v (.int .i64 (k + 5 * (j : Int) + 3)),.v (.int .i64 l[j].fee)])) rfl (congrArg (AO.arr ⟨120,some u⟩ 5) (List.set_set ..))) ?_
  refine sL<|lmI Z<|lgI Z<|lsN 39 (k + 5 * (j : Int) + 4) rfl (by omega)<|laI Z<|nA<|lmO Z<|lmI Z<|lmI Z<|lq (rj j ty.el32 rfl (by simp [length_rowsOf,mkLs_len];omega))<|lf 4 ty.F120_4 Z<|lst (zQ 0 [.v (.int .i64 (k + 5 * (j : Int) + 4))] ty.co3 ty.inf3 rfl (List.getElem?_set_self (by simp [length_rowsOf,mkLs_len];omega))) Z<|nG ?_
  refine AW.obj 0 (.arr ⟨120,some u⟩ 5 ((rowsOf encCircle (mkdCircle k j ++ l.drop j)).set j [.v (.int .i64 (k + 5 * (j : Int))),.v (.int .i64 (k + 5 * (j : Int) + 1)),.v (.int .i64 (k + 5 * (j : Int) + 2)),.v (.int .i64 (k + 5 * (j : Int) + 3)),.v (.int .i64 (k + 5 * (j : Int) + 4))])) (Eq.trans (b := AO.arr ⟨120,some u⟩ 5 (((rowsOf encCircle (mkdCircle k j ++ l.drop j)).set j [.v (.int .i64 (k + 5 * (j : Int))),.v (.int .i64 (k + 5 * (j : Int) + 1)),.v (.int .i64 (k + 5 * (j : Int) + 2)),.v (.int .i64 (k + 5 * (j : Int) + 3)),.v (.int .i64 l[j].fee)]).set j [.v (.int .i64 (k + 5 * (j : Int))),.v (.int .i64 (k + 5 * (j : Int) + 1)),.v (.int .i64 (k + 5 * (j : Int) + 2)),.v (.int .i64 (k + 5 * (j : Int) + 3)),.v (.int .i64 (k + 5 * (j : Int) + 4))])) rfl (congrArg (AO.arr ⟨120,some u⟩ 5) (List.set_set ..))) ?_
  refine aL<|lmI Z<|lgI Z<|lsN 46 (k + 5 * (j : Int) + 5) rfl (by omega)<|laI Z<|lN<|gB<|gT<|aL<|lmI Z<|lgI Z<|laI Z<|nG ?_
  refine ⟨j + 1,hj,by omega,⟨(Eq.trans (b := int _) rfl (congrArg int (by omega))),(Eq.trans (b := int _) rfl (congrArg int (by omega))),trivial⟩,⟨(Eq.trans (b := AO.arr ⟨120,some u⟩ 5 ((rowsOf encCircle (mkdCircle k j ++ l.drop j)).set j ((encCircle (mk1Circle (k + 5 * (j : Int)))).map PV.v))) rfl (congrArg (AO.arr ⟨120,some u⟩ 5) (rows_set.trans (congrArg (rowsOf encCircle) (marked_set mkLs_len mkLs_succ hj))))),trivial⟩,⟨rfl,rfl,trivial⟩,trivial⟩
 ·intro h1
  refine aE<|eT<|eT<|eB<|gA<|lmI Z<|laI Z<|nG<|aR ?_
  have hje : j = l.length := by have h := h1;simp [length_rowsOf,mkLs_len] at h;omega
  refine end_ret ?_ ⟨(congrArg (fun q => AO.arr ⟨120,some u⟩ 5 (rowsOf encCircle q)) (by rw [hje,List.drop_length,List.append_nil])),trivial⟩
  rw [hje]
  try rfl
theorem heldCircleS_e (m : Nat) (k : Int) (hm : m ≤ 100000000) (hk : 0 ≤ k ∧ k ≤ 1000000000000) : GC Tryz.prog 71 [.p (.lst 120 5 (rowsOf encCircle (mkdCircle k m))),int k] [] (int (k + 5 * (m : Int))) [] := by
 refine GC.intro (rs := [.tmp 4]) Tryz.func71 rfl Tryz.ntmps71 (Nat.le_of_ble_eq_true rfl) ⟨rfl,trivial⟩ ?_
 intro L O w0
 refine sL<|laI Z<|nG<|aS<|sL<|laI Z<|nG<|aB ?_
 refine AW.loopE [(0,.p (.lst _ _ _)),(4,.p (.v (.int _ _)))] [] (D := Nat) (fun j => [(5,int (j : Int)),(1,int (k + 5 * (j : Int)))]) (fun j => []) (fun j => j ≤ m) (fun j => m - j) (0) (Nat.zero_le _) ⟨rfl,(congrArg int (by omega)),trivial⟩ trivial ⟨rfl,rfl,trivial⟩ trivial ?_
 intro j hI
 refine aS<|sL<|lmI Z<|lmL Z<|lnI ty.sl32 Z<|lbB Z<|nG ?_
 refine AW.cond rfl ?_ ?_
 ·intro h1
  refine aK<|gT<|aS<|aB<|aS<|aS ?_
  have hj : j < m := by have h := h1;simp [length_rowsOf,mkLs_len] at h;omega
  refine aL<|lmL Z<|lmI Z<|li j ty.el32 rfl (rows_some (mkLs_get hj))<|lq (rd (x := .rp _) (zfr ty.F120_0 rfl) rfl)<|lrI ty.kd3 Z<|lmI Z<|lbB Z<|lsB 18 false rfl (by unfold mk1Circle;simp)<|nG<|aN Z<|aK<|gA<|lmI Z<|lgI Z<|lsN 20 (k + 5 * (j : Int) + 1) rfl (by omega)<|laI Z<|nG<|aS<|sL<|lmL Z<|lmI Z<|li j ty.el32 rfl (rows_some (mkLs_get hj))<|lq (rd (x := .rp _) (zfr ty.F120_1 rfl) rfl)<|lrI ty.kd3 rfl ?_
  refine lmI Z<|lbB Z<|lsB 27 false rfl (by unfold mk1Circle;simp)<|nG<|aN Z<|aK<|gA<|lmI Z<|lgI Z<|lsN 29 (k + 5 * (j : Int) + 2) rfl (by omega)<|laI Z<|nG<|aS<|sL<|lmL Z<|lmI Z<|li j ty.el32 rfl (rows_some (mkLs_get hj))<|lq (rd (x := .rp _) (zfr ty.F120_2 rfl) rfl)<|lT [0,1,4,5,33] [vL _ _ _,vI _ _,vI _ _,vI _ _,.rp _] [] [] rfl Z<|lrI ty.kd3 Z<|lmI Z<|lbB Z<|lsB 36 false rfl (by unfold mk1Circle;simp)<|nG ?_
  refine aN Z<|aK<|gA<|lmI Z<|lgI Z<|lsN 38 (k + 5 * (j : Int) + 3) rfl (by omega)<|laI Z<|nG<|aS<|sL<|lmL Z<|lmI Z<|li j ty.el32 rfl (rows_some (mkLs_get hj))<|lq (rd (x := .rp _) (zfr ty.F120_3 rfl) rfl)<|lrI ty.kd3 Z<|lmI Z<|lbB Z<|lsB 45 false rfl (by unfold mk1Circle;simp)<|nG<|aN Z<|aK<|gA<|lmI rfl ?_
  refine lgI Z<|lsN 47 (k + 5 * (j : Int) + 4) rfl (by omega)<|laI Z<|nG<|aS<|sL<|lmL Z<|lmI Z<|li j ty.el32 rfl (rows_some (mkLs_get hj))<|lq (rd (x := .rp _) (zfr ty.F120_4 rfl) rfl)<|lrI ty.kd3 Z<|lmI Z<|lbB Z<|lsB 54 false rfl (by unfold mk1Circle;simp)<|nG<|aN Z<|aK<|gT<|aL<|lmI Z<|lgI Z<|lsN 56 (k + 5 * (j : Int) + 5) rfl (by omega)<|laI Z<|lN<|gB<|gT<|aL ?_
  refine lmI Z<|lgI Z<|laI Z<|nG ?_
  refine ⟨j + 1,hj,by omega,⟨(Eq.trans (b := int _) rfl (congrArg int (by omega))),(Eq.trans (b := int _) rfl (congrArg int (by omega))),trivial⟩,trivial,⟨rfl,rfl,trivial⟩,trivial⟩
 ·intro h1
  refine aE<|eT<|eT<|eB<|gA<|lmI Z<|lT [4,57] [vI _ _,vI _ _] [] [] Z Z<|laI Z<|nG<|aR ?_
  have hje : j = m := by have h := h1;simp [length_rowsOf,mkLs_len] at h;omega
  refine end_ret ?_ trivial
  rw [hje]
  try rfl
end Go.Proofs.YtohobndkbmpfcaaGreat

/- Apply's results in one form. -/
namespace Go.Proofs.YtohobndkbmpfcaaGreat
open Go.RowKit
set_option linter.unusedSimpArgs false
set_option linter.unusedVariables false
abbrev appAV (x : Book) (e : Event) : AV := .tup [.agg [int (appB x e).tick,int (appB x e).next,int (appB x e).wallet,.own 11,.own 12,.own 13],.agg [int (appP x e).id,.own 14],int (applyC x e)]
abbrev appOb (x : Book) (e : Event) : List (Nat × AO) := [(11,.arr 78 7 (rowsOf encChan (appB x e).chans)),(12,hAr (appB x e).htlcs),(13,iAr (appB x e).circles),(14,lAr (appP x e).lines)]
def OBF (w : World) (v : Value) (f : List Nat) (o : AO) : Prop := ∀ (L : Nat → Prop) (ρ : Nat → Value) (H : Nat → AO),OB L ρ H w v f o
theorem OBF.of {L : Nat → Prop} {ρ : Nat → Value} {H : Nat → AO} {w : World} {v : Value} {f : List Nat} {α : Type} {enc : α → List Value} {e : TypeId} {sz : Nat} {l : List α} (h : OB L ρ H w v f (.arr ⟨e,none⟩ sz (rowsOf enc l))) : OBF w v f (.arr ⟨e,none⟩ sz (rowsOf enc l)) := fun L' ρ' H' => by
  obtain ⟨xs,fr,k1,k2,k3,k4,k5⟩ := h
  have hfr := k1.flat_fp flat_rowsOf
  subst hfr
  exact ⟨xs,[],k1,by simp,k3,k4,k5⟩
theorem OBF.nil {w : World} {e : TypeId} {sz : Nat} : OBF w (.slice none 0 0) [] (.arr ⟨e,none⟩ sz []) := fun L ρ H => ⟨[],[],by simp [RWR],by simp,World.ownsRow_nil _ _ _ _,rfl,fun u hu => by cases hu⟩
theorem rv_own1 {L : Nat → Prop} {ρ : Nat → Value} {H : Nat → AO} {w : World} {id : Nat} {c : Value} (h : RV L ρ H w (.own id) c) : c.oneCell' = true := by rw [RV] at h;exact h.1
theorem rv_own_mk {L : Nat → Prop} {ρ : Nat → Value} {H : Nat → AO} {w : World} {id : Nat} {c : Value} (h : c.oneCell' = true) (h2 : c = ρ id) : RV L ρ H w (.own id) c := by rw [RV];exact ⟨h,fun _ => h2⟩
theorem app_key {x : Book} {e : Event} {L : Nat → Prop} {w' : World} {y : AV} {ob1 : List (Nat × AO)} {v : Value} {ρ' : Nat → Value} {fp' : Nat → List Nat} (hR : appR x e y ob1) (g2 : RV L ρ' (ofO ob1) w' y v) (g3 : ∀ i,OB L ρ' (ofO ob1) w' (ρ' i) (fp' i) (ofO ob1 i)) :
    ∃ v1 v2 v3 v4 : Value,∃ k1 k2 k3 k4 : Bool,v = .tuple #[.agg #[.int .i64 (appB x e).tick,.int .i64 (appB x e).next,.int .i64 (appB x e).wallet,v1,v2,v3],.agg #[.int .i64 (appP x e).id,v4],.int .i64 (applyC x e)] ∧ (v1.oneCell' = true ∧ v2.oneCell' = true ∧ v3.oneCell' = true ∧ v4.oneCell' = true) ∧
      OBF w' v1 (if k1 then fp' 1 else []) (.arr 78 7 (rowsOf encChan (appB x e).chans)) ∧ OBF w' v2 (if k2 then fp' 2 else []) (hAr (appB x e).htlcs) ∧ OBF w' v3 (if k3 then fp' 3 else []) (iAr (appB x e).circles) ∧ OBF w' v4 (if k4 then fp' 4 else []) (lAr (appP x e).lines) := by
  rcases hR with ⟨h0,rfl,rfl⟩ | ⟨h0,hl,rfl,rfl⟩ | ⟨h0,hl,rfl,rfl⟩
  · obtain ⟨e1,e2⟩ := appB_no h0
    obtain ⟨cs,rfl,g⟩ := rv_tup g2
    simp only [RVL] at g
    obtain ⟨v1,_,rfl,k1,v2,_,rfl,k2,v3,_,rfl,k3,rfl⟩ := g
    obtain ⟨cs,rfl,g⟩ := rv_agg k1
    simp only [RVL] at g
    obtain ⟨u1,_,rfl,j1,u2,_,rfl,j2,u3,_,rfl,j3,u4,_,rfl,j4,u5,_,rfl,j5,u6,_,rfl,j6,rfl⟩ := g
    obtain ⟨cs,rfl,g⟩ := rv_agg k2
    simp only [RVL] at g
    obtain ⟨t1,_,rfl,i1,t2,_,rfl,i2,rfl⟩ := g
    rw [j1.v_eq,j2.v_eq,j3.v_eq,j4.v_eq,j5.v_eq,j6.v_eq,i1.v_eq,i2.v_eq,k3.v_eq]
    refine ⟨_,_,_,_,false,false,false,false,by rw [e1,e2];rfl,⟨rfl,rfl,rfl,rfl⟩,?_⟩
    rw [e1,e2]
    exact ⟨OBF.nil,OBF.nil,OBF.nil,OBF.nil⟩
  · obtain ⟨e1,e2⟩ := appB_nil h0 hl
    obtain ⟨cs,rfl,g⟩ := rv_tup g2
    simp only [RVL] at g
    obtain ⟨v1,_,rfl,k1,v2,_,rfl,k2,v3,_,rfl,k3,rfl⟩ := g
    obtain ⟨cs,rfl,g⟩ := rv_agg k1
    simp only [RVL] at g
    obtain ⟨u1,_,rfl,j1,u2,_,rfl,j2,u3,_,rfl,j3,u4,_,rfl,j4,u5,_,rfl,j5,u6,_,rfl,j6,rfl⟩ := g
    obtain ⟨cs,rfl,g⟩ := rv_agg k2
    simp only [RVL] at g
    obtain ⟨t1,_,rfl,i1,t2,_,rfl,i2,rfl⟩ := g
    rw [j1.v_eq,j2.v_eq,j3.v_eq,i1.v_eq,i2.v_eq,k3.v_eq]
    refine ⟨_,_,_,_,true,true,true,false,by rw [e1,e2,h0],⟨rv_own1 j4,rv_own1 j5,rv_own1 j6,rfl⟩,?_⟩
    rw [e1,e2,rv_own j4 rfl,rv_own j5 rfl,rv_own j6 rfl]
    exact ⟨OBF.of (g3 1),OBF.of (g3 2),OBF.of (g3 3),OBF.nil⟩
  · obtain ⟨e1,e2⟩ := appB_yes h0 hl
    obtain ⟨cs,rfl,g⟩ := rv_tup g2
    simp only [RVL] at g
    obtain ⟨v1,_,rfl,k1,v2,_,rfl,k2,v3,_,rfl,k3,rfl⟩ := g
    obtain ⟨cs,rfl,g⟩ := rv_agg k1
    simp only [RVL] at g
    obtain ⟨u1,_,rfl,j1,u2,_,rfl,j2,u3,_,rfl,j3,u4,_,rfl,j4,u5,_,rfl,j5,u6,_,rfl,j6,rfl⟩ := g
    obtain ⟨cs,rfl,g⟩ := rv_agg k2
    simp only [RVL] at g
    obtain ⟨t1,_,rfl,i1,t2,_,rfl,i2,rfl⟩ := g
    rw [j1.v_eq,j2.v_eq,j3.v_eq,i1.v_eq,k3.v_eq]
    refine ⟨_,_,_,_,true,true,true,true,by rw [e1,e2,h0],⟨rv_own1 j4,rv_own1 j5,rv_own1 j6,rv_own1 i2⟩,?_⟩
    rw [e1,e2,rv_own j4 rfl,rv_own j5 rfl,rv_own j6 rfl,rv_own i2 rfl]
    exact ⟨OBF.of (g3 1),OBF.of (g3 2),OBF.of (g3 3),OBF.of (g3 4)⟩
theorem app_gc {f : FuncId} {x : Book} {e : Event} (hc : GX Tryz.prog f [bookV x,evV e] [] (appR x e)) : GC Tryz.prog f [bookV x,evV e] [] (appAV x e) (appOb x e) := by
  intro L w cs ρ fp hL hargs hob hdj hLf
  refine Calls.mono (hc L w cs ρ fp hL hargs hob hdj hLf) ?_
  rintro r w' ⟨y,ob1,hR,v,ρ',fp',rfl,g1,g2,g3,g4,g5⟩
  obtain ⟨v1,v2,v3,v4,k1,k2,k3,k4,rfl,⟨o1,o2,o3,o4⟩,b1,b2,b3,b4⟩ := app_key hR g2 g3
  have hsub : ∀ (k : Bool) i,∀ b ∈ (if k then fp' i else []),b ∈ fp' i := fun k i b hb => by cases k <;> simp_all
  refine ⟨_,_,⟨rfl,rfl⟩,_,(fun i => if i = 11 then v1 else if i = 12 then v2 else if i = 13 then v3 else if i = 14 then v4 else undef),(fun i => if i = 11 then (if k1 then fp' 1 else []) else if i = 12 then (if k2 then fp' 2 else []) else if i = 13 then (if k3 then fp' 3 else []) else if i = 14 then (if k4 then fp' 4 else []) else []),rfl,g1,?_,fun i => ?_,fun i j hij b hb hb' => ?_,fun i b hb => ?_⟩
  · rw [RV]
    refine ⟨[_,_,_],rfl,?_⟩
    simp only [RVL]
    refine ⟨_,_,rfl,?_,_,_,rfl,?_,_,_,rfl,RV.v_mk rfl,rfl⟩
    · rw [RV]
      refine ⟨[_,_,_,_,_,_],rfl,?_⟩
      simp only [RVL]
      exact ⟨_,_,rfl,RV.v_mk rfl,_,_,rfl,RV.v_mk rfl,_,_,rfl,RV.v_mk rfl,_,_,rfl,rv_own_mk o1 rfl,_,_,rfl,rv_own_mk o2 rfl,_,_,rfl,rv_own_mk o3 rfl,rfl⟩
    · rw [RV]
      refine ⟨[_,_],rfl,?_⟩
      simp only [RVL]
      exact ⟨_,_,rfl,RV.v_mk rfl,_,_,rfl,rv_own_mk o4 rfl,rfl⟩
  · by_cases h1 : i = 11
    · subst h1;exact b1 _ _ _
    by_cases h2 : i = 12
    · subst h2;exact b2 _ _ _
    by_cases h3 : i = 13
    · subst h3;exact b3 _ _ _
    by_cases h4 : i = 14
    · subst h4;exact b4 _ _ _
    simp only [if_neg h1,if_neg h2,if_neg h3,if_neg h4,ofO]
    rfl
  · have key : ∀ i b,b ∈ (if i = 11 then (if k1 then fp' 1 else []) else if i = 12 then (if k2 then fp' 2 else []) else if i = 13 then (if k3 then fp' 3 else []) else if i = 14 then (if k4 then fp' 4 else []) else []) → 11 ≤ i ∧ b ∈ fp' (i - 10) := fun i b hb => by
      split at hb
      · rename_i q;subst q;exact ⟨by omega,hsub _ _ b hb⟩
      split at hb
      · rename_i q;subst q;exact ⟨by omega,hsub _ _ b hb⟩
      split at hb
      · rename_i q;subst q;exact ⟨by omega,hsub _ _ b hb⟩
      split at hb
      · rename_i q;subst q;exact ⟨by omega,hsub _ _ b hb⟩
      · cases hb
    obtain ⟨p1,p2⟩ := key i b hb
    obtain ⟨p3,p4⟩ := key j b hb'
    exact g4 (i - 10) (j - 10) (by omega) b p2 p4
  · have key : ∀ i b,b ∈ (if i = 11 then (if k1 then fp' 1 else []) else if i = 12 then (if k2 then fp' 2 else []) else if i = 13 then (if k3 then fp' 3 else []) else if i = 14 then (if k4 then fp' 4 else []) else []) → ∃ j,b ∈ fp' j := fun i b hb => by
      split at hb
      · exact ⟨1,hsub _ _ b hb⟩
      split at hb
      · exact ⟨2,hsub _ _ b hb⟩
      split at hb
      · exact ⟨3,hsub _ _ b hb⟩
      split at hb
      · exact ⟨4,hsub _ _ b hb⟩
      · cases hb
    obtain ⟨j,hj⟩ := key i b hb
    exact g5 j b hj
theorem apply_g (x : Book) (e : Event) (hw : BookWf x) : GC Tryz.prog 9 [bookV x,evV e] [] (appAV x e) (appOb x e) := app_gc (apply_e x e hw)
theorem sapply_g (x : Book) (e : Event) (hw : BookWf x) : GC Tryz.prog 6 [bookV x,evV e] [] (appAV x e) (appOb x e) := app_gc (sapply_e x e hw)
abbrev ownBk (x : Book) : AV := .agg [int x.tick,int x.next,int x.wallet,.own 1,.own 2,.own 3]
abbrev obBk (u1 u2 u3 : Value) (x : Book) : List (Nat × AO) := [(1,.arr ⟨78,some u1⟩ 7 (rowsOf encChan x.chans)),(2,.arr ⟨117,some u2⟩ 7 (rowsOf encHtlc x.htlcs)),(3,.arr ⟨120,some u3⟩ 5 (rowsOf encCircle x.circles))]
theorem appFlat (x : Book) (e : Event) : ∀ p ∈ appOb x e,flatO p.2 := fun p hp => by
  simp only [appOb,List.mem_cons,List.not_mem_nil,or_false] at hp
  rcases hp with rfl | rfl | rfl | rfl <;> exact ⟨rfl,flat_rowsOf⟩
theorem lentBk {f : FuncId} {u1 u2 u3 : Value} {x : Book} {e : Event} (hc : GC Tryz.prog f [bookV x,evV e] [] (appAV x e) (appOb x e)) : GC Tryz.prog f [ownBk x,evV e] (obBk u1 u2 u3 x) (appAV x e) (appOb x e ++ obBk u1 u2 u3 x) :=
  hc.lent rfl rfl (by intro id hid;simp [ownN,ownNL] at hid;rcases hid with rfl | rfl | rfl | rfl <;> rfl) (by intro p hp;simp [obBk] at hp;rcases hp with rfl | rfl | rfl <;> rfl) (appFlat x e) (by intro p hp;simp [obBk] at hp;rcases hp with rfl | rfl | rfl <;> rfl)
end Go.Proofs.YtohobndkbmpfcaaGreat

/- The laws' helpers on books and postings, over data. -/
namespace Go.Proofs.YtohobndkbmpfcaaGreat
open Go.RowKit
set_option maxHeartbeats 16000000
set_option maxRecDepth 100000
set_option linter.unusedSimpArgs false
set_option linter.unusedVariables false
abbrev lbookV (x : Book) : AV := .agg [int x.tick,int x.next,int x.wallet,.p (.lst 122 7 (rowsOf encChan x.chans)),.p (.lst 124 7 (rowsOf encHtlc x.htlcs)),.p (.lst 126 5 (rowsOf encCircle x.circles))]
abbrev postV (p : Posting) : AV := .agg [int p.id,.p (.lst 109 3 (rowsOf encLine p.lines))]
theorem lbookArg {L : Nat → Prop} {ρ : Nat → Value} {H : Nat → AO} {x : Book} {w : World} {c : Value} (h : RV L ρ H w (lbookV x) c) (wc : ∀ c ∈ x.chans,wfChan c) (wh : ∀ c ∈ x.htlcs,wfHtlc c) (wi : ∀ c ∈ x.circles,wfCircle c) :
    ∃ a0 c0 a1 c1 a2 c2,c = .agg #[.int .i64 x.tick,.int .i64 x.next,.int .i64 x.wallet,.slice a0 x.chans.length c0,.slice a1 x.htlcs.length c1,.slice a2 x.circles.length c2] ∧
      SlR 7 repChan w 0 w.heap.size (.slice a0 x.chans.length c0) x.chans ∧ SlR 7 repHtlc w 0 w.heap.size (.slice a1 x.htlcs.length c1) x.htlcs ∧ SlR 5 repCircle w 0 w.heap.size (.slice a2 x.circles.length c2) x.circles := by
  rw [RV] at h
  obtain ⟨cs,rfl,h⟩ := h
  simp only [RVL] at h
  obtain ⟨v0,r0,rfl,h0,v1,r1,rfl,h1,v2,r2,rfl,h2,v3,r3,rfl,h3,v4,r4,rfl,h4,v5,r5,rfl,h5,rfl⟩ := h
  have s3 := h3.slr (rep := repChan) (fun x => rfl) (fun c hc => ⟨rfl,wc c hc⟩)
  have s4 := h4.slr (rep := repHtlc) (fun x => rfl) (fun c hc => ⟨rfl,wh c hc⟩)
  have s5 := h5.slr (rep := repCircle) (fun x => rfl) (fun c hc => ⟨rfl,wi c hc⟩)
  obtain ⟨a0,c0,rfl⟩ := s3.form
  obtain ⟨a1,c1,rfl⟩ := s4.form
  obtain ⟨a2,c2,rfl⟩ := s5.form
  exact ⟨a0,c0,a1,c1,a2,c2,by rw [h0.v_eq,h1.v_eq,h2.v_eq],s3,s4,s5⟩
theorem szBook_e (x : Book) (l : Int) (wc : ∀ c ∈ x.chans,wfChan c) (wh : ∀ c ∈ x.htlcs,wfHtlc c) (wi : ∀ c ∈ x.circles,wfCircle c) (l1 : 0 ≤ l) (l2 : l ≤ 1048576) : GC Tryz.prog 5 [lbookV x,int l] [] (int (szBook x l)) [] := GC.of_old (RV.v_mk rfl) fun L ρ w cs h => by
 obtain ⟨c,d,rfl,hc,hd⟩ := h.two
 obtain ⟨a0,c0,a1,c1,a2,c2,rfl,s0,s1,s2⟩ := lbookArg hc wc wh wi
 rw [hd.v_eq]
 exact szBook_c x _ _ _ _ _ _ l w s0 s1 s2 l1 l2
def mkdBook (x : Book) (k : Int) : Book := { x with chans := mkdChan k x.chans.length,htlcs := mkdHtlc (k + 7 * (x.chans.length : Int)) x.htlcs.length,circles := mkdCircle (k + 7 * (x.chans.length : Int) + 7 * (x.htlcs.length : Int)) x.circles.length }
def mkdPost (p : Posting) (k : Int) : Posting := { p with lines := mkdLine k p.lines.length }
abbrev ownPo (p : Posting) : AV := .agg [int p.id,.own 1]
abbrev obPo (u : Value) (p : Posting) : List (Nat × AO) := [(1,.arr ⟨109,some u⟩ 3 (rowsOf encLine p.lines))]
theorem toBook_e (x : Book) (hc : x.chans.length ≤ 1048576) (hh : x.htlcs.length ≤ 1048576) (hi : x.circles.length ≤ 1048576) : GC Tryz.prog 7 [lbookV x] [] (ownBk x) [(1,.arr 78 7 (rowsOf encChan x.chans)),(2,hAr x.htlcs),(3,iAr x.circles)] := by
 refine GC.intro (rs := [.cell 2 34 (some 6)]) Tryz.func7 rfl Tryz.ntmps7 (Nat.le_of_ble_eq_true rfl) ⟨rfl,rfl,ty.kd34,trivial⟩ ?_
 intro L O w0
 refine sL<|lst (zX 2001 Z) Z<|lst (zA 2002 ty.ze34 Z) Z<|nA<|lst (zA 2003 ty.ze34 Z) Z<|nA<|lf 0 ty.F26_0 Z<|loI ty.kd3 Z<|lf 0 ty.F34_0 Z<|lst (zB 2003 ty.co3 ty.inf3 Z) Z<|nA<|lf 1 ty.F26_1 Z<|loI ty.kd3 Z<|lf 1 ty.F34_1 Z<|lst (zB 2003 ty.co3 ty.inf3 Z) Z<|nA<|lf 2 ty.F26_2 Z ?_
 refine loI ty.kd3 Z<|lf 2 ty.F34_2 Z<|lst (zB 2003 ty.co3 ty.inf3 rfl) Z<|lT [1,2,3] [.ptr 2001 _ 0,.ptr 2002 _ 0,.ptr 2003 _ 0] [2001,2002,2003] [.box _ _ [vI _ _,vI _ _,vI _ _,vL _ _ _,vL _ _ _,vL _ _ _],.box _ _ [vI _ _,vI _ _,vI _ _,vV _,vV _,vV _],.box _ _ [vI _ _,vI _ _,vI _ _,vV _,vV _,vV _]] rfl Z<|nA<|lf 3 ty.F26_3 Z<|loL ty.kd22 Z<|lst (zC [(2007,1)] [1] [] Tryz.func45 (toChanS_e _ (by assumption)) (trivial) rfl rfl) Z<|lf 3 ty.F34_3 Z<|lst (zB 2003 ty.co30 ty.inf30 rfl) Z<|nA<|lf 4 ty.F26_4 Z<|loL ty.kd23 Z<|lst (zC [(2007,2)] [2] [] Tryz.func46 (toHtlcS_e _ (by assumption)) (trivial) rfl rfl) Z<|lf 4 ty.F34_4 Z<|lst (zB 2003 ty.co31 ty.inf31 rfl) Z<|nA<|lf 5 ty.F26_5 Z<|loL ty.kd24 Z<|lst (zC [(2007,3)] [3] [] Tryz.func47 (toCircleS_e _ (by assumption)) (trivial) rfl rfl) Z<|lf 5 ty.F34_5 rfl ?_
 refine lst (zB 2003 ty.co32 ty.inf32 Z) Z<|lT [2,3] [.ptr 2002 _ 0,.ptr 2003 _ 0] [1,2,3,2001,2002,2003] [.arr _ _ _,.arr _ _ _,.arr _ _ _,.box _ _ [vI _ _,vI _ _,vI _ _,vL _ _ _,vL _ _ _,vL _ _ _],.box _ _ [vI _ _,vI _ _,vI _ _,vV _,vV _,vV _],.box _ _ [vI _ _,vI _ _,vI _ _,.own _,.own _,.own _]] Z Z<|nA<|loX (.agg [vI _ _,vI _ _,vI _ _,.own _,.own _,.own _]) ty.kd34 Z<|lst (zB 2002 ty.co34 ty.inf34 Z) Z<|nG<|aR ?_
 refine end_ret ?_ ⟨rfl,rfl,rfl,trivial⟩
 rfl
theorem eqBook_e (x : Book) (hc : x.chans.length ≤ 1048576) (hh : x.htlcs.length ≤ 1048576) (hi : x.circles.length ≤ 1048576) : GC Tryz.prog 10 [bookV x,bookV x] [] (boo true) [] := by
 refine GC.intro (rs := [.tmp 4]) Tryz.func10 rfl Tryz.ntmps10 (Nat.le_of_ble_eq_true rfl) ⟨rfl,trivial⟩ ?_
 intro L O w0
 refine sL<|lst (zX 2002 rfl) Z<|lst (zX 2003 rfl) Z<|laZ Z<|nG<|aS<|sL<|lf 0 ty.F34_0 Z<|loI ty.kd3 Z<|lf 0 ty.F34_0 Z<|loI ty.kd3 Z<|lbB Z<|lsB 9 false rfl (by simp)<|nG<|aN Z<|aK<|gT<|aS<|sL<|lf 1 ty.F34_1 Z<|loI ty.kd3 Z<|lf 1 ty.F34_1 Z<|loI ty.kd3 Z<|lbB Z<|lsB 14 false rfl (by simp) ?_
 refine nG<|aN Z<|aK<|gT<|aS<|sL<|lf 2 ty.F34_2 Z<|loI ty.kd3 Z<|lf 2 ty.F34_2 Z<|loI ty.kd3 Z<|lbB Z<|lsB 19 false rfl (by simp)<|nG<|aN Z<|aK<|gT<|aS<|sL<|lf 3 ty.F34_3 Z<|loL ty.kd30 Z<|lf 3 ty.F34_3 Z<|loL ty.kd30 Z<|lst (zL Tryz.func61 (eqChanS_e _ (by omega)) rfl) Z<|lT [2,3,4,24] [.ptr 2002 _ 0,.ptr 2003 _ 0,vB false,vB true] [2002,2003] [.box _ _ [vI _ _,vI _ _,vI _ _,vL _ _ _,vL _ _ _,vL _ _ _],.box _ _ [vI _ _,vI _ _,vI _ _,vL _ _ _,vL _ _ _,vL _ _ _]] rfl Z<|luZ Z<|lsB 25 false rfl (by simp) ?_
 refine nG<|aN Z<|aK<|gT<|aS<|sL<|lf 4 ty.F34_4 Z<|loL ty.kd31 Z<|lf 4 ty.F34_4 Z<|loL ty.kd31 Z<|lst (zL Tryz.func62 (eqHtlcS_e _ (by omega)) rfl) Z<|luZ Z<|lsB 31 false rfl (by simp)<|nG<|aN Z<|aK<|gT<|aS<|sL<|lf 5 ty.F34_5 Z<|loL ty.kd32 Z<|lf 5 ty.F34_5 Z<|loL ty.kd32 Z<|lst (zL Tryz.func63 (eqCircleS_e _ (by omega)) rfl) Z<|luZ Z<|lsB 37 false rfl (by simp) ?_
 refine nG<|aN Z<|aK<|gA<|laT Z<|nG<|aR ?_
 refine end_ret ?_ trivial
 rfl
theorem eqPosting_e (p : Posting) (hl : p.lines.length ≤ 1048576) : GC Tryz.prog 11 [postV p,postV p] [] (boo true) [] := by
 refine GC.intro (rs := [.tmp 4]) Tryz.func11 rfl Tryz.ntmps11 (Nat.le_of_ble_eq_true rfl) ⟨rfl,trivial⟩ ?_
 intro L O w0
 refine sL<|lst (zX 2002 rfl) Z<|lst (zX 2003 rfl) Z<|laZ Z<|nG<|aS<|sL<|lf 0 ty.F37_0 Z<|loI ty.kd3 Z<|lf 0 ty.F37_0 Z<|loI ty.kd3 Z<|lbB Z<|lsB 9 false rfl (by simp)<|nG<|aN Z<|aK<|gT<|aS<|sL<|lf 1 ty.F37_1 Z<|loL ty.kd35 Z<|lf 1 ty.F37_1 Z<|loL ty.kd35 Z<|lst (zL Tryz.func64 (eqLineS_e _ (by omega)) rfl) Z<|luZ rfl ?_
 refine lsB 15 false rfl (by simp)<|nG<|aN Z<|aK<|gA<|laT Z<|nG<|aR ?_
 refine end_ret ?_ trivial
 rfl
theorem markBook_e (u1 u2 u3 : Value) (x : Book) (k : Int) (hc : x.chans.length ≤ 1048576) (hh : x.htlcs.length ≤ 1048576) (hi : x.circles.length ≤ 1048576) (hk : 0 ≤ k ∧ k ≤ 100000000000) : GC Tryz.prog 12 [ownBk x,int k] (obBk u1 u2 u3 x) (int (k + 7 * (x.chans.length : Int) + 7 * (x.htlcs.length : Int) + 5 * (x.circles.length : Int))) (obBk u1 u2 u3 (mkdBook x k)) := by
 refine GC.intro (rs := [.tmp 4]) Tryz.func12 rfl Tryz.ntmps12 (Nat.le_of_ble_eq_true rfl) ⟨rfl,trivial⟩ ?_
 intro L O w0
 refine sL<|lst (zX 2002 Z) Z<|laI Z<|nA<|lf 3 ty.F34_3 Z<|loO ty.kd30 Z<|lmI Z ?_
 refine lst (zC [(0,1)] [] [0] Tryz.func65 (markChanS_e _ _ _ (by omega) (by omega)) (⟨stays.arr (by simp [rowsOf,mkLs_len]),trivial⟩) rfl rfl) Z<|laI Z<|nA<|lf 4 ty.F34_4 Z<|loO ty.kd31 Z<|lmI rfl ?_
 refine lst (zC [(0,2)] [] [0] Tryz.func66 (markHtlcS_e _ _ _ (by omega) (by omega)) (⟨stays.arr (by simp [rowsOf,mkLs_len]),trivial⟩) rfl rfl) Z<|laI Z<|nA<|lf 5 ty.F34_5 Z<|loO ty.kd32 Z<|lmI rfl ?_
 refine lst (zC [(0,3)] [] [0] Tryz.func67 (markCircleS_e _ _ _ (by omega) (by omega)) (⟨stays.arr (by simp [rowsOf,mkLs_len]),trivial⟩) rfl rfl) Z<|lT [1,4,16] [vI _ _,vI _ _,vI _ _] [1,2,3,2002] [.arr _ _ _,.arr _ _ _,.arr _ _ _,.box _ _ [vI _ _,vI _ _,vI _ _,.own _,.own _,.own _]] rfl Z<|laI Z<|nA<|lmI Z<|laI Z<|nG<|aR ?_
 refine end_ret ?_ ⟨rfl,rfl,rfl,trivial⟩
 rfl
theorem markPosting_e (u : Value) (p : Posting) (k : Int) (hl : p.lines.length ≤ 1048576) (hk : 0 ≤ k ∧ k ≤ 100000000000) : GC Tryz.prog 13 [ownPo p,int k] (obPo u p) (int (k + 3 * (p.lines.length : Int))) (obPo u (mkdPost p k)) := by
 refine GC.intro (rs := [.tmp 4]) Tryz.func13 rfl Tryz.ntmps13 (Nat.le_of_ble_eq_true rfl) ⟨rfl,trivial⟩ ?_
 intro L O w0
 refine sL<|lst (zX 2002 Z) Z<|laI Z<|nA<|lf 1 ty.F37_1 Z<|loO ty.kd35 Z<|lmI Z ?_
 refine lst (zC [(0,1)] [] [0] Tryz.func68 (markLineS_e _ _ _ (by omega) (by omega)) (⟨stays.arr (by simp [rowsOf,mkLs_len]),trivial⟩) rfl rfl) Z<|laI Z<|nA<|lmI Z<|laI Z<|nG<|aR ?_
 refine end_ret ?_ ⟨rfl,trivial⟩
 rfl
theorem heldBook_e (x : Book) (k : Int) (hc : x.chans.length ≤ 1048576) (hh : x.htlcs.length ≤ 1048576) (hi : x.circles.length ≤ 1048576) (hk : 0 ≤ k ∧ k ≤ 100000000000) : GC Tryz.prog 14 [bookV (mkdBook x k),int k] [] (int (k + 7 * (x.chans.length : Int) + 7 * (x.htlcs.length : Int) + 5 * (x.circles.length : Int))) [] := by
 refine GC.intro (rs := [.tmp 4]) Tryz.func14 rfl Tryz.ntmps14 (Nat.le_of_ble_eq_true rfl) ⟨rfl,trivial⟩ ?_
 intro L O w0
 refine sL<|lst (zX 2002 rfl) Z<|laI Z<|nA<|lf 3 ty.F34_3 Z<|loL ty.kd30 Z<|lmI Z<|lst (zL Tryz.func69 (heldChanS_e _ _ (by omega) (by omega)) rfl) Z<|laI Z<|nG<|aS<|sL<|lmI Z<|lbB Z<|lsB 10 false rfl (by simp;omega)<|nG<|aN Z<|aK<|gA<|lf 4 ty.F34_4 Z<|loL ty.kd31 rfl ?_
 refine lmI Z<|lst (zL Tryz.func70 (heldHtlcS_e _ _ (by omega) (by omega)) rfl) Z<|laI Z<|nG<|aS<|sL<|lmI Z<|lbB Z<|lsB 16 false rfl (by simp;omega)<|nG<|aN Z<|aK<|gA<|lf 5 ty.F34_5 Z<|loL ty.kd32 Z<|lmI Z<|lst (zL Tryz.func71 (heldCircleS_e _ _ (by omega) (by omega)) rfl) Z<|lT [1,4,20] [vI _ _,vI _ _,vI _ _] [2002] [.box _ _ [vI _ _,vI _ _,vI _ _,vL _ _ _,vL _ _ _,vL _ _ _]] rfl Z<|laI Z<|nG<|aS<|sL<|lmI rfl ?_
 refine lbB Z<|lsB 22 false rfl (by simp;omega)<|nG<|aN Z<|aK<|gA<|lmI Z<|laI Z<|nG<|aR ?_
 refine end_ret ?_ trivial
 rfl
theorem heldPosting_e (p : Posting) (k : Int) (hl : p.lines.length ≤ 1048576) (hk : 0 ≤ k ∧ k ≤ 100000000000) : GC Tryz.prog 15 [postV (mkdPost p k),int k] [] (int (k + 3 * (p.lines.length : Int))) [] := by
 refine GC.intro (rs := [.tmp 4]) Tryz.func15 rfl Tryz.ntmps15 (Nat.le_of_ble_eq_true rfl) ⟨rfl,trivial⟩ ?_
 intro L O w0
 refine sL<|lst (zX 2002 rfl) Z<|laI Z<|nA<|lf 1 ty.F37_1 Z<|loL ty.kd35 Z<|lmI Z<|lst (zL Tryz.func72 (heldLineS_e _ _ (by omega) (by omega)) rfl) Z<|laI Z<|nG<|aS<|sL<|lmI Z<|lbB Z<|lsB 10 false rfl (by simp;omega)<|nG<|aN Z<|aK<|gA<|lmI Z<|laI rfl ?_
 refine nG<|aR ?_
 refine end_ret ?_ trivial
 rfl
end Go.Proofs.YtohobndkbmpfcaaGreat

/- The law FnExactApply, over data. -/
namespace Go.Proofs.YtohobndkbmpfcaaGreat
open Go.RowKit
set_option maxHeartbeats 16000000
set_option maxRecDepth 100000
set_option linter.unusedSimpArgs false
set_option linter.unusedVariables false
theorem FnExactApply_e (x : Book) (e : Event) (wc : ∀ c ∈ x.chans,wfChan c) (wh : ∀ c ∈ x.htlcs,wfHtlc c) (wi : ∀ c ∈ x.circles,wfCircle c) (we : wfEvent e) : GC Tryz.prog 3 [lbookV x,evV e] [] (boo true) [] := by
 refine GC.intro (rs := [.tmp 4]) Tryz.func3 rfl Tryz.ntmps3 (Nat.le_of_ble_eq_true rfl) ⟨rfl,trivial⟩ ?_
 intro L O w0
 refine sL<|lst (zX 2002 rfl) Z<|lst (zX 2003 rfl) Z<|laZ Z<|nA<|laI Z<|nA<|loX (.agg [vI _ _,vI _ _,vI _ _,vL _ _ _,vL _ _ _,vL _ _ _]) ty.kd26 Z<|lmI Z<|lst (zL Tryz.func5 (szBook_e x 1048576 wc wh wi (by omega) (by omega)) rfl) Z<|laI Z<|nG<|aS<|sL<|lmI Z<|lbB Z<|nG ?_
 refine AW.cond rfl ?_ ?_
 ·intro h1
  refine sL<|laT Z<|nG<|aR<|rT ?_
  refine end_ret ?_ trivial
  rfl
 ·intro h1
  refine aK<|gT ?_
  have hsz : 0 ≤ szBook x 1048576 := by have h := h1;simp only [decide_eq_false_iff_not] at h;omega
  obtain ⟨hs0,hc,hh,hi⟩ := szBook_le x 1048576 hsz (by omega)
  have hwb : BookWf x := ⟨wc,wh,wi,hc⟩
  obtain ⟨al1,al2,al3,al4⟩ := appB_len (e := e) hwb we
  refine AW.seqE [(2,.ptr 2002 _ 0),(3,.ptr 2003 _ 0),(4,.p (.v (.bool false)))] [(2002,.box _ _ [.p (.v (.int _ _)),.p (.v (.int _ _)),.p (.v (.int _ _)),.p (.lst _ _ _),.p (.lst _ _ _),.p (.lst _ _ _)]),(2003,.box _ _ [.p (.v (.int _ _)),.p (.v (.int _ _)),.p (.v (.int _ _)),.p (.v (.int _ _)),.p (.v (.int _ _)),.p (.v (.int _ _)),.p (.v (.bool _))])] (D := Unit) (fun jd => [(6,.ptr 2006 0 0),(7,.ptr 2007 0 0),(8,int (applyC x e))]) (fun jd => [(2006,.box 34 none [int (appB x e).tick,int (appB x e).next,int (appB x e).wallet,.own 2040,.own 2041,.own 2042]),(2007,.box 37 none [int (appP x e).id,.own 2043]),(2040,.arr 78 7 (rowsOf encChan (appB x e).chans)),(2041,hAr (appB x e).htlcs),(2042,iAr (appB x e).circles),(2043,lAr (appP x e).lines)]) (fun jd => True) ⟨rfl,rfl,rfl,trivial⟩ ⟨rfl,rfl,trivial⟩ ?_ ?_
  ·refine aF [4,11,12]<|sq 0 (roX (.agg [vI _ _,vI _ _,vI _ _,vL _ _ _,vL _ _ _,vL _ _ _]) ty.kd26 Z)<|sq 2 (roX (.agg [vI _ _,vI _ _,vI _ _,vI _ _,vI _ _,vI _ _,vB _]) ty.kd28 Z) ?_
   refine AF.three (i := 1) (j := 9) (k := 10) (by kernel_rfl) ?_ ?_ ?_
   ·refine v1 1 rfl (zC [(1,2027),(2,2028),(3,2029)] [2027,2028,2029] [] Tryz.func7 (toBook_e x hc hh hi) (trivial) rfl rfl) (.inr rfl) ?_
    refine AF.pinA 2027 rfl ?_
    intro ua0
    refine AF.pinA 2028 rfl ?_
    intro ua1
    refine AF.pinA 2029 rfl ?_
    intro ua2
    refine AF.three (i := 3) (j := 9) (k := 10) (by kernel_rfl) ?_ ?_ ?_
    ·refine v1 3 rfl (zL Tryz.func8 (toEvent_e _) rfl) (.inr rfl) ?_
     refine AF.three (i := 4) (j := 9) (k := 10) (by kernel_rfl) ?_ ?_ ?_
     ·refine v1 4 rfl (zC [(1,2027),(2,2028),(3,2029),(11,2040),(12,2041),(13,2042),(14,2043)] [2040,2041,2042,2043] [1,2,3] Tryz.func6 (lentBk (sapply_g x e hwb)) (⟨stays.arr rfl,stays.arr rfl,stays.arr rfl,trivial⟩) rfl rfl) (.inl rfl)<|pq 5 (qmX (.tup [.agg [vI _ _,vI _ _,vI _ _,.own _,.own _,.own _],.agg [vI _ _,.own _],vI _ _]) rfl)<|pq 6 (qxX (.agg [vI _ _,vI _ _,vI _ _,.own _,.own _,.own _]) rfl)<|pq 7 (qxX (.agg [vI _ _,.own _]) rfl)<|pq 8 (qxI rfl) ?_
      refine AF.two (i := 9) (j := 10) (by kernel_rfl) ?_ ?_
      ·refine v1 9 Z (zA 2006 ty.ze34 Z) (.inr Z)<|vst 10 Z (zA 2007 ty.ze37 Z) (.inr Z)<|vst 11 Z (zB 2006 ty.co34 ty.inf34 Z) (.inl Z)<|vst 12 Z (zB 2007 ty.co37 ty.inf37 Z) (.inl Z)<|vq 13 (raI Z)<|fD<|gT ?_
       refine ⟨(),trivial,⟨rfl,rfl,rfl,trivial⟩,⟨rfl,rfl,rfl,rfl,rfl,rfl,trivial⟩,⟨rfl,rfl,rfl,trivial⟩,⟨rfl,rfl,trivial⟩⟩
      ·refine v1 10 Z (zA 2007 ty.ze37 Z) (.inr Z)<|vst 9 Z (zA 2006 ty.ze34 Z) (.inr Z)<|vst 11 Z (zB 2006 ty.co34 ty.inf34 Z) (.inl Z)<|vst 12 Z (zB 2007 ty.co37 ty.inf37 Z) (.inl Z)<|vq 13 (raI Z)<|fD<|gT ?_
       refine ⟨(),trivial,⟨rfl,rfl,rfl,trivial⟩,⟨rfl,rfl,rfl,rfl,rfl,rfl,trivial⟩,⟨rfl,rfl,rfl,trivial⟩,⟨rfl,rfl,trivial⟩⟩
     ·refine v1 9 rfl (zA 2006 ty.ze34 rfl) (.inr rfl) ?_
      refine AF.two (i := 4) (j := 10) (by kernel_rfl) ?_ ?_
      ·refine v1 4 rfl (zC [(1,2027),(2,2028),(3,2029),(11,2040),(12,2041),(13,2042),(14,2043)] [2040,2041,2042,2043] [1,2,3] Tryz.func6 (lentBk (sapply_g x e hwb)) (⟨stays.arr rfl,stays.arr rfl,stays.arr rfl,trivial⟩) rfl rfl) (.inl rfl)<|pq 5 (qmX (.tup [.agg [vI _ _,vI _ _,vI _ _,.own _,.own _,.own _],.agg [vI _ _,.own _],vI _ _]) rfl)<|pq 6 (qxX (.agg [vI _ _,vI _ _,vI _ _,.own _,.own _,.own _]) rfl)<|pq 7 (qxX (.agg [vI _ _,.own _]) rfl)<|pq 8 (qxI rfl)<|vst 10 rfl (zA 2007 ty.ze37 rfl) (.inr rfl)<|vst 11 rfl (zB 2006 ty.co34 ty.inf34 rfl) (.inl rfl)<|vst 12 rfl (zB 2007 ty.co37 ty.inf37 rfl) (.inl rfl)<|vq 13 (raI rfl)<|fD<|gT ?_
       refine ⟨(),trivial,⟨rfl,rfl,rfl,trivial⟩,⟨rfl,rfl,rfl,rfl,rfl,rfl,trivial⟩,⟨rfl,rfl,rfl,trivial⟩,⟨rfl,rfl,trivial⟩⟩
      ·refine v1 10 rfl (zA 2007 ty.ze37 rfl) (.inr rfl) ?_
       refine vst 4 rfl (zC [(1,2027),(2,2028),(3,2029),(11,2040),(12,2041),(13,2042),(14,2043)] [2040,2041,2042,2043] [1,2,3] Tryz.func6 (lentBk (sapply_g x e hwb)) (⟨stays.arr rfl,stays.arr rfl,stays.arr rfl,trivial⟩) rfl rfl) (.inl rfl)<|vq 5 (rmX (.tup [.agg [vI _ _,vI _ _,vI _ _,.own _,.own _,.own _],.agg [vI _ _,.own _],vI _ _]) rfl)<|pq 6 (qxX (.agg [vI _ _,vI _ _,vI _ _,.own _,.own _,.own _]) rfl)<|pq 7 (qxX (.agg [vI _ _,.own _]) rfl)<|pq 8 (qxI rfl)<|vst 11 rfl (zB 2006 ty.co34 ty.inf34 rfl) (.inl rfl)<|vst 12 rfl (zB 2007 ty.co37 ty.inf37 rfl) (.inl rfl)<|vq 13 (raI rfl)<|fD<|gT ?_
       refine ⟨(),trivial,⟨rfl,rfl,rfl,trivial⟩,⟨rfl,rfl,rfl,rfl,rfl,rfl,trivial⟩,⟨rfl,rfl,rfl,trivial⟩,⟨rfl,rfl,trivial⟩⟩
     ·refine v1 10 rfl (zA 2007 ty.ze37 rfl) (.inr rfl) ?_
      refine AF.two (i := 4) (j := 9) (by kernel_rfl) ?_ ?_
      ·refine v1 4 rfl (zC [(1,2027),(2,2028),(3,2029),(11,2040),(12,2041),(13,2042),(14,2043)] [2040,2041,2042,2043] [1,2,3] Tryz.func6 (lentBk (sapply_g x e hwb)) (⟨stays.arr rfl,stays.arr rfl,stays.arr rfl,trivial⟩) rfl rfl) (.inl rfl)<|pq 5 (qmX (.tup [.agg [vI _ _,vI _ _,vI _ _,.own _,.own _,.own _],.agg [vI _ _,.own _],vI _ _]) rfl)<|pq 6 (qxX (.agg [vI _ _,vI _ _,vI _ _,.own _,.own _,.own _]) rfl)<|pq 7 (qxX (.agg [vI _ _,.own _]) rfl)<|pq 8 (qxI rfl)<|vst 9 rfl (zA 2006 ty.ze34 rfl) (.inr rfl)<|vst 11 rfl (zB 2006 ty.co34 ty.inf34 rfl) (.inl rfl)<|vst 12 rfl (zB 2007 ty.co37 ty.inf37 rfl) (.inl rfl)<|vq 13 (raI rfl)<|fD<|gT ?_
       refine ⟨(),trivial,⟨rfl,rfl,rfl,trivial⟩,⟨rfl,rfl,rfl,rfl,rfl,rfl,trivial⟩,⟨rfl,rfl,rfl,trivial⟩,⟨rfl,rfl,trivial⟩⟩
      ·refine v1 9 rfl (zA 2006 ty.ze34 rfl) (.inr rfl) ?_
       refine vst 4 rfl (zC [(1,2027),(2,2028),(3,2029),(11,2040),(12,2041),(13,2042),(14,2043)] [2040,2041,2042,2043] [1,2,3] Tryz.func6 (lentBk (sapply_g x e hwb)) (⟨stays.arr rfl,stays.arr rfl,stays.arr rfl,trivial⟩) rfl rfl) (.inl rfl)<|vq 5 (rmX (.tup [.agg [vI _ _,vI _ _,vI _ _,.own _,.own _,.own _],.agg [vI _ _,.own _],vI _ _]) rfl)<|pq 6 (qxX (.agg [vI _ _,vI _ _,vI _ _,.own _,.own _,.own _]) rfl)<|pq 7 (qxX (.agg [vI _ _,.own _]) rfl)<|pq 8 (qxI rfl)<|vst 11 rfl (zB 2006 ty.co34 ty.inf34 rfl) (.inl rfl)<|vst 12 rfl (zB 2007 ty.co37 ty.inf37 rfl) (.inl rfl)<|vq 13 (raI rfl)<|fD<|gT ?_
       refine ⟨(),trivial,⟨rfl,rfl,rfl,trivial⟩,⟨rfl,rfl,rfl,rfl,rfl,rfl,trivial⟩,⟨rfl,rfl,rfl,trivial⟩,⟨rfl,rfl,trivial⟩⟩
    ·refine v1 9 rfl (zA 2006 ty.ze34 rfl) (.inr rfl) ?_
     refine AF.two (i := 3) (j := 10) (by kernel_rfl) ?_ ?_
     ·refine v1 3 rfl (zL Tryz.func8 (toEvent_e _) rfl) (.inr rfl) ?_
      refine AF.two (i := 4) (j := 10) (by kernel_rfl) ?_ ?_
      ·refine v1 4 rfl (zC [(1,2027),(2,2028),(3,2029),(11,2040),(12,2041),(13,2042),(14,2043)] [2040,2041,2042,2043] [1,2,3] Tryz.func6 (lentBk (sapply_g x e hwb)) (⟨stays.arr rfl,stays.arr rfl,stays.arr rfl,trivial⟩) rfl rfl) (.inl rfl)<|pq 5 (qmX (.tup [.agg [vI _ _,vI _ _,vI _ _,.own _,.own _,.own _],.agg [vI _ _,.own _],vI _ _]) rfl)<|pq 6 (qxX (.agg [vI _ _,vI _ _,vI _ _,.own _,.own _,.own _]) rfl)<|pq 7 (qxX (.agg [vI _ _,.own _]) rfl)<|pq 8 (qxI rfl)<|vst 10 rfl (zA 2007 ty.ze37 rfl) (.inr rfl)<|vst 11 rfl (zB 2006 ty.co34 ty.inf34 rfl) (.inl rfl)<|vst 12 rfl (zB 2007 ty.co37 ty.inf37 rfl) (.inl rfl)<|vq 13 (raI rfl)<|fD<|gT ?_
       refine ⟨(),trivial,⟨rfl,rfl,rfl,trivial⟩,⟨rfl,rfl,rfl,rfl,rfl,rfl,trivial⟩,⟨rfl,rfl,rfl,trivial⟩,⟨rfl,rfl,trivial⟩⟩
      ·refine v1 10 rfl (zA 2007 ty.ze37 rfl) (.inr rfl) ?_
       refine vst 4 rfl (zC [(1,2027),(2,2028),(3,2029),(11,2040),(12,2041),(13,2042),(14,2043)] [2040,2041,2042,2043] [1,2,3] Tryz.func6 (lentBk (sapply_g x e hwb)) (⟨stays.arr rfl,stays.arr rfl,stays.arr rfl,trivial⟩) rfl rfl) (.inl rfl)<|vq 5 (rmX (.tup [.agg [vI _ _,vI _ _,vI _ _,.own _,.own _,.own _],.agg [vI _ _,.own _],vI _ _]) rfl)<|pq 6 (qxX (.agg [vI _ _,vI _ _,vI _ _,.own _,.own _,.own _]) rfl)<|pq 7 (qxX (.agg [vI _ _,.own _]) rfl)<|pq 8 (qxI rfl)<|vst 11 rfl (zB 2006 ty.co34 ty.inf34 rfl) (.inl rfl)<|vst 12 rfl (zB 2007 ty.co37 ty.inf37 rfl) (.inl rfl)<|vq 13 (raI rfl)<|fD<|gT ?_
       refine ⟨(),trivial,⟨rfl,rfl,rfl,trivial⟩,⟨rfl,rfl,rfl,rfl,rfl,rfl,trivial⟩,⟨rfl,rfl,rfl,trivial⟩,⟨rfl,rfl,trivial⟩⟩
     ·refine v1 10 Z (zA 2007 ty.ze37 Z) (.inr Z)<|vst 3 Z (zL Tryz.func8 (toEvent_e _) Z) (.inr Z) ?_
      refine vst 4 rfl (zC [(1,2027),(2,2028),(3,2029),(11,2040),(12,2041),(13,2042),(14,2043)] [2040,2041,2042,2043] [1,2,3] Tryz.func6 (lentBk (sapply_g x e hwb)) (⟨stays.arr rfl,stays.arr rfl,stays.arr rfl,trivial⟩) rfl rfl) (.inl rfl)<|vq 5 (rmX (.tup [.agg [vI _ _,vI _ _,vI _ _,.own _,.own _,.own _],.agg [vI _ _,.own _],vI _ _]) rfl)<|pq 6 (qxX (.agg [vI _ _,vI _ _,vI _ _,.own _,.own _,.own _]) rfl)<|pq 7 (qxX (.agg [vI _ _,.own _]) rfl)<|pq 8 (qxI rfl)<|vst 11 rfl (zB 2006 ty.co34 ty.inf34 rfl) (.inl rfl)<|vst 12 rfl (zB 2007 ty.co37 ty.inf37 rfl) (.inl rfl)<|vq 13 (raI rfl)<|fD<|gT ?_
      refine ⟨(),trivial,⟨rfl,rfl,rfl,trivial⟩,⟨rfl,rfl,rfl,rfl,rfl,rfl,trivial⟩,⟨rfl,rfl,rfl,trivial⟩,⟨rfl,rfl,trivial⟩⟩
    ·refine v1 10 rfl (zA 2007 ty.ze37 rfl) (.inr rfl) ?_
     refine AF.two (i := 3) (j := 9) (by kernel_rfl) ?_ ?_
     ·refine v1 3 rfl (zL Tryz.func8 (toEvent_e _) rfl) (.inr rfl) ?_
      refine AF.two (i := 4) (j := 9) (by kernel_rfl) ?_ ?_
      ·refine v1 4 rfl (zC [(1,2027),(2,2028),(3,2029),(11,2040),(12,2041),(13,2042),(14,2043)] [2040,2041,2042,2043] [1,2,3] Tryz.func6 (lentBk (sapply_g x e hwb)) (⟨stays.arr rfl,stays.arr rfl,stays.arr rfl,trivial⟩) rfl rfl) (.inl rfl)<|pq 5 (qmX (.tup [.agg [vI _ _,vI _ _,vI _ _,.own _,.own _,.own _],.agg [vI _ _,.own _],vI _ _]) rfl)<|pq 6 (qxX (.agg [vI _ _,vI _ _,vI _ _,.own _,.own _,.own _]) rfl)<|pq 7 (qxX (.agg [vI _ _,.own _]) rfl)<|pq 8 (qxI rfl)<|vst 9 rfl (zA 2006 ty.ze34 rfl) (.inr rfl)<|vst 11 rfl (zB 2006 ty.co34 ty.inf34 rfl) (.inl rfl)<|vst 12 rfl (zB 2007 ty.co37 ty.inf37 rfl) (.inl rfl)<|vq 13 (raI rfl)<|fD<|gT ?_
       refine ⟨(),trivial,⟨rfl,rfl,rfl,trivial⟩,⟨rfl,rfl,rfl,rfl,rfl,rfl,trivial⟩,⟨rfl,rfl,rfl,trivial⟩,⟨rfl,rfl,trivial⟩⟩
      ·refine v1 9 rfl (zA 2006 ty.ze34 rfl) (.inr rfl) ?_
       refine vst 4 rfl (zC [(1,2027),(2,2028),(3,2029),(11,2040),(12,2041),(13,2042),(14,2043)] [2040,2041,2042,2043] [1,2,3] Tryz.func6 (lentBk (sapply_g x e hwb)) (⟨stays.arr rfl,stays.arr rfl,stays.arr rfl,trivial⟩) rfl rfl) (.inl rfl)<|vq 5 (rmX (.tup [.agg [vI _ _,vI _ _,vI _ _,.own _,.own _,.own _],.agg [vI _ _,.own _],vI _ _]) rfl)<|pq 6 (qxX (.agg [vI _ _,vI _ _,vI _ _,.own _,.own _,.own _]) rfl)<|pq 7 (qxX (.agg [vI _ _,.own _]) rfl)<|pq 8 (qxI rfl)<|vst 11 rfl (zB 2006 ty.co34 ty.inf34 rfl) (.inl rfl)<|vst 12 rfl (zB 2007 ty.co37 ty.inf37 rfl) (.inl rfl)<|vq 13 (raI rfl)<|fD<|gT ?_
       refine ⟨(),trivial,⟨rfl,rfl,rfl,trivial⟩,⟨rfl,rfl,rfl,rfl,rfl,rfl,trivial⟩,⟨rfl,rfl,rfl,trivial⟩,⟨rfl,rfl,trivial⟩⟩
     ·refine v1 9 Z (zA 2006 ty.ze34 Z) (.inr Z)<|vst 3 Z (zL Tryz.func8 (toEvent_e _) Z) (.inr Z) ?_
      refine vst 4 rfl (zC [(1,2027),(2,2028),(3,2029),(11,2040),(12,2041),(13,2042),(14,2043)] [2040,2041,2042,2043] [1,2,3] Tryz.func6 (lentBk (sapply_g x e hwb)) (⟨stays.arr rfl,stays.arr rfl,stays.arr rfl,trivial⟩) rfl rfl) (.inl rfl)<|vq 5 (rmX (.tup [.agg [vI _ _,vI _ _,vI _ _,.own _,.own _,.own _],.agg [vI _ _,.own _],vI _ _]) rfl)<|pq 6 (qxX (.agg [vI _ _,vI _ _,vI _ _,.own _,.own _,.own _]) rfl)<|pq 7 (qxX (.agg [vI _ _,.own _]) rfl)<|pq 8 (qxI rfl)<|vst 11 rfl (zB 2006 ty.co34 ty.inf34 rfl) (.inl rfl)<|vst 12 rfl (zB 2007 ty.co37 ty.inf37 rfl) (.inl rfl)<|vq 13 (raI rfl)<|fD<|gT ?_
      refine ⟨(),trivial,⟨rfl,rfl,rfl,trivial⟩,⟨rfl,rfl,rfl,rfl,rfl,rfl,trivial⟩,⟨rfl,rfl,rfl,trivial⟩,⟨rfl,rfl,trivial⟩⟩
   ·refine v1 9 rfl (zA 2006 ty.ze34 rfl) (.inr rfl) ?_
    refine AF.two (i := 1) (j := 10) (by kernel_rfl) ?_ ?_
    ·refine v1 1 rfl (zC [(1,2027),(2,2028),(3,2029)] [2027,2028,2029] [] Tryz.func7 (toBook_e x hc hh hi) (trivial) rfl rfl) (.inr rfl) ?_
     refine AF.pinA 2027 rfl ?_
     intro ua0
     refine AF.pinA 2028 rfl ?_
     intro ua1
     refine AF.pinA 2029 rfl ?_
     intro ua2
     refine AF.two (i := 3) (j := 10) (by kernel_rfl) ?_ ?_
     ·refine v1 3 rfl (zL Tryz.func8 (toEvent_e _) rfl) (.inr rfl) ?_
      refine AF.two (i := 4) (j := 10) (by kernel_rfl) ?_ ?_
      ·refine v1 4 rfl (zC [(1,2027),(2,2028),(3,2029),(11,2040),(12,2041),(13,2042),(14,2043)] [2040,2041,2042,2043] [1,2,3] Tryz.func6 (lentBk (sapply_g x e hwb)) (⟨stays.arr rfl,stays.arr rfl,stays.arr rfl,trivial⟩) rfl rfl) (.inl rfl)<|pq 5 (qmX (.tup [.agg [vI _ _,vI _ _,vI _ _,.own _,.own _,.own _],.agg [vI _ _,.own _],vI _ _]) rfl)<|pq 6 (qxX (.agg [vI _ _,vI _ _,vI _ _,.own _,.own _,.own _]) rfl)<|pq 7 (qxX (.agg [vI _ _,.own _]) rfl)<|pq 8 (qxI rfl)<|vst 10 rfl (zA 2007 ty.ze37 rfl) (.inr rfl)<|vst 11 rfl (zB 2006 ty.co34 ty.inf34 rfl) (.inl rfl)<|vst 12 rfl (zB 2007 ty.co37 ty.inf37 rfl) (.inl rfl)<|vq 13 (raI rfl)<|fD<|gT ?_
       refine ⟨(),trivial,⟨rfl,rfl,rfl,trivial⟩,⟨rfl,rfl,rfl,rfl,rfl,rfl,trivial⟩,⟨rfl,rfl,rfl,trivial⟩,⟨rfl,rfl,trivial⟩⟩
      ·refine v1 10 rfl (zA 2007 ty.ze37 rfl) (.inr rfl) ?_
       refine vst 4 rfl (zC [(1,2027),(2,2028),(3,2029),(11,2040),(12,2041),(13,2042),(14,2043)] [2040,2041,2042,2043] [1,2,3] Tryz.func6 (lentBk (sapply_g x e hwb)) (⟨stays.arr rfl,stays.arr rfl,stays.arr rfl,trivial⟩) rfl rfl) (.inl rfl)<|vq 5 (rmX (.tup [.agg [vI _ _,vI _ _,vI _ _,.own _,.own _,.own _],.agg [vI _ _,.own _],vI _ _]) rfl)<|pq 6 (qxX (.agg [vI _ _,vI _ _,vI _ _,.own _,.own _,.own _]) rfl)<|pq 7 (qxX (.agg [vI _ _,.own _]) rfl)<|pq 8 (qxI rfl)<|vst 11 rfl (zB 2006 ty.co34 ty.inf34 rfl) (.inl rfl)<|vst 12 rfl (zB 2007 ty.co37 ty.inf37 rfl) (.inl rfl)<|vq 13 (raI rfl)<|fD<|gT ?_
       refine ⟨(),trivial,⟨rfl,rfl,rfl,trivial⟩,⟨rfl,rfl,rfl,rfl,rfl,rfl,trivial⟩,⟨rfl,rfl,rfl,trivial⟩,⟨rfl,rfl,trivial⟩⟩
     ·refine v1 10 Z (zA 2007 ty.ze37 Z) (.inr Z)<|vst 3 Z (zL Tryz.func8 (toEvent_e _) Z) (.inr Z) ?_
      refine vst 4 rfl (zC [(1,2027),(2,2028),(3,2029),(11,2040),(12,2041),(13,2042),(14,2043)] [2040,2041,2042,2043] [1,2,3] Tryz.func6 (lentBk (sapply_g x e hwb)) (⟨stays.arr rfl,stays.arr rfl,stays.arr rfl,trivial⟩) rfl rfl) (.inl rfl)<|vq 5 (rmX (.tup [.agg [vI _ _,vI _ _,vI _ _,.own _,.own _,.own _],.agg [vI _ _,.own _],vI _ _]) rfl)<|pq 6 (qxX (.agg [vI _ _,vI _ _,vI _ _,.own _,.own _,.own _]) rfl)<|pq 7 (qxX (.agg [vI _ _,.own _]) rfl)<|pq 8 (qxI rfl)<|vst 11 rfl (zB 2006 ty.co34 ty.inf34 rfl) (.inl rfl)<|vst 12 rfl (zB 2007 ty.co37 ty.inf37 rfl) (.inl rfl)<|vq 13 (raI rfl)<|fD<|gT ?_
      refine ⟨(),trivial,⟨rfl,rfl,rfl,trivial⟩,⟨rfl,rfl,rfl,rfl,rfl,rfl,trivial⟩,⟨rfl,rfl,rfl,trivial⟩,⟨rfl,rfl,trivial⟩⟩
    ·refine v1 10 Z (zA 2007 ty.ze37 Z) (.inr Z)<|vst 1 Z (zC [(1,2027),(2,2028),(3,2029)] [2027,2028,2029] [] Tryz.func7 (toBook_e x hc hh hi) (trivial) Z Z) (.inr Z) ?_
     refine AF.pinA 2027 rfl ?_
     intro ua0
     refine AF.pinA 2028 rfl ?_
     intro ua1
     refine AF.pinA 2029 rfl ?_
     intro ua2
     refine vst 3 rfl (zL Tryz.func8 (toEvent_e _) rfl) (.inr rfl) ?_
     refine vst 4 rfl (zC [(1,2027),(2,2028),(3,2029),(11,2040),(12,2041),(13,2042),(14,2043)] [2040,2041,2042,2043] [1,2,3] Tryz.func6 (lentBk (sapply_g x e hwb)) (⟨stays.arr rfl,stays.arr rfl,stays.arr rfl,trivial⟩) rfl rfl) (.inl rfl)<|vq 5 (rmX (.tup [.agg [vI _ _,vI _ _,vI _ _,.own _,.own _,.own _],.agg [vI _ _,.own _],vI _ _]) rfl)<|pq 6 (qxX (.agg [vI _ _,vI _ _,vI _ _,.own _,.own _,.own _]) rfl)<|pq 7 (qxX (.agg [vI _ _,.own _]) rfl)<|pq 8 (qxI rfl)<|vst 11 rfl (zB 2006 ty.co34 ty.inf34 rfl) (.inl rfl)<|vst 12 rfl (zB 2007 ty.co37 ty.inf37 rfl) (.inl rfl)<|vq 13 (raI rfl)<|fD<|gT ?_
     refine ⟨(),trivial,⟨rfl,rfl,rfl,trivial⟩,⟨rfl,rfl,rfl,rfl,rfl,rfl,trivial⟩,⟨rfl,rfl,rfl,trivial⟩,⟨rfl,rfl,trivial⟩⟩
   ·refine v1 10 rfl (zA 2007 ty.ze37 rfl) (.inr rfl) ?_
    refine AF.two (i := 1) (j := 9) (by kernel_rfl) ?_ ?_
    ·refine v1 1 rfl (zC [(1,2027),(2,2028),(3,2029)] [2027,2028,2029] [] Tryz.func7 (toBook_e x hc hh hi) (trivial) rfl rfl) (.inr rfl) ?_
     refine AF.pinA 2027 rfl ?_
     intro ua0
     refine AF.pinA 2028 rfl ?_
     intro ua1
     refine AF.pinA 2029 rfl ?_
     intro ua2
     refine AF.two (i := 3) (j := 9) (by kernel_rfl) ?_ ?_
     ·refine v1 3 rfl (zL Tryz.func8 (toEvent_e _) rfl) (.inr rfl) ?_
      refine AF.two (i := 4) (j := 9) (by kernel_rfl) ?_ ?_
      ·refine v1 4 rfl (zC [(1,2027),(2,2028),(3,2029),(11,2040),(12,2041),(13,2042),(14,2043)] [2040,2041,2042,2043] [1,2,3] Tryz.func6 (lentBk (sapply_g x e hwb)) (⟨stays.arr rfl,stays.arr rfl,stays.arr rfl,trivial⟩) rfl rfl) (.inl rfl)<|pq 5 (qmX (.tup [.agg [vI _ _,vI _ _,vI _ _,.own _,.own _,.own _],.agg [vI _ _,.own _],vI _ _]) rfl)<|pq 6 (qxX (.agg [vI _ _,vI _ _,vI _ _,.own _,.own _,.own _]) rfl)<|pq 7 (qxX (.agg [vI _ _,.own _]) rfl)<|pq 8 (qxI rfl)<|vst 9 rfl (zA 2006 ty.ze34 rfl) (.inr rfl)<|vst 11 rfl (zB 2006 ty.co34 ty.inf34 rfl) (.inl rfl)<|vst 12 rfl (zB 2007 ty.co37 ty.inf37 rfl) (.inl rfl)<|vq 13 (raI rfl)<|fD<|gT ?_
       refine ⟨(),trivial,⟨rfl,rfl,rfl,trivial⟩,⟨rfl,rfl,rfl,rfl,rfl,rfl,trivial⟩,⟨rfl,rfl,rfl,trivial⟩,⟨rfl,rfl,trivial⟩⟩
      ·refine v1 9 rfl (zA 2006 ty.ze34 rfl) (.inr rfl) ?_
       refine vst 4 rfl (zC [(1,2027),(2,2028),(3,2029),(11,2040),(12,2041),(13,2042),(14,2043)] [2040,2041,2042,2043] [1,2,3] Tryz.func6 (lentBk (sapply_g x e hwb)) (⟨stays.arr rfl,stays.arr rfl,stays.arr rfl,trivial⟩) rfl rfl) (.inl rfl)<|vq 5 (rmX (.tup [.agg [vI _ _,vI _ _,vI _ _,.own _,.own _,.own _],.agg [vI _ _,.own _],vI _ _]) rfl)<|pq 6 (qxX (.agg [vI _ _,vI _ _,vI _ _,.own _,.own _,.own _]) rfl)<|pq 7 (qxX (.agg [vI _ _,.own _]) rfl)<|pq 8 (qxI rfl)<|vst 11 rfl (zB 2006 ty.co34 ty.inf34 rfl) (.inl rfl)<|vst 12 rfl (zB 2007 ty.co37 ty.inf37 rfl) (.inl rfl)<|vq 13 (raI rfl)<|fD<|gT ?_
       refine ⟨(),trivial,⟨rfl,rfl,rfl,trivial⟩,⟨rfl,rfl,rfl,rfl,rfl,rfl,trivial⟩,⟨rfl,rfl,rfl,trivial⟩,⟨rfl,rfl,trivial⟩⟩
     ·refine v1 9 Z (zA 2006 ty.ze34 Z) (.inr Z)<|vst 3 Z (zL Tryz.func8 (toEvent_e _) Z) (.inr Z) ?_
      refine vst 4 rfl (zC [(1,2027),(2,2028),(3,2029),(11,2040),(12,2041),(13,2042),(14,2043)] [2040,2041,2042,2043] [1,2,3] Tryz.func6 (lentBk (sapply_g x e hwb)) (⟨stays.arr rfl,stays.arr rfl,stays.arr rfl,trivial⟩) rfl rfl) (.inl rfl)<|vq 5 (rmX (.tup [.agg [vI _ _,vI _ _,vI _ _,.own _,.own _,.own _],.agg [vI _ _,.own _],vI _ _]) rfl)<|pq 6 (qxX (.agg [vI _ _,vI _ _,vI _ _,.own _,.own _,.own _]) rfl)<|pq 7 (qxX (.agg [vI _ _,.own _]) rfl)<|pq 8 (qxI rfl)<|vst 11 rfl (zB 2006 ty.co34 ty.inf34 rfl) (.inl rfl)<|vst 12 rfl (zB 2007 ty.co37 ty.inf37 rfl) (.inl rfl)<|vq 13 (raI rfl)<|fD<|gT ?_
      refine ⟨(),trivial,⟨rfl,rfl,rfl,trivial⟩,⟨rfl,rfl,rfl,rfl,rfl,rfl,trivial⟩,⟨rfl,rfl,rfl,trivial⟩,⟨rfl,rfl,trivial⟩⟩
    ·refine v1 9 Z (zA 2006 ty.ze34 Z) (.inr Z)<|vst 1 Z (zC [(1,2027),(2,2028),(3,2029)] [2027,2028,2029] [] Tryz.func7 (toBook_e x hc hh hi) (trivial) Z Z) (.inr Z) ?_
     refine AF.pinA 2027 rfl ?_
     intro ua0
     refine AF.pinA 2028 rfl ?_
     intro ua1
     refine AF.pinA 2029 rfl ?_
     intro ua2
     refine vst 3 rfl (zL Tryz.func8 (toEvent_e _) rfl) (.inr rfl) ?_
     refine vst 4 rfl (zC [(1,2027),(2,2028),(3,2029),(11,2040),(12,2041),(13,2042),(14,2043)] [2040,2041,2042,2043] [1,2,3] Tryz.func6 (lentBk (sapply_g x e hwb)) (⟨stays.arr rfl,stays.arr rfl,stays.arr rfl,trivial⟩) rfl rfl) (.inl rfl)<|vq 5 (rmX (.tup [.agg [vI _ _,vI _ _,vI _ _,.own _,.own _,.own _],.agg [vI _ _,.own _],vI _ _]) rfl)<|pq 6 (qxX (.agg [vI _ _,vI _ _,vI _ _,.own _,.own _,.own _]) rfl)<|pq 7 (qxX (.agg [vI _ _,.own _]) rfl)<|pq 8 (qxI rfl)<|vst 11 rfl (zB 2006 ty.co34 ty.inf34 rfl) (.inl rfl)<|vst 12 rfl (zB 2007 ty.co37 ty.inf37 rfl) (.inl rfl)<|vq 13 (raI rfl)<|fD<|gT ?_
     refine ⟨(),trivial,⟨rfl,rfl,rfl,trivial⟩,⟨rfl,rfl,rfl,rfl,rfl,rfl,trivial⟩,⟨rfl,rfl,rfl,trivial⟩,⟨rfl,rfl,trivial⟩⟩
  ·intro jd hJ
   refine sL<|loX (.agg [vI _ _,vI _ _,vI _ _,vL _ _ _,vL _ _ _,vL _ _ _]) ty.kd26 Z<|lst (zC [(1,2035),(2,2036),(3,2037)] [2035,2036,2037] [] Tryz.func7 (toBook_e x hc hh hi) (trivial) Z Z) Z<|lst (zA 2009 ty.ze34 Z) Z<|lst (zB 2009 ty.co34 ty.inf34 Z) Z<|nG ?_
   refine AW.pinA 2035 rfl ?_
   intro ub0
   refine AW.pinA 2036 rfl ?_
   intro ub1
   refine AW.pinA 2037 rfl ?_
   intro ub2
   refine AW.seqE [(2,.ptr 2002 _ 0),(3,.ptr 2003 _ 0),(4,.p (.v (.bool false))),(6,.ptr 2006 _ 0),(7,.ptr 2007 _ 0),(8,.p (.v (.int _ _))),(9,.ptr 2009 _ 0)] [(2002,.box _ _ [.p (.v (.int _ _)),.p (.v (.int _ _)),.p (.v (.int _ _)),.p (.lst _ _ _),.p (.lst _ _ _),.p (.lst _ _ _)]),(2003,.box _ _ [.p (.v (.int _ _)),.p (.v (.int _ _)),.p (.v (.int _ _)),.p (.v (.int _ _)),.p (.v (.int _ _)),.p (.v (.int _ _)),.p (.v (.bool _))]),(2006,.box _ _ [.p (.v (.int _ _)),.p (.v (.int _ _)),.p (.v (.int _ _)),.own _,.own _,.own _]),(2007,.box _ _ [.p (.v (.int _ _)),.own _]),(2009,.box _ _ [.p (.v (.int _ _)),.p (.v (.int _ _)),.p (.v (.int _ _)),.own _,.own _,.own _]),(2035,.arr _ _ _),(2036,.arr _ _ _),(2037,.arr _ _ _),(2040,.arr _ _ _),(2041,.arr _ _ _),(2042,.arr _ _ _),(2043,.arr _ _ _)] (D := Unit) (fun jd => [(10,.ptr 2010 0 0),(11,.ptr 2011 0 0),(12,int (applyC x e))]) (fun jd => [(2010,.box 34 none [int (appB x e).tick,int (appB x e).next,int (appB x e).wallet,.own 2050,.own 2051,.own 2052]),(2011,.box 37 none [int (appP x e).id,.own 2053]),(2050,.arr 78 7 (rowsOf encChan (appB x e).chans)),(2051,hAr (appB x e).htlcs),(2052,iAr (appB x e).circles),(2053,lAr (appP x e).lines)]) (fun jd => True) ⟨rfl,rfl,rfl,rfl,rfl,rfl,rfl,trivial⟩ ⟨rfl,rfl,rfl,rfl,rfl,rfl,rfl,rfl,rfl,rfl,rfl,rfl,trivial⟩ ?_ ?_
   ·refine aF [3,10,11]<|sq 0 (roX (.agg [vI _ _,vI _ _,vI _ _,.own _,.own _,.own _]) ty.kd34 Z)<|sq 1 (roX (.agg [vI _ _,vI _ _,vI _ _,vI _ _,vI _ _,vI _ _,vB _]) ty.kd28 Z) ?_
    refine AF.three (i := 2) (j := 8) (k := 9) (by kernel_rfl) ?_ ?_ ?_
    ·refine v1 2 rfl (zL Tryz.func8 (toEvent_e _) rfl) (.inr rfl) ?_
     refine AF.three (i := 3) (j := 8) (k := 9) (by kernel_rfl) ?_ ?_ ?_
     ·refine v1 3 rfl (zC [(1,2035),(2,2036),(3,2037),(11,2050),(12,2051),(13,2052),(14,2053)] [2050,2051,2052,2053] [1,2,3] Tryz.func9 (lentBk (apply_g x e hwb)) (⟨stays.arr rfl,stays.arr rfl,stays.arr rfl,trivial⟩) rfl rfl) (.inl rfl)<|pq 4 (qmX (.tup [.agg [vI _ _,vI _ _,vI _ _,.own _,.own _,.own _],.agg [vI _ _,.own _],vI _ _]) rfl)<|pq 5 (qxX (.agg [vI _ _,vI _ _,vI _ _,.own _,.own _,.own _]) rfl)<|pq 6 (qxX (.agg [vI _ _,.own _]) rfl)<|pq 7 (qxI rfl) ?_
      refine AF.two (i := 8) (j := 9) (by kernel_rfl) ?_ ?_
      ·refine v1 8 Z (zA 2010 ty.ze34 Z) (.inr Z)<|vst 9 Z (zA 2011 ty.ze37 Z) (.inr Z)<|vst 10 Z (zB 2010 ty.co34 ty.inf34 Z) (.inl Z)<|vst 11 Z (zB 2011 ty.co37 ty.inf37 Z) (.inl Z)<|vq 12 (raI Z)<|fD<|gT ?_
       refine ⟨(),trivial,⟨rfl,rfl,rfl,trivial⟩,⟨rfl,rfl,rfl,rfl,rfl,rfl,trivial⟩,⟨rfl,rfl,rfl,rfl,rfl,rfl,rfl,trivial⟩,⟨rfl,rfl,rfl,rfl,rfl,rfl,rfl,rfl,rfl,rfl,rfl,rfl,trivial⟩⟩
      ·refine v1 9 Z (zA 2011 ty.ze37 Z) (.inr Z)<|vst 8 Z (zA 2010 ty.ze34 Z) (.inr Z)<|vst 10 Z (zB 2010 ty.co34 ty.inf34 Z) (.inl Z)<|vst 11 Z (zB 2011 ty.co37 ty.inf37 Z) (.inl Z)<|vq 12 (raI Z)<|fD<|gT ?_
       refine ⟨(),trivial,⟨rfl,rfl,rfl,trivial⟩,⟨rfl,rfl,rfl,rfl,rfl,rfl,trivial⟩,⟨rfl,rfl,rfl,rfl,rfl,rfl,rfl,trivial⟩,⟨rfl,rfl,rfl,rfl,rfl,rfl,rfl,rfl,rfl,rfl,rfl,rfl,trivial⟩⟩
     ·refine v1 8 rfl (zA 2010 ty.ze34 rfl) (.inr rfl) ?_
      refine AF.two (i := 3) (j := 9) (by kernel_rfl) ?_ ?_
      ·refine v1 3 rfl (zC [(1,2035),(2,2036),(3,2037),(11,2050),(12,2051),(13,2052),(14,2053)] [2050,2051,2052,2053] [1,2,3] Tryz.func9 (lentBk (apply_g x e hwb)) (⟨stays.arr rfl,stays.arr rfl,stays.arr rfl,trivial⟩) rfl rfl) (.inl rfl)<|pq 4 (qmX (.tup [.agg [vI _ _,vI _ _,vI _ _,.own _,.own _,.own _],.agg [vI _ _,.own _],vI _ _]) rfl)<|pq 5 (qxX (.agg [vI _ _,vI _ _,vI _ _,.own _,.own _,.own _]) rfl)<|pq 6 (qxX (.agg [vI _ _,.own _]) rfl)<|pq 7 (qxI rfl)<|vst 9 rfl (zA 2011 ty.ze37 rfl) (.inr rfl)<|vst 10 rfl (zB 2010 ty.co34 ty.inf34 rfl) (.inl rfl)<|vst 11 rfl (zB 2011 ty.co37 ty.inf37 rfl) (.inl rfl)<|vq 12 (raI rfl)<|fD<|gT ?_
       refine ⟨(),trivial,⟨rfl,rfl,rfl,trivial⟩,⟨rfl,rfl,rfl,rfl,rfl,rfl,trivial⟩,⟨rfl,rfl,rfl,rfl,rfl,rfl,rfl,trivial⟩,⟨rfl,rfl,rfl,rfl,rfl,rfl,rfl,rfl,rfl,rfl,rfl,rfl,trivial⟩⟩
      ·refine v1 9 rfl (zA 2011 ty.ze37 rfl) (.inr rfl) ?_
       refine vst 3 rfl (zC [(1,2035),(2,2036),(3,2037),(11,2050),(12,2051),(13,2052),(14,2053)] [2050,2051,2052,2053] [1,2,3] Tryz.func9 (lentBk (apply_g x e hwb)) (⟨stays.arr rfl,stays.arr rfl,stays.arr rfl,trivial⟩) rfl rfl) (.inl rfl)<|vq 4 (rmX (.tup [.agg [vI _ _,vI _ _,vI _ _,.own _,.own _,.own _],.agg [vI _ _,.own _],vI _ _]) rfl)<|pq 5 (qxX (.agg [vI _ _,vI _ _,vI _ _,.own _,.own _,.own _]) rfl)<|pq 6 (qxX (.agg [vI _ _,.own _]) rfl)<|pq 7 (qxI rfl)<|vst 10 rfl (zB 2010 ty.co34 ty.inf34 rfl) (.inl rfl)<|vst 11 rfl (zB 2011 ty.co37 ty.inf37 rfl) (.inl rfl)<|vq 12 (raI rfl)<|fD<|gT ?_
       refine ⟨(),trivial,⟨rfl,rfl,rfl,trivial⟩,⟨rfl,rfl,rfl,rfl,rfl,rfl,trivial⟩,⟨rfl,rfl,rfl,rfl,rfl,rfl,rfl,trivial⟩,⟨rfl,rfl,rfl,rfl,rfl,rfl,rfl,rfl,rfl,rfl,rfl,rfl,trivial⟩⟩
     ·refine v1 9 rfl (zA 2011 ty.ze37 rfl) (.inr rfl) ?_
      refine AF.two (i := 3) (j := 8) (by kernel_rfl) ?_ ?_
      ·refine v1 3 rfl (zC [(1,2035),(2,2036),(3,2037),(11,2050),(12,2051),(13,2052),(14,2053)] [2050,2051,2052,2053] [1,2,3] Tryz.func9 (lentBk (apply_g x e hwb)) (⟨stays.arr rfl,stays.arr rfl,stays.arr rfl,trivial⟩) rfl rfl) (.inl rfl)<|pq 4 (qmX (.tup [.agg [vI _ _,vI _ _,vI _ _,.own _,.own _,.own _],.agg [vI _ _,.own _],vI _ _]) rfl)<|pq 5 (qxX (.agg [vI _ _,vI _ _,vI _ _,.own _,.own _,.own _]) rfl)<|pq 6 (qxX (.agg [vI _ _,.own _]) rfl)<|pq 7 (qxI rfl)<|vst 8 rfl (zA 2010 ty.ze34 rfl) (.inr rfl)<|vst 10 rfl (zB 2010 ty.co34 ty.inf34 rfl) (.inl rfl)<|vst 11 rfl (zB 2011 ty.co37 ty.inf37 rfl) (.inl rfl)<|vq 12 (raI rfl)<|fD<|gT ?_
       refine ⟨(),trivial,⟨rfl,rfl,rfl,trivial⟩,⟨rfl,rfl,rfl,rfl,rfl,rfl,trivial⟩,⟨rfl,rfl,rfl,rfl,rfl,rfl,rfl,trivial⟩,⟨rfl,rfl,rfl,rfl,rfl,rfl,rfl,rfl,rfl,rfl,rfl,rfl,trivial⟩⟩
      ·refine v1 8 rfl (zA 2010 ty.ze34 rfl) (.inr rfl) ?_
       refine vst 3 rfl (zC [(1,2035),(2,2036),(3,2037),(11,2050),(12,2051),(13,2052),(14,2053)] [2050,2051,2052,2053] [1,2,3] Tryz.func9 (lentBk (apply_g x e hwb)) (⟨stays.arr rfl,stays.arr rfl,stays.arr rfl,trivial⟩) rfl rfl) (.inl rfl)<|vq 4 (rmX (.tup [.agg [vI _ _,vI _ _,vI _ _,.own _,.own _,.own _],.agg [vI _ _,.own _],vI _ _]) rfl)<|pq 5 (qxX (.agg [vI _ _,vI _ _,vI _ _,.own _,.own _,.own _]) rfl)<|pq 6 (qxX (.agg [vI _ _,.own _]) rfl)<|pq 7 (qxI rfl)<|vst 10 rfl (zB 2010 ty.co34 ty.inf34 rfl) (.inl rfl)<|vst 11 rfl (zB 2011 ty.co37 ty.inf37 rfl) (.inl rfl)<|vq 12 (raI rfl)<|fD<|gT ?_
       refine ⟨(),trivial,⟨rfl,rfl,rfl,trivial⟩,⟨rfl,rfl,rfl,rfl,rfl,rfl,trivial⟩,⟨rfl,rfl,rfl,rfl,rfl,rfl,rfl,trivial⟩,⟨rfl,rfl,rfl,rfl,rfl,rfl,rfl,rfl,rfl,rfl,rfl,rfl,trivial⟩⟩
    ·refine v1 8 rfl (zA 2010 ty.ze34 rfl) (.inr rfl) ?_
     refine AF.two (i := 2) (j := 9) (by kernel_rfl) ?_ ?_
     ·refine v1 2 rfl (zL Tryz.func8 (toEvent_e _) rfl) (.inr rfl) ?_
      refine AF.two (i := 3) (j := 9) (by kernel_rfl) ?_ ?_
      ·refine v1 3 rfl (zC [(1,2035),(2,2036),(3,2037),(11,2050),(12,2051),(13,2052),(14,2053)] [2050,2051,2052,2053] [1,2,3] Tryz.func9 (lentBk (apply_g x e hwb)) (⟨stays.arr rfl,stays.arr rfl,stays.arr rfl,trivial⟩) rfl rfl) (.inl rfl)<|pq 4 (qmX (.tup [.agg [vI _ _,vI _ _,vI _ _,.own _,.own _,.own _],.agg [vI _ _,.own _],vI _ _]) rfl)<|pq 5 (qxX (.agg [vI _ _,vI _ _,vI _ _,.own _,.own _,.own _]) rfl)<|pq 6 (qxX (.agg [vI _ _,.own _]) rfl)<|pq 7 (qxI rfl)<|vst 9 rfl (zA 2011 ty.ze37 rfl) (.inr rfl)<|vst 10 rfl (zB 2010 ty.co34 ty.inf34 rfl) (.inl rfl)<|vst 11 rfl (zB 2011 ty.co37 ty.inf37 rfl) (.inl rfl)<|vq 12 (raI rfl)<|fD<|gT ?_
       refine ⟨(),trivial,⟨rfl,rfl,rfl,trivial⟩,⟨rfl,rfl,rfl,rfl,rfl,rfl,trivial⟩,⟨rfl,rfl,rfl,rfl,rfl,rfl,rfl,trivial⟩,⟨rfl,rfl,rfl,rfl,rfl,rfl,rfl,rfl,rfl,rfl,rfl,rfl,trivial⟩⟩
      ·refine v1 9 rfl (zA 2011 ty.ze37 rfl) (.inr rfl) ?_
       refine vst 3 rfl (zC [(1,2035),(2,2036),(3,2037),(11,2050),(12,2051),(13,2052),(14,2053)] [2050,2051,2052,2053] [1,2,3] Tryz.func9 (lentBk (apply_g x e hwb)) (⟨stays.arr rfl,stays.arr rfl,stays.arr rfl,trivial⟩) rfl rfl) (.inl rfl)<|vq 4 (rmX (.tup [.agg [vI _ _,vI _ _,vI _ _,.own _,.own _,.own _],.agg [vI _ _,.own _],vI _ _]) rfl)<|pq 5 (qxX (.agg [vI _ _,vI _ _,vI _ _,.own _,.own _,.own _]) rfl)<|pq 6 (qxX (.agg [vI _ _,.own _]) rfl)<|pq 7 (qxI rfl)<|vst 10 rfl (zB 2010 ty.co34 ty.inf34 rfl) (.inl rfl)<|vst 11 rfl (zB 2011 ty.co37 ty.inf37 rfl) (.inl rfl)<|vq 12 (raI rfl)<|fD<|gT ?_
       refine ⟨(),trivial,⟨rfl,rfl,rfl,trivial⟩,⟨rfl,rfl,rfl,rfl,rfl,rfl,trivial⟩,⟨rfl,rfl,rfl,rfl,rfl,rfl,rfl,trivial⟩,⟨rfl,rfl,rfl,rfl,rfl,rfl,rfl,rfl,rfl,rfl,rfl,rfl,trivial⟩⟩
     ·refine v1 9 Z (zA 2011 ty.ze37 Z) (.inr Z)<|vst 2 Z (zL Tryz.func8 (toEvent_e _) Z) (.inr Z) ?_
      refine vst 3 rfl (zC [(1,2035),(2,2036),(3,2037),(11,2050),(12,2051),(13,2052),(14,2053)] [2050,2051,2052,2053] [1,2,3] Tryz.func9 (lentBk (apply_g x e hwb)) (⟨stays.arr rfl,stays.arr rfl,stays.arr rfl,trivial⟩) rfl rfl) (.inl rfl)<|vq 4 (rmX (.tup [.agg [vI _ _,vI _ _,vI _ _,.own _,.own _,.own _],.agg [vI _ _,.own _],vI _ _]) rfl)<|pq 5 (qxX (.agg [vI _ _,vI _ _,vI _ _,.own _,.own _,.own _]) rfl)<|pq 6 (qxX (.agg [vI _ _,.own _]) rfl)<|pq 7 (qxI rfl)<|vst 10 rfl (zB 2010 ty.co34 ty.inf34 rfl) (.inl rfl)<|vst 11 rfl (zB 2011 ty.co37 ty.inf37 rfl) (.inl rfl)<|vq 12 (raI rfl)<|fD<|gT ?_
      refine ⟨(),trivial,⟨rfl,rfl,rfl,trivial⟩,⟨rfl,rfl,rfl,rfl,rfl,rfl,trivial⟩,⟨rfl,rfl,rfl,rfl,rfl,rfl,rfl,trivial⟩,⟨rfl,rfl,rfl,rfl,rfl,rfl,rfl,rfl,rfl,rfl,rfl,rfl,trivial⟩⟩
    ·refine v1 9 rfl (zA 2011 ty.ze37 rfl) (.inr rfl) ?_
     refine AF.two (i := 2) (j := 8) (by kernel_rfl) ?_ ?_
     ·refine v1 2 rfl (zL Tryz.func8 (toEvent_e _) rfl) (.inr rfl) ?_
      refine AF.two (i := 3) (j := 8) (by kernel_rfl) ?_ ?_
      ·refine v1 3 rfl (zC [(1,2035),(2,2036),(3,2037),(11,2050),(12,2051),(13,2052),(14,2053)] [2050,2051,2052,2053] [1,2,3] Tryz.func9 (lentBk (apply_g x e hwb)) (⟨stays.arr rfl,stays.arr rfl,stays.arr rfl,trivial⟩) rfl rfl) (.inl rfl)<|pq 4 (qmX (.tup [.agg [vI _ _,vI _ _,vI _ _,.own _,.own _,.own _],.agg [vI _ _,.own _],vI _ _]) rfl)<|pq 5 (qxX (.agg [vI _ _,vI _ _,vI _ _,.own _,.own _,.own _]) rfl)<|pq 6 (qxX (.agg [vI _ _,.own _]) rfl)<|pq 7 (qxI rfl)<|vst 8 rfl (zA 2010 ty.ze34 rfl) (.inr rfl)<|vst 10 rfl (zB 2010 ty.co34 ty.inf34 rfl) (.inl rfl)<|vst 11 rfl (zB 2011 ty.co37 ty.inf37 rfl) (.inl rfl)<|vq 12 (raI rfl)<|fD<|gT ?_
       refine ⟨(),trivial,⟨rfl,rfl,rfl,trivial⟩,⟨rfl,rfl,rfl,rfl,rfl,rfl,trivial⟩,⟨rfl,rfl,rfl,rfl,rfl,rfl,rfl,trivial⟩,⟨rfl,rfl,rfl,rfl,rfl,rfl,rfl,rfl,rfl,rfl,rfl,rfl,trivial⟩⟩
      ·refine v1 8 rfl (zA 2010 ty.ze34 rfl) (.inr rfl) ?_
       refine vst 3 rfl (zC [(1,2035),(2,2036),(3,2037),(11,2050),(12,2051),(13,2052),(14,2053)] [2050,2051,2052,2053] [1,2,3] Tryz.func9 (lentBk (apply_g x e hwb)) (⟨stays.arr rfl,stays.arr rfl,stays.arr rfl,trivial⟩) rfl rfl) (.inl rfl)<|vq 4 (rmX (.tup [.agg [vI _ _,vI _ _,vI _ _,.own _,.own _,.own _],.agg [vI _ _,.own _],vI _ _]) rfl)<|pq 5 (qxX (.agg [vI _ _,vI _ _,vI _ _,.own _,.own _,.own _]) rfl)<|pq 6 (qxX (.agg [vI _ _,.own _]) rfl)<|pq 7 (qxI rfl)<|vst 10 rfl (zB 2010 ty.co34 ty.inf34 rfl) (.inl rfl)<|vst 11 rfl (zB 2011 ty.co37 ty.inf37 rfl) (.inl rfl)<|vq 12 (raI rfl)<|fD<|gT ?_
       refine ⟨(),trivial,⟨rfl,rfl,rfl,trivial⟩,⟨rfl,rfl,rfl,rfl,rfl,rfl,trivial⟩,⟨rfl,rfl,rfl,rfl,rfl,rfl,rfl,trivial⟩,⟨rfl,rfl,rfl,rfl,rfl,rfl,rfl,rfl,rfl,rfl,rfl,rfl,trivial⟩⟩
     ·refine v1 8 Z (zA 2010 ty.ze34 Z) (.inr Z)<|vst 2 Z (zL Tryz.func8 (toEvent_e _) Z) (.inr Z) ?_
      refine vst 3 rfl (zC [(1,2035),(2,2036),(3,2037),(11,2050),(12,2051),(13,2052),(14,2053)] [2050,2051,2052,2053] [1,2,3] Tryz.func9 (lentBk (apply_g x e hwb)) (⟨stays.arr rfl,stays.arr rfl,stays.arr rfl,trivial⟩) rfl rfl) (.inl rfl)<|vq 4 (rmX (.tup [.agg [vI _ _,vI _ _,vI _ _,.own _,.own _,.own _],.agg [vI _ _,.own _],vI _ _]) rfl)<|pq 5 (qxX (.agg [vI _ _,vI _ _,vI _ _,.own _,.own _,.own _]) rfl)<|pq 6 (qxX (.agg [vI _ _,.own _]) rfl)<|pq 7 (qxI rfl)<|vst 10 rfl (zB 2010 ty.co34 ty.inf34 rfl) (.inl rfl)<|vst 11 rfl (zB 2011 ty.co37 ty.inf37 rfl) (.inl rfl)<|vq 12 (raI rfl)<|fD<|gT ?_
      refine ⟨(),trivial,⟨rfl,rfl,rfl,trivial⟩,⟨rfl,rfl,rfl,rfl,rfl,rfl,trivial⟩,⟨rfl,rfl,rfl,rfl,rfl,rfl,rfl,trivial⟩,⟨rfl,rfl,rfl,rfl,rfl,rfl,rfl,rfl,rfl,rfl,rfl,rfl,trivial⟩⟩
   ·intro jd hJ
    refine aS<|sL<|loX (.agg [vI _ _,vI _ _,vI _ _,.own _,.own _,.own _]) ty.kd34 Z<|loX (.agg [vI _ _,vI _ _,vI _ _,.own _,.own _,.own _]) ty.kd34 Z<|lst (zL Tryz.func10 (eqBook_e _ (by omega) (by omega) (by omega)) rfl) Z<|luZ Z<|lsB 46 false rfl (by first | (simp;done) | (simp;omega))<|lmZ Z<|loX (.agg [vI _ _,.own _]) ty.kd37 Z<|loX (.agg [vI _ _,.own _]) ty.kd37 Z<|lst (zL Tryz.func11 (eqPosting_e _ (by omega)) rfl) Z<|luZ Z<|lsB 51 false rfl (by first | (simp;done) | (simp;omega))<|lkZ Z<|lmZ Z<|lmI Z<|lmI Z<|lbB Z<|lsB 56 false rfl (by first | (simp;done) | (simp;omega))<|lkZ Z<|nG<|aN Z<|aK<|gT<|aS<|aS<|aF []<|sq 0 (roX (.agg [vI _ _,vI _ _,vI _ _,.own _,.own _,.own _]) ty.kd34 rfl) ?_
    refine vq 1 (roX (.agg [vI _ _,vI _ _,vI _ _,vL _ _ _,vL _ _ _,vL _ _ _]) ty.kd26 rfl)<|vst 2 rfl (zC [(1,2061),(2,2062),(3,2063)] [2061,2062,2063] [] Tryz.func7 (toBook_e x hc hh hi) (trivial) rfl rfl) (.inr rfl)<|fT [2,3,4,6,7,8,9,10,11,12,58,60] [.ptr 2002 _ 0,.ptr 2003 _ 0,vB false,.ptr 2006 _ 0,.ptr 2007 _ 0,vI _ _,.ptr 2009 _ 0,.ptr 2010 _ 0,.ptr 2011 _ 0,vI _ _,.agg [vI _ _,vI _ _,vI _ _,.own _,.own _,.own _],.agg [vI _ _,vI _ _,vI _ _,.own _,.own _,.own _]] [2002,2003,2006,2007,2009,2010,2011,2035,2036,2037,2040,2041,2042,2043,2050,2051,2052,2053,2061,2062,2063] [.box _ _ [vI _ _,vI _ _,vI _ _,vL _ _ _,vL _ _ _,vL _ _ _],.box _ _ [vI _ _,vI _ _,vI _ _,vI _ _,vI _ _,vI _ _,vB _],.box _ _ [vI _ _,vI _ _,vI _ _,.own _,.own _,.own _],.box _ _ [vI _ _,.own _],.box _ _ [vI _ _,vI _ _,vI _ _,.own _,.own _,.own _],.box _ _ [vI _ _,vI _ _,vI _ _,.own _,.own _,.own _],.box _ _ [vI _ _,.own _],.arr _ _ _,.arr _ _ _,.arr _ _ _,.arr _ _ _,.arr _ _ _,.arr _ _ _,.arr _ _ _,.arr _ _ _,.arr _ _ _,.arr _ _ _,.arr _ _ _,.arr _ _ _,.arr _ _ _,.arr _ _ _] rfl Z<|vst 3 rfl (zL Tryz.func10 (eqBook_e _ (by omega) (by omega) (by omega)) rfl) (.inr rfl)<|vq 4 (ruZ rfl)<|fsB 62 false rfl (by first | (simp;done) | (simp;omega))<|fD<|gT<|aN Z<|aK<|gA<|laI Z<|nA<|loX (.agg [vI _ _,vI _ _,vI _ _,.own _,.own _,.own _]) ty.kd34 Z<|lmI rfl ?_
    refine lst (zC [(1,2035),(2,2036),(3,2037)] [] [1,2,3] Tryz.func12 (markBook_e _ _ _ (x) _ (by omega) (by omega) (by omega) (by omega)) (⟨stays.arr (by simp [mkdBook,rowsOf,mkLs_len]),stays.arr (by simp [mkdBook,rowsOf,mkLs_len]),stays.arr (by simp [mkdBook,rowsOf,mkLs_len]),trivial⟩) rfl rfl) Z<|laI Z<|nG<|aS<|sL<|lmI Z<|lbB Z<|lsB 67 false rfl (by first | (simp;done) | (simp;omega))<|lmZ Z<|loX (.agg [vI _ _,vI _ _,vI _ _,.own _,.own _,.own _]) ty.kd34 Z<|loX (.agg [vI _ _,vI _ _,vI _ _,.own _,.own _,.own _]) ty.kd34 Z<|lst (zL Tryz.func10 (eqBook_e _ (by omega) (by omega) (by omega)) rfl) Z<|luZ Z<|lsB 72 false rfl (by first | (simp;done) | (simp;omega))<|lkZ Z<|lmZ Z<|loX (.agg [vI _ _,.own _]) ty.kd37 Z<|loX (.agg [vI _ _,.own _]) ty.kd37 Z<|lst (zL Tryz.func11 (eqPosting_e _ (by omega)) rfl) Z<|lT [2,3,4,6,7,8,10,11,12,74,77] [.ptr 2002 _ 0,.ptr 2003 _ 0,vB false,.ptr 2006 _ 0,.ptr 2007 _ 0,vI _ _,.ptr 2010 _ 0,.ptr 2011 _ 0,vI _ _,vB false,vB true] [2002,2003,2006,2007,2009,2010,2011,2035,2036,2037,2040,2041,2042,2043,2050,2051,2052,2053,2061,2062,2063] [.box _ _ [vI _ _,vI _ _,vI _ _,vL _ _ _,vL _ _ _,vL _ _ _],.box _ _ [vI _ _,vI _ _,vI _ _,vI _ _,vI _ _,vI _ _,vB _],.box _ _ [vI _ _,vI _ _,vI _ _,.own _,.own _,.own _],.box _ _ [vI _ _,.own _],.box _ _ [vI _ _,vI _ _,vI _ _,.own _,.own _,.own _],.box _ _ [vI _ _,vI _ _,vI _ _,.own _,.own _,.own _],.box _ _ [vI _ _,.own _],.arr _ _ _,.arr _ _ _,.arr _ _ _,.arr _ _ _,.arr _ _ _,.arr _ _ _,.arr _ _ _,.arr _ _ _,.arr _ _ _,.arr _ _ _,.arr _ _ _,.arr _ _ _,.arr _ _ _,.arr _ _ _] rfl Z<|luZ Z<|lsB 78 false rfl (by first | (simp;done) | (simp;omega))<|lkZ Z<|lmZ Z<|lmI Z<|lmI Z<|lbB Z<|lsB 83 false rfl (by first | (simp;done) | (simp;omega)) ?_
    refine lkZ Z<|nG<|aN Z<|aK<|gA<|laI Z<|nG<|aS ?_
    refine AW.pinA 2050 rfl ?_
    intro ud0
    refine AW.pinA 2051 rfl ?_
    intro ud1
    refine AW.pinA 2052 rfl ?_
    intro ud2
    refine aL<|loX (.agg [vI _ _,vI _ _,vI _ _,.own _,.own _,.own _]) ty.kd34 Z<|lmI Z ?_
    refine lst (zC [(1,2050),(2,2051),(3,2052)] [] [1,2,3] Tryz.func12 (markBook_e _ _ _ (appB x e) _ (by omega) (by omega) (by omega) (by omega)) (⟨stays.arr (by simp [mkdBook,rowsOf,mkLs_len]),stays.arr (by simp [mkdBook,rowsOf,mkLs_len]),stays.arr (by simp [mkdBook,rowsOf,mkLs_len]),trivial⟩) rfl rfl) Z<|laI Z<|nG<|aS ?_
    refine AW.pinA 2053 rfl ?_
    intro uf0
    refine aL<|loX (.agg [vI _ _,.own _]) ty.kd37 Z<|lmI Z ?_
    refine lst (zC [(1,2053)] [] [1] Tryz.func13 (markPosting_e _ (appP x e) _ (by omega) (by omega)) (⟨stays.arr (by simp [mkdPost,rowsOf,mkLs_len]),trivial⟩) rfl rfl) Z<|lT [2,3,4,6,7,8,10,11,14,90] [.ptr 2002 _ 0,.ptr 2003 _ 0,vB false,.ptr 2006 _ 0,.ptr 2007 _ 0,vI _ _,.ptr 2010 _ 0,.ptr 2011 _ 0,vI _ _,vI _ _] [2002,2003,2006,2007,2009,2010,2011,2035,2036,2037,2040,2041,2042,2043,2050,2051,2052,2053,2061,2062,2063] [.box _ _ [vI _ _,vI _ _,vI _ _,vL _ _ _,vL _ _ _,vL _ _ _],.box _ _ [vI _ _,vI _ _,vI _ _,vI _ _,vI _ _,vI _ _,vB _],.box _ _ [vI _ _,vI _ _,vI _ _,.own _,.own _,.own _],.box _ _ [vI _ _,.own _],.box _ _ [vI _ _,vI _ _,vI _ _,.own _,.own _,.own _],.box _ _ [vI _ _,vI _ _,vI _ _,.own _,.own _,.own _],.box _ _ [vI _ _,.own _],.arr _ _ _,.arr _ _ _,.arr _ _ _,.arr _ _ _,.arr _ _ _,.arr _ _ _,.arr _ _ _,.arr _ _ _,.arr _ _ _,.arr _ _ _,.arr _ _ _,.arr _ _ _,.arr _ _ _,.arr _ _ _] rfl Z<|laI Z<|nA<|laI Z<|nA<|loX (.agg [vI _ _,vI _ _,vI _ _,.own _,.own _,.own _]) ty.kd34 Z<|lmI Z<|lst (zL Tryz.func14 (heldBook_e _ _ (by omega) (by omega) (by omega) (by omega)) rfl) Z<|laI Z<|nG<|aS<|sL<|lmI Z<|lbB Z<|lsB 95 false rfl (by first | (simp;done) | (simp;omega))<|nG<|aN Z<|aK<|gT<|aS ?_
    refine aL<|loX (.agg [vI _ _,.own _]) ty.kd37 Z<|lmI Z<|lst (zL Tryz.func15 (heldPosting_e _ _ (by omega) (by omega)) rfl) Z<|laI Z<|nG<|aS<|sL<|lmI Z<|lbB Z<|lsB 100 false rfl (by first | (simp;done) | (simp;omega))<|nG<|aN Z<|aK<|gT<|aS<|sL<|lmI Z<|lmI Z<|lbB Z<|lsB 103 false rfl (by first | (simp;done) | (simp;omega))<|nG<|aN Z<|aK<|gT ?_
    refine AW.seqE [(4,.p (.v (.bool false))),(6,.ptr 2006 _ 0),(7,.ptr 2007 _ 0),(8,.p (.v (.int _ _))),(10,.ptr 2010 _ 0),(11,.ptr 2011 _ 0),(14,.p (.v (.int _ _))),(15,.p (.v (.int _ _)))] [(2002,.box _ _ [.p (.v (.int _ _)),.p (.v (.int _ _)),.p (.v (.int _ _)),.p (.lst _ _ _),.p (.lst _ _ _),.p (.lst _ _ _)]),(2003,.box _ _ [.p (.v (.int _ _)),.p (.v (.int _ _)),.p (.v (.int _ _)),.p (.v (.int _ _)),.p (.v (.int _ _)),.p (.v (.int _ _)),.p (.v (.bool _))]),(2006,.box _ _ [.p (.v (.int _ _)),.p (.v (.int _ _)),.p (.v (.int _ _)),.own _,.own _,.own _]),(2007,.box _ _ [.p (.v (.int _ _)),.own _]),(2009,.box _ _ [.p (.v (.int _ _)),.p (.v (.int _ _)),.p (.v (.int _ _)),.own _,.own _,.own _]),(2010,.box _ _ [.p (.v (.int _ _)),.p (.v (.int _ _)),.p (.v (.int _ _)),.own _,.own _,.own _]),(2011,.box _ _ [.p (.v (.int _ _)),.own _]),(2035,.arr _ _ _),(2036,.arr _ _ _),(2037,.arr _ _ _),(2040,.arr _ _ _),(2041,.arr _ _ _),(2042,.arr _ _ _),(2043,.arr _ _ _),(2050,.arr _ _ _),(2051,.arr _ _ _),(2052,.arr _ _ _),(2053,.arr _ _ _),(2061,.arr _ _ _),(2062,.arr _ _ _),(2063,.arr _ _ _)] (D := Unit) (fun jd => [(16,.ptr 2016 0 0),(17,.ptr 2017 0 0),(18,int (applyC x e))]) (fun jd => [(2016,.box 34 none [int (appB x e).tick,int (appB x e).next,int (appB x e).wallet,.own 2120,.own 2121,.own 2122]),(2017,.box 37 none [int (appP x e).id,.own 2123]),(2120,.arr 78 7 (rowsOf encChan (appB x e).chans)),(2121,hAr (appB x e).htlcs),(2122,iAr (appB x e).circles),(2123,lAr (appP x e).lines)]) (fun jd => True) ⟨rfl,rfl,rfl,rfl,rfl,rfl,rfl,rfl,trivial⟩ ⟨rfl,rfl,rfl,rfl,rfl,rfl,rfl,rfl,rfl,rfl,rfl,rfl,rfl,rfl,rfl,rfl,rfl,rfl,rfl,rfl,rfl,trivial⟩ ?_ ?_
    ·refine aF [4,11,12]<|sq 0 (roX (.agg [vI _ _,vI _ _,vI _ _,vL _ _ _,vL _ _ _,vL _ _ _]) ty.kd26 Z)<|sq 2 (roX (.agg [vI _ _,vI _ _,vI _ _,vI _ _,vI _ _,vI _ _,vB _]) ty.kd28 Z) ?_
     refine AF.three (i := 1) (j := 9) (k := 10) (by kernel_rfl) ?_ ?_ ?_
     ·refine v1 1 rfl (zC [(1,2107),(2,2108),(3,2109)] [2107,2108,2109] [] Tryz.func7 (toBook_e x hc hh hi) (trivial) rfl rfl) (.inr rfl) ?_
      refine AF.pinA 2107 rfl ?_
      intro uc0
      refine AF.pinA 2108 rfl ?_
      intro uc1
      refine AF.pinA 2109 rfl ?_
      intro uc2
      refine AF.three (i := 3) (j := 9) (k := 10) (by kernel_rfl) ?_ ?_ ?_
      ·refine v1 3 rfl (zL Tryz.func8 (toEvent_e _) rfl) (.inr rfl) ?_
       refine AF.three (i := 4) (j := 9) (k := 10) (by kernel_rfl) ?_ ?_ ?_
       ·refine v1 4 rfl (zC [(1,2107),(2,2108),(3,2109),(11,2120),(12,2121),(13,2122),(14,2123)] [2120,2121,2122,2123] [1,2,3] Tryz.func9 (lentBk (apply_g x e hwb)) (⟨stays.arr rfl,stays.arr rfl,stays.arr rfl,trivial⟩) rfl rfl) (.inl rfl)<|pq 5 (qmX (.tup [.agg [vI _ _,vI _ _,vI _ _,.own _,.own _,.own _],.agg [vI _ _,.own _],vI _ _]) rfl)<|pq 6 (qxX (.agg [vI _ _,vI _ _,vI _ _,.own _,.own _,.own _]) rfl)<|pq 7 (qxX (.agg [vI _ _,.own _]) rfl)<|pq 8 (qxI rfl) ?_
        refine AF.two (i := 9) (j := 10) (by kernel_rfl) ?_ ?_
        ·refine v1 9 Z (zA 2016 ty.ze34 Z) (.inr Z)<|vst 10 Z (zA 2017 ty.ze37 Z) (.inr Z)<|vst 11 Z (zB 2016 ty.co34 ty.inf34 Z) (.inl Z)<|vst 12 Z (zB 2017 ty.co37 ty.inf37 Z) (.inl Z)<|vq 13 (raI Z)<|fD<|gT ?_
         refine ⟨(),trivial,⟨rfl,rfl,rfl,trivial⟩,⟨rfl,rfl,rfl,rfl,rfl,rfl,trivial⟩,⟨rfl,rfl,rfl,rfl,rfl,rfl,rfl,rfl,trivial⟩,⟨rfl,rfl,rfl,rfl,rfl,rfl,rfl,rfl,rfl,rfl,rfl,rfl,rfl,rfl,rfl,rfl,rfl,rfl,rfl,rfl,rfl,trivial⟩⟩
        ·refine v1 10 Z (zA 2017 ty.ze37 Z) (.inr Z)<|vst 9 Z (zA 2016 ty.ze34 Z) (.inr Z)<|vst 11 Z (zB 2016 ty.co34 ty.inf34 Z) (.inl Z)<|vst 12 Z (zB 2017 ty.co37 ty.inf37 Z) (.inl Z)<|vq 13 (raI Z)<|fD<|gT ?_
         refine ⟨(),trivial,⟨rfl,rfl,rfl,trivial⟩,⟨rfl,rfl,rfl,rfl,rfl,rfl,trivial⟩,⟨rfl,rfl,rfl,rfl,rfl,rfl,rfl,rfl,trivial⟩,⟨rfl,rfl,rfl,rfl,rfl,rfl,rfl,rfl,rfl,rfl,rfl,rfl,rfl,rfl,rfl,rfl,rfl,rfl,rfl,rfl,rfl,trivial⟩⟩
       ·refine v1 9 rfl (zA 2016 ty.ze34 rfl) (.inr rfl) ?_
        refine AF.two (i := 4) (j := 10) (by kernel_rfl) ?_ ?_
        ·refine v1 4 rfl (zC [(1,2107),(2,2108),(3,2109),(11,2120),(12,2121),(13,2122),(14,2123)] [2120,2121,2122,2123] [1,2,3] Tryz.func9 (lentBk (apply_g x e hwb)) (⟨stays.arr rfl,stays.arr rfl,stays.arr rfl,trivial⟩) rfl rfl) (.inl rfl)<|pq 5 (qmX (.tup [.agg [vI _ _,vI _ _,vI _ _,.own _,.own _,.own _],.agg [vI _ _,.own _],vI _ _]) rfl)<|pq 6 (qxX (.agg [vI _ _,vI _ _,vI _ _,.own _,.own _,.own _]) rfl)<|pq 7 (qxX (.agg [vI _ _,.own _]) rfl)<|pq 8 (qxI rfl)<|vst 10 rfl (zA 2017 ty.ze37 rfl) (.inr rfl)<|vst 11 rfl (zB 2016 ty.co34 ty.inf34 rfl) (.inl rfl)<|vst 12 rfl (zB 2017 ty.co37 ty.inf37 rfl) (.inl rfl)<|vq 13 (raI rfl)<|fD<|gT ?_
         refine ⟨(),trivial,⟨rfl,rfl,rfl,trivial⟩,⟨rfl,rfl,rfl,rfl,rfl,rfl,trivial⟩,⟨rfl,rfl,rfl,rfl,rfl,rfl,rfl,rfl,trivial⟩,⟨rfl,rfl,rfl,rfl,rfl,rfl,rfl,rfl,rfl,rfl,rfl,rfl,rfl,rfl,rfl,rfl,rfl,rfl,rfl,rfl,rfl,trivial⟩⟩
        ·refine v1 10 rfl (zA 2017 ty.ze37 rfl) (.inr rfl) ?_
         refine vst 4 rfl (zC [(1,2107),(2,2108),(3,2109),(11,2120),(12,2121),(13,2122),(14,2123)] [2120,2121,2122,2123] [1,2,3] Tryz.func9 (lentBk (apply_g x e hwb)) (⟨stays.arr rfl,stays.arr rfl,stays.arr rfl,trivial⟩) rfl rfl) (.inl rfl)<|vq 5 (rmX (.tup [.agg [vI _ _,vI _ _,vI _ _,.own _,.own _,.own _],.agg [vI _ _,.own _],vI _ _]) rfl)<|pq 6 (qxX (.agg [vI _ _,vI _ _,vI _ _,.own _,.own _,.own _]) rfl)<|pq 7 (qxX (.agg [vI _ _,.own _]) rfl)<|pq 8 (qxI rfl)<|vst 11 rfl (zB 2016 ty.co34 ty.inf34 rfl) (.inl rfl)<|vst 12 rfl (zB 2017 ty.co37 ty.inf37 rfl) (.inl rfl)<|vq 13 (raI rfl)<|fD<|gT ?_
         refine ⟨(),trivial,⟨rfl,rfl,rfl,trivial⟩,⟨rfl,rfl,rfl,rfl,rfl,rfl,trivial⟩,⟨rfl,rfl,rfl,rfl,rfl,rfl,rfl,rfl,trivial⟩,⟨rfl,rfl,rfl,rfl,rfl,rfl,rfl,rfl,rfl,rfl,rfl,rfl,rfl,rfl,rfl,rfl,rfl,rfl,rfl,rfl,rfl,trivial⟩⟩
       ·refine v1 10 rfl (zA 2017 ty.ze37 rfl) (.inr rfl) ?_
        refine AF.two (i := 4) (j := 9) (by kernel_rfl) ?_ ?_
        ·refine v1 4 rfl (zC [(1,2107),(2,2108),(3,2109),(11,2120),(12,2121),(13,2122),(14,2123)] [2120,2121,2122,2123] [1,2,3] Tryz.func9 (lentBk (apply_g x e hwb)) (⟨stays.arr rfl,stays.arr rfl,stays.arr rfl,trivial⟩) rfl rfl) (.inl rfl)<|pq 5 (qmX (.tup [.agg [vI _ _,vI _ _,vI _ _,.own _,.own _,.own _],.agg [vI _ _,.own _],vI _ _]) rfl)<|pq 6 (qxX (.agg [vI _ _,vI _ _,vI _ _,.own _,.own _,.own _]) rfl)<|pq 7 (qxX (.agg [vI _ _,.own _]) rfl)<|pq 8 (qxI rfl)<|vst 9 rfl (zA 2016 ty.ze34 rfl) (.inr rfl)<|vst 11 rfl (zB 2016 ty.co34 ty.inf34 rfl) (.inl rfl)<|vst 12 rfl (zB 2017 ty.co37 ty.inf37 rfl) (.inl rfl)<|vq 13 (raI rfl)<|fD<|gT ?_
         refine ⟨(),trivial,⟨rfl,rfl,rfl,trivial⟩,⟨rfl,rfl,rfl,rfl,rfl,rfl,trivial⟩,⟨rfl,rfl,rfl,rfl,rfl,rfl,rfl,rfl,trivial⟩,⟨rfl,rfl,rfl,rfl,rfl,rfl,rfl,rfl,rfl,rfl,rfl,rfl,rfl,rfl,rfl,rfl,rfl,rfl,rfl,rfl,rfl,trivial⟩⟩
        ·refine v1 9 rfl (zA 2016 ty.ze34 rfl) (.inr rfl) ?_
         refine vst 4 rfl (zC [(1,2107),(2,2108),(3,2109),(11,2120),(12,2121),(13,2122),(14,2123)] [2120,2121,2122,2123] [1,2,3] Tryz.func9 (lentBk (apply_g x e hwb)) (⟨stays.arr rfl,stays.arr rfl,stays.arr rfl,trivial⟩) rfl rfl) (.inl rfl)<|vq 5 (rmX (.tup [.agg [vI _ _,vI _ _,vI _ _,.own _,.own _,.own _],.agg [vI _ _,.own _],vI _ _]) rfl)<|pq 6 (qxX (.agg [vI _ _,vI _ _,vI _ _,.own _,.own _,.own _]) rfl)<|pq 7 (qxX (.agg [vI _ _,.own _]) rfl)<|pq 8 (qxI rfl)<|vst 11 rfl (zB 2016 ty.co34 ty.inf34 rfl) (.inl rfl)<|vst 12 rfl (zB 2017 ty.co37 ty.inf37 rfl) (.inl rfl)<|vq 13 (raI rfl)<|fD<|gT ?_
         refine ⟨(),trivial,⟨rfl,rfl,rfl,trivial⟩,⟨rfl,rfl,rfl,rfl,rfl,rfl,trivial⟩,⟨rfl,rfl,rfl,rfl,rfl,rfl,rfl,rfl,trivial⟩,⟨rfl,rfl,rfl,rfl,rfl,rfl,rfl,rfl,rfl,rfl,rfl,rfl,rfl,rfl,rfl,rfl,rfl,rfl,rfl,rfl,rfl,trivial⟩⟩
      ·refine v1 9 rfl (zA 2016 ty.ze34 rfl) (.inr rfl) ?_
       refine AF.two (i := 3) (j := 10) (by kernel_rfl) ?_ ?_
       ·refine v1 3 rfl (zL Tryz.func8 (toEvent_e _) rfl) (.inr rfl) ?_
        refine AF.two (i := 4) (j := 10) (by kernel_rfl) ?_ ?_
        ·refine v1 4 rfl (zC [(1,2107),(2,2108),(3,2109),(11,2120),(12,2121),(13,2122),(14,2123)] [2120,2121,2122,2123] [1,2,3] Tryz.func9 (lentBk (apply_g x e hwb)) (⟨stays.arr rfl,stays.arr rfl,stays.arr rfl,trivial⟩) rfl rfl) (.inl rfl)<|pq 5 (qmX (.tup [.agg [vI _ _,vI _ _,vI _ _,.own _,.own _,.own _],.agg [vI _ _,.own _],vI _ _]) rfl)<|pq 6 (qxX (.agg [vI _ _,vI _ _,vI _ _,.own _,.own _,.own _]) rfl)<|pq 7 (qxX (.agg [vI _ _,.own _]) rfl)<|pq 8 (qxI rfl)<|vst 10 rfl (zA 2017 ty.ze37 rfl) (.inr rfl)<|vst 11 rfl (zB 2016 ty.co34 ty.inf34 rfl) (.inl rfl)<|vst 12 rfl (zB 2017 ty.co37 ty.inf37 rfl) (.inl rfl)<|vq 13 (raI rfl)<|fD<|gT ?_
         refine ⟨(),trivial,⟨rfl,rfl,rfl,trivial⟩,⟨rfl,rfl,rfl,rfl,rfl,rfl,trivial⟩,⟨rfl,rfl,rfl,rfl,rfl,rfl,rfl,rfl,trivial⟩,⟨rfl,rfl,rfl,rfl,rfl,rfl,rfl,rfl,rfl,rfl,rfl,rfl,rfl,rfl,rfl,rfl,rfl,rfl,rfl,rfl,rfl,trivial⟩⟩
        ·refine v1 10 rfl (zA 2017 ty.ze37 rfl) (.inr rfl) ?_
         refine vst 4 rfl (zC [(1,2107),(2,2108),(3,2109),(11,2120),(12,2121),(13,2122),(14,2123)] [2120,2121,2122,2123] [1,2,3] Tryz.func9 (lentBk (apply_g x e hwb)) (⟨stays.arr rfl,stays.arr rfl,stays.arr rfl,trivial⟩) rfl rfl) (.inl rfl)<|vq 5 (rmX (.tup [.agg [vI _ _,vI _ _,vI _ _,.own _,.own _,.own _],.agg [vI _ _,.own _],vI _ _]) rfl)<|pq 6 (qxX (.agg [vI _ _,vI _ _,vI _ _,.own _,.own _,.own _]) rfl)<|pq 7 (qxX (.agg [vI _ _,.own _]) rfl)<|pq 8 (qxI rfl)<|vst 11 rfl (zB 2016 ty.co34 ty.inf34 rfl) (.inl rfl)<|vst 12 rfl (zB 2017 ty.co37 ty.inf37 rfl) (.inl rfl)<|vq 13 (raI rfl)<|fD<|gT ?_
         refine ⟨(),trivial,⟨rfl,rfl,rfl,trivial⟩,⟨rfl,rfl,rfl,rfl,rfl,rfl,trivial⟩,⟨rfl,rfl,rfl,rfl,rfl,rfl,rfl,rfl,trivial⟩,⟨rfl,rfl,rfl,rfl,rfl,rfl,rfl,rfl,rfl,rfl,rfl,rfl,rfl,rfl,rfl,rfl,rfl,rfl,rfl,rfl,rfl,trivial⟩⟩
       ·refine v1 10 Z (zA 2017 ty.ze37 Z) (.inr Z)<|vst 3 Z (zL Tryz.func8 (toEvent_e _) Z) (.inr Z) ?_
        refine vst 4 rfl (zC [(1,2107),(2,2108),(3,2109),(11,2120),(12,2121),(13,2122),(14,2123)] [2120,2121,2122,2123] [1,2,3] Tryz.func9 (lentBk (apply_g x e hwb)) (⟨stays.arr rfl,stays.arr rfl,stays.arr rfl,trivial⟩) rfl rfl) (.inl rfl)<|vq 5 (rmX (.tup [.agg [vI _ _,vI _ _,vI _ _,.own _,.own _,.own _],.agg [vI _ _,.own _],vI _ _]) rfl)<|pq 6 (qxX (.agg [vI _ _,vI _ _,vI _ _,.own _,.own _,.own _]) rfl)<|pq 7 (qxX (.agg [vI _ _,.own _]) rfl)<|pq 8 (qxI rfl)<|vst 11 rfl (zB 2016 ty.co34 ty.inf34 rfl) (.inl rfl)<|vst 12 rfl (zB 2017 ty.co37 ty.inf37 rfl) (.inl rfl)<|vq 13 (raI rfl)<|fD<|gT ?_
        refine ⟨(),trivial,⟨rfl,rfl,rfl,trivial⟩,⟨rfl,rfl,rfl,rfl,rfl,rfl,trivial⟩,⟨rfl,rfl,rfl,rfl,rfl,rfl,rfl,rfl,trivial⟩,⟨rfl,rfl,rfl,rfl,rfl,rfl,rfl,rfl,rfl,rfl,rfl,rfl,rfl,rfl,rfl,rfl,rfl,rfl,rfl,rfl,rfl,trivial⟩⟩
      ·refine v1 10 rfl (zA 2017 ty.ze37 rfl) (.inr rfl) ?_
       refine AF.two (i := 3) (j := 9) (by kernel_rfl) ?_ ?_
       ·refine v1 3 rfl (zL Tryz.func8 (toEvent_e _) rfl) (.inr rfl) ?_
        refine AF.two (i := 4) (j := 9) (by kernel_rfl) ?_ ?_
        ·refine v1 4 rfl (zC [(1,2107),(2,2108),(3,2109),(11,2120),(12,2121),(13,2122),(14,2123)] [2120,2121,2122,2123] [1,2,3] Tryz.func9 (lentBk (apply_g x e hwb)) (⟨stays.arr rfl,stays.arr rfl,stays.arr rfl,trivial⟩) rfl rfl) (.inl rfl)<|pq 5 (qmX (.tup [.agg [vI _ _,vI _ _,vI _ _,.own _,.own _,.own _],.agg [vI _ _,.own _],vI _ _]) rfl)<|pq 6 (qxX (.agg [vI _ _,vI _ _,vI _ _,.own _,.own _,.own _]) rfl)<|pq 7 (qxX (.agg [vI _ _,.own _]) rfl)<|pq 8 (qxI rfl)<|vst 9 rfl (zA 2016 ty.ze34 rfl) (.inr rfl)<|vst 11 rfl (zB 2016 ty.co34 ty.inf34 rfl) (.inl rfl)<|vst 12 rfl (zB 2017 ty.co37 ty.inf37 rfl) (.inl rfl)<|vq 13 (raI rfl)<|fD<|gT ?_
         refine ⟨(),trivial,⟨rfl,rfl,rfl,trivial⟩,⟨rfl,rfl,rfl,rfl,rfl,rfl,trivial⟩,⟨rfl,rfl,rfl,rfl,rfl,rfl,rfl,rfl,trivial⟩,⟨rfl,rfl,rfl,rfl,rfl,rfl,rfl,rfl,rfl,rfl,rfl,rfl,rfl,rfl,rfl,rfl,rfl,rfl,rfl,rfl,rfl,trivial⟩⟩
        ·refine v1 9 rfl (zA 2016 ty.ze34 rfl) (.inr rfl) ?_
         refine vst 4 rfl (zC [(1,2107),(2,2108),(3,2109),(11,2120),(12,2121),(13,2122),(14,2123)] [2120,2121,2122,2123] [1,2,3] Tryz.func9 (lentBk (apply_g x e hwb)) (⟨stays.arr rfl,stays.arr rfl,stays.arr rfl,trivial⟩) rfl rfl) (.inl rfl)<|vq 5 (rmX (.tup [.agg [vI _ _,vI _ _,vI _ _,.own _,.own _,.own _],.agg [vI _ _,.own _],vI _ _]) rfl)<|pq 6 (qxX (.agg [vI _ _,vI _ _,vI _ _,.own _,.own _,.own _]) rfl)<|pq 7 (qxX (.agg [vI _ _,.own _]) rfl)<|pq 8 (qxI rfl)<|vst 11 rfl (zB 2016 ty.co34 ty.inf34 rfl) (.inl rfl)<|vst 12 rfl (zB 2017 ty.co37 ty.inf37 rfl) (.inl rfl)<|vq 13 (raI rfl)<|fD<|gT ?_
         refine ⟨(),trivial,⟨rfl,rfl,rfl,trivial⟩,⟨rfl,rfl,rfl,rfl,rfl,rfl,trivial⟩,⟨rfl,rfl,rfl,rfl,rfl,rfl,rfl,rfl,trivial⟩,⟨rfl,rfl,rfl,rfl,rfl,rfl,rfl,rfl,rfl,rfl,rfl,rfl,rfl,rfl,rfl,rfl,rfl,rfl,rfl,rfl,rfl,trivial⟩⟩
       ·refine v1 9 Z (zA 2016 ty.ze34 Z) (.inr Z)<|vst 3 Z (zL Tryz.func8 (toEvent_e _) Z) (.inr Z) ?_
        refine vst 4 rfl (zC [(1,2107),(2,2108),(3,2109),(11,2120),(12,2121),(13,2122),(14,2123)] [2120,2121,2122,2123] [1,2,3] Tryz.func9 (lentBk (apply_g x e hwb)) (⟨stays.arr rfl,stays.arr rfl,stays.arr rfl,trivial⟩) rfl rfl) (.inl rfl)<|vq 5 (rmX (.tup [.agg [vI _ _,vI _ _,vI _ _,.own _,.own _,.own _],.agg [vI _ _,.own _],vI _ _]) rfl)<|pq 6 (qxX (.agg [vI _ _,vI _ _,vI _ _,.own _,.own _,.own _]) rfl)<|pq 7 (qxX (.agg [vI _ _,.own _]) rfl)<|pq 8 (qxI rfl)<|vst 11 rfl (zB 2016 ty.co34 ty.inf34 rfl) (.inl rfl)<|vst 12 rfl (zB 2017 ty.co37 ty.inf37 rfl) (.inl rfl)<|vq 13 (raI rfl)<|fD<|gT ?_
        refine ⟨(),trivial,⟨rfl,rfl,rfl,trivial⟩,⟨rfl,rfl,rfl,rfl,rfl,rfl,trivial⟩,⟨rfl,rfl,rfl,rfl,rfl,rfl,rfl,rfl,trivial⟩,⟨rfl,rfl,rfl,rfl,rfl,rfl,rfl,rfl,rfl,rfl,rfl,rfl,rfl,rfl,rfl,rfl,rfl,rfl,rfl,rfl,rfl,trivial⟩⟩
     ·refine v1 9 rfl (zA 2016 ty.ze34 rfl) (.inr rfl) ?_
      refine AF.two (i := 1) (j := 10) (by kernel_rfl) ?_ ?_
      ·refine v1 1 rfl (zC [(1,2107),(2,2108),(3,2109)] [2107,2108,2109] [] Tryz.func7 (toBook_e x hc hh hi) (trivial) rfl rfl) (.inr rfl) ?_
       refine AF.pinA 2107 rfl ?_
       intro uc0
       refine AF.pinA 2108 rfl ?_
       intro uc1
       refine AF.pinA 2109 rfl ?_
       intro uc2
       refine AF.two (i := 3) (j := 10) (by kernel_rfl) ?_ ?_
       ·refine v1 3 rfl (zL Tryz.func8 (toEvent_e _) rfl) (.inr rfl) ?_
        refine AF.two (i := 4) (j := 10) (by kernel_rfl) ?_ ?_
        ·refine v1 4 rfl (zC [(1,2107),(2,2108),(3,2109),(11,2120),(12,2121),(13,2122),(14,2123)] [2120,2121,2122,2123] [1,2,3] Tryz.func9 (lentBk (apply_g x e hwb)) (⟨stays.arr rfl,stays.arr rfl,stays.arr rfl,trivial⟩) rfl rfl) (.inl rfl)<|pq 5 (qmX (.tup [.agg [vI _ _,vI _ _,vI _ _,.own _,.own _,.own _],.agg [vI _ _,.own _],vI _ _]) rfl)<|pq 6 (qxX (.agg [vI _ _,vI _ _,vI _ _,.own _,.own _,.own _]) rfl)<|pq 7 (qxX (.agg [vI _ _,.own _]) rfl)<|pq 8 (qxI rfl)<|vst 10 rfl (zA 2017 ty.ze37 rfl) (.inr rfl)<|vst 11 rfl (zB 2016 ty.co34 ty.inf34 rfl) (.inl rfl)<|vst 12 rfl (zB 2017 ty.co37 ty.inf37 rfl) (.inl rfl)<|vq 13 (raI rfl)<|fD<|gT ?_
         refine ⟨(),trivial,⟨rfl,rfl,rfl,trivial⟩,⟨rfl,rfl,rfl,rfl,rfl,rfl,trivial⟩,⟨rfl,rfl,rfl,rfl,rfl,rfl,rfl,rfl,trivial⟩,⟨rfl,rfl,rfl,rfl,rfl,rfl,rfl,rfl,rfl,rfl,rfl,rfl,rfl,rfl,rfl,rfl,rfl,rfl,rfl,rfl,rfl,trivial⟩⟩
        ·refine v1 10 rfl (zA 2017 ty.ze37 rfl) (.inr rfl) ?_
         refine vst 4 rfl (zC [(1,2107),(2,2108),(3,2109),(11,2120),(12,2121),(13,2122),(14,2123)] [2120,2121,2122,2123] [1,2,3] Tryz.func9 (lentBk (apply_g x e hwb)) (⟨stays.arr rfl,stays.arr rfl,stays.arr rfl,trivial⟩) rfl rfl) (.inl rfl)<|vq 5 (rmX (.tup [.agg [vI _ _,vI _ _,vI _ _,.own _,.own _,.own _],.agg [vI _ _,.own _],vI _ _]) rfl)<|pq 6 (qxX (.agg [vI _ _,vI _ _,vI _ _,.own _,.own _,.own _]) rfl)<|pq 7 (qxX (.agg [vI _ _,.own _]) rfl)<|pq 8 (qxI rfl)<|vst 11 rfl (zB 2016 ty.co34 ty.inf34 rfl) (.inl rfl)<|vst 12 rfl (zB 2017 ty.co37 ty.inf37 rfl) (.inl rfl)<|vq 13 (raI rfl)<|fD<|gT ?_
         refine ⟨(),trivial,⟨rfl,rfl,rfl,trivial⟩,⟨rfl,rfl,rfl,rfl,rfl,rfl,trivial⟩,⟨rfl,rfl,rfl,rfl,rfl,rfl,rfl,rfl,trivial⟩,⟨rfl,rfl,rfl,rfl,rfl,rfl,rfl,rfl,rfl,rfl,rfl,rfl,rfl,rfl,rfl,rfl,rfl,rfl,rfl,rfl,rfl,trivial⟩⟩
       ·refine v1 10 Z (zA 2017 ty.ze37 Z) (.inr Z)<|vst 3 Z (zL Tryz.func8 (toEvent_e _) Z) (.inr Z) ?_
        refine vst 4 rfl (zC [(1,2107),(2,2108),(3,2109),(11,2120),(12,2121),(13,2122),(14,2123)] [2120,2121,2122,2123] [1,2,3] Tryz.func9 (lentBk (apply_g x e hwb)) (⟨stays.arr rfl,stays.arr rfl,stays.arr rfl,trivial⟩) rfl rfl) (.inl rfl)<|vq 5 (rmX (.tup [.agg [vI _ _,vI _ _,vI _ _,.own _,.own _,.own _],.agg [vI _ _,.own _],vI _ _]) rfl)<|pq 6 (qxX (.agg [vI _ _,vI _ _,vI _ _,.own _,.own _,.own _]) rfl)<|pq 7 (qxX (.agg [vI _ _,.own _]) rfl)<|pq 8 (qxI rfl)<|vst 11 rfl (zB 2016 ty.co34 ty.inf34 rfl) (.inl rfl)<|vst 12 rfl (zB 2017 ty.co37 ty.inf37 rfl) (.inl rfl)<|vq 13 (raI rfl)<|fD<|gT ?_
        refine ⟨(),trivial,⟨rfl,rfl,rfl,trivial⟩,⟨rfl,rfl,rfl,rfl,rfl,rfl,trivial⟩,⟨rfl,rfl,rfl,rfl,rfl,rfl,rfl,rfl,trivial⟩,⟨rfl,rfl,rfl,rfl,rfl,rfl,rfl,rfl,rfl,rfl,rfl,rfl,rfl,rfl,rfl,rfl,rfl,rfl,rfl,rfl,rfl,trivial⟩⟩
      ·refine v1 10 Z (zA 2017 ty.ze37 Z) (.inr Z)<|vst 1 Z (zC [(1,2107),(2,2108),(3,2109)] [2107,2108,2109] [] Tryz.func7 (toBook_e x hc hh hi) (trivial) Z Z) (.inr Z) ?_
       refine AF.pinA 2107 rfl ?_
       intro uc0
       refine AF.pinA 2108 rfl ?_
       intro uc1
       refine AF.pinA 2109 rfl ?_
       intro uc2
       refine vst 3 rfl (zL Tryz.func8 (toEvent_e _) rfl) (.inr rfl) ?_
       refine vst 4 rfl (zC [(1,2107),(2,2108),(3,2109),(11,2120),(12,2121),(13,2122),(14,2123)] [2120,2121,2122,2123] [1,2,3] Tryz.func9 (lentBk (apply_g x e hwb)) (⟨stays.arr rfl,stays.arr rfl,stays.arr rfl,trivial⟩) rfl rfl) (.inl rfl)<|vq 5 (rmX (.tup [.agg [vI _ _,vI _ _,vI _ _,.own _,.own _,.own _],.agg [vI _ _,.own _],vI _ _]) rfl)<|pq 6 (qxX (.agg [vI _ _,vI _ _,vI _ _,.own _,.own _,.own _]) rfl)<|pq 7 (qxX (.agg [vI _ _,.own _]) rfl)<|pq 8 (qxI rfl)<|vst 11 rfl (zB 2016 ty.co34 ty.inf34 rfl) (.inl rfl)<|vst 12 rfl (zB 2017 ty.co37 ty.inf37 rfl) (.inl rfl)<|vq 13 (raI rfl)<|fD<|gT ?_
       refine ⟨(),trivial,⟨rfl,rfl,rfl,trivial⟩,⟨rfl,rfl,rfl,rfl,rfl,rfl,trivial⟩,⟨rfl,rfl,rfl,rfl,rfl,rfl,rfl,rfl,trivial⟩,⟨rfl,rfl,rfl,rfl,rfl,rfl,rfl,rfl,rfl,rfl,rfl,rfl,rfl,rfl,rfl,rfl,rfl,rfl,rfl,rfl,rfl,trivial⟩⟩
     ·refine v1 10 rfl (zA 2017 ty.ze37 rfl) (.inr rfl) ?_
      refine AF.two (i := 1) (j := 9) (by kernel_rfl) ?_ ?_
      ·refine v1 1 rfl (zC [(1,2107),(2,2108),(3,2109)] [2107,2108,2109] [] Tryz.func7 (toBook_e x hc hh hi) (trivial) rfl rfl) (.inr rfl) ?_
       refine AF.pinA 2107 rfl ?_
       intro uc0
       refine AF.pinA 2108 rfl ?_
       intro uc1
       refine AF.pinA 2109 rfl ?_
       intro uc2
       refine AF.two (i := 3) (j := 9) (by kernel_rfl) ?_ ?_
       ·refine v1 3 rfl (zL Tryz.func8 (toEvent_e _) rfl) (.inr rfl) ?_
        refine AF.two (i := 4) (j := 9) (by kernel_rfl) ?_ ?_
        ·refine v1 4 rfl (zC [(1,2107),(2,2108),(3,2109),(11,2120),(12,2121),(13,2122),(14,2123)] [2120,2121,2122,2123] [1,2,3] Tryz.func9 (lentBk (apply_g x e hwb)) (⟨stays.arr rfl,stays.arr rfl,stays.arr rfl,trivial⟩) rfl rfl) (.inl rfl)<|pq 5 (qmX (.tup [.agg [vI _ _,vI _ _,vI _ _,.own _,.own _,.own _],.agg [vI _ _,.own _],vI _ _]) rfl)<|pq 6 (qxX (.agg [vI _ _,vI _ _,vI _ _,.own _,.own _,.own _]) rfl)<|pq 7 (qxX (.agg [vI _ _,.own _]) rfl)<|pq 8 (qxI rfl)<|vst 9 rfl (zA 2016 ty.ze34 rfl) (.inr rfl)<|vst 11 rfl (zB 2016 ty.co34 ty.inf34 rfl) (.inl rfl)<|vst 12 rfl (zB 2017 ty.co37 ty.inf37 rfl) (.inl rfl)<|vq 13 (raI rfl)<|fD<|gT ?_
         refine ⟨(),trivial,⟨rfl,rfl,rfl,trivial⟩,⟨rfl,rfl,rfl,rfl,rfl,rfl,trivial⟩,⟨rfl,rfl,rfl,rfl,rfl,rfl,rfl,rfl,trivial⟩,⟨rfl,rfl,rfl,rfl,rfl,rfl,rfl,rfl,rfl,rfl,rfl,rfl,rfl,rfl,rfl,rfl,rfl,rfl,rfl,rfl,rfl,trivial⟩⟩
        ·refine v1 9 rfl (zA 2016 ty.ze34 rfl) (.inr rfl) ?_
         refine vst 4 rfl (zC [(1,2107),(2,2108),(3,2109),(11,2120),(12,2121),(13,2122),(14,2123)] [2120,2121,2122,2123] [1,2,3] Tryz.func9 (lentBk (apply_g x e hwb)) (⟨stays.arr rfl,stays.arr rfl,stays.arr rfl,trivial⟩) rfl rfl) (.inl rfl)<|vq 5 (rmX (.tup [.agg [vI _ _,vI _ _,vI _ _,.own _,.own _,.own _],.agg [vI _ _,.own _],vI _ _]) rfl)<|pq 6 (qxX (.agg [vI _ _,vI _ _,vI _ _,.own _,.own _,.own _]) rfl)<|pq 7 (qxX (.agg [vI _ _,.own _]) rfl)<|pq 8 (qxI rfl)<|vst 11 rfl (zB 2016 ty.co34 ty.inf34 rfl) (.inl rfl)<|vst 12 rfl (zB 2017 ty.co37 ty.inf37 rfl) (.inl rfl)<|vq 13 (raI rfl)<|fD<|gT ?_
         refine ⟨(),trivial,⟨rfl,rfl,rfl,trivial⟩,⟨rfl,rfl,rfl,rfl,rfl,rfl,trivial⟩,⟨rfl,rfl,rfl,rfl,rfl,rfl,rfl,rfl,trivial⟩,⟨rfl,rfl,rfl,rfl,rfl,rfl,rfl,rfl,rfl,rfl,rfl,rfl,rfl,rfl,rfl,rfl,rfl,rfl,rfl,rfl,rfl,trivial⟩⟩
       ·refine v1 9 Z (zA 2016 ty.ze34 Z) (.inr Z)<|vst 3 Z (zL Tryz.func8 (toEvent_e _) Z) (.inr Z) ?_
        refine vst 4 rfl (zC [(1,2107),(2,2108),(3,2109),(11,2120),(12,2121),(13,2122),(14,2123)] [2120,2121,2122,2123] [1,2,3] Tryz.func9 (lentBk (apply_g x e hwb)) (⟨stays.arr rfl,stays.arr rfl,stays.arr rfl,trivial⟩) rfl rfl) (.inl rfl)<|vq 5 (rmX (.tup [.agg [vI _ _,vI _ _,vI _ _,.own _,.own _,.own _],.agg [vI _ _,.own _],vI _ _]) rfl)<|pq 6 (qxX (.agg [vI _ _,vI _ _,vI _ _,.own _,.own _,.own _]) rfl)<|pq 7 (qxX (.agg [vI _ _,.own _]) rfl)<|pq 8 (qxI rfl)<|vst 11 rfl (zB 2016 ty.co34 ty.inf34 rfl) (.inl rfl)<|vst 12 rfl (zB 2017 ty.co37 ty.inf37 rfl) (.inl rfl)<|vq 13 (raI rfl)<|fD<|gT ?_
        refine ⟨(),trivial,⟨rfl,rfl,rfl,trivial⟩,⟨rfl,rfl,rfl,rfl,rfl,rfl,trivial⟩,⟨rfl,rfl,rfl,rfl,rfl,rfl,rfl,rfl,trivial⟩,⟨rfl,rfl,rfl,rfl,rfl,rfl,rfl,rfl,rfl,rfl,rfl,rfl,rfl,rfl,rfl,rfl,rfl,rfl,rfl,rfl,rfl,trivial⟩⟩
      ·refine v1 9 Z (zA 2016 ty.ze34 Z) (.inr Z)<|vst 1 Z (zC [(1,2107),(2,2108),(3,2109)] [2107,2108,2109] [] Tryz.func7 (toBook_e x hc hh hi) (trivial) Z Z) (.inr Z) ?_
       refine AF.pinA 2107 rfl ?_
       intro uc0
       refine AF.pinA 2108 rfl ?_
       intro uc1
       refine AF.pinA 2109 rfl ?_
       intro uc2
       refine vst 3 rfl (zL Tryz.func8 (toEvent_e _) rfl) (.inr rfl) ?_
       refine vst 4 rfl (zC [(1,2107),(2,2108),(3,2109),(11,2120),(12,2121),(13,2122),(14,2123)] [2120,2121,2122,2123] [1,2,3] Tryz.func9 (lentBk (apply_g x e hwb)) (⟨stays.arr rfl,stays.arr rfl,stays.arr rfl,trivial⟩) rfl rfl) (.inl rfl)<|vq 5 (rmX (.tup [.agg [vI _ _,vI _ _,vI _ _,.own _,.own _,.own _],.agg [vI _ _,.own _],vI _ _]) rfl)<|pq 6 (qxX (.agg [vI _ _,vI _ _,vI _ _,.own _,.own _,.own _]) rfl)<|pq 7 (qxX (.agg [vI _ _,.own _]) rfl)<|pq 8 (qxI rfl)<|vst 11 rfl (zB 2016 ty.co34 ty.inf34 rfl) (.inl rfl)<|vst 12 rfl (zB 2017 ty.co37 ty.inf37 rfl) (.inl rfl)<|vq 13 (raI rfl)<|fD<|gT ?_
       refine ⟨(),trivial,⟨rfl,rfl,rfl,trivial⟩,⟨rfl,rfl,rfl,rfl,rfl,rfl,trivial⟩,⟨rfl,rfl,rfl,rfl,rfl,rfl,rfl,rfl,trivial⟩,⟨rfl,rfl,rfl,rfl,rfl,rfl,rfl,rfl,rfl,rfl,rfl,rfl,rfl,rfl,rfl,rfl,rfl,rfl,rfl,rfl,rfl,trivial⟩⟩
    ·intro jd hJ
     refine aS<|sL<|loX (.agg [vI _ _,vI _ _,vI _ _,.own _,.own _,.own _]) ty.kd34 Z<|loX (.agg [vI _ _,vI _ _,vI _ _,.own _,.own _,.own _]) ty.kd34 Z<|lst (zL Tryz.func10 (eqBook_e _ (by omega) (by omega) (by omega)) rfl) Z<|luZ Z<|lsB 116 false rfl (by first | (simp;done) | (simp;omega))<|lmZ Z<|loX (.agg [vI _ _,.own _]) ty.kd37 Z<|loX (.agg [vI _ _,.own _]) ty.kd37 Z<|lst (zL Tryz.func11 (eqPosting_e _ (by omega)) rfl) Z<|luZ Z<|lsB 121 false rfl (by first | (simp;done) | (simp;omega))<|lkZ Z<|lmZ Z<|lmI Z<|lmI Z<|lbB Z<|lsB 126 false rfl (by first | (simp;done) | (simp;omega))<|lkZ Z<|nG<|aN Z<|aK<|gA<|laI Z<|lN ?_
     refine gA<|loX (.agg [vI _ _,vI _ _,vI _ _,.own _,.own _,.own _]) ty.kd34 Z<|lmI Z<|lst (zL Tryz.func14 (heldBook_e _ _ (by omega) (by omega) (by omega) (by omega)) rfl) Z<|lT [4,11,14,15,130] [vB false,.ptr 2011 _ 0,vI _ _,vI _ _,vI _ _] [2002,2003,2006,2007,2009,2010,2011,2016,2017,2035,2036,2037,2040,2041,2042,2043,2050,2051,2052,2053,2061,2062,2063,2120,2121,2122,2123] [.box _ _ [vI _ _,vI _ _,vI _ _,vL _ _ _,vL _ _ _,vL _ _ _],.box _ _ [vI _ _,vI _ _,vI _ _,vI _ _,vI _ _,vI _ _,vB _],.box _ _ [vI _ _,vI _ _,vI _ _,.own _,.own _,.own _],.box _ _ [vI _ _,.own _],.box _ _ [vI _ _,vI _ _,vI _ _,.own _,.own _,.own _],.box _ _ [vI _ _,vI _ _,vI _ _,.own _,.own _,.own _],.box _ _ [vI _ _,.own _],.box _ _ [vI _ _,vI _ _,vI _ _,.own _,.own _,.own _],.box _ _ [vI _ _,.own _],.arr _ _ _,.arr _ _ _,.arr _ _ _,.arr _ _ _,.arr _ _ _,.arr _ _ _,.arr _ _ _,.arr _ _ _,.arr _ _ _,.arr _ _ _,.arr _ _ _,.arr _ _ _,.arr _ _ _,.arr _ _ _,.arr _ _ _,.arr _ _ _,.arr _ _ _,.arr _ _ _] rfl Z<|laI Z<|nG<|aS<|sL<|lmI Z<|lbB Z<|lsB 132 false rfl (by first | (simp;done) | (simp;omega))<|nG<|aN Z<|aK<|gA<|loX (.agg [vI _ _,.own _]) ty.kd37 Z<|lmI Z<|lst (zL Tryz.func15 (heldPosting_e _ _ (by omega) (by omega)) rfl) Z<|laI Z<|nG<|aS ?_
     refine sL<|lmI Z<|lbB Z<|lsB 137 false rfl (by first | (simp;done) | (simp;omega))<|nG<|aN Z<|aK<|gT<|aS<|sL<|lmI Z<|lmI Z<|lbB Z<|lsB 140 false rfl (by first | (simp;done) | (simp;omega))<|nG<|aN Z<|aK<|gA<|laT Z<|nG<|aR ?_
     refine end_ret ?_ trivial
     rfl
end Go.Proofs.YtohobndkbmpfcaaGreat

/- The law FnExactApply, in the older words. -/
namespace Go.Proofs.YtohobndkbmpfcaaGreat
open Go.RowKit
set_option linter.unusedSimpArgs false
set_option linter.unusedVariables false
theorem lbookRV {x : Book} {w : World} {v0 v1 v2 : Value} (h0 : SlR 7 repChan w 0 w.heap.size v0 x.chans) (h1 : SlR 7 repHtlc w 0 w.heap.size v1 x.htlcs) (h2 : SlR 5 repCircle w 0 w.heap.size v2 x.circles) :
    RV (fun _ => False) (fun _ => undef) (ofO []) w (lbookV x) (.agg #[.int .i64 x.tick,.int .i64 x.next,.int .i64 x.wallet,v0,v1,v2]) := by
  rw [RV]
  refine ⟨[.int .i64 x.tick,.int .i64 x.next,.int .i64 x.wallet,v0,v1,v2],rfl,?_⟩
  simp only [RVL]
  exact ⟨_,_,rfl,RV.v_mk rfl,_,_,rfl,RV.v_mk rfl,_,_,rfl,RV.v_mk rfl,
    _,_,rfl,RV.of_slr h0 (fun _ _ h => h.1) (fun _ => rfl) (by intro c u hu;simp [encChan] at hu;rcases hu with h | h | h | h | h | h | h <;> (subst h;rfl)) (Nat.le_refl _) (fun _ _ _ => no_live),
    _,_,rfl,RV.of_slr h1 (fun _ _ h => h.1) (fun _ => rfl) (by intro c u hu;simp [encHtlc] at hu;rcases hu with h | h | h | h | h | h | h <;> (subst h;rfl)) (Nat.le_refl _) (fun _ _ _ => no_live),
    _,_,rfl,RV.of_slr h2 (fun _ _ h => h.1) (fun _ => rfl) (by intro c u hu;simp [encCircle] at hu;rcases hu with h | h | h | h | h <;> (subst h;rfl)) (Nat.le_refl _) (fun _ _ _ => no_live),rfl⟩
theorem FnExactApply_walk (x : Book) (a0 : Option Addr) (c0 : Nat) (a1 : Option Addr) (c1 : Nat) (a2 : Option Addr) (c2 : Nat) (e : Event) (w : World) (h0 : SlR 7 repChan w 0 w.heap.size (.slice a0 x.chans.length c0) x.chans) (h1 : SlR 7 repHtlc w 0 w.heap.size (.slice a1 x.htlcs.length c1) x.htlcs) (h2 : SlR 5 repCircle w 0 w.heap.size (.slice a2 x.circles.length c2) x.circles) (wf0 : wfBook x) (wf1 : wfEvent e) :
    Calls Tryz.prog 3 #[.agg #[.int .i64 x.tick,.int .i64 x.next,.int .i64 x.wallet,.slice a0 x.chans.length c0,.slice a1 x.htlcs.length c1,.slice a2 x.circles.length c2],.agg #[.int .i64 e.kind,.int .i64 e.key,.int .i64 e.ch,.int .i64 e.to,.int .i64 e.amt,.int .i64 e.fee,.bool e.yes]] w fun r w' => r = .returned (.bool true) ∧ Grow w w' :=
  GC.calls (cs := [_,_]) rfl (FnExactApply_e x e (h0.each fun _ _ _ _ h => h.2) (h1.each fun _ _ _ _ h => h.2) (h2.each fun _ _ _ _ h => h.2) wf1) (by
    simp only [RVL]
    exact ⟨_,_,rfl,lbookRV h0 h1 h2,_,_,rfl,evRV e,rfl⟩)
end Go.Proofs.YtohobndkbmpfcaaGreat

/- The law FnExactApply returns true for every input, and each argument reads afterwards as before. No condition. -/
namespace Go.Proofs.YtohobndkbmpfcaaGreat.fnExactApply
open Go.ChangeShapes Go.WideShapes Go.ChangeAt Go.RowKit Go.Proofs.YtohobndkbmpfcaaGreat
set_option linter.unusedVariables false
theorem own : ownKnob Tryz.prog.godebug = none := by kernel_rfl
theorem laid : laidOutB Tryz.prog = true := by kernel_rfl
theorem readable : ∀ t ∈ [26,28],Tryz.prog.readableRec t = true ∧ t < Tryz.prog.types.size := by
  intro t ht
  simp only [List.mem_cons,List.not_mem_nil,or_false] at ht
  rcases ht with rfl | rfl
  all_goals exact ⟨by kernel_rfl,of_decide_eq_true (by kernel_rfl)⟩
set_option maxRecDepth 100000 in
theorem lifted (os : Os) (started : os.Started) (H : Type) (enc : TypeId × Value → H) :
    ReturnsInHanded {} Tryz.checked os 3 .any (Rows.fnExactApplySpec.pre6 enc Tryz.prog Tryz.f3 Rows.fnExactApplyRow.domain false) (Rows.fnExactApplySpec.post enc Tryz.prog Tryz.f3 false true false false) := by
  refine returnsInHanded_of_change (C := Tryz.checked) own started (by kernel_rfl) Tryz.func3
    (ChangeSpec.witness6 (enc := enc) (C := Tryz.checked) false ⟨#[],#[.agg #[.int .i64 0,.int .i64 0,.int .i64 0,.slice none 0 0,.slice none 0 0,.slice none 0 0],.agg #[.int .i64 0,.int .i64 0,.int .i64 0,.int .i64 0,.int .i64 0,.int .i64 0,.bool false]],[]⟩ 8 (by kernel_rfl) (by kernel_rfl) (by kernel_rfl) (by kernel_rfl)) ?_
  intro W base args ds gs before hval0 hW hcnd _
  have hval : ∀ (j : Nat) t v,Tryz.f3.params[j]? = some t → args[j]? = some v → Value.okWide Tryz.prog W .any base t v := hval0
  have hW' := hW
  obtain ⟨p,q,hA0,hV,rfl,hfz,hnd⟩ := hW
  have hA : DataW.TrodAll enc Tryz.prog W 0 (fun _ => true) true Tryz.f3.params.toList args.toList ds p := hA0
  rw [Tryz.params3] at hA hval
  have hB := hA
  obtain ⟨v0,vs0,d0,ds0,p0,q0,hargs,rfl,rfl,h0,r0⟩ := trodAll_cons hA
  obtain ⟨v1,vs1,d1,ds1,p1,q1,rfl,rfl,rfl,h1,r1⟩ := trodAll_cons r0
  obtain ⟨rfl,rfl,rfl⟩ := trodAll_nil r1
  obtain rfl : args = #[v0,v1] := by cases args;simp_all
  obtain ⟨rfl,rfl⟩ := trodVars_none hV
  obtain ⟨cs0,rfl,_⟩ := okWide_struct Tryz.underlying26 (hval 0 26 v0 rfl rfl)
  obtain ⟨fu0,t0⟩ := h0
  obtain ⟨x0,u0_0,u0_1,u0_2,e0,s0_0,s0_1,s0_2,w0⟩ := trodBook t0
  have e0 : cs0 = #[.int .i64 x0.tick,.int .i64 x0.next,.int .i64 x0.wallet,u0_0,u0_1,u0_2] := Array.ext' (by simpa [Value.cells] using e0)
  subst e0
  obtain ⟨a0_0,c0_0,rfl⟩ : ∃ a c,u0_0 = Value.slice a x0.chans.length c := let ⟨a,c,h,_⟩ := s0_0;⟨a,c,h⟩
  obtain ⟨a0_1,c0_1,rfl⟩ : ∃ a c,u0_1 = Value.slice a x0.htlcs.length c := let ⟨a,c,h,_⟩ := s0_1;⟨a,c,h⟩
  obtain ⟨a0_2,c0_2,rfl⟩ : ∃ a c,u0_2 = Value.slice a x0.circles.length c := let ⟨a,c,h,_⟩ := s0_2;⟨a,c,h⟩
  obtain ⟨cs1,rfl,_⟩ := okWide_struct Tryz.underlying28 (hval 1 28 v1 rfl rfl)
  obtain ⟨fu1,t1⟩ := h1
  obtain ⟨x1,e1,w1⟩ := trodEvent t1
  have e1 : cs1 = #[.int .i64 x1.kind,.int .i64 x1.key,.int .i64 x1.ch,.int .i64 x1.to,.int .i64 x1.amt,.int .i64 x1.fee,.bool x1.yes] := Array.ext' (by simpa [Value.cells,encEvent] using e1)
  subst e1
  clear hA0 hval0
  simp only [List.append_nil] at hW'
  refine (FnExactApply_walk x0 a0_0 c0_0 a0_1 c0_1 a0_2 c0_2 x1 W s0_0 s0_1 s0_2 w0 w1).mono fun e W' ⟨he,hg⟩ => ?_
  subst he
  exact ⟨_,rfl,_,_,_,_,_,[],hW',trodAll_mk1 (shut_bool Tryz.underlying4 true),
    trodAll_below laid hg.below (readable) hB,rfl,hg.below.frame _,fun h => by cases h⟩
theorem over : Rows.fnExactApplyRow.holds Tryz.pinned (OpenSpec.ofChange Rows.fnExactApplySpec) :=
  OpenClaim.holds_of_wide 3 Tryz.f3 rfl rfl rfl rfl rfl rfl rfl ⟨rfl,rfl,rfl,rfl,rfl⟩ rfl rfl rfl rfl rfl (by kernel_rfl) Tryz.func3 (by kernel_rfl)
    (of_decide_eq_true (by kernel_rfl)) (by unfold Func.isWrapper;first | (rw [if_pos (by decide +kernel)];kernel_rfl) | (rw [if_neg (by decide +kernel)];exact ⟨rfl,rfl⟩))
    (fun os started H enc _ => lifted os started H enc)
theorem proved : Rows.FnExactApplySaid :=
  over
#print axioms proved
end Go.Proofs.YtohobndkbmpfcaaGreat.fnExactApply
