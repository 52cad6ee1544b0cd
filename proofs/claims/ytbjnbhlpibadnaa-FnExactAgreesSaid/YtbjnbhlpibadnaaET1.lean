/- Accounts, lines and ledgers, of the program and of the reference, over data. -/
import Derived.Test.YtbjnbhlpibadnaaET
import Derived.Test.YtbjnbhlpibadnaaDat
import Derived.Test.YtbjnbhlpibadnaaNum
import Derived.Test.YtbjnbhlpibadnaaBook2
namespace Go.Proofs.Ytbjnbhlpibadnaa
open Go.RowKit
set_option linter.unusedSimpArgs false
set_option linter.unusedVariables false

def accOk (a : Acc) : Bool := if inB a.kind 6 8 = true then inB a.ch 1 99 else inB a.kind 1 5 && (a.ch == 0)
def lessA (a b : Acc) : Bool := decide (a.kind < b.kind) || ((a.kind == b.kind) && decide (a.ch < b.ch))
def rangeA (n : Int) : Bool := inB n (-1125899906842624) 1125899906842624
def prevOk (l : List Line) (i : Nat) (x : Line) : Bool := match i with | 0 => true | j + 1 => match l[j]? with | some y => lessA y.acc x.acc | none => true
def lineAt (l : List Line) (i : Nat) : Bool := match l[i]? with | some x => accOk x.acc && !(x.amt == 0) && rangeA x.amt && prevOk l i x | none => true
def amtOf (x : Line) : Int := x.amt
def linesOk (l : List Line) : Bool := (List.range l.length).all (lineAt l) && (tot amtOf l == 0)
def ledgerOk (x : Ledger) : Bool := inB x.last 0 1125899906842624 && decide (x.lines.length ≤ 320) && linesOk x.lines
def balAt (l : List Line) (a : Acc) : Int := match l with | [] => 0 | x :: r => if x.acc.kind = a.kind ∧ x.acc.ch = a.ch then x.amt else balAt r a
def balance (x : Ledger) (a : Acc) : Int := if ledgerOk x && accOk a then balAt x.lines a else 0
theorem dec_beq (x y : Int) : decide (x = y) = (x == y) := by by_cases h : x = y <;> simp [h]
theorem accOk_iff {a : Acc} : accOk a = true ↔ (1 ≤ a.kind ∧ a.kind ≤ 5 ∧ a.ch = 0) ∨ (6 ≤ a.kind ∧ a.kind ≤ 8 ∧ 1 ≤ a.ch ∧ a.ch ≤ 99) := by
  unfold accOk
  by_cases h : inB a.kind 6 8 = true
  · rw [if_pos h]
    have := inB_true.1 h
    rw [inB_true]; omega
  · rw [if_neg h, Bool.and_eq_true, inB_true, beq_iff_eq]
    have h' := inB_false.1 (by simpa using h)
    omega
theorem lineAt_eq {l : List Line} {k : Nat} (h : k < l.length) : lineAt l k = (accOk l[k].acc && !(l[k].amt == 0) && rangeA l[k].amt && prevOk l k l[k]) := by
  unfold lineAt; rw [List.getElem?_eq_getElem h]
theorem linesOk_no {l : List Line} {k : Nat} (h : k < l.length) (h2 : lineAt l k = false) : linesOk l = false := by
  unfold linesOk
  rw [show (List.range l.length).all (lineAt l) = false from List.all_eq_false.2 ⟨k, by simpa using h, by simp [h2]⟩]
  rfl
theorem linesOk_yes {l : List Line} (h : ∀ j, j < l.length → lineAt l j = true) : linesOk l = (tot amtOf l == 0) := by
  unfold linesOk
  rw [show (List.range l.length).all (lineAt l) = true from List.all_eq_true.2 fun j hj => h j (by simpa using hj)]
  rfl
theorem prevOk_pos {l : List Line} {k : Nat} {x : Line} (h0 : 0 < k) (h : k < l.length) : prevOk l k x = lessA (l[k - 1]'(by omega)).acc x.acc := by
  obtain ⟨j, rfl⟩ : ∃ j, k = j + 1 := ⟨k - 1, by omega⟩
  show (match l[j]? with | some y => lessA y.acc x.acc | none => true) = _
  rw [List.getElem?_eq_getElem (by omega : j < l.length)]
  rfl
theorem amts_bd {l : List Line} : ∀ (k : Nat), k ≤ l.length → (∀ j, j < k → lineAt l j = true) → -((k : Int) * 1125899906842624) ≤ tot amtOf (l.take k) ∧ tot amtOf (l.take k) ≤ (k : Int) * 1125899906842624
  | 0, _, _ => by simp [tot]
  | k + 1, hk, h => by
    have ih := amts_bd k (by omega) (fun j hj => h j (by omega))
    have hl := h k (by omega)
    rw [lineAt_eq (by omega : k < l.length)] at hl
    simp only [Bool.and_eq_true] at hl
    have hr := inB_true.1 hl.1.2
    rw [tot_succ amtOf l (by omega : k < l.length)]
    unfold amtOf at *
    push_cast
    omega
theorem sum_fit {l : List Line} {k : Nat} (hn : l.length ≤ 1000) (hk : k < l.length) (h : ∀ j, j < k → lineAt l j = true) (hr : rangeA l[k].amt = true) : Fits .i64 (tot amtOf (l.take k) + l[k].amt) := by
  have := amts_bd k (by omega) h
  have := inB_true.1 hr
  refine fits_i64 ?_
  unfold i64
  omega

set_option maxHeartbeats 4000000 in
set_option maxRecDepth 100000 in
theorem in_e (a b c : Int) : GC Try.prog 85 [int a, int b, int c] [] (boo (inB a b c)) [] := by
  refine GC.intro (rs := [.tmp 6]) Try.func85 rfl Try.ntmps85 (Nat.le_of_ble_eq_true rfl) ⟨rfl, trivial⟩ ?_
  intro L O w0
  refine AW.seq ?_
  refine AW.list ?_
  refine AL.rd (x := .p (.v (.bool false))) (rd_mvx (Or.inr rfl) rfl) rfl rfl (by decide) ?_
  refine AL.nil ?_
  refine go_then ?_
  refine AW.seq ?_
  refine AW.list ?_
  refine AL.rd (x := .p (.v (.int _ _))) (rd_mvx (Or.inl rfl) rfl) rfl rfl (by decide) ?_
  refine AL.rd (x := .p (.v (.int _ _))) (rd_mvx (Or.inl rfl) rfl) rfl rfl (by decide) ?_
  refine AL.rd (x := .p (.v (.bool _))) (rd_bin rfl rfl rfl) rfl rfl (by decide) ?_
  refine AL.rd (x := .p (.v (.bool _))) (rd_mvx (Or.inl rfl) rfl) rfl rfl (by decide) ?_
  refine AL.bool (t := 10) rfl ?_ ?_
  · intro h1
    refine AL.rd (x := .p (.v (.int _ _))) (rd_mvx (Or.inl rfl) rfl) rfl rfl (by decide) ?_
    refine AL.tidy [(2, .p (.v (.int _ _))), (6, .p (.v (.bool false))), (10, .p (.v (.bool true))), (11, .p (.v (.int _ _)))] [] ⟨rfl, rfl, rfl, rfl, trivial⟩ trivial ?_
    refine AL.rd (x := .p (.v (.int _ _))) (rd_mvx (Or.inl rfl) rfl) rfl rfl (by decide) ?_
    refine AL.rd (x := .p (.v (.bool _))) (rd_bin rfl rfl rfl) rfl rfl (by decide) ?_
    refine AL.rd (x := .p (.v (.bool _))) (rd_pick rfl rfl) rfl rfl (by decide) ?_
    refine AL.rd (x := .p (.v (.bool _))) (rd_mvx (Or.inr rfl) rfl) rfl rfl (by decide) ?_
    refine AL.nil ?_
    refine go_then ?_
    refine AW.ret ?_
    refine end_ret ?_ trivial
    refine congrArg (fun b => some (boo b)) ?_
    first | rfl | (simp_all [inB]; done) | (simp_all [inB]; omega)
  · intro h1
    refine AL.no rfl rfl (by decide) ?_
    refine AL.no rfl rfl (by decide) ?_
    refine AL.no rfl rfl (by decide) ?_
    refine AL.rd (x := .p (.v (.bool false))) (rd_pick rfl rfl) rfl rfl (by decide) ?_
    refine AL.rd (x := .p (.v (.bool false))) (rd_mvx (Or.inr rfl) rfl) rfl rfl (by decide) ?_
    refine AL.tidy [(6, .p (.v (.bool false)))] [] ⟨rfl, trivial⟩ trivial ?_
    refine AL.nil ?_
    refine go_then ?_
    refine AW.ret ?_
    refine end_ret ?_ trivial
    refine congrArg (fun b => some (boo b)) ?_
    first | rfl | (simp_all [inB]; done) | (simp_all [inB]; omega)

set_option maxHeartbeats 4000000 in
set_option maxRecDepth 100000 in
theorem accOk_e (a : Acc) : GC Try.prog 110 [.agg [int a.kind, int a.ch]] [] (boo (accOk a)) [] := by
  refine GC.intro (rs := [.tmp 2]) Try.func110 rfl Try.ntmps110 (Nat.le_of_ble_eq_true rfl) ⟨rfl, trivial⟩ ?_
  intro L O w0
  refine AW.seq ?_
  refine AW.list ?_
  refine AL.st (St.box 1000 rfl rfl (by decide) rfl) rfl ?_
  refine AL.tidy [(1, .ptr 1000 _ 0)] [(1000, .box _ _ [.p (.v (.int _ _)), .p (.v (.int _ _))])] ⟨rfl, trivial⟩ ⟨rfl, trivial⟩ ?_
  refine AL.rd (x := .p (.v (.bool false))) (rd_mvx (Or.inr rfl) rfl) rfl rfl (by decide) ?_
  refine AL.nil ?_
  refine go_then ?_
  refine AW.seq ?_
  refine AW.seq ?_
  refine AW.list ?_
  refine AL.rd (x := .ptr 1000 _ 0) (rd_faddr rfl ty.fl105_0 ty.nz3 ty.is3 rfl rfl) rfl rfl (by decide) ?_
  refine AL.rd (x := .p (.v (.int _ _))) (rd_load_box rfl ty.kd3 rfl rfl rfl rfl) rfl rfl (by decide) ?_
  refine AL.st (St.call [] [] [] rfl (by intro s hs; cases hs; decide) rfl Try.func85 rfl rfl (in_e _ _ _) ⟨rfl, rfl, rfl⟩ (trivial) (trivial) rfl) rfl ?_
  refine AL.tidy [(1, .ptr 1000 _ 0), (2, .p (.v (.bool false))), (5, .p (.v (.bool _)))] [(1000, .box _ _ [.p (.v (.int _ _)), .p (.v (.int _ _))])] ⟨rfl, rfl, rfl, trivial⟩ ⟨rfl, trivial⟩ ?_
  refine AL.nil ?_
  refine go_then ?_
  refine AW.cond rfl ?_ ?_
  · intro h1
    refine AW.seq ?_
    refine AW.list ?_
    refine AL.rd (x := .ptr 1000 _ 1) (rd_faddr rfl ty.fl105_1 ty.nz3 ty.is3 rfl rfl) rfl rfl (by decide) ?_
    refine AL.rd (x := .p (.v (.int _ _))) (rd_load_box rfl ty.kd3 rfl rfl rfl rfl) rfl rfl (by decide) ?_
    refine AL.st (St.call [] [] [] rfl (by intro s hs; cases hs; decide) rfl Try.func85 rfl rfl (in_e _ _ _) ⟨rfl, rfl, rfl⟩ (trivial) (trivial) rfl) rfl ?_
    refine AL.tidy [(1, .ptr 1000 _ 0), (2, .p (.v (.bool false))), (8, .p (.v (.bool _)))] [(1000, .box _ _ [.p (.v (.int _ _)), .p (.v (.int _ _))])] ⟨rfl, rfl, rfl, trivial⟩ ⟨rfl, trivial⟩ ?_
    refine AL.rd (x := .p (.v (.bool _))) (rd_mvx (Or.inr rfl) rfl) rfl rfl (by decide) ?_
    refine AL.nil ?_
    refine go_then ?_
    refine AW.ret ?_
    refine ret_then ?_
    refine end_ret ?_ trivial
    refine congrArg (fun b => some (boo b)) ?_
    first | rfl | (simp_all [accOk, dec_beq]; done) | (simp_all [accOk, inB]; omega)
  · intro h1
    refine AW.skip ?_
    refine go_then ?_
    refine AW.seq ?_
    refine AW.list ?_
    refine AL.rd (x := .ptr 1000 _ 0) (rd_faddr rfl ty.fl105_0 ty.nz3 ty.is3 rfl rfl) rfl rfl (by decide) ?_
    refine AL.rd (x := .p (.v (.int _ _))) (rd_load_box rfl ty.kd3 rfl rfl rfl rfl) rfl rfl (by decide) ?_
    refine AL.st (St.call [] [] [] rfl (by intro s hs; cases hs; decide) rfl Try.func85 rfl rfl (in_e _ _ _) ⟨rfl, rfl, rfl⟩ (trivial) (trivial) rfl) rfl ?_
    refine AL.tidy [(1, .ptr 1000 _ 0), (2, .p (.v (.bool false))), (11, .p (.v (.bool _)))] [(1000, .box _ _ [.p (.v (.int _ _)), .p (.v (.int _ _))])] ⟨rfl, rfl, rfl, trivial⟩ ⟨rfl, trivial⟩ ?_
    refine AL.rd (x := .p (.v (.bool _))) (rd_mvx (Or.inl rfl) rfl) rfl rfl (by decide) ?_
    refine AL.bool (t := 12) rfl ?_ ?_
    · intro h2
      refine AL.rd (x := .ptr 1000 _ 1) (rd_faddr rfl ty.fl105_1 ty.nz3 ty.is3 rfl rfl) rfl rfl (by decide) ?_
      refine AL.rd (x := .p (.v (.int _ _))) (rd_load_box rfl ty.kd3 rfl rfl rfl rfl) rfl rfl (by decide) ?_
      refine AL.rd (x := .p (.v (.bool _))) (rd_bin rfl rfl rfl) rfl rfl (by decide) ?_
      refine AL.rd (x := .p (.v (.bool _))) (rd_pick rfl rfl) rfl rfl (by decide) ?_
      refine AL.rd (x := .p (.v (.bool _))) (rd_mvx (Or.inr rfl) rfl) rfl rfl (by decide) ?_
      refine AL.tidy [(2, .p (.v (.bool _)))] [(1000, .box _ _ [.p (.v (.int _ _)), .p (.v (.int _ _))])] ⟨rfl, trivial⟩ ⟨rfl, trivial⟩ ?_
      refine AL.nil ?_
      refine go_then ?_
      refine AW.ret ?_
      refine end_ret ?_ trivial
      refine congrArg (fun b => some (boo b)) ?_
      first | rfl | (simp_all [accOk, dec_beq]; done) | (simp_all [accOk, inB]; omega)
    · intro h2
      refine AL.no rfl rfl (by decide) ?_
      refine AL.no rfl rfl (by decide) ?_
      refine AL.no rfl rfl (by decide) ?_
      refine AL.rd (x := .p (.v (.bool false))) (rd_pick rfl rfl) rfl rfl (by decide) ?_
      refine AL.rd (x := .p (.v (.bool false))) (rd_mvx (Or.inr rfl) rfl) rfl rfl (by decide) ?_
      refine AL.nil ?_
      refine go_then ?_
      refine AW.ret ?_
      refine end_ret ?_ trivial
      refine congrArg (fun b => some (boo b)) ?_
      first | rfl | (simp_all [accOk, dec_beq]; done) | (simp_all [accOk, inB]; omega)

set_option maxHeartbeats 4000000 in
set_option maxRecDepth 100000 in
theorem saccOk_e (a : Acc) : GC Try.prog 100 [.agg [int a.kind, int a.ch]] [] (boo (accOk a)) [] := by
  refine GC.intro (rs := [.tmp 2]) Try.func100 rfl Try.ntmps100 (Nat.le_of_ble_eq_true rfl) ⟨rfl, trivial⟩ ?_
  intro L O w0
  refine AW.seq ?_
  refine AW.list ?_
  refine AL.st (St.box 1000 rfl rfl (by decide) rfl) rfl ?_
  refine AL.tidy [(1, .ptr 1000 _ 0)] [(1000, .box _ _ [.p (.v (.int _ _)), .p (.v (.int _ _))])] ⟨rfl, trivial⟩ ⟨rfl, trivial⟩ ?_
  refine AL.rd (x := .p (.v (.bool false))) (rd_mvx (Or.inr rfl) rfl) rfl rfl (by decide) ?_
  refine AL.nil ?_
  refine go_then ?_
  refine AW.seq ?_
  refine AW.seq ?_
  refine AW.list ?_
  refine AL.rd (x := .ptr 1000 _ 0) (rd_faddr rfl ty.fl105_0 ty.nz3 ty.is3 rfl rfl) rfl rfl (by decide) ?_
  refine AL.rd (x := .p (.v (.int _ _))) (rd_load_box rfl ty.kd3 rfl rfl rfl rfl) rfl rfl (by decide) ?_
  refine AL.rd (x := .p (.v (.bool _))) (rd_bin rfl rfl rfl) rfl rfl (by decide) ?_
  refine AL.rd (x := .p (.v (.bool _))) (rd_mvx (Or.inl rfl) rfl) rfl rfl (by decide) ?_
  refine AL.bool (t := 6) rfl ?_ ?_
  · intro h1
    refine AL.no rfl rfl (by decide) ?_
    refine AL.no rfl rfl (by decide) ?_
    refine AL.no rfl rfl (by decide) ?_
    refine AL.rd (x := .p (.v (.bool true))) (rd_pick rfl rfl) rfl rfl (by decide) ?_
    refine AL.tidy [(1, .ptr 1000 _ 0), (2, .p (.v (.bool false))), (10, .p (.v (.bool true)))] [(1000, .box _ _ [.p (.v (.int _ _)), .p (.v (.int _ _))])] ⟨rfl, rfl, rfl, trivial⟩ ⟨rfl, trivial⟩ ?_
    refine AL.nil ?_
    refine go_then ?_
    refine AW.yes rfl ?_
    refine AW.seq ?_
    refine AW.list ?_
    refine AL.rd (x := .p (.v (.bool false))) (rd_mvx (Or.inr rfl) rfl) rfl rfl (by decide) ?_
    refine AL.nil ?_
    refine go_then ?_
    refine AW.ret ?_
    refine ret_then ?_
    refine end_ret ?_ trivial
    refine congrArg (fun b => some (boo b)) ?_
    refine Bool.eq_iff_iff.2 ?_
    rw [accOk_iff]
    simp only [decide_eq_true_eq, decide_eq_false_iff_not, Bool.false_eq_true, false_iff, true_iff] at *
    omega
  · intro h1
    refine AL.rd (x := .ptr 1000 _ 0) (rd_faddr rfl ty.fl105_0 ty.nz3 ty.is3 rfl rfl) rfl rfl (by decide) ?_
    refine AL.rd (x := .p (.v (.int _ _))) (rd_load_box rfl ty.kd3 rfl rfl rfl rfl) rfl rfl (by decide) ?_
    refine AL.rd (x := .p (.v (.bool _))) (rd_bin rfl rfl rfl) rfl rfl (by decide) ?_
    refine AL.rd (x := .p (.v (.bool _))) (rd_pick rfl rfl) rfl rfl (by decide) ?_
    refine AL.nil ?_
    refine go_then ?_
    refine AW.cond rfl ?_ ?_
    · intro h2
      refine AW.seq ?_
      refine AW.list ?_
      refine AL.rd (x := .p (.v (.bool false))) (rd_mvx (Or.inr rfl) rfl) rfl rfl (by decide) ?_
      refine AL.tidy [(1, .ptr 1000 _ 0), (2, .p (.v (.bool false)))] [(1000, .box _ _ [.p (.v (.int _ _)), .p (.v (.int _ _))])] ⟨rfl, rfl, trivial⟩ ⟨rfl, trivial⟩ ?_
      refine AL.nil ?_
      refine go_then ?_
      refine AW.ret ?_
      refine ret_then ?_
      refine end_ret ?_ trivial
      refine congrArg (fun b => some (boo b)) ?_
      refine Bool.eq_iff_iff.2 ?_
      rw [accOk_iff]
      simp only [decide_eq_true_eq, decide_eq_false_iff_not, Bool.false_eq_true, false_iff, true_iff] at *
      omega
    · intro h2
      refine AW.skip ?_
      refine go_then ?_
      refine AW.seq ?_
      refine AW.seq ?_
      refine AW.list ?_
      refine AL.rd (x := .ptr 1000 _ 0) (rd_faddr rfl ty.fl105_0 ty.nz3 ty.is3 rfl rfl) rfl rfl (by decide) ?_
      refine AL.rd (x := .p (.v (.int _ _))) (rd_load_box rfl ty.kd3 rfl rfl rfl rfl) rfl rfl (by decide) ?_
      refine AL.rd (x := .p (.v (.bool _))) (rd_bin rfl rfl rfl) rfl rfl (by decide) ?_
      refine AL.nil ?_
      refine go_then ?_
      refine AW.cond rfl ?_ ?_
      · intro h3
        refine AW.seq ?_
        refine AW.list ?_
        refine AL.rd (x := .ptr 1000 _ 1) (rd_faddr rfl ty.fl105_1 ty.nz3 ty.is3 rfl rfl) rfl rfl (by decide) ?_
        refine AL.rd (x := .p (.v (.int _ _))) (rd_load_box rfl ty.kd3 rfl rfl rfl rfl) rfl rfl (by decide) ?_
        refine AL.rd (x := .p (.v (.bool _))) (rd_bin rfl rfl rfl) rfl rfl (by decide) ?_
        refine AL.tidy [(1, .ptr 1000 _ 0), (2, .p (.v (.bool false))), (16, .p (.v (.bool _)))] [(1000, .box _ _ [.p (.v (.int _ _)), .p (.v (.int _ _))])] ⟨rfl, rfl, rfl, trivial⟩ ⟨rfl, trivial⟩ ?_
        refine AL.rd (x := .p (.v (.bool _))) (rd_mvx (Or.inr rfl) rfl) rfl rfl (by decide) ?_
        refine AL.nil ?_
        refine go_then ?_
        refine AW.ret ?_
        refine ret_then ?_
        refine end_ret ?_ trivial
        refine congrArg (fun b => some (boo b)) ?_
        refine Bool.eq_iff_iff.2 ?_
        rw [accOk_iff]
        simp only [decide_eq_true_eq, decide_eq_false_iff_not, Bool.false_eq_true, false_iff, true_iff] at *
        omega
      · intro h3
        refine AW.skip ?_
        refine go_then ?_
        refine AW.seq ?_
        refine AW.list ?_
        refine AL.rd (x := .ptr 1000 _ 1) (rd_faddr rfl ty.fl105_1 ty.nz3 ty.is3 rfl rfl) rfl rfl (by decide) ?_
        refine AL.rd (x := .p (.v (.int _ _))) (rd_load_box rfl ty.kd3 rfl rfl rfl rfl) rfl rfl (by decide) ?_
        refine AL.rd (x := .p (.v (.bool _))) (rd_bin rfl rfl rfl) rfl rfl (by decide) ?_
        refine AL.rd (x := .p (.v (.bool _))) (rd_mvx (Or.inl rfl) rfl) rfl rfl (by decide) ?_
        refine AL.bool (t := 20) rfl ?_ ?_
        · intro h4
          refine AL.rd (x := .ptr 1000 _ 1) (rd_faddr rfl ty.fl105_1 ty.nz3 ty.is3 rfl rfl) rfl rfl (by decide) ?_
          refine AL.tidy [(2, .p (.v (.bool false))), (20, .p (.v (.bool true))), (21, .ptr 1000 _ 1)] [(1000, .box _ _ [.p (.v (.int _ _)), .p (.v (.int _ _))])] ⟨rfl, rfl, rfl, trivial⟩ ⟨rfl, trivial⟩ ?_
          refine AL.rd (x := .p (.v (.int _ _))) (rd_load_box rfl ty.kd3 rfl rfl rfl rfl) rfl rfl (by decide) ?_
          refine AL.rd (x := .p (.v (.bool _))) (rd_bin rfl rfl rfl) rfl rfl (by decide) ?_
          refine AL.rd (x := .p (.v (.bool _))) (rd_pick rfl rfl) rfl rfl (by decide) ?_
          refine AL.rd (x := .p (.v (.bool _))) (rd_mvx (Or.inr rfl) rfl) rfl rfl (by decide) ?_
          refine AL.nil ?_
          refine go_then ?_
          refine AW.ret ?_
          refine end_ret ?_ trivial
          refine congrArg (fun b => some (boo b)) ?_
          refine Bool.eq_iff_iff.2 ?_
          rw [accOk_iff]
          simp only [decide_eq_true_eq, decide_eq_false_iff_not, Bool.false_eq_true, false_iff, true_iff] at *
          omega
        · intro h4
          refine AL.no rfl rfl (by decide) ?_
          refine AL.no rfl rfl (by decide) ?_
          refine AL.no rfl rfl (by decide) ?_
          refine AL.rd (x := .p (.v (.bool false))) (rd_pick rfl rfl) rfl rfl (by decide) ?_
          refine AL.rd (x := .p (.v (.bool false))) (rd_mvx (Or.inr rfl) rfl) rfl rfl (by decide) ?_
          refine AL.tidy [(2, .p (.v (.bool false)))] [(1000, .box _ _ [.p (.v (.int _ _)), .p (.v (.int _ _))])] ⟨rfl, trivial⟩ ⟨rfl, trivial⟩ ?_
          refine AL.nil ?_
          refine go_then ?_
          refine AW.ret ?_
          refine end_ret ?_ trivial
          refine congrArg (fun b => some (boo b)) ?_
          refine Bool.eq_iff_iff.2 ?_
          rw [accOk_iff]
          simp only [decide_eq_true_eq, decide_eq_false_iff_not, Bool.false_eq_true, false_iff, true_iff] at *
          omega

set_option maxHeartbeats 4000000 in
set_option maxRecDepth 100000 in
theorem lessA_e (a b : Acc) : GC Try.prog 126 [.agg [int a.kind, int a.ch], .agg [int b.kind, int b.ch]] [] (boo (lessA a b)) [] := by
  refine GC.intro (rs := [.tmp 4]) Try.func126 rfl Try.ntmps126 (Nat.le_of_ble_eq_true rfl) ⟨rfl, trivial⟩ ?_
  intro L O w0
  refine AW.seq ?_
  refine AW.list ?_
  refine AL.st (St.box 1000 rfl rfl (by decide) rfl) rfl ?_
  refine AL.tidy [(1, .agg [.p (.v (.int _ _)), .p (.v (.int _ _))]), (2, .ptr 1000 _ 0)] [(1000, .box _ _ [.p (.v (.int _ _)), .p (.v (.int _ _))])] ⟨rfl, rfl, trivial⟩ ⟨rfl, trivial⟩ ?_
  refine AL.st (St.box 1001 rfl rfl (by decide) rfl) rfl ?_
  refine AL.tidy [(2, .ptr 1000 _ 0), (3, .ptr 1001 _ 0)] [(1000, .box _ _ [.p (.v (.int _ _)), .p (.v (.int _ _))]), (1001, .box _ _ [.p (.v (.int _ _)), .p (.v (.int _ _))])] ⟨rfl, rfl, trivial⟩ ⟨rfl, rfl, trivial⟩ ?_
  refine AL.rd (x := .p (.v (.bool false))) (rd_mvx (Or.inr rfl) rfl) rfl rfl (by decide) ?_
  refine AL.nil ?_
  refine go_then ?_
  refine AW.seq ?_
  refine AW.list ?_
  refine AL.rd (x := .ptr 1000 _ 0) (rd_faddr rfl ty.fl105_0 ty.nz3 ty.is3 rfl rfl) rfl rfl (by decide) ?_
  refine AL.rd (x := .p (.v (.int _ _))) (rd_load_box rfl ty.kd3 rfl rfl rfl rfl) rfl rfl (by decide) ?_
  refine AL.rd (x := .ptr 1001 _ 0) (rd_faddr rfl ty.fl105_0 ty.nz3 ty.is3 rfl rfl) rfl rfl (by decide) ?_
  refine AL.rd (x := .p (.v (.int _ _))) (rd_load_box rfl ty.kd3 rfl rfl rfl rfl) rfl rfl (by decide) ?_
  refine AL.rd (x := .p (.v (.bool _))) (rd_bin rfl rfl rfl) rfl rfl (by decide) ?_
  refine AL.tidy [(2, .ptr 1000 _ 0), (3, .ptr 1001 _ 0), (4, .p (.v (.bool false))), (9, .p (.v (.bool _)))] [(1000, .box _ _ [.p (.v (.int _ _)), .p (.v (.int _ _))]), (1001, .box _ _ [.p (.v (.int _ _)), .p (.v (.int _ _))])] ⟨rfl, rfl, rfl, rfl, trivial⟩ ⟨rfl, rfl, trivial⟩ ?_
  refine AL.rd (x := .p (.v (.bool _))) (rd_mvx (Or.inl rfl) rfl) rfl rfl (by decide) ?_
  refine AL.bool (t := 10) rfl ?_ ?_
  · intro h1
    refine AL.no rfl rfl (by decide) ?_
    refine AL.no rfl rfl (by decide) ?_
    refine AL.no rfl rfl (by decide) ?_
    refine AL.no rfl rfl (by decide) ?_
    refine AL.no rfl rfl (by decide) ?_
    refine AL.no rfl rfl (by decide) ?_
    refine AL.no rfl rfl (by decide) ?_
    refine AL.no rfl rfl (by decide) ?_
    refine AL.no rfl rfl (by decide) ?_
    refine AL.no rfl rfl (by decide) ?_
    refine AL.no rfl rfl (by decide) ?_
    refine AL.no rfl rfl (by decide) ?_
    refine AL.rd (x := .p (.v (.bool true))) (rd_pick rfl rfl) rfl rfl (by decide) ?_
    refine AL.rd (x := .p (.v (.bool true))) (rd_mvx (Or.inr rfl) rfl) rfl rfl (by decide) ?_
    refine AL.nil ?_
    refine go_then ?_
    refine AW.ret ?_
    refine end_ret ?_ trivial
    refine congrArg (fun b => some (boo b)) ?_
    unfold lessA; simp_all
  · intro h1
    refine AL.rd (x := .ptr 1000 _ 0) (rd_faddr rfl ty.fl105_0 ty.nz3 ty.is3 rfl rfl) rfl rfl (by decide) ?_
    refine AL.rd (x := .p (.v (.int _ _))) (rd_load_box rfl ty.kd3 rfl rfl rfl rfl) rfl rfl (by decide) ?_
    refine AL.rd (x := .ptr 1001 _ 0) (rd_faddr rfl ty.fl105_0 ty.nz3 ty.is3 rfl rfl) rfl rfl (by decide) ?_
    refine AL.tidy [(2, .ptr 1000 _ 0), (3, .ptr 1001 _ 0), (4, .p (.v (.bool false))), (10, .p (.v (.bool false))), (12, .p (.v (.int _ _))), (13, .ptr 1001 _ 0)] [(1000, .box _ _ [.p (.v (.int _ _)), .p (.v (.int _ _))]), (1001, .box _ _ [.p (.v (.int _ _)), .p (.v (.int _ _))])] ⟨rfl, rfl, rfl, rfl, rfl, rfl, trivial⟩ ⟨rfl, rfl, trivial⟩ ?_
    refine AL.rd (x := .p (.v (.int _ _))) (rd_load_box rfl ty.kd3 rfl rfl rfl rfl) rfl rfl (by decide) ?_
    refine AL.rd (x := .p (.v (.bool _))) (rd_bin rfl rfl rfl) rfl rfl (by decide) ?_
    refine AL.rd (x := .p (.v (.bool _))) (rd_mvx (Or.inl rfl) rfl) rfl rfl (by decide) ?_
    refine AL.bool (t := 16) rfl ?_ ?_
    · intro h2
      refine AL.rd (x := .ptr 1000 _ 1) (rd_faddr rfl ty.fl105_1 ty.nz3 ty.is3 rfl rfl) rfl rfl (by decide) ?_
      refine AL.rd (x := .p (.v (.int _ _))) (rd_load_box rfl ty.kd3 rfl rfl rfl rfl) rfl rfl (by decide) ?_
      refine AL.rd (x := .ptr 1001 _ 1) (rd_faddr rfl ty.fl105_1 ty.nz3 ty.is3 rfl rfl) rfl rfl (by decide) ?_
      refine AL.tidy [(4, .p (.v (.bool false))), (10, .p (.v (.bool false))), (16, .p (.v (.bool true))), (18, .p (.v (.int _ _))), (19, .ptr 1001 _ 1)] [(1000, .box _ _ [.p (.v (.int _ _)), .p (.v (.int _ _))]), (1001, .box _ _ [.p (.v (.int _ _)), .p (.v (.int _ _))])] ⟨rfl, rfl, rfl, rfl, rfl, trivial⟩ ⟨rfl, rfl, trivial⟩ ?_
      refine AL.rd (x := .p (.v (.int _ _))) (rd_load_box rfl ty.kd3 rfl rfl rfl rfl) rfl rfl (by decide) ?_
      refine AL.rd (x := .p (.v (.bool _))) (rd_bin rfl rfl rfl) rfl rfl (by decide) ?_
      refine AL.rd (x := .p (.v (.bool _))) (rd_pick rfl rfl) rfl rfl (by decide) ?_
      refine AL.rd (x := .p (.v (.bool _))) (rd_pick rfl rfl) rfl rfl (by decide) ?_
      refine AL.rd (x := .p (.v (.bool _))) (rd_mvx (Or.inr rfl) rfl) rfl rfl (by decide) ?_
      refine AL.nil ?_
      refine go_then ?_
      refine AW.ret ?_
      refine end_ret ?_ trivial
      refine congrArg (fun b => some (boo b)) ?_
      unfold lessA; simp_all
    · intro h2
      refine AL.no rfl rfl (by decide) ?_
      refine AL.no rfl rfl (by decide) ?_
      refine AL.no rfl rfl (by decide) ?_
      refine AL.no rfl rfl (by decide) ?_
      refine AL.no rfl rfl (by decide) ?_
      refine AL.rd (x := .p (.v (.bool false))) (rd_pick rfl rfl) rfl rfl (by decide) ?_
      refine AL.tidy [(4, .p (.v (.bool false))), (10, .p (.v (.bool false))), (22, .p (.v (.bool false)))] [(1000, .box _ _ [.p (.v (.int _ _)), .p (.v (.int _ _))]), (1001, .box _ _ [.p (.v (.int _ _)), .p (.v (.int _ _))])] ⟨rfl, rfl, rfl, trivial⟩ ⟨rfl, rfl, trivial⟩ ?_
      refine AL.rd (x := .p (.v (.bool false))) (rd_pick rfl rfl) rfl rfl (by decide) ?_
      refine AL.rd (x := .p (.v (.bool false))) (rd_mvx (Or.inr rfl) rfl) rfl rfl (by decide) ?_
      refine AL.nil ?_
      refine go_then ?_
      refine AW.ret ?_
      refine end_ret ?_ trivial
      refine congrArg (fun b => some (boo b)) ?_
      unfold lessA; simp_all

set_option maxHeartbeats 4000000 in
set_option maxRecDepth 100000 in
theorem slessA_e (a b : Acc) : GC Try.prog 121 [.agg [int a.kind, int a.ch], .agg [int b.kind, int b.ch]] [] (boo (lessA a b)) [] := by
  refine GC.intro (rs := [.tmp 4]) Try.func121 rfl Try.ntmps121 (Nat.le_of_ble_eq_true rfl) ⟨rfl, trivial⟩ ?_
  intro L O w0
  refine AW.seq ?_
  refine AW.list ?_
  refine AL.st (St.box 1000 rfl rfl (by decide) rfl) rfl ?_
  refine AL.tidy [(1, .agg [.p (.v (.int _ _)), .p (.v (.int _ _))]), (2, .ptr 1000 _ 0)] [(1000, .box _ _ [.p (.v (.int _ _)), .p (.v (.int _ _))])] ⟨rfl, rfl, trivial⟩ ⟨rfl, trivial⟩ ?_
  refine AL.st (St.box 1001 rfl rfl (by decide) rfl) rfl ?_
  refine AL.tidy [(2, .ptr 1000 _ 0), (3, .ptr 1001 _ 0)] [(1000, .box _ _ [.p (.v (.int _ _)), .p (.v (.int _ _))]), (1001, .box _ _ [.p (.v (.int _ _)), .p (.v (.int _ _))])] ⟨rfl, rfl, trivial⟩ ⟨rfl, rfl, trivial⟩ ?_
  refine AL.rd (x := .p (.v (.bool false))) (rd_mvx (Or.inr rfl) rfl) rfl rfl (by decide) ?_
  refine AL.nil ?_
  refine go_then ?_
  refine AW.seq ?_
  refine AW.list ?_
  refine AL.rd (x := .ptr 1000 _ 0) (rd_faddr rfl ty.fl105_0 ty.nz3 ty.is3 rfl rfl) rfl rfl (by decide) ?_
  refine AL.rd (x := .p (.v (.int _ _))) (rd_load_box rfl ty.kd3 rfl rfl rfl rfl) rfl rfl (by decide) ?_
  refine AL.rd (x := .ptr 1001 _ 0) (rd_faddr rfl ty.fl105_0 ty.nz3 ty.is3 rfl rfl) rfl rfl (by decide) ?_
  refine AL.rd (x := .p (.v (.int _ _))) (rd_load_box rfl ty.kd3 rfl rfl rfl rfl) rfl rfl (by decide) ?_
  refine AL.rd (x := .p (.v (.bool _))) (rd_bin rfl rfl rfl) rfl rfl (by decide) ?_
  refine AL.tidy [(2, .ptr 1000 _ 0), (3, .ptr 1001 _ 0), (4, .p (.v (.bool false))), (9, .p (.v (.bool _)))] [(1000, .box _ _ [.p (.v (.int _ _)), .p (.v (.int _ _))]), (1001, .box _ _ [.p (.v (.int _ _)), .p (.v (.int _ _))])] ⟨rfl, rfl, rfl, rfl, trivial⟩ ⟨rfl, rfl, trivial⟩ ?_
  refine AL.rd (x := .p (.v (.bool _))) (rd_mvx (Or.inl rfl) rfl) rfl rfl (by decide) ?_
  refine AL.bool (t := 10) rfl ?_ ?_
  · intro h1
    refine AL.no rfl rfl (by decide) ?_
    refine AL.no rfl rfl (by decide) ?_
    refine AL.no rfl rfl (by decide) ?_
    refine AL.no rfl rfl (by decide) ?_
    refine AL.no rfl rfl (by decide) ?_
    refine AL.no rfl rfl (by decide) ?_
    refine AL.no rfl rfl (by decide) ?_
    refine AL.no rfl rfl (by decide) ?_
    refine AL.no rfl rfl (by decide) ?_
    refine AL.no rfl rfl (by decide) ?_
    refine AL.no rfl rfl (by decide) ?_
    refine AL.no rfl rfl (by decide) ?_
    refine AL.rd (x := .p (.v (.bool true))) (rd_pick rfl rfl) rfl rfl (by decide) ?_
    refine AL.rd (x := .p (.v (.bool true))) (rd_mvx (Or.inr rfl) rfl) rfl rfl (by decide) ?_
    refine AL.nil ?_
    refine go_then ?_
    refine AW.ret ?_
    refine end_ret ?_ trivial
    refine congrArg (fun b => some (boo b)) ?_
    unfold lessA; simp_all
  · intro h1
    refine AL.rd (x := .ptr 1000 _ 0) (rd_faddr rfl ty.fl105_0 ty.nz3 ty.is3 rfl rfl) rfl rfl (by decide) ?_
    refine AL.rd (x := .p (.v (.int _ _))) (rd_load_box rfl ty.kd3 rfl rfl rfl rfl) rfl rfl (by decide) ?_
    refine AL.rd (x := .ptr 1001 _ 0) (rd_faddr rfl ty.fl105_0 ty.nz3 ty.is3 rfl rfl) rfl rfl (by decide) ?_
    refine AL.tidy [(2, .ptr 1000 _ 0), (3, .ptr 1001 _ 0), (4, .p (.v (.bool false))), (10, .p (.v (.bool false))), (12, .p (.v (.int _ _))), (13, .ptr 1001 _ 0)] [(1000, .box _ _ [.p (.v (.int _ _)), .p (.v (.int _ _))]), (1001, .box _ _ [.p (.v (.int _ _)), .p (.v (.int _ _))])] ⟨rfl, rfl, rfl, rfl, rfl, rfl, trivial⟩ ⟨rfl, rfl, trivial⟩ ?_
    refine AL.rd (x := .p (.v (.int _ _))) (rd_load_box rfl ty.kd3 rfl rfl rfl rfl) rfl rfl (by decide) ?_
    refine AL.rd (x := .p (.v (.bool _))) (rd_bin rfl rfl rfl) rfl rfl (by decide) ?_
    refine AL.rd (x := .p (.v (.bool _))) (rd_mvx (Or.inl rfl) rfl) rfl rfl (by decide) ?_
    refine AL.bool (t := 16) rfl ?_ ?_
    · intro h2
      refine AL.rd (x := .ptr 1000 _ 1) (rd_faddr rfl ty.fl105_1 ty.nz3 ty.is3 rfl rfl) rfl rfl (by decide) ?_
      refine AL.rd (x := .p (.v (.int _ _))) (rd_load_box rfl ty.kd3 rfl rfl rfl rfl) rfl rfl (by decide) ?_
      refine AL.rd (x := .ptr 1001 _ 1) (rd_faddr rfl ty.fl105_1 ty.nz3 ty.is3 rfl rfl) rfl rfl (by decide) ?_
      refine AL.tidy [(4, .p (.v (.bool false))), (10, .p (.v (.bool false))), (16, .p (.v (.bool true))), (18, .p (.v (.int _ _))), (19, .ptr 1001 _ 1)] [(1000, .box _ _ [.p (.v (.int _ _)), .p (.v (.int _ _))]), (1001, .box _ _ [.p (.v (.int _ _)), .p (.v (.int _ _))])] ⟨rfl, rfl, rfl, rfl, rfl, trivial⟩ ⟨rfl, rfl, trivial⟩ ?_
      refine AL.rd (x := .p (.v (.int _ _))) (rd_load_box rfl ty.kd3 rfl rfl rfl rfl) rfl rfl (by decide) ?_
      refine AL.rd (x := .p (.v (.bool _))) (rd_bin rfl rfl rfl) rfl rfl (by decide) ?_
      refine AL.rd (x := .p (.v (.bool _))) (rd_pick rfl rfl) rfl rfl (by decide) ?_
      refine AL.rd (x := .p (.v (.bool _))) (rd_pick rfl rfl) rfl rfl (by decide) ?_
      refine AL.rd (x := .p (.v (.bool _))) (rd_mvx (Or.inr rfl) rfl) rfl rfl (by decide) ?_
      refine AL.nil ?_
      refine go_then ?_
      refine AW.ret ?_
      refine end_ret ?_ trivial
      refine congrArg (fun b => some (boo b)) ?_
      unfold lessA; simp_all
    · intro h2
      refine AL.no rfl rfl (by decide) ?_
      refine AL.no rfl rfl (by decide) ?_
      refine AL.no rfl rfl (by decide) ?_
      refine AL.no rfl rfl (by decide) ?_
      refine AL.no rfl rfl (by decide) ?_
      refine AL.rd (x := .p (.v (.bool false))) (rd_pick rfl rfl) rfl rfl (by decide) ?_
      refine AL.tidy [(4, .p (.v (.bool false))), (10, .p (.v (.bool false))), (22, .p (.v (.bool false)))] [(1000, .box _ _ [.p (.v (.int _ _)), .p (.v (.int _ _))]), (1001, .box _ _ [.p (.v (.int _ _)), .p (.v (.int _ _))])] ⟨rfl, rfl, rfl, trivial⟩ ⟨rfl, rfl, trivial⟩ ?_
      refine AL.rd (x := .p (.v (.bool false))) (rd_pick rfl rfl) rfl rfl (by decide) ?_
      refine AL.rd (x := .p (.v (.bool false))) (rd_mvx (Or.inr rfl) rfl) rfl rfl (by decide) ?_
      refine AL.nil ?_
      refine go_then ?_
      refine AW.ret ?_
      refine end_ret ?_ trivial
      refine congrArg (fun b => some (boo b)) ?_
      unfold lessA; simp_all

set_option maxHeartbeats 4000000 in
set_option maxRecDepth 100000 in
theorem srange_e (n : Int) : GC Try.prog 122 [int n] [] (boo (rangeA n)) [] := by
  refine GC.intro (rs := [.tmp 2]) Try.func122 rfl Try.ntmps122 (Nat.le_of_ble_eq_true rfl) ⟨rfl, trivial⟩ ?_
  intro L O w0
  refine AW.seq ?_
  refine AW.list ?_
  refine AL.rd (x := .p (.v (.bool false))) (rd_mvx (Or.inr rfl) rfl) rfl rfl (by decide) ?_
  refine AL.nil ?_
  refine go_then ?_
  refine AW.seq ?_
  refine AW.list ?_
  refine AL.rd (x := .p (.v (.int _ _))) (rd_mvx (Or.inl rfl) rfl) rfl rfl (by decide) ?_
  refine AL.rd (x := .p (.v (.bool _))) (rd_bin rfl rfl rfl) rfl rfl (by decide) ?_
  refine AL.rd (x := .p (.v (.bool _))) (rd_mvx (Or.inl rfl) rfl) rfl rfl (by decide) ?_
  refine AL.bool (t := 5) rfl ?_ ?_
  · intro h1
    refine AL.rd (x := .p (.v (.int _ _))) (rd_mvx (Or.inl rfl) rfl) rfl rfl (by decide) ?_
    refine AL.rd (x := .p (.v (.bool _))) (rd_bin rfl rfl rfl) rfl rfl (by decide) ?_
    refine AL.tidy [(2, .p (.v (.bool false))), (5, .p (.v (.bool true))), (7, .p (.v (.bool _)))] [] ⟨rfl, rfl, rfl, trivial⟩ trivial ?_
    refine AL.rd (x := .p (.v (.bool _))) (rd_pick rfl rfl) rfl rfl (by decide) ?_
    refine AL.rd (x := .p (.v (.bool _))) (rd_mvx (Or.inr rfl) rfl) rfl rfl (by decide) ?_
    refine AL.nil ?_
    refine go_then ?_
    refine AW.ret ?_
    refine end_ret ?_ trivial
    refine congrArg (fun b => some (boo b)) ?_
    unfold rangeA; first | rfl | (simp_all [inB]; done) | (simp_all [inB]; omega)
  · intro h1
    refine AL.no rfl rfl (by decide) ?_
    refine AL.no rfl rfl (by decide) ?_
    refine AL.rd (x := .p (.v (.bool false))) (rd_pick rfl rfl) rfl rfl (by decide) ?_
    refine AL.rd (x := .p (.v (.bool false))) (rd_mvx (Or.inr rfl) rfl) rfl rfl (by decide) ?_
    refine AL.nil ?_
    refine go_then ?_
    refine AW.ret ?_
    refine end_ret ?_ trivial
    refine congrArg (fun b => some (boo b)) ?_
    unfold rangeA; first | rfl | (simp_all [inB]; done) | (simp_all [inB]; omega)

set_option maxHeartbeats 4000000 in
set_option maxRecDepth 100000 in
theorem linesOk_e (l : List Line) (hn : l.length ≤ 1000) : GC Try.prog 109 [.p (.lst 143 3 (rowsOf encLine l))] [] (boo (linesOk l)) [] := by
  refine GC.intro (rs := [.tmp 2]) Try.func109 rfl Try.ntmps109 (Nat.le_of_ble_eq_true rfl) ⟨rfl, trivial⟩ ?_
  intro L O w0
  refine AW.seq ?_
  refine AW.list ?_
  refine AL.rd (x := .p (.v (.bool false))) (rd_mvx (Or.inr rfl) rfl) rfl rfl (by decide) ?_
  refine AL.nil ?_
  refine go_then ?_
  refine AW.seq ?_
  refine AW.list ?_
  refine AL.rd (x := .p (.v (.int _ _))) (rd_mvx (Or.inr rfl) rfl) rfl rfl (by decide) ?_
  refine AL.nil ?_
  refine go_then ?_
  refine AW.seq ?_
  refine AW.seq ?_
  refine AW.list ?_
  refine AL.rd (x := .p (.lst _ _ _)) (rd_mvx (Or.inl rfl) rfl) rfl rfl (by decide) ?_
  refine AL.rd (x := .p (.v (.int _ _))) (rd_len rfl ty.sl60 rfl) rfl rfl (by decide) ?_
  refine AL.rd (x := .p (.v (.int _ _))) (rd_mvx (Or.inl rfl) rfl) rfl rfl (by decide) ?_
  refine AL.nil ?_
  refine go_then ?_
  refine AW.block ?_
  refine AW.loopE [(0, .p (.lst _ _ _)), (2, .p (.v (.bool false))), (6, .p (.lst _ _ _)), (7, .p (.v (.int _ _)))] [] (D := Nat) (fun k => [(3, int (tot amtOf (l.take k))), (8, int (k : Int))]) (fun k => []) (fun k => k ≤ l.length ∧ ∀ j, j < k → lineAt l j = true) (fun k => l.length - k) 0 ⟨Nat.zero_le _, fun j h => absurd h (by omega)⟩ ⟨rfl, rfl, trivial⟩ trivial ⟨rfl, rfl, rfl, rfl, trivial⟩ trivial ?_
  intro k hI
  obtain ⟨hkl, hall⟩ := hI
  refine AW.seq ?_
  refine AW.list ?_
  refine AL.rd (x := .p (.v (.bool _))) (rd_bin rfl rfl rfl) rfl rfl (by decide) ?_
  refine AL.tidy [(0, .p (.lst _ _ _)), (2, .p (.v (.bool false))), (3, .p (.v (.int _ _))), (6, .p (.lst _ _ _)), (7, .p (.v (.int _ _))), (8, .p (.v (.int _ _))), (9, .p (.v (.bool _)))] [] ⟨rfl, rfl, rfl, rfl, rfl, rfl, rfl, trivial⟩ trivial ?_
  refine AL.nil ?_
  refine go_then ?_
  refine AW.seq ?_
  refine AW.cond rfl ?_ ?_
  · intro h1
    refine AW.skip ?_
    refine go_then ?_
    refine AW.seq ?_
    refine AW.block ?_
    refine AW.seq ?_
    refine AW.list ?_
    refine AL.rd (x := .p (.v (.int _ _))) (rd_mvx (Or.inl rfl) rfl) rfl rfl (by decide) ?_
    have hk : k < l.length := by simpa [length_rowsOf] using h1
    refine AL.rd (x := .rp _) (rd_iaddr_p (i := k) rfl ty.el60 rfl rfl rfl (row_map hk)) rfl rfl (by decide) ?_
    refine AL.rd (x := .agg [.p (.v (.int _ _)), .p (.v (.int _ _)), .p (.v (.int _ _))]) (rd_load_rp rfl ty.kd143 rfl rfl) rfl rfl (by decide) ?_
    refine AL.st (St.alloc 1203 rfl rfl (by decide) ty.ze143) rfl ?_
    refine AL.tidy [(0, .p (.lst _ _ _)), (2, .p (.v (.bool false))), (3, .p (.v (.int _ _))), (5, .ptr 1203 _ 0), (6, .p (.lst _ _ _)), (7, .p (.v (.int _ _))), (8, .p (.v (.int _ _))), (10, .p (.v (.int _ _))), (12, .agg [.p (.v (.int _ _)), .p (.v (.int _ _)), .p (.v (.int _ _))])] [(1203, .box _ _ [.p (.v (.int _ _)), .p (.v (.int _ _)), .p (.v (.int _ _))])] ⟨rfl, rfl, rfl, rfl, rfl, rfl, rfl, rfl, rfl, trivial⟩ ⟨rfl, trivial⟩ ?_
    refine AL.rd (x := .p (.v (.int _ _))) (rd_mvx (Or.inr rfl) rfl) rfl rfl (by decide) ?_
    refine AL.st (St.storeBox 1203 rfl rfl rfl rfl rfl ty.co143 ty.inf143 (Nat.le_of_ble_eq_true rfl)) rfl ?_
    refine AL.tidy [(0, .p (.lst _ _ _)), (2, .p (.v (.bool false))), (3, .p (.v (.int _ _))), (4, .p (.v (.int _ _))), (5, .ptr 1203 _ 0), (6, .p (.lst _ _ _)), (7, .p (.v (.int _ _))), (8, .p (.v (.int _ _)))] [(1203, .box _ _ [.p (.v (.int _ _)), .p (.v (.int _ _)), .p (.v (.int _ _))])] ⟨rfl, rfl, rfl, rfl, rfl, rfl, rfl, rfl, trivial⟩ ⟨rfl, trivial⟩ ?_
    refine AL.nil ?_
    refine go_then ?_
    refine AW.seq ?_
    refine AW.seq ?_
    refine AW.draw 30 (inK []) (by kernel_rfl) ?_
    refine AG.rd (i := 0) (x := .ptr 1203 _ 0) rfl (by kernel_rfl) (rd_faddr rfl ty.fl143_0 ty.nz105 ty.is105 rfl rfl) rfl rfl (by decide) ?_
    refine AG.rd (i := 1) (x := .agg [.p (.v (.int _ _)), .p (.v (.int _ _))]) rfl (by kernel_rfl) (rd_load_box rfl ty.kd105 rfl rfl rfl rfl) rfl rfl (by decide) ?_
    refine AG.st (i := 2) rfl (by kernel_rfl) (St.call [] [] [] rfl (by intro s hs; cases hs; decide) rfl Try.func110 rfl rfl (accOk_e l[k].acc) ⟨rfl, rfl, rfl⟩ (trivial) (trivial) rfl) (by decide) rfl ?_
    refine AG.tidy [(0, .p (.lst _ _ _)), (2, .p (.v (.bool false))), (3, .p (.v (.int _ _))), (4, .p (.v (.int _ _))), (5, .ptr 1203 _ 0), (6, .p (.lst _ _ _)), (7, .p (.v (.int _ _))), (8, .p (.v (.int _ _))), (15, .p (.v (.bool _)))] [(1203, .box _ _ [.p (.v (.int _ _)), .p (.v (.int _ _)), .p (.v (.int _ _))])] ⟨rfl, rfl, rfl, rfl, rfl, rfl, rfl, rfl, rfl, trivial⟩ ⟨rfl, trivial⟩ rfl ?_
    refine AG.rd (i := 3) (x := .p (.v (.bool _))) rfl (by kernel_rfl) (rd_un rfl rfl trivial) rfl rfl (by decide) ?_
    refine AG.rd (i := 4) (x := .p (.v (.bool _))) rfl (by kernel_rfl) (rd_mvx (Or.inl rfl) rfl) rfl rfl (by decide) ?_
    refine AG.bool (t := 17) rfl ?_ ?_
    · intro h2
      refine AG.no (i := 5) rfl (by kernel_rfl) rfl rfl (by decide) ?_
      refine AG.no (i := 6) rfl (by kernel_rfl) rfl rfl (by decide) ?_
      refine AG.no (i := 7) rfl (by kernel_rfl) rfl rfl (by decide) ?_
      refine AG.rd (i := 8) (x := .p (.v (.bool true))) rfl (by kernel_rfl) (rd_pick rfl rfl) rfl rfl (by decide) ?_
      refine AG.rd (i := 9) (x := .p (.v (.bool true))) rfl (by kernel_rfl) (rd_mvx (Or.inl rfl) rfl) rfl rfl (by decide) ?_
      refine AG.no (i := 10) rfl (by kernel_rfl) rfl rfl (by decide) ?_
      refine AG.no (i := 11) rfl (by kernel_rfl) rfl rfl (by decide) ?_
      refine AG.no (i := 12) rfl (by kernel_rfl) rfl rfl (by decide) ?_
      refine AG.no (i := 13) rfl (by kernel_rfl) rfl rfl (by decide) ?_
      refine AG.rd (i := 14) (x := .p (.v (.bool true))) rfl (by kernel_rfl) (rd_pick rfl rfl) rfl rfl (by decide) ?_
      refine AG.rd (i := 15) (x := .p (.v (.bool true))) rfl (by kernel_rfl) (rd_mvx (Or.inl rfl) rfl) rfl rfl (by decide) ?_
      refine AG.tidy [(0, .p (.lst _ _ _)), (2, .p (.v (.bool false))), (3, .p (.v (.int _ _))), (4, .p (.v (.int _ _))), (5, .ptr 1203 _ 0), (6, .p (.lst _ _ _)), (7, .p (.v (.int _ _))), (8, .p (.v (.int _ _))), (28, .p (.v (.bool true)))] [(1203, .box _ _ [.p (.v (.int _ _)), .p (.v (.int _ _)), .p (.v (.int _ _))])] ⟨rfl, rfl, rfl, rfl, rfl, rfl, rfl, rfl, rfl, trivial⟩ ⟨rfl, trivial⟩ rfl ?_
      refine AG.no (i := 16) rfl (by kernel_rfl) rfl rfl (by decide) ?_
      refine AG.no (i := 17) rfl (by kernel_rfl) rfl rfl (by decide) ?_
      refine AG.no (i := 18) rfl (by kernel_rfl) rfl rfl (by decide) ?_
      refine AG.skip (i := 19) rfl (by kernel_rfl) (by kernel_rfl) (by kernel_rfl) (by kernel_rfl) (by kernel_rfl) rfl rfl (by decide) (NP.then (NP.then (NP.block (NP.then (NP.then (NP.block (NP.then NP.ends))))))) ?_
      refine AG.skip (i := 20) rfl (by kernel_rfl) (by kernel_rfl) (by kernel_rfl) (by kernel_rfl) (by kernel_rfl) rfl rfl (by decide) (NP.then (NP.then (NP.block (NP.then (NP.then (NP.block (NP.then NP.ends))))))) ?_
      refine AG.skip (i := 21) rfl (by kernel_rfl) (by kernel_rfl) (by kernel_rfl) (by kernel_rfl) (by kernel_rfl) rfl rfl (by decide) (NP.then (NP.then (NP.block (NP.then (NP.then (NP.block (NP.then NP.ends))))))) ?_
      refine AG.skip (i := 22) rfl (by kernel_rfl) (by kernel_rfl) (by kernel_rfl) (by kernel_rfl) (by kernel_rfl) rfl rfl (by decide) (NP.then (NP.then (NP.block (NP.then (NP.then (NP.block (NP.then NP.ends))))))) ?_
      refine AG.skip (i := 23) rfl (by kernel_rfl) (by kernel_rfl) (by kernel_rfl) (by kernel_rfl) (by kernel_rfl) rfl rfl (by decide) (NP.then (NP.then (NP.block (NP.then (NP.then (NP.block (NP.then NP.ends))))))) ?_
      refine AG.skip (i := 24) rfl (by kernel_rfl) (by kernel_rfl) (by kernel_rfl) (by kernel_rfl) (by kernel_rfl) rfl rfl (by decide) (NP.then (NP.then (NP.block (NP.then (NP.then (NP.block (NP.then NP.ends))))))) ?_
      refine AG.no (i := 25) rfl (by kernel_rfl) rfl rfl (by decide) ?_
      refine AG.no (i := 26) rfl (by kernel_rfl) rfl rfl (by decide) ?_
      refine AG.no (i := 27) rfl (by kernel_rfl) rfl rfl (by decide) ?_
      refine AG.no (i := 28) rfl (by kernel_rfl) rfl rfl (by decide) ?_
      refine AG.no (i := 29) rfl (by kernel_rfl) rfl rfl (by decide) ?_
      refine AG.rd (i := 30) (x := .p (.v (.bool true))) rfl (by kernel_rfl) (rd_pick rfl rfl) rfl rfl (by decide) ?_
      refine AG.done (by kernel_rfl) ?_
      refine go_then ?_
      refine AW.yes rfl ?_
      refine AW.seq ?_
      refine AW.list ?_
      refine AL.rd (x := .p (.v (.bool false))) (rd_mvx (Or.inr rfl) rfl) rfl rfl (by decide) ?_
      refine AL.nil ?_
      refine go_then ?_
      refine AW.ret ?_
      refine ret_then ?_
      refine ret_block ?_
      refine ret_then ?_
      refine ret_then ?_
      refine ret_block ?_
      refine ret_then ?_
      refine end_ret ?_ trivial
      refine congrArg (fun b => some (boo b)) ?_
      first | (exfalso; simp only [decide_eq_true_eq] at *; omega) | exact (linesOk_no hk (by rw [lineAt_eq hk]; simp_all [rangeA, prevOk_pos])).symm
    · intro h2
      refine AG.rd (i := 5) (x := .ptr 1203 _ 2) rfl (by kernel_rfl) (rd_faddr rfl ty.fl143_1 ty.nz3 ty.is3 rfl rfl) rfl rfl (by decide) ?_
      refine AG.rd (i := 6) (x := .p (.v (.int _ _))) rfl (by kernel_rfl) (rd_load_box rfl ty.kd3 rfl rfl rfl rfl) rfl rfl (by decide) ?_
      refine AG.rd (i := 7) (x := .p (.v (.bool _))) rfl (by kernel_rfl) (rd_bin rfl rfl rfl) rfl rfl (by decide) ?_
      refine AG.rd (i := 8) (x := .p (.v (.bool _))) rfl (by kernel_rfl) (rd_pick rfl rfl) rfl rfl (by decide) ?_
      refine AG.tidy [(0, .p (.lst _ _ _)), (2, .p (.v (.bool false))), (3, .p (.v (.int _ _))), (4, .p (.v (.int _ _))), (5, .ptr 1203 _ 0), (6, .p (.lst _ _ _)), (7, .p (.v (.int _ _))), (8, .p (.v (.int _ _))), (21, .p (.v (.bool _)))] [(1203, .box _ _ [.p (.v (.int _ _)), .p (.v (.int _ _)), .p (.v (.int _ _))])] ⟨rfl, rfl, rfl, rfl, rfl, rfl, rfl, rfl, rfl, trivial⟩ ⟨rfl, trivial⟩ rfl ?_
      refine AG.rd (i := 9) (x := .p (.v (.bool _))) rfl (by kernel_rfl) (rd_mvx (Or.inl rfl) rfl) rfl rfl (by decide) ?_
      refine AG.bool (t := 22) rfl ?_ ?_
      · intro h3
        refine AG.no (i := 10) rfl (by kernel_rfl) rfl rfl (by decide) ?_
        refine AG.no (i := 11) rfl (by kernel_rfl) rfl rfl (by decide) ?_
        refine AG.no (i := 12) rfl (by kernel_rfl) rfl rfl (by decide) ?_
        refine AG.no (i := 13) rfl (by kernel_rfl) rfl rfl (by decide) ?_
        refine AG.rd (i := 14) (x := .p (.v (.bool true))) rfl (by kernel_rfl) (rd_pick rfl rfl) rfl rfl (by decide) ?_
        refine AG.rd (i := 15) (x := .p (.v (.bool true))) rfl (by kernel_rfl) (rd_mvx (Or.inl rfl) rfl) rfl rfl (by decide) ?_
        refine AG.no (i := 16) rfl (by kernel_rfl) rfl rfl (by decide) ?_
        refine AG.no (i := 17) rfl (by kernel_rfl) rfl rfl (by decide) ?_
        refine AG.no (i := 18) rfl (by kernel_rfl) rfl rfl (by decide) ?_
        refine AG.skip (i := 19) rfl (by kernel_rfl) (by kernel_rfl) (by kernel_rfl) (by kernel_rfl) (by kernel_rfl) rfl rfl (by decide) (NP.then (NP.then (NP.block (NP.then (NP.then (NP.block (NP.then NP.ends))))))) ?_
        refine AG.skip (i := 20) rfl (by kernel_rfl) (by kernel_rfl) (by kernel_rfl) (by kernel_rfl) (by kernel_rfl) rfl rfl (by decide) (NP.then (NP.then (NP.block (NP.then (NP.then (NP.block (NP.then NP.ends))))))) ?_
        refine AG.skip (i := 21) rfl (by kernel_rfl) (by kernel_rfl) (by kernel_rfl) (by kernel_rfl) (by kernel_rfl) rfl rfl (by decide) (NP.then (NP.then (NP.block (NP.then (NP.then (NP.block (NP.then NP.ends))))))) ?_
        refine AG.skip (i := 22) rfl (by kernel_rfl) (by kernel_rfl) (by kernel_rfl) (by kernel_rfl) (by kernel_rfl) rfl rfl (by decide) (NP.then (NP.then (NP.block (NP.then (NP.then (NP.block (NP.then NP.ends))))))) ?_
        refine AG.skip (i := 23) rfl (by kernel_rfl) (by kernel_rfl) (by kernel_rfl) (by kernel_rfl) (by kernel_rfl) rfl rfl (by decide) (NP.then (NP.then (NP.block (NP.then (NP.then (NP.block (NP.then NP.ends))))))) ?_
        refine AG.skip (i := 24) rfl (by kernel_rfl) (by kernel_rfl) (by kernel_rfl) (by kernel_rfl) (by kernel_rfl) rfl rfl (by decide) (NP.then (NP.then (NP.block (NP.then (NP.then (NP.block (NP.then NP.ends))))))) ?_
        refine AG.no (i := 25) rfl (by kernel_rfl) rfl rfl (by decide) ?_
        refine AG.no (i := 26) rfl (by kernel_rfl) rfl rfl (by decide) ?_
        refine AG.no (i := 27) rfl (by kernel_rfl) rfl rfl (by decide) ?_
        refine AG.no (i := 28) rfl (by kernel_rfl) rfl rfl (by decide) ?_
        refine AG.no (i := 29) rfl (by kernel_rfl) rfl rfl (by decide) ?_
        refine AG.rd (i := 30) (x := .p (.v (.bool true))) rfl (by kernel_rfl) (rd_pick rfl rfl) rfl rfl (by decide) ?_
        refine AG.done (by kernel_rfl) ?_
        refine go_then ?_
        refine AW.yes rfl ?_
        refine AW.seq ?_
        refine AW.list ?_
        refine AL.rd (x := .p (.v (.bool false))) (rd_mvx (Or.inr rfl) rfl) rfl rfl (by decide) ?_
        refine AL.nil ?_
        refine go_then ?_
        refine AW.ret ?_
        refine ret_then ?_
        refine ret_block ?_
        refine ret_then ?_
        refine ret_then ?_
        refine ret_block ?_
        refine ret_then ?_
        refine end_ret ?_ trivial
        refine congrArg (fun b => some (boo b)) ?_
        first | (exfalso; simp only [decide_eq_true_eq] at *; omega) | exact (linesOk_no hk (by rw [lineAt_eq hk]; simp_all [rangeA, prevOk_pos])).symm
      · intro h3
        refine AG.rd (i := 10) (x := .ptr 1203 _ 2) rfl (by kernel_rfl) (rd_faddr rfl ty.fl143_1 ty.nz3 ty.is3 rfl rfl) rfl rfl (by decide) ?_
        refine AG.tidy [(0, .p (.lst _ _ _)), (2, .p (.v (.bool false))), (3, .p (.v (.int _ _))), (4, .p (.v (.int _ _))), (5, .ptr 1203 _ 0), (6, .p (.lst _ _ _)), (7, .p (.v (.int _ _))), (8, .p (.v (.int _ _))), (22, .p (.v (.bool false))), (23, .ptr 1203 _ 2)] [(1203, .box _ _ [.p (.v (.int _ _)), .p (.v (.int _ _)), .p (.v (.int _ _))])] ⟨rfl, rfl, rfl, rfl, rfl, rfl, rfl, rfl, rfl, rfl, trivial⟩ ⟨rfl, trivial⟩ rfl ?_
        refine AG.rd (i := 11) (x := .p (.v (.int _ _))) rfl (by kernel_rfl) (rd_load_box rfl ty.kd3 rfl rfl rfl rfl) rfl rfl (by decide) ?_
        refine AG.st (i := 12) rfl (by kernel_rfl) (St.call [] [] [] rfl (by intro s hs; cases hs; decide) rfl Try.func85 rfl rfl (in_e _ _ _) ⟨rfl, rfl, rfl⟩ (trivial) (trivial) rfl) (by decide) rfl ?_
        refine AG.tidy [(0, .p (.lst _ _ _)), (2, .p (.v (.bool false))), (3, .p (.v (.int _ _))), (4, .p (.v (.int _ _))), (5, .ptr 1203 _ 0), (6, .p (.lst _ _ _)), (7, .p (.v (.int _ _))), (8, .p (.v (.int _ _))), (22, .p (.v (.bool false))), (25, .p (.v (.bool _)))] [(1203, .box _ _ [.p (.v (.int _ _)), .p (.v (.int _ _)), .p (.v (.int _ _))])] ⟨rfl, rfl, rfl, rfl, rfl, rfl, rfl, rfl, rfl, rfl, trivial⟩ ⟨rfl, trivial⟩ rfl ?_
        refine AG.rd (i := 13) (x := .p (.v (.bool _))) rfl (by kernel_rfl) (rd_un rfl rfl trivial) rfl rfl (by decide) ?_
        refine AG.rd (i := 14) (x := .p (.v (.bool _))) rfl (by kernel_rfl) (rd_pick rfl rfl) rfl rfl (by decide) ?_
        refine AG.rd (i := 15) (x := .p (.v (.bool _))) rfl (by kernel_rfl) (rd_mvx (Or.inl rfl) rfl) rfl rfl (by decide) ?_
        refine AG.bool (t := 28) rfl ?_ ?_
        · intro h4
          refine AG.no (i := 16) rfl (by kernel_rfl) rfl rfl (by decide) ?_
          refine AG.no (i := 17) rfl (by kernel_rfl) rfl rfl (by decide) ?_
          refine AG.no (i := 18) rfl (by kernel_rfl) rfl rfl (by decide) ?_
          refine AG.skip (i := 19) rfl (by kernel_rfl) (by kernel_rfl) (by kernel_rfl) (by kernel_rfl) (by kernel_rfl) rfl rfl (by decide) (NP.then (NP.then (NP.block (NP.then (NP.then (NP.block (NP.then NP.ends))))))) ?_
          refine AG.skip (i := 20) rfl (by kernel_rfl) (by kernel_rfl) (by kernel_rfl) (by kernel_rfl) (by kernel_rfl) rfl rfl (by decide) (NP.then (NP.then (NP.block (NP.then (NP.then (NP.block (NP.then NP.ends))))))) ?_
          refine AG.skip (i := 21) rfl (by kernel_rfl) (by kernel_rfl) (by kernel_rfl) (by kernel_rfl) (by kernel_rfl) rfl rfl (by decide) (NP.then (NP.then (NP.block (NP.then (NP.then (NP.block (NP.then NP.ends))))))) ?_
          refine AG.skip (i := 22) rfl (by kernel_rfl) (by kernel_rfl) (by kernel_rfl) (by kernel_rfl) (by kernel_rfl) rfl rfl (by decide) (NP.then (NP.then (NP.block (NP.then (NP.then (NP.block (NP.then NP.ends))))))) ?_
          refine AG.skip (i := 23) rfl (by kernel_rfl) (by kernel_rfl) (by kernel_rfl) (by kernel_rfl) (by kernel_rfl) rfl rfl (by decide) (NP.then (NP.then (NP.block (NP.then (NP.then (NP.block (NP.then NP.ends))))))) ?_
          refine AG.skip (i := 24) rfl (by kernel_rfl) (by kernel_rfl) (by kernel_rfl) (by kernel_rfl) (by kernel_rfl) rfl rfl (by decide) (NP.then (NP.then (NP.block (NP.then (NP.then (NP.block (NP.then NP.ends))))))) ?_
          refine AG.no (i := 25) rfl (by kernel_rfl) rfl rfl (by decide) ?_
          refine AG.no (i := 26) rfl (by kernel_rfl) rfl rfl (by decide) ?_
          refine AG.no (i := 27) rfl (by kernel_rfl) rfl rfl (by decide) ?_
          refine AG.no (i := 28) rfl (by kernel_rfl) rfl rfl (by decide) ?_
          refine AG.no (i := 29) rfl (by kernel_rfl) rfl rfl (by decide) ?_
          refine AG.rd (i := 30) (x := .p (.v (.bool true))) rfl (by kernel_rfl) (rd_pick rfl rfl) rfl rfl (by decide) ?_
          refine AG.done (by kernel_rfl) ?_
          refine go_then ?_
          refine AW.yes rfl ?_
          refine AW.seq ?_
          refine AW.list ?_
          refine AL.rd (x := .p (.v (.bool false))) (rd_mvx (Or.inr rfl) rfl) rfl rfl (by decide) ?_
          refine AL.nil ?_
          refine go_then ?_
          refine AW.ret ?_
          refine ret_then ?_
          refine ret_block ?_
          refine ret_then ?_
          refine ret_then ?_
          refine ret_block ?_
          refine ret_then ?_
          refine end_ret ?_ trivial
          refine congrArg (fun b => some (boo b)) ?_
          first | (exfalso; simp only [decide_eq_true_eq] at *; omega) | exact (linesOk_no hk (by rw [lineAt_eq hk]; simp_all [rangeA, prevOk_pos])).symm
        · intro h4
          refine AG.rd (i := 16) (x := .p (.v (.int _ _))) rfl (by kernel_rfl) (rd_mvx (Or.inl rfl) rfl) rfl rfl (by decide) ?_
          refine AG.tidy [(0, .p (.lst _ _ _)), (2, .p (.v (.bool false))), (3, .p (.v (.int _ _))), (4, .p (.v (.int _ _))), (5, .ptr 1203 _ 0), (6, .p (.lst _ _ _)), (7, .p (.v (.int _ _))), (8, .p (.v (.int _ _))), (28, .p (.v (.bool false))), (29, .p (.v (.int _ _)))] [(1203, .box _ _ [.p (.v (.int _ _)), .p (.v (.int _ _)), .p (.v (.int _ _))])] ⟨rfl, rfl, rfl, rfl, rfl, rfl, rfl, rfl, rfl, rfl, trivial⟩ ⟨rfl, trivial⟩ rfl ?_
          refine AG.rd (i := 17) (x := .p (.v (.bool _))) rfl (by kernel_rfl) (rd_bin rfl rfl rfl) rfl rfl (by decide) ?_
          refine AG.rd (i := 18) (x := .p (.v (.bool _))) rfl (by kernel_rfl) (rd_mvx (Or.inl rfl) rfl) rfl rfl (by decide) ?_
          refine AG.bool (t := 31) rfl ?_ ?_
          · intro h5
            refine AG.take (x := .p (.lst _ _ _)) (i := 19) rfl (by kernel_rfl) (by kernel_rfl) (by kernel_rfl) (by kernel_rfl) (by kernel_rfl) (rd_mvx (Or.inl rfl) rfl) rfl rfl (by decide) (NP.then (NP.then (NP.block (NP.then (NP.then (NP.block (NP.then NP.ends))))))) ?_
            refine AG.take (x := .p (.v (.int _ _))) (i := 20) rfl (by kernel_rfl) (by kernel_rfl) (by kernel_rfl) (by kernel_rfl) (by kernel_rfl) (rd_mvx (Or.inl rfl) rfl) rfl rfl (by decide) (NP.then (NP.then (NP.block (NP.then (NP.then (NP.block (NP.then NP.ends))))))) ?_
            have hp : 0 < k := by simpa using h5
            refine AG.take (x := .p (.v (.int _ _))) (i := 21) rfl (by kernel_rfl) (by kernel_rfl) (by kernel_rfl) (by kernel_rfl) (by kernel_rfl) (rd_bin rfl rfl ⟨rfl, fits_i64 (by unfold i64; omega)⟩) rfl rfl (by decide) (NP.then (NP.then (NP.block (NP.then (NP.then (NP.block (NP.then NP.ends))))))) ?_
            refine AG.take (x := .rp _) (i := 22) rfl (by kernel_rfl) (by kernel_rfl) (by kernel_rfl) (by kernel_rfl) (by kernel_rfl) (rd_iaddr_p (i := k - 1) rfl ty.el60 rfl rfl ?hn1 (row_map (by omega : k - 1 < l.length))) rfl rfl (by decide) (NP.then (NP.then (NP.block (NP.then (NP.then (NP.block (NP.then NP.ends))))))) ?_
            case hn1 => omega
            refine AG.tidy [(0, .p (.lst _ _ _)), (2, .p (.v (.bool false))), (3, .p (.v (.int _ _))), (5, .ptr 1203 _ 0), (6, .p (.lst _ _ _)), (7, .p (.v (.int _ _))), (8, .p (.v (.int _ _))), (28, .p (.v (.bool false))), (31, .p (.v (.bool true))), (35, .rp _)] [(1203, .box _ _ [.p (.v (.int _ _)), .p (.v (.int _ _)), .p (.v (.int _ _))])] ⟨rfl, rfl, rfl, rfl, rfl, rfl, rfl, rfl, rfl, rfl, trivial⟩ ⟨rfl, trivial⟩ rfl ?_
            refine AG.take (x := .rp _) (i := 23) rfl (by kernel_rfl) (by kernel_rfl) (by kernel_rfl) (by kernel_rfl) (by kernel_rfl) (rd_faddr_rp rfl ty.fl143_0 ty.nz105 ty.is105 rfl) rfl rfl (by decide) (NP.then (NP.then (NP.block (NP.then (NP.then (NP.block (NP.then NP.ends))))))) ?_
            refine AG.take (x := .agg [.p (.v (.int _ _)), .p (.v (.int _ _))]) (i := 24) rfl (by kernel_rfl) (by kernel_rfl) (by kernel_rfl) (by kernel_rfl) (by kernel_rfl) (rd_load_rp rfl ty.kd105 rfl rfl) rfl rfl (by decide) (NP.then (NP.then (NP.block (NP.then (NP.then (NP.block (NP.then NP.ends))))))) ?_
            refine AG.rd (i := 25) (x := .ptr 1203 _ 0) rfl (by kernel_rfl) (rd_faddr rfl ty.fl143_0 ty.nz105 ty.is105 rfl rfl) rfl rfl (by decide) ?_
            refine AG.rd (i := 26) (x := .agg [.p (.v (.int _ _)), .p (.v (.int _ _))]) rfl (by kernel_rfl) (rd_load_box rfl ty.kd105 rfl rfl rfl rfl) rfl rfl (by decide) ?_
            refine AG.st (i := 27) rfl (by kernel_rfl) (St.call [] [] [] rfl (by intro s hs; cases hs; decide) rfl Try.func126 rfl rfl (lessA_e (l[k-1]'(by omega)).acc l[k].acc) ⟨rfl, rfl, rfl⟩ (trivial) (trivial) rfl) (by decide) rfl ?_
            refine AG.tidy [(0, .p (.lst _ _ _)), (2, .p (.v (.bool false))), (3, .p (.v (.int _ _))), (5, .ptr 1203 _ 0), (6, .p (.lst _ _ _)), (7, .p (.v (.int _ _))), (8, .p (.v (.int _ _))), (28, .p (.v (.bool false))), (31, .p (.v (.bool true))), (40, .p (.v (.bool _)))] [(1203, .box _ _ [.p (.v (.int _ _)), .p (.v (.int _ _)), .p (.v (.int _ _))])] ⟨rfl, rfl, rfl, rfl, rfl, rfl, rfl, rfl, rfl, rfl, trivial⟩ ⟨rfl, trivial⟩ rfl ?_
            refine AG.rd (i := 28) (x := .p (.v (.bool _))) rfl (by kernel_rfl) (rd_un rfl rfl trivial) rfl rfl (by decide) ?_
            refine AG.rd (i := 29) (x := .p (.v (.bool _))) rfl (by kernel_rfl) (rd_pick rfl rfl) rfl rfl (by decide) ?_
            refine AG.rd (i := 30) (x := .p (.v (.bool _))) rfl (by kernel_rfl) (rd_pick rfl rfl) rfl rfl (by decide) ?_
            refine AG.done (by kernel_rfl) ?_
            refine go_then ?_
            refine AW.cond rfl ?_ ?_
            · intro h6
              refine AW.seq ?_
              refine AW.list ?_
              refine AL.rd (x := .p (.v (.bool false))) (rd_mvx (Or.inr rfl) rfl) rfl rfl (by decide) ?_
              refine AL.nil ?_
              refine go_then ?_
              refine AW.ret ?_
              refine ret_then ?_
              refine ret_block ?_
              refine ret_then ?_
              refine ret_then ?_
              refine ret_block ?_
              refine ret_then ?_
              refine end_ret ?_ trivial
              refine congrArg (fun b => some (boo b)) ?_
              first | (exfalso; simp only [decide_eq_true_eq] at *; omega) | exact (linesOk_no hk (by rw [lineAt_eq hk]; simp_all [rangeA, prevOk_pos])).symm
            · intro h6
              refine AW.skip ?_
              refine go_then ?_
              refine AW.list ?_
              refine AL.rd (x := .p (.v (.int _ _))) (rd_mvx (Or.inl rfl) rfl) rfl rfl (by decide) ?_
              refine AL.rd (x := .ptr 1203 _ 2) (rd_faddr rfl ty.fl143_1 ty.nz3 ty.is3 rfl rfl) rfl rfl (by decide) ?_
              refine AL.tidy [(0, .p (.lst _ _ _)), (2, .p (.v (.bool false))), (3, .p (.v (.int _ _))), (6, .p (.lst _ _ _)), (7, .p (.v (.int _ _))), (8, .p (.v (.int _ _))), (44, .p (.v (.int _ _))), (45, .ptr 1203 _ 2)] [(1203, .box _ _ [.p (.v (.int _ _)), .p (.v (.int _ _)), .p (.v (.int _ _))])] ⟨rfl, rfl, rfl, rfl, rfl, rfl, rfl, rfl, trivial⟩ ⟨rfl, trivial⟩ ?_
              refine AL.rd (x := .p (.v (.int _ _))) (rd_load_box rfl ty.kd3 rfl rfl rfl rfl) rfl rfl (by decide) ?_
              have hpv : prevOk l k l[k] = true := by
                rcases Nat.eq_zero_or_pos k with q | q
                · subst q; rfl
                · rw [prevOk_pos q hk]; simp_all
              have hgood : lineAt l k = true := by rw [lineAt_eq hk, hpv]; simp_all [rangeA]
              have hrg : rangeA l[k].amt = true := by rw [lineAt_eq hk] at hgood; simp only [Bool.and_eq_true] at hgood; exact hgood.1.2
              refine AL.rd (x := .p (.v (.int _ _))) (rd_bin rfl rfl ⟨rfl, sum_fit (by omega) hk hall hrg⟩) rfl rfl (by decide) ?_
              refine AL.rd (x := .p (.v (.int _ _))) (rd_mvx (Or.inr rfl) rfl) rfl rfl (by decide) ?_
              refine AL.nil ?_
              refine go_block ?_
              refine go_then ?_
              refine AW.list ?_
              refine AL.rd (x := .p (.v (.int _ _))) (rd_bin rfl rfl ⟨rfl, fits_i64 (by unfold i64; omega)⟩) rfl rfl (by decide) ?_
              refine AL.rd (x := .p (.v (.int _ _))) (rd_mvx (Or.inl rfl) rfl) rfl rfl (by decide) ?_
              refine AL.nil ?_
              refine go_then ?_
              refine ⟨k + 1, ⟨hk, fun j hj => (Nat.lt_or_ge j k).elim (hall j) (fun q => by rw [show j = k by omega]; exact hgood)⟩, by omega, ⟨(Eq.trans (b := int _) rfl (congrArg int (tot_succ amtOf l hk).symm)), (Eq.trans (b := int _) rfl (congrArg int (by omega))), trivial⟩, trivial, ⟨rfl, rfl, rfl, rfl, trivial⟩, trivial⟩
          · intro h5
            refine AG.skip (i := 19) rfl (by kernel_rfl) (by kernel_rfl) (by kernel_rfl) (by kernel_rfl) (by kernel_rfl) rfl rfl (by decide) (NP.then (NP.then (NP.block (NP.then (NP.then (NP.block (NP.then NP.ends))))))) ?_
            refine AG.skip (i := 20) rfl (by kernel_rfl) (by kernel_rfl) (by kernel_rfl) (by kernel_rfl) (by kernel_rfl) rfl rfl (by decide) (NP.then (NP.then (NP.block (NP.then (NP.then (NP.block (NP.then NP.ends))))))) ?_
            refine AG.skip (i := 21) rfl (by kernel_rfl) (by kernel_rfl) (by kernel_rfl) (by kernel_rfl) (by kernel_rfl) rfl rfl (by decide) (NP.then (NP.then (NP.block (NP.then (NP.then (NP.block (NP.then NP.ends))))))) ?_
            refine AG.skip (i := 22) rfl (by kernel_rfl) (by kernel_rfl) (by kernel_rfl) (by kernel_rfl) (by kernel_rfl) rfl rfl (by decide) (NP.then (NP.then (NP.block (NP.then (NP.then (NP.block (NP.then NP.ends))))))) ?_
            refine AG.skip (i := 23) rfl (by kernel_rfl) (by kernel_rfl) (by kernel_rfl) (by kernel_rfl) (by kernel_rfl) rfl rfl (by decide) (NP.then (NP.then (NP.block (NP.then (NP.then (NP.block (NP.then NP.ends))))))) ?_
            refine AG.skip (i := 24) rfl (by kernel_rfl) (by kernel_rfl) (by kernel_rfl) (by kernel_rfl) (by kernel_rfl) rfl rfl (by decide) (NP.then (NP.then (NP.block (NP.then (NP.then (NP.block (NP.then NP.ends))))))) ?_
            refine AG.no (i := 25) rfl (by kernel_rfl) rfl rfl (by decide) ?_
            refine AG.no (i := 26) rfl (by kernel_rfl) rfl rfl (by decide) ?_
            refine AG.no (i := 27) rfl (by kernel_rfl) rfl rfl (by decide) ?_
            refine AG.no (i := 28) rfl (by kernel_rfl) rfl rfl (by decide) ?_
            refine AG.rd (i := 29) (x := .p (.v (.bool false))) rfl (by kernel_rfl) (rd_pick rfl rfl) rfl rfl (by decide) ?_
            refine AG.tidy [(0, .p (.lst _ _ _)), (2, .p (.v (.bool false))), (3, .p (.v (.int _ _))), (5, .ptr 1203 _ 0), (6, .p (.lst _ _ _)), (7, .p (.v (.int _ _))), (8, .p (.v (.int _ _))), (28, .p (.v (.bool false))), (42, .p (.v (.bool false)))] [(1203, .box _ _ [.p (.v (.int _ _)), .p (.v (.int _ _)), .p (.v (.int _ _))])] ⟨rfl, rfl, rfl, rfl, rfl, rfl, rfl, rfl, rfl, trivial⟩ ⟨rfl, trivial⟩ rfl ?_
            refine AG.rd (i := 30) (x := .p (.v (.bool false))) rfl (by kernel_rfl) (rd_pick rfl rfl) rfl rfl (by decide) ?_
            refine AG.done (by kernel_rfl) ?_
            refine go_then ?_
            refine AW.no rfl ?_
            refine AW.skip ?_
            refine go_then ?_
            refine AW.list ?_
            refine AL.rd (x := .p (.v (.int _ _))) (rd_mvx (Or.inl rfl) rfl) rfl rfl (by decide) ?_
            refine AL.rd (x := .ptr 1203 _ 2) (rd_faddr rfl ty.fl143_1 ty.nz3 ty.is3 rfl rfl) rfl rfl (by decide) ?_
            refine AL.rd (x := .p (.v (.int _ _))) (rd_load_box rfl ty.kd3 rfl rfl rfl rfl) rfl rfl (by decide) ?_
            have hpv : prevOk l k l[k] = true := by
              rcases Nat.eq_zero_or_pos k with q | q
              · subst q; rfl
              · rw [prevOk_pos q hk]; simp_all
            have hgood : lineAt l k = true := by rw [lineAt_eq hk, hpv]; simp_all [rangeA]
            have hrg : rangeA l[k].amt = true := by rw [lineAt_eq hk] at hgood; simp only [Bool.and_eq_true] at hgood; exact hgood.1.2
            refine AL.rd (x := .p (.v (.int _ _))) (rd_bin rfl rfl ⟨rfl, sum_fit (by omega) hk hall hrg⟩) rfl rfl (by decide) ?_
            refine AL.rd (x := .p (.v (.int _ _))) (rd_mvx (Or.inr rfl) rfl) rfl rfl (by decide) ?_
            refine AL.tidy [(0, .p (.lst _ _ _)), (2, .p (.v (.bool false))), (3, .p (.v (.int _ _))), (6, .p (.lst _ _ _)), (7, .p (.v (.int _ _))), (8, .p (.v (.int _ _)))] [(1203, .box _ _ [.p (.v (.int _ _)), .p (.v (.int _ _)), .p (.v (.int _ _))])] ⟨rfl, rfl, rfl, rfl, rfl, rfl, trivial⟩ ⟨rfl, trivial⟩ ?_
            refine AL.nil ?_
            refine go_block ?_
            refine go_then ?_
            refine AW.list ?_
            refine AL.rd (x := .p (.v (.int _ _))) (rd_bin rfl rfl ⟨rfl, fits_i64 (by unfold i64; omega)⟩) rfl rfl (by decide) ?_
            refine AL.rd (x := .p (.v (.int _ _))) (rd_mvx (Or.inl rfl) rfl) rfl rfl (by decide) ?_
            refine AL.nil ?_
            refine go_then ?_
            refine ⟨k + 1, ⟨hk, fun j hj => (Nat.lt_or_ge j k).elim (hall j) (fun q => by rw [show j = k by omega]; exact hgood)⟩, by omega, ⟨(Eq.trans (b := int _) rfl (congrArg int (tot_succ amtOf l hk).symm)), (Eq.trans (b := int _) rfl (congrArg int (by omega))), trivial⟩, trivial, ⟨rfl, rfl, rfl, rfl, trivial⟩, trivial⟩
  · intro h1
    refine AW.exit ?_
    refine ex_then ?_
    refine ex_then ?_
    refine ex_block ?_
    refine go_then ?_
    refine AW.seq ?_
    refine AW.list ?_
    refine AL.rd (x := .p (.v (.int _ _))) (rd_mvx (Or.inl rfl) rfl) rfl rfl (by decide) ?_
    refine AL.rd (x := .p (.v (.bool _))) (rd_bin rfl rfl rfl) rfl rfl (by decide) ?_
    refine AL.rd (x := .p (.v (.bool _))) (rd_mvx (Or.inr rfl) rfl) rfl rfl (by decide) ?_
    refine AL.nil ?_
    refine go_then ?_
    refine AW.ret ?_
    refine end_ret ?_ trivial
    refine congrArg (fun b => some (boo b)) ?_
    have hkn : ¬ k < l.length := by simpa [length_rowsOf] using h1
    obtain rfl : k = l.length := by omega
    rw [linesOk_yes hall, List.take_length, dec_beq]

end Go.Proofs.Ytbjnbhlpibadnaa
