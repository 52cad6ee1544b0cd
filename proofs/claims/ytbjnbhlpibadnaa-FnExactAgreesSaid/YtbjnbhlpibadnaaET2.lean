/- Lines of the reference, ledgers and balances, of the program and of the reference, over data. -/
import Derived.Test.YtbjnbhlpibadnaaET1
namespace Go.Proofs.Ytbjnbhlpibadnaa
open Go.RowKit
set_option linter.unusedSimpArgs false
set_option linter.unusedVariables false

theorem balAt_drop {l : List Line} {a : Acc} {k : Nat} (h : k < l.length) : balAt (l.drop k) a = if l[k].acc.kind = a.kind ∧ l[k].acc.ch = a.ch then l[k].amt else balAt (l.drop (k + 1)) a := by
  rw [List.drop_eq_getElem_cons h]; rfl

set_option maxHeartbeats 4000000 in
set_option maxRecDepth 100000 in
theorem amtOk_e (n : Int) : GC Try.prog 105 [int n] [] (boo (amtOk n)) [] := by
  refine GC.intro (rs := [.tmp 2]) Try.func105 rfl Try.ntmps105 (Nat.le_of_ble_eq_true rfl) ⟨rfl, trivial⟩ ?_
  intro L O w0
  refine AW.seq ?_
  refine AW.list ?_
  refine AL.rd (x := .p (.v (.bool false))) (rd_mvx (Or.inr rfl) rfl) rfl rfl (by decide) ?_
  refine AL.nil ?_
  refine go_then ?_
  refine AW.seq ?_
  refine AW.list ?_
  refine AL.rd (x := .p (.v (.int _ _))) (rd_mvx (Or.inl rfl) rfl) rfl rfl (by decide) ?_
  refine AL.st (St.call [] [] [] rfl (by intro s hs; cases hs; decide) rfl Try.func85 rfl rfl (in_e _ _ _) ⟨rfl, rfl, rfl⟩ (trivial) (trivial) rfl) rfl ?_
  refine AL.tidy [(2, .p (.v (.bool false))), (4, .p (.v (.bool _)))] [] ⟨rfl, rfl, trivial⟩ trivial ?_
  refine AL.rd (x := .p (.v (.bool _))) (rd_mvx (Or.inr rfl) rfl) rfl rfl (by decide) ?_
  refine AL.nil ?_
  refine go_then ?_
  refine AW.ret ?_
  refine end_ret ?_ trivial
  rfl

set_option maxHeartbeats 4000000 in
set_option maxRecDepth 100000 in
theorem slinesOk_e (l : List Line) (hn : l.length ≤ 320) : GC Try.prog 99 [.p (.lst 143 3 (rowsOf encLine l))] [] (boo (linesOk l)) [] := by
  refine GC.intro (rs := [.tmp 2]) Try.func99 rfl Try.ntmps99 (Nat.le_of_ble_eq_true rfl) ⟨rfl, trivial⟩ ?_
  intro L O w0
  refine AW.seq ?_
  refine AW.list ?_
  refine AL.rd (x := .p (.v (.bool false))) (rd_mvx (Or.inr rfl) rfl) rfl rfl (by decide) ?_
  refine AL.nil ?_
  refine go_then ?_
  refine AW.seq ?_
  refine AW.list ?_
  refine AL.rd (x := .p (.v (.int _ _))) (rd_mvx (Or.inr rfl) rfl) rfl rfl (by decide) ?_
  refine AL.nil ?_
  refine go_then ?_
  refine AW.seq ?_
  refine AW.seq ?_
  refine AW.list ?_
  refine AL.rd (x := .p (.lst _ _ _)) (rd_mvx (Or.inl rfl) rfl) rfl rfl (by decide) ?_
  refine AL.rd (x := .p (.v (.int _ _))) (rd_len rfl ty.sl60 rfl) rfl rfl (by decide) ?_
  refine AL.rd (x := .p (.v (.int _ _))) (rd_mvx (Or.inl rfl) rfl) rfl rfl (by decide) ?_
  refine AL.nil ?_
  refine go_then ?_
  refine AW.block ?_
  refine AW.loopE [(0, .p (.lst _ _ _)), (2, .p (.v (.bool false))), (6, .p (.lst _ _ _)), (7, .p (.v (.int _ _)))] [] (D := Nat) (fun k => [(3, int (tot amtOf (l.take k))), (8, int (k : Int))]) (fun k => []) (fun k => k ≤ l.length ∧ ∀ j, j < k → lineAt l j = true) (fun k => l.length - k) 0 ⟨Nat.zero_le _, fun j h => absurd h (by omega)⟩ ⟨rfl, rfl, trivial⟩ trivial ⟨rfl, rfl, rfl, rfl, trivial⟩ trivial ?_
  intro k hI
  obtain ⟨hkl, hall⟩ := hI
  refine AW.seq ?_
  refine AW.list ?_
  refine AL.rd (x := .p (.v (.bool _))) (rd_bin rfl rfl rfl) rfl rfl (by decide) ?_
  refine AL.tidy [(0, .p (.lst _ _ _)), (2, .p (.v (.bool false))), (3, .p (.v (.int _ _))), (6, .p (.lst _ _ _)), (7, .p (.v (.int _ _))), (8, .p (.v (.int _ _))), (9, .p (.v (.bool _)))] [] ⟨rfl, rfl, rfl, rfl, rfl, rfl, rfl, trivial⟩ trivial ?_
  refine AL.nil ?_
  refine go_then ?_
  refine AW.seq ?_
  refine AW.cond rfl ?_ ?_
  · intro h1
    refine AW.skip ?_
    refine go_then ?_
    refine AW.seq ?_
    refine AW.block ?_
    refine AW.seq ?_
    refine AW.list ?_
    refine AL.rd (x := .p (.v (.int _ _))) (rd_mvx (Or.inl rfl) rfl) rfl rfl (by decide) ?_
    have hk : k < l.length := by simpa [length_rowsOf] using h1
    refine AL.rd (x := .rp _) (rd_iaddr_p (i := k) rfl ty.el60 rfl rfl rfl (row_map hk)) rfl rfl (by decide) ?_
    refine AL.rd (x := .agg [.p (.v (.int _ _)), .p (.v (.int _ _)), .p (.v (.int _ _))]) (rd_load_rp rfl ty.kd143 rfl rfl) rfl rfl (by decide) ?_
    refine AL.st (St.alloc 1203 rfl rfl (by decide) ty.ze143) rfl ?_
    refine AL.tidy [(0, .p (.lst _ _ _)), (2, .p (.v (.bool false))), (3, .p (.v (.int _ _))), (5, .ptr 1203 _ 0), (6, .p (.lst _ _ _)), (7, .p (.v (.int _ _))), (8, .p (.v (.int _ _))), (10, .p (.v (.int _ _))), (12, .agg [.p (.v (.int _ _)), .p (.v (.int _ _)), .p (.v (.int _ _))])] [(1203, .box _ _ [.p (.v (.int _ _)), .p (.v (.int _ _)), .p (.v (.int _ _))])] ⟨rfl, rfl, rfl, rfl, rfl, rfl, rfl, rfl, rfl, trivial⟩ ⟨rfl, trivial⟩ ?_
    refine AL.rd (x := .p (.v (.int _ _))) (rd_mvx (Or.inr rfl) rfl) rfl rfl (by decide) ?_
    refine AL.st (St.storeBox 1203 rfl rfl rfl rfl rfl ty.co143 ty.inf143 (Nat.le_of_ble_eq_true rfl)) rfl ?_
    refine AL.tidy [(0, .p (.lst _ _ _)), (2, .p (.v (.bool false))), (3, .p (.v (.int _ _))), (4, .p (.v (.int _ _))), (5, .ptr 1203 _ 0), (6, .p (.lst _ _ _)), (7, .p (.v (.int _ _))), (8, .p (.v (.int _ _)))] [(1203, .box _ _ [.p (.v (.int _ _)), .p (.v (.int _ _)), .p (.v (.int _ _))])] ⟨rfl, rfl, rfl, rfl, rfl, rfl, rfl, rfl, trivial⟩ ⟨rfl, trivial⟩ ?_
    refine AL.nil ?_
    refine go_then ?_
    refine AW.seq ?_
    refine AW.seq ?_
    refine AW.draw 34 (inK []) (by kernel_rfl) ?_
    refine AG.rd (i := 0) (x := .ptr 1203 _ 0) rfl (by kernel_rfl) (rd_faddr rfl ty.fl143_0 ty.nz105 ty.is105 rfl rfl) rfl rfl (by decide) ?_
    refine AG.rd (i := 1) (x := .agg [.p (.v (.int _ _)), .p (.v (.int _ _))]) rfl (by kernel_rfl) (rd_load_box rfl ty.kd105 rfl rfl rfl rfl) rfl rfl (by decide) ?_
    refine AG.st (i := 2) rfl (by kernel_rfl) (St.call [] [] [] rfl (by intro s hs; cases hs; decide) rfl Try.func100 rfl rfl (saccOk_e l[k].acc) ⟨rfl, rfl, rfl⟩ (trivial) (trivial) rfl) (by decide) rfl ?_
    refine AG.tidy [(0, .p (.lst _ _ _)), (2, .p (.v (.bool false))), (3, .p (.v (.int _ _))), (4, .p (.v (.int _ _))), (5, .ptr 1203 _ 0), (6, .p (.lst _ _ _)), (7, .p (.v (.int _ _))), (8, .p (.v (.int _ _))), (15, .p (.v (.bool _)))] [(1203, .box _ _ [.p (.v (.int _ _)), .p (.v (.int _ _)), .p (.v (.int _ _))])] ⟨rfl, rfl, rfl, rfl, rfl, rfl, rfl, rfl, rfl, trivial⟩ ⟨rfl, trivial⟩ rfl ?_
    refine AG.rd (i := 3) (x := .p (.v (.bool _))) rfl (by kernel_rfl) (rd_un rfl rfl trivial) rfl rfl (by decide) ?_
    refine AG.rd (i := 4) (x := .p (.v (.bool _))) rfl (by kernel_rfl) (rd_mvx (Or.inl rfl) rfl) rfl rfl (by decide) ?_
    refine AG.bool (t := 17) rfl ?_ ?_
    · intro h2
      refine AG.no (i := 5) rfl (by kernel_rfl) rfl rfl (by decide) ?_
      refine AG.no (i := 6) rfl (by kernel_rfl) rfl rfl (by decide) ?_
      refine AG.no (i := 7) rfl (by kernel_rfl) rfl rfl (by decide) ?_
      refine AG.skip (i := 8) rfl (by kernel_rfl) (by kernel_rfl) (by kernel_rfl) (by kernel_rfl) (by kernel_rfl) rfl rfl (by decide) (NP.then (NP.then (NP.block (NP.then (NP.then (NP.block (NP.then NP.ends))))))) ?_
      refine AG.skip (i := 9) rfl (by kernel_rfl) (by kernel_rfl) (by kernel_rfl) (by kernel_rfl) (by kernel_rfl) rfl rfl (by decide) (NP.then (NP.then (NP.block (NP.then (NP.then (NP.block (NP.then NP.ends))))))) ?_
      refine AG.skip (i := 10) rfl (by kernel_rfl) (by kernel_rfl) (by kernel_rfl) (by kernel_rfl) (by kernel_rfl) rfl rfl (by decide) (NP.then (NP.then (NP.block (NP.then (NP.then (NP.block (NP.then NP.ends))))))) ?_
      refine AG.skip (i := 11) rfl (by kernel_rfl) (by kernel_rfl) (by kernel_rfl) (by kernel_rfl) (by kernel_rfl) rfl rfl (by decide) (NP.then (NP.then (NP.block (NP.then (NP.then (NP.block (NP.then NP.ends))))))) ?_
      refine AG.skip (i := 12) rfl (by kernel_rfl) (by kernel_rfl) (by kernel_rfl) (by kernel_rfl) (by kernel_rfl) rfl rfl (by decide) (NP.then (NP.then (NP.block (NP.then (NP.then (NP.block (NP.then NP.ends))))))) ?_
      refine AG.skip (i := 13) rfl (by kernel_rfl) (by kernel_rfl) (by kernel_rfl) (by kernel_rfl) (by kernel_rfl) rfl rfl (by decide) (NP.then (NP.then (NP.block (NP.then (NP.then (NP.block (NP.then NP.ends))))))) ?_
      refine AG.no (i := 14) rfl (by kernel_rfl) rfl rfl (by decide) ?_
      refine AG.no (i := 15) rfl (by kernel_rfl) rfl rfl (by decide) ?_
      refine AG.no (i := 16) rfl (by kernel_rfl) rfl rfl (by decide) ?_
      refine AG.no (i := 17) rfl (by kernel_rfl) rfl rfl (by decide) ?_
      refine AG.no (i := 18) rfl (by kernel_rfl) rfl rfl (by decide) ?_
      refine AG.rd (i := 19) (x := .p (.v (.bool true))) rfl (by kernel_rfl) (rd_pick rfl rfl) rfl rfl (by decide) ?_
      refine AG.rd (i := 20) (x := .p (.v (.bool true))) rfl (by kernel_rfl) (rd_mvx (Or.inl rfl) rfl) rfl rfl (by decide) ?_
      refine AG.no (i := 21) rfl (by kernel_rfl) rfl rfl (by decide) ?_
      refine AG.no (i := 22) rfl (by kernel_rfl) rfl rfl (by decide) ?_
      refine AG.no (i := 23) rfl (by kernel_rfl) rfl rfl (by decide) ?_
      refine AG.no (i := 24) rfl (by kernel_rfl) rfl rfl (by decide) ?_
      refine AG.rd (i := 25) (x := .p (.v (.bool true))) rfl (by kernel_rfl) (rd_pick rfl rfl) rfl rfl (by decide) ?_
      refine AG.rd (i := 26) (x := .p (.v (.bool true))) rfl (by kernel_rfl) (rd_mvx (Or.inl rfl) rfl) rfl rfl (by decide) ?_
      refine AG.tidy [(0, .p (.lst _ _ _)), (2, .p (.v (.bool false))), (3, .p (.v (.int _ _))), (4, .p (.v (.int _ _))), (5, .ptr 1203 _ 0), (6, .p (.lst _ _ _)), (7, .p (.v (.int _ _))), (8, .p (.v (.int _ _))), (39, .p (.v (.bool true)))] [(1203, .box _ _ [.p (.v (.int _ _)), .p (.v (.int _ _)), .p (.v (.int _ _))])] ⟨rfl, rfl, rfl, rfl, rfl, rfl, rfl, rfl, rfl, trivial⟩ ⟨rfl, trivial⟩ rfl ?_
      refine AG.no (i := 27) rfl (by kernel_rfl) rfl rfl (by decide) ?_
      refine AG.no (i := 28) rfl (by kernel_rfl) rfl rfl (by decide) ?_
      refine AG.no (i := 29) rfl (by kernel_rfl) rfl rfl (by decide) ?_
      refine AG.rd (i := 30) (x := .p (.v (.bool true))) rfl (by kernel_rfl) (rd_pick rfl rfl) rfl rfl (by decide) ?_
      refine AG.rd (i := 31) (x := .p (.v (.bool true))) rfl (by kernel_rfl) (rd_mvx (Or.inl rfl) rfl) rfl rfl (by decide) ?_
      refine AG.no (i := 32) rfl (by kernel_rfl) rfl rfl (by decide) ?_
      refine AG.no (i := 33) rfl (by kernel_rfl) rfl rfl (by decide) ?_
      refine AG.rd (i := 34) (x := .p (.v (.bool true))) rfl (by kernel_rfl) (rd_pick rfl rfl) rfl rfl (by decide) ?_
      refine AG.done (by kernel_rfl) ?_
      refine go_then ?_
      refine AW.yes rfl ?_
      refine AW.seq ?_
      refine AW.list ?_
      refine AL.rd (x := .p (.v (.bool false))) (rd_mvx (Or.inr rfl) rfl) rfl rfl (by decide) ?_
      refine AL.nil ?_
      refine go_then ?_
      refine AW.ret ?_
      refine ret_then ?_
      refine ret_block ?_
      refine ret_then ?_
      refine ret_then ?_
      refine ret_block ?_
      refine ret_then ?_
      refine end_ret ?_ trivial
      refine congrArg (fun b => some (boo b)) ?_
      first | (exfalso; simp only [decide_eq_true_eq] at *; omega) | exact (linesOk_no hk (by rw [lineAt_eq hk]; simp_all [rangeA, prevOk_pos])).symm
    · intro h2
      refine AG.rd (i := 5) (x := .p (.v (.int _ _))) rfl (by kernel_rfl) (rd_mvx (Or.inl rfl) rfl) rfl rfl (by decide) ?_
      refine AG.rd (i := 6) (x := .p (.v (.bool _))) rfl (by kernel_rfl) (rd_bin rfl rfl rfl) rfl rfl (by decide) ?_
      refine AG.tidy [(0, .p (.lst _ _ _)), (2, .p (.v (.bool false))), (3, .p (.v (.int _ _))), (4, .p (.v (.int _ _))), (5, .ptr 1203 _ 0), (6, .p (.lst _ _ _)), (7, .p (.v (.int _ _))), (8, .p (.v (.int _ _))), (17, .p (.v (.bool false))), (19, .p (.v (.bool _)))] [(1203, .box _ _ [.p (.v (.int _ _)), .p (.v (.int _ _)), .p (.v (.int _ _))])] ⟨rfl, rfl, rfl, rfl, rfl, rfl, rfl, rfl, rfl, rfl, trivial⟩ ⟨rfl, trivial⟩ rfl ?_
      refine AG.rd (i := 7) (x := .p (.v (.bool _))) rfl (by kernel_rfl) (rd_mvx (Or.inl rfl) rfl) rfl rfl (by decide) ?_
      refine AG.bool (t := 20) rfl ?_ ?_
      · intro h3
        refine AG.take (x := .p (.lst _ _ _)) (i := 8) rfl (by kernel_rfl) (by kernel_rfl) (by kernel_rfl) (by kernel_rfl) (by kernel_rfl) (rd_mvx (Or.inl rfl) rfl) rfl rfl (by decide) (NP.then (NP.then (NP.block (NP.then (NP.then (NP.block (NP.then NP.ends))))))) ?_
        refine AG.take (x := .p (.v (.int _ _))) (i := 9) rfl (by kernel_rfl) (by kernel_rfl) (by kernel_rfl) (by kernel_rfl) (by kernel_rfl) (rd_mvx (Or.inl rfl) rfl) rfl rfl (by decide) (NP.then (NP.then (NP.block (NP.then (NP.then (NP.block (NP.then NP.ends))))))) ?_
        have hp : 0 < k := by simpa using h3
        refine AG.take (x := .p (.v (.int _ _))) (i := 10) rfl (by kernel_rfl) (by kernel_rfl) (by kernel_rfl) (by kernel_rfl) (by kernel_rfl) (rd_bin rfl rfl ⟨rfl, fits_i64 (by unfold i64; omega)⟩) rfl rfl (by decide) (NP.then (NP.then (NP.block (NP.then (NP.then (NP.block (NP.then NP.ends))))))) ?_
        refine AG.take (x := .rp _) (i := 11) rfl (by kernel_rfl) (by kernel_rfl) (by kernel_rfl) (by kernel_rfl) (by kernel_rfl) (rd_iaddr_p (i := k - 1) rfl ty.el60 rfl rfl ?hn1 (row_map (by omega : k - 1 < l.length))) rfl rfl (by decide) (NP.then (NP.then (NP.block (NP.then (NP.then (NP.block (NP.then NP.ends))))))) ?_
        case hn1 => omega
        refine AG.take (x := .rp _) (i := 12) rfl (by kernel_rfl) (by kernel_rfl) (by kernel_rfl) (by kernel_rfl) (by kernel_rfl) (rd_faddr_rp rfl ty.fl143_0 ty.nz105 ty.is105 rfl) rfl rfl (by decide) (NP.then (NP.then (NP.block (NP.then (NP.then (NP.block (NP.then NP.ends))))))) ?_
        refine AG.tidy [(0, .p (.lst _ _ _)), (2, .p (.v (.bool false))), (3, .p (.v (.int _ _))), (4, .p (.v (.int _ _))), (5, .ptr 1203 _ 0), (6, .p (.lst _ _ _)), (7, .p (.v (.int _ _))), (8, .p (.v (.int _ _))), (17, .p (.v (.bool false))), (20, .p (.v (.bool true))), (25, .rp _)] [(1203, .box _ _ [.p (.v (.int _ _)), .p (.v (.int _ _)), .p (.v (.int _ _))])] ⟨rfl, rfl, rfl, rfl, rfl, rfl, rfl, rfl, rfl, rfl, rfl, trivial⟩ ⟨rfl, trivial⟩ rfl ?_
        refine AG.take (x := .agg [.p (.v (.int _ _)), .p (.v (.int _ _))]) (i := 13) rfl (by kernel_rfl) (by kernel_rfl) (by kernel_rfl) (by kernel_rfl) (by kernel_rfl) (rd_load_rp rfl ty.kd105 rfl rfl) rfl rfl (by decide) (NP.then (NP.then (NP.block (NP.then (NP.then (NP.block (NP.then NP.ends))))))) ?_
        refine AG.rd (i := 14) (x := .ptr 1203 _ 0) rfl (by kernel_rfl) (rd_faddr rfl ty.fl143_0 ty.nz105 ty.is105 rfl rfl) rfl rfl (by decide) ?_
        refine AG.rd (i := 15) (x := .agg [.p (.v (.int _ _)), .p (.v (.int _ _))]) rfl (by kernel_rfl) (rd_load_box rfl ty.kd105 rfl rfl rfl rfl) rfl rfl (by decide) ?_
        refine AG.st (i := 16) rfl (by kernel_rfl) (St.call [] [] [] rfl (by intro s hs; cases hs; decide) rfl Try.func121 rfl rfl (slessA_e (l[k-1]'(by omega)).acc l[k].acc) ⟨rfl, rfl, rfl⟩ (trivial) (trivial) rfl) (by decide) rfl ?_
        refine AG.tidy [(0, .p (.lst _ _ _)), (2, .p (.v (.bool false))), (3, .p (.v (.int _ _))), (4, .p (.v (.int _ _))), (5, .ptr 1203 _ 0), (6, .p (.lst _ _ _)), (7, .p (.v (.int _ _))), (8, .p (.v (.int _ _))), (17, .p (.v (.bool false))), (20, .p (.v (.bool true))), (29, .p (.v (.bool _)))] [(1203, .box _ _ [.p (.v (.int _ _)), .p (.v (.int _ _)), .p (.v (.int _ _))])] ⟨rfl, rfl, rfl, rfl, rfl, rfl, rfl, rfl, rfl, rfl, rfl, trivial⟩ ⟨rfl, trivial⟩ rfl ?_
        refine AG.rd (i := 17) (x := .p (.v (.bool _))) rfl (by kernel_rfl) (rd_un rfl rfl trivial) rfl rfl (by decide) ?_
        refine AG.rd (i := 18) (x := .p (.v (.bool _))) rfl (by kernel_rfl) (rd_pick rfl rfl) rfl rfl (by decide) ?_
        refine AG.rd (i := 19) (x := .p (.v (.bool _))) rfl (by kernel_rfl) (rd_pick rfl rfl) rfl rfl (by decide) ?_
        refine AG.rd (i := 20) (x := .p (.v (.bool _))) rfl (by kernel_rfl) (rd_mvx (Or.inl rfl) rfl) rfl rfl (by decide) ?_
        refine AG.bool (t := 33) rfl ?_ ?_
        · intro h4
          refine AG.no (i := 21) rfl (by kernel_rfl) rfl rfl (by decide) ?_
          refine AG.no (i := 22) rfl (by kernel_rfl) rfl rfl (by decide) ?_
          refine AG.no (i := 23) rfl (by kernel_rfl) rfl rfl (by decide) ?_
          refine AG.no (i := 24) rfl (by kernel_rfl) rfl rfl (by decide) ?_
          refine AG.rd (i := 25) (x := .p (.v (.bool true))) rfl (by kernel_rfl) (rd_pick rfl rfl) rfl rfl (by decide) ?_
          refine AG.rd (i := 26) (x := .p (.v (.bool true))) rfl (by kernel_rfl) (rd_mvx (Or.inl rfl) rfl) rfl rfl (by decide) ?_
          refine AG.tidy [(0, .p (.lst _ _ _)), (2, .p (.v (.bool false))), (3, .p (.v (.int _ _))), (4, .p (.v (.int _ _))), (5, .ptr 1203 _ 0), (6, .p (.lst _ _ _)), (7, .p (.v (.int _ _))), (8, .p (.v (.int _ _))), (39, .p (.v (.bool true)))] [(1203, .box _ _ [.p (.v (.int _ _)), .p (.v (.int _ _)), .p (.v (.int _ _))])] ⟨rfl, rfl, rfl, rfl, rfl, rfl, rfl, rfl, rfl, trivial⟩ ⟨rfl, trivial⟩ rfl ?_
          refine AG.no (i := 27) rfl (by kernel_rfl) rfl rfl (by decide) ?_
          refine AG.no (i := 28) rfl (by kernel_rfl) rfl rfl (by decide) ?_
          refine AG.no (i := 29) rfl (by kernel_rfl) rfl rfl (by decide) ?_
          refine AG.rd (i := 30) (x := .p (.v (.bool true))) rfl (by kernel_rfl) (rd_pick rfl rfl) rfl rfl (by decide) ?_
          refine AG.rd (i := 31) (x := .p (.v (.bool true))) rfl (by kernel_rfl) (rd_mvx (Or.inl rfl) rfl) rfl rfl (by decide) ?_
          refine AG.no (i := 32) rfl (by kernel_rfl) rfl rfl (by decide) ?_
          refine AG.no (i := 33) rfl (by kernel_rfl) rfl rfl (by decide) ?_
          refine AG.rd (i := 34) (x := .p (.v (.bool true))) rfl (by kernel_rfl) (rd_pick rfl rfl) rfl rfl (by decide) ?_
          refine AG.done (by kernel_rfl) ?_
          refine go_then ?_
          refine AW.yes rfl ?_
          refine AW.seq ?_
          refine AW.list ?_
          refine AL.rd (x := .p (.v (.bool false))) (rd_mvx (Or.inr rfl) rfl) rfl rfl (by decide) ?_
          refine AL.nil ?_
          refine go_then ?_
          refine AW.ret ?_
          refine ret_then ?_
          refine ret_block ?_
          refine ret_then ?_
          refine ret_then ?_
          refine ret_block ?_
          refine ret_then ?_
          refine end_ret ?_ trivial
          refine congrArg (fun b => some (boo b)) ?_
          first | (exfalso; simp only [decide_eq_true_eq] at *; omega) | exact (linesOk_no hk (by rw [lineAt_eq hk]; simp_all [rangeA, prevOk_pos])).symm
        · intro h4
          refine AG.rd (i := 21) (x := .ptr 1203 _ 2) rfl (by kernel_rfl) (rd_faddr rfl ty.fl143_1 ty.nz3 ty.is3 rfl rfl) rfl rfl (by decide) ?_
          refine AG.rd (i := 22) (x := .p (.v (.int _ _))) rfl (by kernel_rfl) (rd_load_box rfl ty.kd3 rfl rfl rfl rfl) rfl rfl (by decide) ?_
          refine AG.tidy [(0, .p (.lst _ _ _)), (2, .p (.v (.bool false))), (3, .p (.v (.int _ _))), (4, .p (.v (.int _ _))), (5, .ptr 1203 _ 0), (6, .p (.lst _ _ _)), (7, .p (.v (.int _ _))), (8, .p (.v (.int _ _))), (33, .p (.v (.bool false))), (35, .p (.v (.int _ _)))] [(1203, .box _ _ [.p (.v (.int _ _)), .p (.v (.int _ _)), .p (.v (.int _ _))])] ⟨rfl, rfl, rfl, rfl, rfl, rfl, rfl, rfl, rfl, rfl, trivial⟩ ⟨rfl, trivial⟩ rfl ?_
          refine AG.st (i := 23) rfl (by kernel_rfl) (St.call [] [] [] rfl (by intro s hs; cases hs; decide) rfl Try.func122 rfl rfl (srange_e l[k].amt) ⟨rfl, rfl, rfl⟩ (trivial) (trivial) rfl) (by decide) rfl ?_
          refine AG.tidy [(0, .p (.lst _ _ _)), (2, .p (.v (.bool false))), (3, .p (.v (.int _ _))), (4, .p (.v (.int _ _))), (5, .ptr 1203 _ 0), (6, .p (.lst _ _ _)), (7, .p (.v (.int _ _))), (8, .p (.v (.int _ _))), (33, .p (.v (.bool false))), (36, .p (.v (.bool _)))] [(1203, .box _ _ [.p (.v (.int _ _)), .p (.v (.int _ _)), .p (.v (.int _ _))])] ⟨rfl, rfl, rfl, rfl, rfl, rfl, rfl, rfl, rfl, rfl, trivial⟩ ⟨rfl, trivial⟩ rfl ?_
          refine AG.rd (i := 24) (x := .p (.v (.bool _))) rfl (by kernel_rfl) (rd_un rfl rfl trivial) rfl rfl (by decide) ?_
          refine AG.rd (i := 25) (x := .p (.v (.bool _))) rfl (by kernel_rfl) (rd_pick rfl rfl) rfl rfl (by decide) ?_
          refine AG.rd (i := 26) (x := .p (.v (.bool _))) rfl (by kernel_rfl) (rd_mvx (Or.inl rfl) rfl) rfl rfl (by decide) ?_
          refine AG.bool (t := 39) rfl ?_ ?_
          · intro h5
            refine AG.no (i := 27) rfl (by kernel_rfl) rfl rfl (by decide) ?_
            refine AG.no (i := 28) rfl (by kernel_rfl) rfl rfl (by decide) ?_
            refine AG.no (i := 29) rfl (by kernel_rfl) rfl rfl (by decide) ?_
            refine AG.rd (i := 30) (x := .p (.v (.bool true))) rfl (by kernel_rfl) (rd_pick rfl rfl) rfl rfl (by decide) ?_
            refine AG.rd (i := 31) (x := .p (.v (.bool true))) rfl (by kernel_rfl) (rd_mvx (Or.inl rfl) rfl) rfl rfl (by decide) ?_
            refine AG.no (i := 32) rfl (by kernel_rfl) rfl rfl (by decide) ?_
            refine AG.no (i := 33) rfl (by kernel_rfl) rfl rfl (by decide) ?_
            refine AG.rd (i := 34) (x := .p (.v (.bool true))) rfl (by kernel_rfl) (rd_pick rfl rfl) rfl rfl (by decide) ?_
            refine AG.tidy [(0, .p (.lst _ _ _)), (2, .p (.v (.bool false))), (3, .p (.v (.int _ _))), (5, .ptr 1203 _ 0), (6, .p (.lst _ _ _)), (7, .p (.v (.int _ _))), (8, .p (.v (.int _ _))), (47, .p (.v (.bool true)))] [(1203, .box _ _ [.p (.v (.int _ _)), .p (.v (.int _ _)), .p (.v (.int _ _))])] ⟨rfl, rfl, rfl, rfl, rfl, rfl, rfl, rfl, trivial⟩ ⟨rfl, trivial⟩ rfl ?_
            refine AG.done (by kernel_rfl) ?_
            refine go_then ?_
            refine AW.yes rfl ?_
            refine AW.seq ?_
            refine AW.list ?_
            refine AL.rd (x := .p (.v (.bool false))) (rd_mvx (Or.inr rfl) rfl) rfl rfl (by decide) ?_
            refine AL.nil ?_
            refine go_then ?_
            refine AW.ret ?_
            refine ret_then ?_
            refine ret_block ?_
            refine ret_then ?_
            refine ret_then ?_
            refine ret_block ?_
            refine ret_then ?_
            refine end_ret ?_ trivial
            refine congrArg (fun b => some (boo b)) ?_
            first | (exfalso; simp only [decide_eq_true_eq] at *; omega) | exact (linesOk_no hk (by rw [lineAt_eq hk]; simp_all [rangeA, prevOk_pos])).symm
          · intro h5
            refine AG.rd (i := 27) (x := .ptr 1203 _ 2) rfl (by kernel_rfl) (rd_faddr rfl ty.fl143_1 ty.nz3 ty.is3 rfl rfl) rfl rfl (by decide) ?_
            refine AG.rd (i := 28) (x := .p (.v (.int _ _))) rfl (by kernel_rfl) (rd_load_box rfl ty.kd3 rfl rfl rfl rfl) rfl rfl (by decide) ?_
            refine AG.rd (i := 29) (x := .p (.v (.bool _))) rfl (by kernel_rfl) (rd_bin rfl rfl rfl) rfl rfl (by decide) ?_
            refine AG.rd (i := 30) (x := .p (.v (.bool _))) rfl (by kernel_rfl) (rd_pick rfl rfl) rfl rfl (by decide) ?_
            refine AG.rd (i := 31) (x := .p (.v (.bool _))) rfl (by kernel_rfl) (rd_mvx (Or.inl rfl) rfl) rfl rfl (by decide) ?_
            refine AG.tidy [(0, .p (.lst _ _ _)), (2, .p (.v (.bool false))), (3, .p (.v (.int _ _))), (4, .p (.v (.int _ _))), (5, .ptr 1203 _ 0), (6, .p (.lst _ _ _)), (7, .p (.v (.int _ _))), (8, .p (.v (.int _ _))), (44, .p (.v (.bool _)))] [(1203, .box _ _ [.p (.v (.int _ _)), .p (.v (.int _ _)), .p (.v (.int _ _))])] ⟨rfl, rfl, rfl, rfl, rfl, rfl, rfl, rfl, rfl, trivial⟩ ⟨rfl, trivial⟩ rfl ?_
            refine AG.bool (t := 44) rfl ?_ ?_
            · intro h6
              refine AG.no (i := 32) rfl (by kernel_rfl) rfl rfl (by decide) ?_
              refine AG.no (i := 33) rfl (by kernel_rfl) rfl rfl (by decide) ?_
              refine AG.rd (i := 34) (x := .p (.v (.bool true))) rfl (by kernel_rfl) (rd_pick rfl rfl) rfl rfl (by decide) ?_
              refine AG.done (by kernel_rfl) ?_
              refine go_then ?_
              refine AW.yes rfl ?_
              refine AW.seq ?_
              refine AW.list ?_
              refine AL.rd (x := .p (.v (.bool false))) (rd_mvx (Or.inr rfl) rfl) rfl rfl (by decide) ?_
              refine AL.nil ?_
              refine go_then ?_
              refine AW.ret ?_
              refine ret_then ?_
              refine ret_block ?_
              refine ret_then ?_
              refine ret_then ?_
              refine ret_block ?_
              refine ret_then ?_
              refine end_ret ?_ trivial
              refine congrArg (fun b => some (boo b)) ?_
              first | (exfalso; simp only [decide_eq_true_eq] at *; omega) | exact (linesOk_no hk (by rw [lineAt_eq hk]; simp_all [rangeA, prevOk_pos])).symm
            · intro h6
              refine AG.rd (i := 32) (x := .p (.v (.int _ _))) rfl (by kernel_rfl) (rd_mvx (Or.inl rfl) rfl) rfl rfl (by decide) ?_
              refine AG.rd (i := 33) (x := .p (.v (.bool _))) rfl (by kernel_rfl) (rd_bin rfl rfl rfl) rfl rfl (by decide) ?_
              refine AG.rd (i := 34) (x := .p (.v (.bool _))) rfl (by kernel_rfl) (rd_pick rfl rfl) rfl rfl (by decide) ?_
              refine AG.done (by kernel_rfl) ?_
              refine go_then ?_
              refine AW.cond rfl ?_ ?_
              · intro h7
                refine AW.seq ?_
                refine AW.list ?_
                refine AL.rd (x := .p (.v (.bool false))) (rd_mvx (Or.inr rfl) rfl) rfl rfl (by decide) ?_
                refine AL.tidy [(0, .p (.lst _ _ _)), (2, .p (.v (.bool false))), (3, .p (.v (.int _ _))), (5, .ptr 1203 _ 0), (6, .p (.lst _ _ _)), (7, .p (.v (.int _ _))), (8, .p (.v (.int _ _)))] [(1203, .box _ _ [.p (.v (.int _ _)), .p (.v (.int _ _)), .p (.v (.int _ _))])] ⟨rfl, rfl, rfl, rfl, rfl, rfl, rfl, trivial⟩ ⟨rfl, trivial⟩ ?_
                refine AL.nil ?_
                refine go_then ?_
                refine AW.ret ?_
                refine ret_then ?_
                refine ret_block ?_
                refine ret_then ?_
                refine ret_then ?_
                refine ret_block ?_
                refine ret_then ?_
                refine end_ret ?_ trivial
                refine congrArg (fun b => some (boo b)) ?_
                first | (exfalso; simp only [decide_eq_true_eq] at *; omega) | exact (linesOk_no hk (by rw [lineAt_eq hk]; simp_all [rangeA, prevOk_pos])).symm
              · intro h7
                refine AW.skip ?_
                refine go_then ?_
                refine AW.list ?_
                refine AL.rd (x := .p (.v (.int _ _))) (rd_mvx (Or.inl rfl) rfl) rfl rfl (by decide) ?_
                refine AL.rd (x := .ptr 1203 _ 2) (rd_faddr rfl ty.fl143_1 ty.nz3 ty.is3 rfl rfl) rfl rfl (by decide) ?_
                refine AL.rd (x := .p (.v (.int _ _))) (rd_load_box rfl ty.kd3 rfl rfl rfl rfl) rfl rfl (by decide) ?_
                have hpv : prevOk l k l[k] = true := by
                  rcases Nat.eq_zero_or_pos k with q | q
                  · subst q; rfl
                  · rw [prevOk_pos q hk]; simp_all
                have hgood : lineAt l k = true := by rw [lineAt_eq hk, hpv]; simp_all [rangeA]
                have hrg : rangeA l[k].amt = true := by rw [lineAt_eq hk] at hgood; simp only [Bool.and_eq_true] at hgood; exact hgood.1.2
                refine AL.rd (x := .p (.v (.int _ _))) (rd_bin rfl rfl ⟨rfl, sum_fit (by omega) hk hall hrg⟩) rfl rfl (by decide) ?_
                refine AL.rd (x := .p (.v (.int _ _))) (rd_mvx (Or.inr rfl) rfl) rfl rfl (by decide) ?_
                refine AL.nil ?_
                refine go_block ?_
                refine go_then ?_
                refine AW.list ?_
                refine AL.rd (x := .p (.v (.int _ _))) (rd_bin rfl rfl ⟨rfl, fits_i64 (by unfold i64; omega)⟩) rfl rfl (by decide) ?_
                refine AL.tidy [(0, .p (.lst _ _ _)), (2, .p (.v (.bool false))), (3, .p (.v (.int _ _))), (6, .p (.lst _ _ _)), (7, .p (.v (.int _ _))), (8, .p (.v (.int _ _))), (52, .p (.v (.int _ _)))] [(1203, .box _ _ [.p (.v (.int _ _)), .p (.v (.int _ _)), .p (.v (.int _ _))])] ⟨rfl, rfl, rfl, rfl, rfl, rfl, rfl, trivial⟩ ⟨rfl, trivial⟩ ?_
                refine AL.rd (x := .p (.v (.int _ _))) (rd_mvx (Or.inl rfl) rfl) rfl rfl (by decide) ?_
                refine AL.nil ?_
                refine go_then ?_
                refine ⟨k + 1, ⟨hk, fun j hj => (Nat.lt_or_ge j k).elim (hall j) (fun q => by rw [show j = k by omega]; exact hgood)⟩, by omega, ⟨(Eq.trans (b := int _) rfl (congrArg int (tot_succ amtOf l hk).symm)), (Eq.trans (b := int _) rfl (congrArg int (by omega))), trivial⟩, trivial, ⟨rfl, rfl, rfl, rfl, trivial⟩, trivial⟩
      · intro h3
        refine AG.skip (i := 8) rfl (by kernel_rfl) (by kernel_rfl) (by kernel_rfl) (by kernel_rfl) (by kernel_rfl) rfl rfl (by decide) (NP.then (NP.then (NP.block (NP.then (NP.then (NP.block (NP.then NP.ends))))))) ?_
        refine AG.skip (i := 9) rfl (by kernel_rfl) (by kernel_rfl) (by kernel_rfl) (by kernel_rfl) (by kernel_rfl) rfl rfl (by decide) (NP.then (NP.then (NP.block (NP.then (NP.then (NP.block (NP.then NP.ends))))))) ?_
        refine AG.skip (i := 10) rfl (by kernel_rfl) (by kernel_rfl) (by kernel_rfl) (by kernel_rfl) (by kernel_rfl) rfl rfl (by decide) (NP.then (NP.then (NP.block (NP.then (NP.then (NP.block (NP.then NP.ends))))))) ?_
        refine AG.skip (i := 11) rfl (by kernel_rfl) (by kernel_rfl) (by kernel_rfl) (by kernel_rfl) (by kernel_rfl) rfl rfl (by decide) (NP.then (NP.then (NP.block (NP.then (NP.then (NP.block (NP.then NP.ends))))))) ?_
        refine AG.skip (i := 12) rfl (by kernel_rfl) (by kernel_rfl) (by kernel_rfl) (by kernel_rfl) (by kernel_rfl) rfl rfl (by decide) (NP.then (NP.then (NP.block (NP.then (NP.then (NP.block (NP.then NP.ends))))))) ?_
        refine AG.skip (i := 13) rfl (by kernel_rfl) (by kernel_rfl) (by kernel_rfl) (by kernel_rfl) (by kernel_rfl) rfl rfl (by decide) (NP.then (NP.then (NP.block (NP.then (NP.then (NP.block (NP.then NP.ends))))))) ?_
        refine AG.no (i := 14) rfl (by kernel_rfl) rfl rfl (by decide) ?_
        refine AG.no (i := 15) rfl (by kernel_rfl) rfl rfl (by decide) ?_
        refine AG.no (i := 16) rfl (by kernel_rfl) rfl rfl (by decide) ?_
        refine AG.no (i := 17) rfl (by kernel_rfl) rfl rfl (by decide) ?_
        refine AG.rd (i := 18) (x := .p (.v (.bool false))) rfl (by kernel_rfl) (rd_pick rfl rfl) rfl rfl (by decide) ?_
        refine AG.rd (i := 19) (x := .p (.v (.bool false))) rfl (by kernel_rfl) (rd_pick rfl rfl) rfl rfl (by decide) ?_
        refine AG.rd (i := 20) (x := .p (.v (.bool false))) rfl (by kernel_rfl) (rd_mvx (Or.inl rfl) rfl) rfl rfl (by decide) ?_
        refine AG.rd (i := 21) (x := .ptr 1203 _ 2) rfl (by kernel_rfl) (rd_faddr rfl ty.fl143_1 ty.nz3 ty.is3 rfl rfl) rfl rfl (by decide) ?_
        refine AG.rd (i := 22) (x := .p (.v (.int _ _))) rfl (by kernel_rfl) (rd_load_box rfl ty.kd3 rfl rfl rfl rfl) rfl rfl (by decide) ?_
        refine AG.tidy [(0, .p (.lst _ _ _)), (2, .p (.v (.bool false))), (3, .p (.v (.int _ _))), (4, .p (.v (.int _ _))), (5, .ptr 1203 _ 0), (6, .p (.lst _ _ _)), (7, .p (.v (.int _ _))), (8, .p (.v (.int _ _))), (33, .p (.v (.bool false))), (35, .p (.v (.int _ _)))] [(1203, .box _ _ [.p (.v (.int _ _)), .p (.v (.int _ _)), .p (.v (.int _ _))])] ⟨rfl, rfl, rfl, rfl, rfl, rfl, rfl, rfl, rfl, rfl, trivial⟩ ⟨rfl, trivial⟩ rfl ?_
        refine AG.st (i := 23) rfl (by kernel_rfl) (St.call [] [] [] rfl (by intro s hs; cases hs; decide) rfl Try.func122 rfl rfl (srange_e l[k].amt) ⟨rfl, rfl, rfl⟩ (trivial) (trivial) rfl) (by decide) rfl ?_
        refine AG.tidy [(0, .p (.lst _ _ _)), (2, .p (.v (.bool false))), (3, .p (.v (.int _ _))), (4, .p (.v (.int _ _))), (5, .ptr 1203 _ 0), (6, .p (.lst _ _ _)), (7, .p (.v (.int _ _))), (8, .p (.v (.int _ _))), (33, .p (.v (.bool false))), (36, .p (.v (.bool _)))] [(1203, .box _ _ [.p (.v (.int _ _)), .p (.v (.int _ _)), .p (.v (.int _ _))])] ⟨rfl, rfl, rfl, rfl, rfl, rfl, rfl, rfl, rfl, rfl, trivial⟩ ⟨rfl, trivial⟩ rfl ?_
        refine AG.rd (i := 24) (x := .p (.v (.bool _))) rfl (by kernel_rfl) (rd_un rfl rfl trivial) rfl rfl (by decide) ?_
        refine AG.rd (i := 25) (x := .p (.v (.bool _))) rfl (by kernel_rfl) (rd_pick rfl rfl) rfl rfl (by decide) ?_
        refine AG.rd (i := 26) (x := .p (.v (.bool _))) rfl (by kernel_rfl) (rd_mvx (Or.inl rfl) rfl) rfl rfl (by decide) ?_
        refine AG.bool (t := 39) rfl ?_ ?_
        · intro h8
          refine AG.no (i := 27) rfl (by kernel_rfl) rfl rfl (by decide) ?_
          refine AG.no (i := 28) rfl (by kernel_rfl) rfl rfl (by decide) ?_
          refine AG.no (i := 29) rfl (by kernel_rfl) rfl rfl (by decide) ?_
          refine AG.rd (i := 30) (x := .p (.v (.bool true))) rfl (by kernel_rfl) (rd_pick rfl rfl) rfl rfl (by decide) ?_
          refine AG.rd (i := 31) (x := .p (.v (.bool true))) rfl (by kernel_rfl) (rd_mvx (Or.inl rfl) rfl) rfl rfl (by decide) ?_
          refine AG.no (i := 32) rfl (by kernel_rfl) rfl rfl (by decide) ?_
          refine AG.no (i := 33) rfl (by kernel_rfl) rfl rfl (by decide) ?_
          refine AG.rd (i := 34) (x := .p (.v (.bool true))) rfl (by kernel_rfl) (rd_pick rfl rfl) rfl rfl (by decide) ?_
          refine AG.tidy [(0, .p (.lst _ _ _)), (2, .p (.v (.bool false))), (3, .p (.v (.int _ _))), (5, .ptr 1203 _ 0), (6, .p (.lst _ _ _)), (7, .p (.v (.int _ _))), (8, .p (.v (.int _ _))), (47, .p (.v (.bool true)))] [(1203, .box _ _ [.p (.v (.int _ _)), .p (.v (.int _ _)), .p (.v (.int _ _))])] ⟨rfl, rfl, rfl, rfl, rfl, rfl, rfl, rfl, trivial⟩ ⟨rfl, trivial⟩ rfl ?_
          refine AG.done (by kernel_rfl) ?_
          refine go_then ?_
          refine AW.yes rfl ?_
          refine AW.seq ?_
          refine AW.list ?_
          refine AL.rd (x := .p (.v (.bool false))) (rd_mvx (Or.inr rfl) rfl) rfl rfl (by decide) ?_
          refine AL.nil ?_
          refine go_then ?_
          refine AW.ret ?_
          refine ret_then ?_
          refine ret_block ?_
          refine ret_then ?_
          refine ret_then ?_
          refine ret_block ?_
          refine ret_then ?_
          refine end_ret ?_ trivial
          refine congrArg (fun b => some (boo b)) ?_
          first | (exfalso; simp only [decide_eq_true_eq] at *; omega) | exact (linesOk_no hk (by rw [lineAt_eq hk]; simp_all [rangeA, prevOk_pos])).symm
        · intro h8
          refine AG.rd (i := 27) (x := .ptr 1203 _ 2) rfl (by kernel_rfl) (rd_faddr rfl ty.fl143_1 ty.nz3 ty.is3 rfl rfl) rfl rfl (by decide) ?_
          refine AG.rd (i := 28) (x := .p (.v (.int _ _))) rfl (by kernel_rfl) (rd_load_box rfl ty.kd3 rfl rfl rfl rfl) rfl rfl (by decide) ?_
          refine AG.rd (i := 29) (x := .p (.v (.bool _))) rfl (by kernel_rfl) (rd_bin rfl rfl rfl) rfl rfl (by decide) ?_
          refine AG.rd (i := 30) (x := .p (.v (.bool _))) rfl (by kernel_rfl) (rd_pick rfl rfl) rfl rfl (by decide) ?_
          refine AG.rd (i := 31) (x := .p (.v (.bool _))) rfl (by kernel_rfl) (rd_mvx (Or.inl rfl) rfl) rfl rfl (by decide) ?_
          refine AG.tidy [(0, .p (.lst _ _ _)), (2, .p (.v (.bool false))), (3, .p (.v (.int _ _))), (4, .p (.v (.int _ _))), (5, .ptr 1203 _ 0), (6, .p (.lst _ _ _)), (7, .p (.v (.int _ _))), (8, .p (.v (.int _ _))), (44, .p (.v (.bool _)))] [(1203, .box _ _ [.p (.v (.int _ _)), .p (.v (.int _ _)), .p (.v (.int _ _))])] ⟨rfl, rfl, rfl, rfl, rfl, rfl, rfl, rfl, rfl, trivial⟩ ⟨rfl, trivial⟩ rfl ?_
          refine AG.bool (t := 44) rfl ?_ ?_
          · intro h9
            refine AG.no (i := 32) rfl (by kernel_rfl) rfl rfl (by decide) ?_
            refine AG.no (i := 33) rfl (by kernel_rfl) rfl rfl (by decide) ?_
            refine AG.rd (i := 34) (x := .p (.v (.bool true))) rfl (by kernel_rfl) (rd_pick rfl rfl) rfl rfl (by decide) ?_
            refine AG.done (by kernel_rfl) ?_
            refine go_then ?_
            refine AW.yes rfl ?_
            refine AW.seq ?_
            refine AW.list ?_
            refine AL.rd (x := .p (.v (.bool false))) (rd_mvx (Or.inr rfl) rfl) rfl rfl (by decide) ?_
            refine AL.nil ?_
            refine go_then ?_
            refine AW.ret ?_
            refine ret_then ?_
            refine ret_block ?_
            refine ret_then ?_
            refine ret_then ?_
            refine ret_block ?_
            refine ret_then ?_
            refine end_ret ?_ trivial
            refine congrArg (fun b => some (boo b)) ?_
            first | (exfalso; simp only [decide_eq_true_eq] at *; omega) | exact (linesOk_no hk (by rw [lineAt_eq hk]; simp_all [rangeA, prevOk_pos])).symm
          · intro h9
            refine AG.rd (i := 32) (x := .p (.v (.int _ _))) rfl (by kernel_rfl) (rd_mvx (Or.inl rfl) rfl) rfl rfl (by decide) ?_
            refine AG.rd (i := 33) (x := .p (.v (.bool _))) rfl (by kernel_rfl) (rd_bin rfl rfl rfl) rfl rfl (by decide) ?_
            refine AG.rd (i := 34) (x := .p (.v (.bool _))) rfl (by kernel_rfl) (rd_pick rfl rfl) rfl rfl (by decide) ?_
            refine AG.done (by kernel_rfl) ?_
            refine go_then ?_
            refine AW.cond rfl ?_ ?_
            · intro h10
              refine AW.seq ?_
              refine AW.list ?_
              refine AL.rd (x := .p (.v (.bool false))) (rd_mvx (Or.inr rfl) rfl) rfl rfl (by decide) ?_
              refine AL.tidy [(0, .p (.lst _ _ _)), (2, .p (.v (.bool false))), (3, .p (.v (.int _ _))), (5, .ptr 1203 _ 0), (6, .p (.lst _ _ _)), (7, .p (.v (.int _ _))), (8, .p (.v (.int _ _)))] [(1203, .box _ _ [.p (.v (.int _ _)), .p (.v (.int _ _)), .p (.v (.int _ _))])] ⟨rfl, rfl, rfl, rfl, rfl, rfl, rfl, trivial⟩ ⟨rfl, trivial⟩ ?_
              refine AL.nil ?_
              refine go_then ?_
              refine AW.ret ?_
              refine ret_then ?_
              refine ret_block ?_
              refine ret_then ?_
              refine ret_then ?_
              refine ret_block ?_
              refine ret_then ?_
              refine end_ret ?_ trivial
              refine congrArg (fun b => some (boo b)) ?_
              first | (exfalso; simp only [decide_eq_true_eq] at *; omega) | exact (linesOk_no hk (by rw [lineAt_eq hk]; simp_all [rangeA, prevOk_pos])).symm
            · intro h10
              refine AW.skip ?_
              refine go_then ?_
              refine AW.list ?_
              refine AL.rd (x := .p (.v (.int _ _))) (rd_mvx (Or.inl rfl) rfl) rfl rfl (by decide) ?_
              refine AL.rd (x := .ptr 1203 _ 2) (rd_faddr rfl ty.fl143_1 ty.nz3 ty.is3 rfl rfl) rfl rfl (by decide) ?_
              refine AL.rd (x := .p (.v (.int _ _))) (rd_load_box rfl ty.kd3 rfl rfl rfl rfl) rfl rfl (by decide) ?_
              have hpv : prevOk l k l[k] = true := by
                rcases Nat.eq_zero_or_pos k with q | q
                · subst q; rfl
                · rw [prevOk_pos q hk]; simp_all
              have hgood : lineAt l k = true := by rw [lineAt_eq hk, hpv]; simp_all [rangeA]
              have hrg : rangeA l[k].amt = true := by rw [lineAt_eq hk] at hgood; simp only [Bool.and_eq_true] at hgood; exact hgood.1.2
              refine AL.rd (x := .p (.v (.int _ _))) (rd_bin rfl rfl ⟨rfl, sum_fit (by omega) hk hall hrg⟩) rfl rfl (by decide) ?_
              refine AL.rd (x := .p (.v (.int _ _))) (rd_mvx (Or.inr rfl) rfl) rfl rfl (by decide) ?_
              refine AL.nil ?_
              refine go_block ?_
              refine go_then ?_
              refine AW.list ?_
              refine AL.rd (x := .p (.v (.int _ _))) (rd_bin rfl rfl ⟨rfl, fits_i64 (by unfold i64; omega)⟩) rfl rfl (by decide) ?_
              refine AL.tidy [(0, .p (.lst _ _ _)), (2, .p (.v (.bool false))), (3, .p (.v (.int _ _))), (6, .p (.lst _ _ _)), (7, .p (.v (.int _ _))), (8, .p (.v (.int _ _))), (52, .p (.v (.int _ _)))] [(1203, .box _ _ [.p (.v (.int _ _)), .p (.v (.int _ _)), .p (.v (.int _ _))])] ⟨rfl, rfl, rfl, rfl, rfl, rfl, rfl, trivial⟩ ⟨rfl, trivial⟩ ?_
              refine AL.rd (x := .p (.v (.int _ _))) (rd_mvx (Or.inl rfl) rfl) rfl rfl (by decide) ?_
              refine AL.nil ?_
              refine go_then ?_
              refine ⟨k + 1, ⟨hk, fun j hj => (Nat.lt_or_ge j k).elim (hall j) (fun q => by rw [show j = k by omega]; exact hgood)⟩, by omega, ⟨(Eq.trans (b := int _) rfl (congrArg int (tot_succ amtOf l hk).symm)), (Eq.trans (b := int _) rfl (congrArg int (by omega))), trivial⟩, trivial, ⟨rfl, rfl, rfl, rfl, trivial⟩, trivial⟩
  · intro h1
    refine AW.exit ?_
    refine ex_then ?_
    refine ex_then ?_
    refine ex_block ?_
    refine go_then ?_
    refine AW.seq ?_
    refine AW.list ?_
    refine AL.rd (x := .p (.v (.int _ _))) (rd_mvx (Or.inl rfl) rfl) rfl rfl (by decide) ?_
    refine AL.rd (x := .p (.v (.bool _))) (rd_bin rfl rfl rfl) rfl rfl (by decide) ?_
    refine AL.rd (x := .p (.v (.bool _))) (rd_mvx (Or.inr rfl) rfl) rfl rfl (by decide) ?_
    refine AL.nil ?_
    refine go_then ?_
    refine AW.ret ?_
    refine end_ret ?_ trivial
    refine congrArg (fun b => some (boo b)) ?_
    have hkn : ¬ k < l.length := by simpa [length_rowsOf] using h1
    obtain rfl : k = l.length := by omega
    rw [linesOk_yes hall, List.take_length, dec_beq]

set_option maxHeartbeats 4000000 in
set_option maxRecDepth 100000 in
theorem ledgerOk_e (x : Ledger) : GC Try.prog 70 [.agg [int x.last, .p (.lst 143 3 (rowsOf encLine x.lines))]] [] (boo (ledgerOk x)) [] := by
  refine GC.intro (rs := [.tmp 2]) Try.func70 rfl Try.ntmps70 (Nat.le_of_ble_eq_true rfl) ⟨rfl, trivial⟩ ?_
  intro L O w0
  refine AW.seq ?_
  refine AW.list ?_
  refine AL.st (St.box 1000 rfl rfl (by decide) rfl) rfl ?_
  refine AL.tidy [(1, .ptr 1000 _ 0)] [(1000, .box _ _ [.p (.v (.int _ _)), .p (.lst _ _ _)])] ⟨rfl, trivial⟩ ⟨rfl, trivial⟩ ?_
  refine AL.rd (x := .p (.v (.bool false))) (rd_mvx (Or.inr rfl) rfl) rfl rfl (by decide) ?_
  refine AL.nil ?_
  refine go_then ?_
  refine AW.seq ?_
  refine AW.list ?_
  refine AL.rd (x := .ptr 1000 _ 0) (rd_faddr rfl ty.fl62_0 ty.nz3 ty.is3 rfl rfl) rfl rfl (by decide) ?_
  refine AL.rd (x := .p (.v (.int _ _))) (rd_load_box rfl ty.kd3 rfl rfl rfl rfl) rfl rfl (by decide) ?_
  refine AL.st (St.call [] [] [] rfl (by intro s hs; cases hs; decide) rfl Try.func105 rfl rfl (amtOk_e _) ⟨rfl, rfl, rfl⟩ (trivial) (trivial) rfl) rfl ?_
  refine AL.tidy [(1, .ptr 1000 _ 0), (2, .p (.v (.bool false))), (5, .p (.v (.bool _)))] [(1000, .box _ _ [.p (.v (.int _ _)), .p (.lst _ _ _)])] ⟨rfl, rfl, rfl, trivial⟩ ⟨rfl, trivial⟩ ?_
  refine AL.rd (x := .p (.v (.bool _))) (rd_mvx (Or.inl rfl) rfl) rfl rfl (by decide) ?_
  refine AL.bool (t := 6) rfl ?_ ?_
  · intro h1
    refine AL.rd (x := .ptr 1000 _ 1) (rd_faddr rfl ty.fl62_1 ty.nz60 ty.is60 rfl rfl) rfl rfl (by decide) ?_
    refine AL.rd (x := .p (.lst _ _ _)) (rd_load_box rfl ty.kd60 rfl rfl rfl rfl) rfl rfl (by decide) ?_
    refine AL.rd (x := .p (.v (.int _ _))) (rd_len rfl ty.sl60 rfl) rfl rfl (by decide) ?_
    refine AL.rd (x := .p (.v (.bool _))) (rd_bin rfl rfl rfl) rfl rfl (by decide) ?_
    refine AL.rd (x := .p (.v (.bool _))) (rd_pick rfl rfl) rfl rfl (by decide) ?_
    refine AL.tidy [(1, .ptr 1000 _ 0), (2, .p (.v (.bool false))), (11, .p (.v (.bool _)))] [(1000, .box _ _ [.p (.v (.int _ _)), .p (.lst _ _ _)])] ⟨rfl, rfl, rfl, trivial⟩ ⟨rfl, trivial⟩ ?_
    refine AL.rd (x := .p (.v (.bool _))) (rd_mvx (Or.inl rfl) rfl) rfl rfl (by decide) ?_
    refine AL.bool (t := 12) rfl ?_ ?_
    · intro h2
      refine AL.rd (x := .ptr 1000 _ 1) (rd_faddr rfl ty.fl62_1 ty.nz60 ty.is60 rfl rfl) rfl rfl (by decide) ?_
      refine AL.rd (x := .p (.lst _ _ _)) (rd_load_box rfl ty.kd60 rfl rfl rfl rfl) rfl rfl (by decide) ?_
      refine AL.st (St.call [] [] [] rfl (by intro s hs; cases hs; decide) rfl Try.func109 rfl rfl (linesOk_e x.lines (by have h := h2; simp only [length_rowsOf, decide_eq_true_eq] at h; omega)) ⟨rfl, rfl, rfl⟩ (trivial) (trivial) rfl) rfl ?_
      refine AL.tidy [(2, .p (.v (.bool false))), (12, .p (.v (.bool true))), (15, .p (.v (.bool _)))] [(1000, .box _ _ [.p (.v (.int _ _)), .p (.lst _ _ _)])] ⟨rfl, rfl, rfl, trivial⟩ ⟨rfl, trivial⟩ ?_
      refine AL.rd (x := .p (.v (.bool _))) (rd_pick rfl rfl) rfl rfl (by decide) ?_
      refine AL.rd (x := .p (.v (.bool _))) (rd_mvx (Or.inr rfl) rfl) rfl rfl (by decide) ?_
      refine AL.nil ?_
      refine go_then ?_
      refine AW.ret ?_
      refine end_ret ?_ trivial
      refine congrArg (fun b => some (boo b)) ?_
      unfold ledgerOk
      simp_all [length_rowsOf, amtOk, inB] <;> (intros; omega)
    · intro h2
      refine AL.no rfl rfl (by decide) ?_
      refine AL.no rfl rfl (by decide) ?_
      refine AL.no rfl rfl (by decide) ?_
      refine AL.rd (x := .p (.v (.bool false))) (rd_pick rfl rfl) rfl rfl (by decide) ?_
      refine AL.rd (x := .p (.v (.bool false))) (rd_mvx (Or.inr rfl) rfl) rfl rfl (by decide) ?_
      refine AL.nil ?_
      refine go_then ?_
      refine AW.ret ?_
      refine end_ret ?_ trivial
      refine congrArg (fun b => some (boo b)) ?_
      unfold ledgerOk
      simp_all [length_rowsOf, amtOk, inB] <;> (intros; omega)
  · intro h1
    refine AL.no rfl rfl (by decide) ?_
    refine AL.no rfl rfl (by decide) ?_
    refine AL.no rfl rfl (by decide) ?_
    refine AL.no rfl rfl (by decide) ?_
    refine AL.rd (x := .p (.v (.bool false))) (rd_pick rfl rfl) rfl rfl (by decide) ?_
    refine AL.rd (x := .p (.v (.bool false))) (rd_mvx (Or.inl rfl) rfl) rfl rfl (by decide) ?_
    refine AL.tidy [(1, .ptr 1000 _ 0), (2, .p (.v (.bool false))), (12, .p (.v (.bool false)))] [(1000, .box _ _ [.p (.v (.int _ _)), .p (.lst _ _ _)])] ⟨rfl, rfl, rfl, trivial⟩ ⟨rfl, trivial⟩ ?_
    refine AL.no rfl rfl (by decide) ?_
    refine AL.no rfl rfl (by decide) ?_
    refine AL.no rfl rfl (by decide) ?_
    refine AL.rd (x := .p (.v (.bool false))) (rd_pick rfl rfl) rfl rfl (by decide) ?_
    refine AL.rd (x := .p (.v (.bool false))) (rd_mvx (Or.inr rfl) rfl) rfl rfl (by decide) ?_
    refine AL.nil ?_
    refine go_then ?_
    refine AW.ret ?_
    refine end_ret ?_ trivial
    refine congrArg (fun b => some (boo b)) ?_
    unfold ledgerOk
    simp_all [length_rowsOf, amtOk, inB] <;> (intros; omega)

set_option maxHeartbeats 4000000 in
set_option maxRecDepth 100000 in
theorem balance_e (x : Ledger) (a : Acc) (hm : x.lines.length ≤ 9007199254740992) : GC Try.prog 71 [.agg [int x.last, .p (.lst 143 3 (rowsOf encLine x.lines))], .agg [int a.kind, int a.ch]] [] (int (balance x a)) [] := by
  refine GC.intro (rs := [.tmp 4]) Try.func71 rfl Try.ntmps71 (Nat.le_of_ble_eq_true rfl) ⟨rfl, trivial⟩ ?_
  intro L O w0
  refine AW.seq ?_
  refine AW.list ?_
  refine AL.st (St.box 1000 rfl rfl (by decide) rfl) rfl ?_
  refine AL.tidy [(1, .agg [.p (.v (.int _ _)), .p (.v (.int _ _))]), (2, .ptr 1000 _ 0)] [(1000, .box _ _ [.p (.v (.int _ _)), .p (.lst _ _ _)])] ⟨rfl, rfl, trivial⟩ ⟨rfl, trivial⟩ ?_
  refine AL.st (St.box 1001 rfl rfl (by decide) rfl) rfl ?_
  refine AL.tidy [(2, .ptr 1000 _ 0), (3, .ptr 1001 _ 0)] [(1000, .box _ _ [.p (.v (.int _ _)), .p (.lst _ _ _)]), (1001, .box _ _ [.p (.v (.int _ _)), .p (.v (.int _ _))])] ⟨rfl, rfl, trivial⟩ ⟨rfl, rfl, trivial⟩ ?_
  refine AL.rd (x := .p (.v (.int _ _))) (rd_mvx (Or.inr rfl) rfl) rfl rfl (by decide) ?_
  refine AL.nil ?_
  refine go_then ?_
  refine AW.seq ?_
  refine AW.seq ?_
  refine AW.list ?_
  refine AL.rd (x := .agg [.p (.v (.int _ _)), .p (.lst _ _ _)]) (rd_load_box rfl ty.kd62 rfl rfl rfl rfl) rfl rfl (by decide) ?_
  refine AL.st (St.call [] [] [] rfl (by intro s hs; cases hs; decide) rfl Try.func70 rfl rfl (ledgerOk_e x) ⟨rfl, rfl, rfl⟩ (trivial) (trivial) rfl) rfl ?_
  refine AL.tidy [(2, .ptr 1000 _ 0), (3, .ptr 1001 _ 0), (4, .p (.v (.int _ _))), (8, .p (.v (.bool _)))] [(1000, .box _ _ [.p (.v (.int _ _)), .p (.lst _ _ _)]), (1001, .box _ _ [.p (.v (.int _ _)), .p (.v (.int _ _))])] ⟨rfl, rfl, rfl, rfl, trivial⟩ ⟨rfl, rfl, trivial⟩ ?_
  refine AL.rd (x := .p (.v (.bool _))) (rd_un rfl rfl trivial) rfl rfl (by decide) ?_
  refine AL.rd (x := .p (.v (.bool _))) (rd_mvx (Or.inl rfl) rfl) rfl rfl (by decide) ?_
  refine AL.bool (t := 10) rfl ?_ ?_
  · intro h1
    refine AL.no rfl rfl (by decide) ?_
    refine AL.no rfl rfl (by decide) ?_
    refine AL.no rfl rfl (by decide) ?_
    refine AL.rd (x := .p (.v (.bool true))) (rd_pick rfl rfl) rfl rfl (by decide) ?_
    refine AL.nil ?_
    refine go_then ?_
    refine AW.yes rfl ?_
    refine AW.seq ?_
    refine AW.list ?_
    refine AL.rd (x := .p (.v (.int _ _))) (rd_mvx (Or.inr rfl) rfl) rfl rfl (by decide) ?_
    refine AL.nil ?_
    refine go_then ?_
    refine AW.ret ?_
    refine ret_then ?_
    refine end_ret ?_ trivial
    refine congrArg (fun b => some (int b)) ?_
    unfold balance
    simp_all
  · intro h1
    refine AL.rd (x := .agg [.p (.v (.int _ _)), .p (.v (.int _ _))]) (rd_load_box rfl ty.kd105 rfl rfl rfl rfl) rfl rfl (by decide) ?_
    refine AL.st (St.call [] [] [] rfl (by intro s hs; cases hs; decide) rfl Try.func110 rfl rfl (accOk_e a) ⟨rfl, rfl, rfl⟩ (trivial) (trivial) rfl) rfl ?_
    refine AL.tidy [(2, .ptr 1000 _ 0), (3, .ptr 1001 _ 0), (4, .p (.v (.int _ _))), (10, .p (.v (.bool false))), (12, .p (.v (.bool _)))] [(1000, .box _ _ [.p (.v (.int _ _)), .p (.lst _ _ _)]), (1001, .box _ _ [.p (.v (.int _ _)), .p (.v (.int _ _))])] ⟨rfl, rfl, rfl, rfl, rfl, trivial⟩ ⟨rfl, rfl, trivial⟩ ?_
    refine AL.rd (x := .p (.v (.bool _))) (rd_un rfl rfl trivial) rfl rfl (by decide) ?_
    refine AL.rd (x := .p (.v (.bool _))) (rd_pick rfl rfl) rfl rfl (by decide) ?_
    refine AL.nil ?_
    refine go_then ?_
    refine AW.cond rfl ?_ ?_
    · intro h2
      refine AW.seq ?_
      refine AW.list ?_
      refine AL.rd (x := .p (.v (.int _ _))) (rd_mvx (Or.inr rfl) rfl) rfl rfl (by decide) ?_
      refine AL.nil ?_
      refine go_then ?_
      refine AW.ret ?_
      refine ret_then ?_
      refine end_ret ?_ trivial
      refine congrArg (fun b => some (int b)) ?_
      unfold balance
      simp_all
    · intro h2
      refine AW.skip ?_
      refine go_then ?_
      refine AW.seq ?_
      refine AW.seq ?_
      refine AW.list ?_
      refine AL.rd (x := .ptr 1000 _ 1) (rd_faddr rfl ty.fl62_1 ty.nz60 ty.is60 rfl rfl) rfl rfl (by decide) ?_
      refine AL.rd (x := .p (.lst _ _ _)) (rd_load_box rfl ty.kd60 rfl rfl rfl rfl) rfl rfl (by decide) ?_
      refine AL.rd (x := .p (.v (.int _ _))) (rd_len rfl ty.sl60 rfl) rfl rfl (by decide) ?_
      refine AL.tidy [(3, .ptr 1001 _ 0), (4, .p (.v (.int _ _))), (16, .p (.lst _ _ _)), (17, .p (.v (.int _ _)))] [(1000, .box _ _ [.p (.v (.int _ _)), .p (.lst _ _ _)]), (1001, .box _ _ [.p (.v (.int _ _)), .p (.v (.int _ _))])] ⟨rfl, rfl, rfl, rfl, trivial⟩ ⟨rfl, rfl, trivial⟩ ?_
      refine AL.rd (x := .p (.v (.int _ _))) (rd_mvx (Or.inl rfl) rfl) rfl rfl (by decide) ?_
      refine AL.nil ?_
      refine go_then ?_
      refine AW.block ?_
      refine AW.loopE [(3, .ptr 1001 _ 0), (4, .p (.v (.int _ _))), (16, .p (.lst _ _ _)), (17, .p (.v (.int _ _)))] [(1000, .box _ _ [.p (.v (.int _ _)), .p (.lst _ _ _)]), (1001, .box _ _ [.p (.v (.int _ _)), .p (.v (.int _ _))])] (D := Nat) (fun k => [(18, int (k : Int))]) (fun k => []) (fun k => k ≤ x.lines.length ∧ balAt (x.lines.drop k) a = balance x a) (fun k => x.lines.length - k) 0 ⟨Nat.zero_le _, by unfold balance; simp_all⟩ ⟨rfl, trivial⟩ trivial ⟨rfl, rfl, rfl, rfl, trivial⟩ ⟨rfl, rfl, trivial⟩ ?_
      intro k hI
      obtain ⟨hkl, hbal⟩ := hI
      refine AW.seq ?_
      refine AW.list ?_
      refine AL.rd (x := .p (.v (.bool _))) (rd_bin rfl rfl rfl) rfl rfl (by decide) ?_
      refine AL.nil ?_
      refine go_then ?_
      refine AW.seq ?_
      refine AW.cond rfl ?_ ?_
      · intro h3
        refine AW.skip ?_
        refine go_then ?_
        refine AW.seq ?_
        refine AW.block ?_
        refine AW.seq ?_
        refine AW.list ?_
        have hk : k < x.lines.length := by simpa [length_rowsOf] using h3
        refine AL.rd (x := .rp _) (rd_iaddr_p (i := k) rfl ty.el60 rfl rfl rfl (row_map hk)) rfl rfl (by decide) ?_
        refine AL.rd (x := .agg [.p (.v (.int _ _)), .p (.v (.int _ _)), .p (.v (.int _ _))]) (rd_load_rp rfl ty.kd143 rfl rfl) rfl rfl (by decide) ?_
        refine AL.st (St.alloc 1252 rfl rfl (by decide) ty.ze143) rfl ?_
        refine AL.tidy [(3, .ptr 1001 _ 0), (4, .p (.v (.int _ _))), (6, .ptr 1252 _ 0), (16, .p (.lst _ _ _)), (17, .p (.v (.int _ _))), (18, .p (.v (.int _ _))), (21, .agg [.p (.v (.int _ _)), .p (.v (.int _ _)), .p (.v (.int _ _))])] [(1000, .box _ _ [.p (.v (.int _ _)), .p (.lst _ _ _)]), (1001, .box _ _ [.p (.v (.int _ _)), .p (.v (.int _ _))]), (1252, .box _ _ [.p (.v (.int _ _)), .p (.v (.int _ _)), .p (.v (.int _ _))])] ⟨rfl, rfl, rfl, rfl, rfl, rfl, rfl, trivial⟩ ⟨rfl, rfl, rfl, trivial⟩ ?_
        refine AL.st (St.storeBox 1252 rfl rfl rfl rfl rfl ty.co143 ty.inf143 (Nat.le_of_ble_eq_true rfl)) rfl ?_
        refine AL.tidy [(3, .ptr 1001 _ 0), (4, .p (.v (.int _ _))), (6, .ptr 1252 _ 0), (16, .p (.lst _ _ _)), (17, .p (.v (.int _ _))), (18, .p (.v (.int _ _)))] [(1000, .box _ _ [.p (.v (.int _ _)), .p (.lst _ _ _)]), (1001, .box _ _ [.p (.v (.int _ _)), .p (.v (.int _ _))]), (1252, .box _ _ [.p (.v (.int _ _)), .p (.v (.int _ _)), .p (.v (.int _ _))])] ⟨rfl, rfl, rfl, rfl, rfl, rfl, trivial⟩ ⟨rfl, rfl, rfl, trivial⟩ ?_
        refine AL.nil ?_
        refine go_then ?_
        refine AW.seq ?_
        refine AW.list ?_
        refine AL.rd (x := .ptr 1252 _ 0) (rd_faddr rfl ty.fl143_0 ty.nz105 ty.is105 rfl rfl) rfl rfl (by decide) ?_
        refine AL.rd (x := .agg [.p (.v (.int _ _)), .p (.v (.int _ _))]) (rd_load_box rfl ty.kd105 rfl rfl rfl rfl) rfl rfl (by decide) ?_
        refine AL.rd (x := .agg [.p (.v (.int _ _)), .p (.v (.int _ _))]) (rd_load_box rfl ty.kd105 rfl rfl rfl rfl) rfl rfl (by decide) ?_
        refine AL.rd (x := .p (.v (.bool _))) (rd_eqS rfl (.inl rfl) rfl rfl ty.sf105 ty.su105 ty.sh105 ty.sg105 ?hn1) rfl rfl (by decide) ?_
        case hn1 => exact ⟨rfl, by decide, rfl, ⟨_, Try.underlying3⟩, rfl, by decide, rfl, ⟨_, Try.underlying3⟩, trivial⟩
        refine AL.nil ?_
        refine go_then ?_
        refine AW.cond rfl ?_ ?_
        · intro h4
          refine AW.seq ?_
          refine AW.list ?_
          refine AL.rd (x := .ptr 1252 _ 2) (rd_faddr rfl ty.fl143_1 ty.nz3 ty.is3 rfl rfl) rfl rfl (by decide) ?_
          refine AL.rd (x := .p (.v (.int _ _))) (rd_load_box rfl ty.kd3 rfl rfl rfl rfl) rfl rfl (by decide) ?_
          refine AL.tidy [(3, .ptr 1001 _ 0), (4, .p (.v (.int _ _))), (16, .p (.lst _ _ _)), (17, .p (.v (.int _ _))), (18, .p (.v (.int _ _))), (27, .p (.v (.int _ _)))] [(1000, .box _ _ [.p (.v (.int _ _)), .p (.lst _ _ _)]), (1001, .box _ _ [.p (.v (.int _ _)), .p (.v (.int _ _))]), (1252, .box _ _ [.p (.v (.int _ _)), .p (.v (.int _ _)), .p (.v (.int _ _))])] ⟨rfl, rfl, rfl, rfl, rfl, rfl, trivial⟩ ⟨rfl, rfl, rfl, trivial⟩ ?_
          refine AL.rd (x := .p (.v (.int _ _))) (rd_mvx (Or.inr rfl) rfl) rfl rfl (by decide) ?_
          refine AL.nil ?_
          refine go_then ?_
          refine AW.ret ?_
          refine ret_block ?_
          refine ret_then ?_
          refine ret_then ?_
          refine ret_block ?_
          refine ret_then ?_
          refine end_ret ?_ trivial
          refine congrArg (fun b => some (int b)) ?_
          have hc : x.lines[k].acc.kind = a.kind ∧ x.lines[k].acc.ch = a.ch := by
            have h := h4
            simp only [eqVals, Bool.and_true, Bool.and_eq_true, beq_iff_eq] at h
            exact h
          rw [← hbal, balAt_drop hk, if_pos hc]
        · intro h4
          refine AW.skip ?_
          refine go_block ?_
          refine go_then ?_
          refine AW.list ?_
          have hne : balAt (x.lines.drop (k + 1)) a = balance x a := by
            rw [← hbal, balAt_drop hk, if_neg]
            have h := h4
            intro q
            simp [eqVals, q.1, q.2] at h
          refine AL.rd (x := .p (.v (.int _ _))) (rd_bin rfl rfl ⟨rfl, fits_i64 (by unfold i64; omega)⟩) rfl rfl (by decide) ?_
          refine AL.rd (x := .p (.v (.int _ _))) (rd_mvx (Or.inl rfl) rfl) rfl rfl (by decide) ?_
          refine AL.nil ?_
          refine go_then ?_
          refine ⟨k + 1, ⟨hk, hne⟩, by omega, ⟨(Eq.trans (b := int _) rfl (congrArg int (by omega))), trivial⟩, trivial, ⟨rfl, rfl, rfl, rfl, trivial⟩, ⟨rfl, rfl, trivial⟩⟩
      · intro h3
        refine AW.exit ?_
        refine ex_then ?_
        refine ex_then ?_
        refine ex_block ?_
        refine go_then ?_
        refine AW.seq ?_
        refine AW.list ?_
        refine AL.rd (x := .p (.v (.int _ _))) (rd_mvx (Or.inr rfl) rfl) rfl rfl (by decide) ?_
        refine AL.nil ?_
        refine go_then ?_
        refine AW.ret ?_
        refine end_ret ?_ trivial
        refine congrArg (fun b => some (int b)) ?_
        have hkn : ¬ k < x.lines.length := by simpa [length_rowsOf] using h3
        rw [← hbal, List.drop_eq_nil_of_le (by omega)]
        rfl

set_option maxHeartbeats 4000000 in
set_option maxRecDepth 100000 in
theorem sledgerOk_e (x : Ledger) : GC Try.prog 61 [.agg [int x.last, .p (.lst 143 3 (rowsOf encLine x.lines))]] [] (boo (ledgerOk x)) [] := by
  refine GC.intro (rs := [.tmp 2]) Try.func61 rfl Try.ntmps61 (Nat.le_of_ble_eq_true rfl) ⟨rfl, trivial⟩ ?_
  intro L O w0
  refine AW.seq ?_
  refine AW.list ?_
  refine AL.st (St.box 1000 rfl rfl (by decide) rfl) rfl ?_
  refine AL.tidy [(1, .ptr 1000 _ 0)] [(1000, .box _ _ [.p (.v (.int _ _)), .p (.lst _ _ _)])] ⟨rfl, trivial⟩ ⟨rfl, trivial⟩ ?_
  refine AL.rd (x := .p (.v (.bool false))) (rd_mvx (Or.inr rfl) rfl) rfl rfl (by decide) ?_
  refine AL.nil ?_
  refine go_then ?_
  refine AW.seq ?_
  refine AW.list ?_
  refine AL.rd (x := .ptr 1000 _ 0) (rd_faddr rfl ty.fl62_0 ty.nz3 ty.is3 rfl rfl) rfl rfl (by decide) ?_
  refine AL.rd (x := .p (.v (.int _ _))) (rd_load_box rfl ty.kd3 rfl rfl rfl rfl) rfl rfl (by decide) ?_
  refine AL.rd (x := .p (.v (.bool _))) (rd_bin rfl rfl rfl) rfl rfl (by decide) ?_
  refine AL.rd (x := .p (.v (.bool _))) (rd_mvx (Or.inl rfl) rfl) rfl rfl (by decide) ?_
  refine AL.bool (t := 6) rfl ?_ ?_
  · intro h1
    refine AL.rd (x := .ptr 1000 _ 0) (rd_faddr rfl ty.fl62_0 ty.nz3 ty.is3 rfl rfl) rfl rfl (by decide) ?_
    refine AL.tidy [(1, .ptr 1000 _ 0), (2, .p (.v (.bool false))), (6, .p (.v (.bool true))), (7, .ptr 1000 _ 0)] [(1000, .box _ _ [.p (.v (.int _ _)), .p (.lst _ _ _)])] ⟨rfl, rfl, rfl, rfl, trivial⟩ ⟨rfl, trivial⟩ ?_
    refine AL.rd (x := .p (.v (.int _ _))) (rd_load_box rfl ty.kd3 rfl rfl rfl rfl) rfl rfl (by decide) ?_
    refine AL.rd (x := .p (.v (.bool _))) (rd_bin rfl rfl rfl) rfl rfl (by decide) ?_
    refine AL.rd (x := .p (.v (.bool _))) (rd_pick rfl rfl) rfl rfl (by decide) ?_
    refine AL.rd (x := .p (.v (.bool _))) (rd_mvx (Or.inl rfl) rfl) rfl rfl (by decide) ?_
    refine AL.bool (t := 11) rfl ?_ ?_
    · intro h2
      refine AL.rd (x := .ptr 1000 _ 1) (rd_faddr rfl ty.fl62_1 ty.nz60 ty.is60 rfl rfl) rfl rfl (by decide) ?_
      refine AL.rd (x := .p (.lst _ _ _)) (rd_load_box rfl ty.kd60 rfl rfl rfl rfl) rfl rfl (by decide) ?_
      refine AL.tidy [(1, .ptr 1000 _ 0), (2, .p (.v (.bool false))), (11, .p (.v (.bool true))), (13, .p (.lst _ _ _))] [(1000, .box _ _ [.p (.v (.int _ _)), .p (.lst _ _ _)])] ⟨rfl, rfl, rfl, rfl, trivial⟩ ⟨rfl, trivial⟩ ?_
      refine AL.rd (x := .p (.v (.int _ _))) (rd_len rfl ty.sl60 rfl) rfl rfl (by decide) ?_
      refine AL.rd (x := .p (.v (.bool _))) (rd_bin rfl rfl rfl) rfl rfl (by decide) ?_
      refine AL.rd (x := .p (.v (.bool _))) (rd_pick rfl rfl) rfl rfl (by decide) ?_
      refine AL.rd (x := .p (.v (.bool _))) (rd_mvx (Or.inl rfl) rfl) rfl rfl (by decide) ?_
      refine AL.bool (t := 17) rfl ?_ ?_
      · intro h3
        refine AL.rd (x := .ptr 1000 _ 1) (rd_faddr rfl ty.fl62_1 ty.nz60 ty.is60 rfl rfl) rfl rfl (by decide) ?_
        refine AL.rd (x := .p (.lst _ _ _)) (rd_load_box rfl ty.kd60 rfl rfl rfl rfl) rfl rfl (by decide) ?_
        refine AL.tidy [(2, .p (.v (.bool false))), (17, .p (.v (.bool true))), (19, .p (.lst _ _ _))] [(1000, .box _ _ [.p (.v (.int _ _)), .p (.lst _ _ _)])] ⟨rfl, rfl, rfl, trivial⟩ ⟨rfl, trivial⟩ ?_
        refine AL.st (St.call [] [] [] rfl (by intro s hs; cases hs; decide) rfl Try.func99 rfl rfl (slinesOk_e x.lines (by have h := h3; simp only [length_rowsOf, decide_eq_true_eq] at h; omega)) ⟨rfl, rfl, rfl⟩ (trivial) (trivial) rfl) rfl ?_
        refine AL.tidy [(2, .p (.v (.bool false))), (17, .p (.v (.bool true))), (20, .p (.v (.bool _)))] [(1000, .box _ _ [.p (.v (.int _ _)), .p (.lst _ _ _)])] ⟨rfl, rfl, rfl, trivial⟩ ⟨rfl, trivial⟩ ?_
        refine AL.rd (x := .p (.v (.bool _))) (rd_pick rfl rfl) rfl rfl (by decide) ?_
        refine AL.rd (x := .p (.v (.bool _))) (rd_mvx (Or.inr rfl) rfl) rfl rfl (by decide) ?_
        refine AL.nil ?_
        refine go_then ?_
        refine AW.ret ?_
        refine end_ret ?_ trivial
        refine congrArg (fun b => some (boo b)) ?_
        unfold ledgerOk
        simp_all [length_rowsOf, amtOk, inB] <;> (intros; omega)
      · intro h3
        refine AL.no rfl rfl (by decide) ?_
        refine AL.no rfl rfl (by decide) ?_
        refine AL.no rfl rfl (by decide) ?_
        refine AL.rd (x := .p (.v (.bool false))) (rd_pick rfl rfl) rfl rfl (by decide) ?_
        refine AL.rd (x := .p (.v (.bool false))) (rd_mvx (Or.inr rfl) rfl) rfl rfl (by decide) ?_
        refine AL.nil ?_
        refine go_then ?_
        refine AW.ret ?_
        refine end_ret ?_ trivial
        refine congrArg (fun b => some (boo b)) ?_
        unfold ledgerOk
        simp_all [length_rowsOf, amtOk, inB] <;> (intros; omega)
    · intro h2
      refine AL.no rfl rfl (by decide) ?_
      refine AL.no rfl rfl (by decide) ?_
      refine AL.no rfl rfl (by decide) ?_
      refine AL.no rfl rfl (by decide) ?_
      refine AL.rd (x := .p (.v (.bool false))) (rd_pick rfl rfl) rfl rfl (by decide) ?_
      refine AL.rd (x := .p (.v (.bool false))) (rd_mvx (Or.inl rfl) rfl) rfl rfl (by decide) ?_
      refine AL.tidy [(1, .ptr 1000 _ 0), (2, .p (.v (.bool false))), (17, .p (.v (.bool false)))] [(1000, .box _ _ [.p (.v (.int _ _)), .p (.lst _ _ _)])] ⟨rfl, rfl, rfl, trivial⟩ ⟨rfl, trivial⟩ ?_
      refine AL.no rfl rfl (by decide) ?_
      refine AL.no rfl rfl (by decide) ?_
      refine AL.no rfl rfl (by decide) ?_
      refine AL.rd (x := .p (.v (.bool false))) (rd_pick rfl rfl) rfl rfl (by decide) ?_
      refine AL.rd (x := .p (.v (.bool false))) (rd_mvx (Or.inr rfl) rfl) rfl rfl (by decide) ?_
      refine AL.nil ?_
      refine go_then ?_
      refine AW.ret ?_
      refine end_ret ?_ trivial
      refine congrArg (fun b => some (boo b)) ?_
      unfold ledgerOk
      simp_all [length_rowsOf, amtOk, inB] <;> (intros; omega)
  · intro h1
    refine AL.no rfl rfl (by decide) ?_
    refine AL.no rfl rfl (by decide) ?_
    refine AL.no rfl rfl (by decide) ?_
    refine AL.rd (x := .p (.v (.bool false))) (rd_pick rfl rfl) rfl rfl (by decide) ?_
    refine AL.rd (x := .p (.v (.bool false))) (rd_mvx (Or.inl rfl) rfl) rfl rfl (by decide) ?_
    refine AL.no rfl rfl (by decide) ?_
    refine AL.no rfl rfl (by decide) ?_
    refine AL.no rfl rfl (by decide) ?_
    refine AL.no rfl rfl (by decide) ?_
    refine AL.rd (x := .p (.v (.bool false))) (rd_pick rfl rfl) rfl rfl (by decide) ?_
    refine AL.rd (x := .p (.v (.bool false))) (rd_mvx (Or.inl rfl) rfl) rfl rfl (by decide) ?_
    refine AL.tidy [(1, .ptr 1000 _ 0), (2, .p (.v (.bool false))), (17, .p (.v (.bool false)))] [(1000, .box _ _ [.p (.v (.int _ _)), .p (.lst _ _ _)])] ⟨rfl, rfl, rfl, trivial⟩ ⟨rfl, trivial⟩ ?_
    refine AL.no rfl rfl (by decide) ?_
    refine AL.no rfl rfl (by decide) ?_
    refine AL.no rfl rfl (by decide) ?_
    refine AL.rd (x := .p (.v (.bool false))) (rd_pick rfl rfl) rfl rfl (by decide) ?_
    refine AL.rd (x := .p (.v (.bool false))) (rd_mvx (Or.inr rfl) rfl) rfl rfl (by decide) ?_
    refine AL.nil ?_
    refine go_then ?_
    refine AW.ret ?_
    refine end_ret ?_ trivial
    refine congrArg (fun b => some (boo b)) ?_
    unfold ledgerOk
    simp_all [length_rowsOf, amtOk, inB] <;> (intros; omega)

set_option maxHeartbeats 4000000 in
set_option maxRecDepth 100000 in
theorem sbalance_e (x : Ledger) (a : Acc) (hm : x.lines.length ≤ 9007199254740992) : GC Try.prog 62 [.agg [int x.last, .p (.lst 143 3 (rowsOf encLine x.lines))], .agg [int a.kind, int a.ch]] [] (int (balance x a)) [] := by
  refine GC.intro (rs := [.tmp 4]) Try.func62 rfl Try.ntmps62 (Nat.le_of_ble_eq_true rfl) ⟨rfl, trivial⟩ ?_
  intro L O w0
  refine AW.seq ?_
  refine AW.list ?_
  refine AL.st (St.box 1000 rfl rfl (by decide) rfl) rfl ?_
  refine AL.tidy [(1, .agg [.p (.v (.int _ _)), .p (.v (.int _ _))]), (2, .ptr 1000 _ 0)] [(1000, .box _ _ [.p (.v (.int _ _)), .p (.lst _ _ _)])] ⟨rfl, rfl, trivial⟩ ⟨rfl, trivial⟩ ?_
  refine AL.st (St.box 1001 rfl rfl (by decide) rfl) rfl ?_
  refine AL.tidy [(2, .ptr 1000 _ 0), (3, .ptr 1001 _ 0)] [(1000, .box _ _ [.p (.v (.int _ _)), .p (.lst _ _ _)]), (1001, .box _ _ [.p (.v (.int _ _)), .p (.v (.int _ _))])] ⟨rfl, rfl, trivial⟩ ⟨rfl, rfl, trivial⟩ ?_
  refine AL.rd (x := .p (.v (.int _ _))) (rd_mvx (Or.inr rfl) rfl) rfl rfl (by decide) ?_
  refine AL.nil ?_
  refine go_then ?_
  refine AW.seq ?_
  refine AW.seq ?_
  refine AW.list ?_
  refine AL.rd (x := .agg [.p (.v (.int _ _)), .p (.lst _ _ _)]) (rd_load_box rfl ty.kd62 rfl rfl rfl rfl) rfl rfl (by decide) ?_
  refine AL.st (St.call [] [] [] rfl (by intro s hs; cases hs; decide) rfl Try.func61 rfl rfl (sledgerOk_e x) ⟨rfl, rfl, rfl⟩ (trivial) (trivial) rfl) rfl ?_
  refine AL.tidy [(2, .ptr 1000 _ 0), (3, .ptr 1001 _ 0), (4, .p (.v (.int _ _))), (8, .p (.v (.bool _)))] [(1000, .box _ _ [.p (.v (.int _ _)), .p (.lst _ _ _)]), (1001, .box _ _ [.p (.v (.int _ _)), .p (.v (.int _ _))])] ⟨rfl, rfl, rfl, rfl, trivial⟩ ⟨rfl, rfl, trivial⟩ ?_
  refine AL.rd (x := .p (.v (.bool _))) (rd_un rfl rfl trivial) rfl rfl (by decide) ?_
  refine AL.rd (x := .p (.v (.bool _))) (rd_mvx (Or.inl rfl) rfl) rfl rfl (by decide) ?_
  refine AL.bool (t := 10) rfl ?_ ?_
  · intro h1
    refine AL.no rfl rfl (by decide) ?_
    refine AL.no rfl rfl (by decide) ?_
    refine AL.no rfl rfl (by decide) ?_
    refine AL.rd (x := .p (.v (.bool true))) (rd_pick rfl rfl) rfl rfl (by decide) ?_
    refine AL.nil ?_
    refine go_then ?_
    refine AW.yes rfl ?_
    refine AW.seq ?_
    refine AW.list ?_
    refine AL.rd (x := .p (.v (.int _ _))) (rd_mvx (Or.inr rfl) rfl) rfl rfl (by decide) ?_
    refine AL.nil ?_
    refine go_then ?_
    refine AW.ret ?_
    refine ret_then ?_
    refine end_ret ?_ trivial
    refine congrArg (fun b => some (int b)) ?_
    unfold balance
    simp_all
  · intro h1
    refine AL.rd (x := .agg [.p (.v (.int _ _)), .p (.v (.int _ _))]) (rd_load_box rfl ty.kd105 rfl rfl rfl rfl) rfl rfl (by decide) ?_
    refine AL.st (St.call [] [] [] rfl (by intro s hs; cases hs; decide) rfl Try.func100 rfl rfl (saccOk_e a) ⟨rfl, rfl, rfl⟩ (trivial) (trivial) rfl) rfl ?_
    refine AL.tidy [(2, .ptr 1000 _ 0), (3, .ptr 1001 _ 0), (4, .p (.v (.int _ _))), (10, .p (.v (.bool false))), (12, .p (.v (.bool _)))] [(1000, .box _ _ [.p (.v (.int _ _)), .p (.lst _ _ _)]), (1001, .box _ _ [.p (.v (.int _ _)), .p (.v (.int _ _))])] ⟨rfl, rfl, rfl, rfl, rfl, trivial⟩ ⟨rfl, rfl, trivial⟩ ?_
    refine AL.rd (x := .p (.v (.bool _))) (rd_un rfl rfl trivial) rfl rfl (by decide) ?_
    refine AL.rd (x := .p (.v (.bool _))) (rd_pick rfl rfl) rfl rfl (by decide) ?_
    refine AL.nil ?_
    refine go_then ?_
    refine AW.cond rfl ?_ ?_
    · intro h2
      refine AW.seq ?_
      refine AW.list ?_
      refine AL.rd (x := .p (.v (.int _ _))) (rd_mvx (Or.inr rfl) rfl) rfl rfl (by decide) ?_
      refine AL.nil ?_
      refine go_then ?_
      refine AW.ret ?_
      refine ret_then ?_
      refine end_ret ?_ trivial
      refine congrArg (fun b => some (int b)) ?_
      unfold balance
      simp_all
    · intro h2
      refine AW.skip ?_
      refine go_then ?_
      refine AW.seq ?_
      refine AW.seq ?_
      refine AW.list ?_
      refine AL.rd (x := .ptr 1000 _ 1) (rd_faddr rfl ty.fl62_1 ty.nz60 ty.is60 rfl rfl) rfl rfl (by decide) ?_
      refine AL.rd (x := .p (.lst _ _ _)) (rd_load_box rfl ty.kd60 rfl rfl rfl rfl) rfl rfl (by decide) ?_
      refine AL.rd (x := .p (.v (.int _ _))) (rd_len rfl ty.sl60 rfl) rfl rfl (by decide) ?_
      refine AL.tidy [(3, .ptr 1001 _ 0), (4, .p (.v (.int _ _))), (16, .p (.lst _ _ _)), (17, .p (.v (.int _ _)))] [(1000, .box _ _ [.p (.v (.int _ _)), .p (.lst _ _ _)]), (1001, .box _ _ [.p (.v (.int _ _)), .p (.v (.int _ _))])] ⟨rfl, rfl, rfl, rfl, trivial⟩ ⟨rfl, rfl, trivial⟩ ?_
      refine AL.rd (x := .p (.v (.int _ _))) (rd_mvx (Or.inl rfl) rfl) rfl rfl (by decide) ?_
      refine AL.nil ?_
      refine go_then ?_
      refine AW.block ?_
      refine AW.loopE [(3, .ptr 1001 _ 0), (4, .p (.v (.int _ _))), (16, .p (.lst _ _ _)), (17, .p (.v (.int _ _)))] [(1000, .box _ _ [.p (.v (.int _ _)), .p (.lst _ _ _)]), (1001, .box _ _ [.p (.v (.int _ _)), .p (.v (.int _ _))])] (D := Nat) (fun k => [(18, int (k : Int))]) (fun k => []) (fun k => k ≤ x.lines.length ∧ balAt (x.lines.drop k) a = balance x a) (fun k => x.lines.length - k) 0 ⟨Nat.zero_le _, by unfold balance; simp_all⟩ ⟨rfl, trivial⟩ trivial ⟨rfl, rfl, rfl, rfl, trivial⟩ ⟨rfl, rfl, trivial⟩ ?_
      intro k hI
      obtain ⟨hkl, hbal⟩ := hI
      refine AW.seq ?_
      refine AW.list ?_
      refine AL.rd (x := .p (.v (.bool _))) (rd_bin rfl rfl rfl) rfl rfl (by decide) ?_
      refine AL.nil ?_
      refine go_then ?_
      refine AW.seq ?_
      refine AW.cond rfl ?_ ?_
      · intro h3
        refine AW.skip ?_
        refine go_then ?_
        refine AW.seq ?_
        refine AW.block ?_
        refine AW.seq ?_
        refine AW.list ?_
        have hk : k < x.lines.length := by simpa [length_rowsOf] using h3
        refine AL.rd (x := .rp _) (rd_iaddr_p (i := k) rfl ty.el60 rfl rfl rfl (row_map hk)) rfl rfl (by decide) ?_
        refine AL.rd (x := .agg [.p (.v (.int _ _)), .p (.v (.int _ _)), .p (.v (.int _ _))]) (rd_load_rp rfl ty.kd143 rfl rfl) rfl rfl (by decide) ?_
        refine AL.st (St.alloc 1252 rfl rfl (by decide) ty.ze143) rfl ?_
        refine AL.tidy [(3, .ptr 1001 _ 0), (4, .p (.v (.int _ _))), (6, .ptr 1252 _ 0), (16, .p (.lst _ _ _)), (17, .p (.v (.int _ _))), (18, .p (.v (.int _ _))), (21, .agg [.p (.v (.int _ _)), .p (.v (.int _ _)), .p (.v (.int _ _))])] [(1000, .box _ _ [.p (.v (.int _ _)), .p (.lst _ _ _)]), (1001, .box _ _ [.p (.v (.int _ _)), .p (.v (.int _ _))]), (1252, .box _ _ [.p (.v (.int _ _)), .p (.v (.int _ _)), .p (.v (.int _ _))])] ⟨rfl, rfl, rfl, rfl, rfl, rfl, rfl, trivial⟩ ⟨rfl, rfl, rfl, trivial⟩ ?_
        refine AL.st (St.storeBox 1252 rfl rfl rfl rfl rfl ty.co143 ty.inf143 (Nat.le_of_ble_eq_true rfl)) rfl ?_
        refine AL.tidy [(3, .ptr 1001 _ 0), (4, .p (.v (.int _ _))), (6, .ptr 1252 _ 0), (16, .p (.lst _ _ _)), (17, .p (.v (.int _ _))), (18, .p (.v (.int _ _)))] [(1000, .box _ _ [.p (.v (.int _ _)), .p (.lst _ _ _)]), (1001, .box _ _ [.p (.v (.int _ _)), .p (.v (.int _ _))]), (1252, .box _ _ [.p (.v (.int _ _)), .p (.v (.int _ _)), .p (.v (.int _ _))])] ⟨rfl, rfl, rfl, rfl, rfl, rfl, trivial⟩ ⟨rfl, rfl, rfl, trivial⟩ ?_
        refine AL.nil ?_
        refine go_then ?_
        refine AW.seq ?_
        refine AW.list ?_
        refine AL.rd (x := .ptr 1252 _ 0) (rd_faddr rfl ty.fl143_0 ty.nz105 ty.is105 rfl rfl) rfl rfl (by decide) ?_
        refine AL.rd (x := .agg [.p (.v (.int _ _)), .p (.v (.int _ _))]) (rd_load_box rfl ty.kd105 rfl rfl rfl rfl) rfl rfl (by decide) ?_
        refine AL.rd (x := .agg [.p (.v (.int _ _)), .p (.v (.int _ _))]) (rd_load_box rfl ty.kd105 rfl rfl rfl rfl) rfl rfl (by decide) ?_
        refine AL.rd (x := .p (.v (.bool _))) (rd_eqS rfl (.inl rfl) rfl rfl ty.sf105 ty.su105 ty.sh105 ty.sg105 ?hn1) rfl rfl (by decide) ?_
        case hn1 => exact ⟨rfl, by decide, rfl, ⟨_, Try.underlying3⟩, rfl, by decide, rfl, ⟨_, Try.underlying3⟩, trivial⟩
        refine AL.nil ?_
        refine go_then ?_
        refine AW.cond rfl ?_ ?_
        · intro h4
          refine AW.seq ?_
          refine AW.list ?_
          refine AL.rd (x := .ptr 1252 _ 2) (rd_faddr rfl ty.fl143_1 ty.nz3 ty.is3 rfl rfl) rfl rfl (by decide) ?_
          refine AL.rd (x := .p (.v (.int _ _))) (rd_load_box rfl ty.kd3 rfl rfl rfl rfl) rfl rfl (by decide) ?_
          refine AL.tidy [(3, .ptr 1001 _ 0), (4, .p (.v (.int _ _))), (16, .p (.lst _ _ _)), (17, .p (.v (.int _ _))), (18, .p (.v (.int _ _))), (27, .p (.v (.int _ _)))] [(1000, .box _ _ [.p (.v (.int _ _)), .p (.lst _ _ _)]), (1001, .box _ _ [.p (.v (.int _ _)), .p (.v (.int _ _))]), (1252, .box _ _ [.p (.v (.int _ _)), .p (.v (.int _ _)), .p (.v (.int _ _))])] ⟨rfl, rfl, rfl, rfl, rfl, rfl, trivial⟩ ⟨rfl, rfl, rfl, trivial⟩ ?_
          refine AL.rd (x := .p (.v (.int _ _))) (rd_mvx (Or.inr rfl) rfl) rfl rfl (by decide) ?_
          refine AL.nil ?_
          refine go_then ?_
          refine AW.ret ?_
          refine ret_block ?_
          refine ret_then ?_
          refine ret_then ?_
          refine ret_block ?_
          refine ret_then ?_
          refine end_ret ?_ trivial
          refine congrArg (fun b => some (int b)) ?_
          have hc : x.lines[k].acc.kind = a.kind ∧ x.lines[k].acc.ch = a.ch := by
            have h := h4
            simp only [eqVals, Bool.and_true, Bool.and_eq_true, beq_iff_eq] at h
            exact h
          rw [← hbal, balAt_drop hk, if_pos hc]
        · intro h4
          refine AW.skip ?_
          refine go_block ?_
          refine go_then ?_
          refine AW.list ?_
          have hne : balAt (x.lines.drop (k + 1)) a = balance x a := by
            rw [← hbal, balAt_drop hk, if_neg]
            have h := h4
            intro q
            simp [eqVals, q.1, q.2] at h
          refine AL.rd (x := .p (.v (.int _ _))) (rd_bin rfl rfl ⟨rfl, fits_i64 (by unfold i64; omega)⟩) rfl rfl (by decide) ?_
          refine AL.rd (x := .p (.v (.int _ _))) (rd_mvx (Or.inl rfl) rfl) rfl rfl (by decide) ?_
          refine AL.nil ?_
          refine go_then ?_
          refine ⟨k + 1, ⟨hk, hne⟩, by omega, ⟨(Eq.trans (b := int _) rfl (congrArg int (by omega))), trivial⟩, trivial, ⟨rfl, rfl, rfl, rfl, trivial⟩, ⟨rfl, rfl, trivial⟩⟩
      · intro h3
        refine AW.exit ?_
        refine ex_then ?_
        refine ex_then ?_
        refine ex_block ?_
        refine go_then ?_
        refine AW.seq ?_
        refine AW.list ?_
        refine AL.rd (x := .p (.v (.int _ _))) (rd_mvx (Or.inr rfl) rfl) rfl rfl (by decide) ?_
        refine AL.nil ?_
        refine go_then ?_
        refine AW.ret ?_
        refine end_ret ?_ trivial
        refine congrArg (fun b => some (int b)) ?_
        have hkn : ¬ k < x.lines.length := by simpa [length_rowsOf] using h3
        rw [← hbal, List.drop_eq_nil_of_le (by omega)]
        rfl

end Go.Proofs.Ytbjnbhlpibadnaa
