/- Agrees, of the program and of the reference, over data. -/
import Derived.Test.YtbjnbhlpibadnaaET2
import Derived.Test.YtbjnbhlpibadnaaEB
namespace Go.Proofs.Ytbjnbhlpibadnaa
open Go.RowKit
set_option linter.unusedSimpArgs false
set_option linter.unusedVariables false

def locA (x : Book) (ch : Int) : Int := if 0 ≤ chanAt x.chans ch then (match x.chans[(chanAt x.chans ch).toNat]? with | some c => c.loc | none => 0) else 0
def outA (x : Book) (ch : Int) : Int := if 0 ≤ chanAt x.chans ch then outOf x ch else 0
def agreeAt (x : Book) (l : Ledger) (ch : Int) : Bool := (balance l ⟨6, ch⟩ == locA x ch) && (balance l ⟨8, ch⟩ == outA x ch) && (balance l ⟨7, ch⟩ == 0)
def agrees (x : Book) (l : Ledger) : Bool := bookOk x && ledgerOk l && (l.last == x.next - 1) && (balance l ⟨1, 0⟩ == x.wallet) && (List.range 99).all fun j => agreeAt x l ((j : Int) + 1)
theorem locA_some {x : Book} {ch : Int} {q : Nat} (hq : q < x.chans.length) (h : chanAt x.chans ch = (q : Int)) : locA x ch = x.chans[q].loc := by
  unfold locA
  rw [if_pos (by omega), h, Int.toNat_natCast, List.getElem?_eq_getElem hq]
theorem locA_none {x : Book} {ch : Int} (h : ¬ 0 ≤ chanAt x.chans ch) : locA x ch = 0 := if_neg h
theorem outA_some {x : Book} {ch : Int} (h : 0 ≤ chanAt x.chans ch) : outA x ch = outOf x ch := if_pos h
theorem outA_none {x : Book} {ch : Int} (h : ¬ 0 ≤ chanAt x.chans ch) : outA x ch = 0 := if_neg h
theorem tot_zero {α : Type} {f : α → Int} : ∀ {l : List α}, (∀ y ∈ l, f y = 0) → tot f l = 0
  | [], _ => rfl
  | y :: l, h => by
    have ih := tot_zero (f := f) (l := l) (fun z hz => h z (by simp [hz]))
    have h0 := h y (by simp)
    unfold tot at *
    rw [List.map_cons, List.sum_cons, ih, h0]; rfl
theorem outOf_absent {x : Book} {ch : Int} (hb : bookOk x = true) (h : ¬ 0 ≤ chanAt x.chans ch) : outOf x ch = 0 := by
  unfold bookOk at hb
  simp only [Bool.and_eq_true] at hb
  have hp := hb.1.2
  unfold partsOk at hp
  simp only [Bool.and_eq_true, decide_eq_true_eq, List.all_eq_true] at hp
  obtain ⟨⟨⟨_, h3⟩, h4⟩, _⟩ := hp
  unfold outOf
  rw [tot_zero (fun y hy => ?_), tot_zero (fun y hy => ?_)]
  · rfl
  · have := (cOk_iff.1 (h4 y hy)).2.2.2
    unfold two at this
    simp only [Bool.and_eq_true, decide_eq_true_eq] at this
    unfold cOut
    rw [if_neg]
    intro q; rw [← q] at h; exact h this.1.2
  · have := (hOk_iff.1 (h3 y hy)).2.2.2.2
    unfold two at this
    simp only [Bool.and_eq_true, decide_eq_true_eq] at this
    unfold hOut
    rw [if_neg]
    intro q; rw [← q] at h; exact h this.2
theorem outA_eq {x : Book} {ch : Int} (hb : bookOk x = true) : outA x ch = outOf x ch := by
  by_cases h : 0 ≤ chanAt x.chans ch
  · exact outA_some h
  · rw [outA_none h, outOf_absent hb h]
theorem agrees_no {x : Book} {l : Ledger} {k : Nat} (hk : k < 99) (h : agreeAt x l ((k : Int) + 1) = false) : agrees x l = false := by
  unfold agrees
  rw [show ((List.range 99).all fun j => agreeAt x l ((j : Int) + 1)) = false from List.all_eq_false.2 ⟨k, by simpa using hk, by simp [h]⟩, Bool.and_false]
theorem agrees_yes {x : Book} {l : Ledger} (h : ∀ j : Nat, j < 99 → agreeAt x l ((j : Int) + 1) = true) : agrees x l = (bookOk x && ledgerOk l && (l.last == x.next - 1) && (balance l ⟨1, 0⟩ == x.wallet)) := by
  unfold agrees
  rw [show ((List.range 99).all fun j => agreeAt x l ((j : Int) + 1)) = true from List.all_eq_true.2 fun j hj => h j (by simpa using hj), Bool.and_true]

set_option maxHeartbeats 8000000 in
set_option maxRecDepth 100000 in
theorem agrees_e (x : Book) (l : Ledger) (hw : BookWf x) (hm : l.lines.length ≤ 9007199254740992) : GC Try.prog 28 [bookV x, .agg [int l.last, .p (.lst 143 3 (rowsOf encLine l.lines))]] [] (boo (agrees x l)) [] := by
  refine GC.intro (rs := [.tmp 4]) Try.func28 rfl Try.ntmps28 (Nat.le_of_ble_eq_true rfl) ⟨rfl, trivial⟩ ?_
  intro L O w0
  refine AW.seq ?_
  refine AW.list ?_
  refine AL.st (St.box 1000 rfl rfl (by decide) rfl) rfl ?_
  refine AL.tidy [(1, .agg [.p (.v (.int _ _)), .p (.lst _ _ _)]), (2, .ptr 1000 _ 0)] [(1000, .box _ _ [.p (.v (.int _ _)), .p (.v (.int _ _)), .p (.v (.int _ _)), .p (.lst _ _ _), .p (.lst _ _ _), .p (.lst _ _ _)])] ⟨rfl, rfl, trivial⟩ ⟨rfl, trivial⟩ ?_
  refine AL.st (St.box 1001 rfl rfl (by decide) rfl) rfl ?_
  refine AL.tidy [(2, .ptr 1000 _ 0), (3, .ptr 1001 _ 0)] [(1000, .box _ _ [.p (.v (.int _ _)), .p (.v (.int _ _)), .p (.v (.int _ _)), .p (.lst _ _ _), .p (.lst _ _ _), .p (.lst _ _ _)]), (1001, .box _ _ [.p (.v (.int _ _)), .p (.lst _ _ _)])] ⟨rfl, rfl, trivial⟩ ⟨rfl, rfl, trivial⟩ ?_
  refine AL.rd (x := .p (.v (.bool false))) (rd_mvx (Or.inr rfl) rfl) rfl rfl (by decide) ?_
  refine AL.nil ?_
  refine go_then ?_
  refine AW.seq ?_
  refine AW.seq ?_
  refine AW.draw 23 (inK []) (by kernel_rfl) ?_
  refine AG.rd (i := 0) (x := .agg [.p (.v (.int _ _)), .p (.v (.int _ _)), .p (.v (.int _ _)), .p (.lst _ _ _), .p (.lst _ _ _), .p (.lst _ _ _)]) rfl (by kernel_rfl) (rd_load_box rfl ty.kd58 rfl rfl rfl rfl) rfl rfl (by decide) ?_
  refine AG.st (i := 1) rfl (by kernel_rfl) (St.call [] [] [] rfl (by intro s hs; cases hs; decide) rfl Try.func69 rfl rfl (impl_BookOk_e x hw) ⟨rfl, rfl, rfl⟩ (trivial) (trivial) rfl) (by decide) rfl ?_
  refine AG.tidy [(2, .ptr 1000 _ 0), (3, .ptr 1001 _ 0), (4, .p (.v (.bool false))), (10, .p (.v (.bool _)))] [(1000, .box _ _ [.p (.v (.int _ _)), .p (.v (.int _ _)), .p (.v (.int _ _)), .p (.lst _ _ _), .p (.lst _ _ _), .p (.lst _ _ _)]), (1001, .box _ _ [.p (.v (.int _ _)), .p (.lst _ _ _)])] ⟨rfl, rfl, rfl, rfl, trivial⟩ ⟨rfl, rfl, trivial⟩ rfl ?_
  refine AG.rd (i := 2) (x := .p (.v (.bool _))) rfl (by kernel_rfl) (rd_un rfl rfl trivial) rfl rfl (by decide) ?_
  refine AG.rd (i := 3) (x := .p (.v (.bool _))) rfl (by kernel_rfl) (rd_mvx (Or.inl rfl) rfl) rfl rfl (by decide) ?_
  refine AG.bool (t := 12) rfl ?_ ?_
  · intro h1
    refine AG.no (i := 4) rfl (by kernel_rfl) rfl rfl (by decide) ?_
    refine AG.no (i := 5) rfl (by kernel_rfl) rfl rfl (by decide) ?_
    refine AG.no (i := 6) rfl (by kernel_rfl) rfl rfl (by decide) ?_
    refine AG.rd (i := 7) (x := .p (.v (.bool true))) rfl (by kernel_rfl) (rd_pick rfl rfl) rfl rfl (by decide) ?_
    refine AG.rd (i := 8) (x := .p (.v (.bool true))) rfl (by kernel_rfl) (rd_mvx (Or.inl rfl) rfl) rfl rfl (by decide) ?_
    refine AG.skip (i := 9) rfl (by kernel_rfl) (by kernel_rfl) (by kernel_rfl) (by kernel_rfl) (by kernel_rfl) rfl rfl (by decide) (NP.then (NP.then NP.ends)) ?_
    refine AG.skip (i := 10) rfl (by kernel_rfl) (by kernel_rfl) (by kernel_rfl) (by kernel_rfl) (by kernel_rfl) rfl rfl (by decide) (NP.then (NP.then NP.ends)) ?_
    refine AG.no (i := 11) rfl (by kernel_rfl) rfl rfl (by decide) ?_
    refine AG.no (i := 12) rfl (by kernel_rfl) rfl rfl (by decide) ?_
    refine AG.no (i := 13) rfl (by kernel_rfl) rfl rfl (by decide) ?_
    refine AG.no (i := 14) rfl (by kernel_rfl) rfl rfl (by decide) ?_
    refine AG.rd (i := 15) (x := .p (.v (.bool true))) rfl (by kernel_rfl) (rd_pick rfl rfl) rfl rfl (by decide) ?_
    refine AG.rd (i := 16) (x := .p (.v (.bool true))) rfl (by kernel_rfl) (rd_mvx (Or.inl rfl) rfl) rfl rfl (by decide) ?_
    refine AG.tidy [(2, .ptr 1000 _ 0), (3, .ptr 1001 _ 0), (4, .p (.v (.bool false))), (25, .p (.v (.bool true)))] [(1000, .box _ _ [.p (.v (.int _ _)), .p (.v (.int _ _)), .p (.v (.int _ _)), .p (.lst _ _ _), .p (.lst _ _ _), .p (.lst _ _ _)]), (1001, .box _ _ [.p (.v (.int _ _)), .p (.lst _ _ _)])] ⟨rfl, rfl, rfl, rfl, trivial⟩ ⟨rfl, rfl, trivial⟩ rfl ?_
    refine AG.skip (i := 17) rfl (by kernel_rfl) (by kernel_rfl) (by kernel_rfl) (by kernel_rfl) (by kernel_rfl) rfl rfl (by decide) (NP.then (NP.then NP.ends)) ?_
    refine AG.skip (i := 18) rfl (by kernel_rfl) (by kernel_rfl) (by kernel_rfl) (by kernel_rfl) (by kernel_rfl) rfl rfl (by decide) (NP.then (NP.then NP.ends)) ?_
    refine AG.skip (i := 19) rfl (by kernel_rfl) (by kernel_rfl) (by kernel_rfl) (by kernel_rfl) (by kernel_rfl) rfl rfl (by decide) (NP.then (NP.then NP.ends)) ?_
    refine AG.no (i := 20) rfl (by kernel_rfl) rfl rfl (by decide) ?_
    refine AG.no (i := 21) rfl (by kernel_rfl) rfl rfl (by decide) ?_
    refine AG.no (i := 22) rfl (by kernel_rfl) rfl rfl (by decide) ?_
    refine AG.rd (i := 23) (x := .p (.v (.bool true))) rfl (by kernel_rfl) (rd_pick rfl rfl) rfl rfl (by decide) ?_
    refine AG.done (by kernel_rfl) ?_
    refine go_then ?_
    refine AW.yes rfl ?_
    refine AW.seq ?_
    refine AW.list ?_
    refine AL.rd (x := .p (.v (.bool false))) (rd_mvx (Or.inr rfl) rfl) rfl rfl (by decide) ?_
    refine AL.nil ?_
    refine go_then ?_
    refine AW.ret ?_
    refine ret_then ?_
    refine end_ret ?_ trivial
    refine congrArg (fun b => some (boo b)) ?_
    unfold agrees
    simp_all
  · intro h1
    refine AG.rd (i := 4) (x := .agg [.p (.v (.int _ _)), .p (.lst _ _ _)]) rfl (by kernel_rfl) (rd_load_box rfl ty.kd62 rfl rfl rfl rfl) rfl rfl (by decide) ?_
    refine AG.st (i := 5) rfl (by kernel_rfl) (St.call [] [] [] rfl (by intro s hs; cases hs; decide) rfl Try.func70 rfl rfl (ledgerOk_e l) ⟨rfl, rfl, rfl⟩ (trivial) (trivial) rfl) (by decide) rfl ?_
    refine AG.tidy [(2, .ptr 1000 _ 0), (3, .ptr 1001 _ 0), (4, .p (.v (.bool false))), (12, .p (.v (.bool false))), (14, .p (.v (.bool _)))] [(1000, .box _ _ [.p (.v (.int _ _)), .p (.v (.int _ _)), .p (.v (.int _ _)), .p (.lst _ _ _), .p (.lst _ _ _), .p (.lst _ _ _)]), (1001, .box _ _ [.p (.v (.int _ _)), .p (.lst _ _ _)])] ⟨rfl, rfl, rfl, rfl, rfl, trivial⟩ ⟨rfl, rfl, trivial⟩ rfl ?_
    refine AG.rd (i := 6) (x := .p (.v (.bool _))) rfl (by kernel_rfl) (rd_un rfl rfl trivial) rfl rfl (by decide) ?_
    refine AG.rd (i := 7) (x := .p (.v (.bool _))) rfl (by kernel_rfl) (rd_pick rfl rfl) rfl rfl (by decide) ?_
    refine AG.rd (i := 8) (x := .p (.v (.bool _))) rfl (by kernel_rfl) (rd_mvx (Or.inl rfl) rfl) rfl rfl (by decide) ?_
    refine AG.bool (t := 17) rfl ?_ ?_
    · intro h2
      refine AG.skip (i := 9) rfl (by kernel_rfl) (by kernel_rfl) (by kernel_rfl) (by kernel_rfl) (by kernel_rfl) rfl rfl (by decide) (NP.then (NP.then NP.ends)) ?_
      refine AG.skip (i := 10) rfl (by kernel_rfl) (by kernel_rfl) (by kernel_rfl) (by kernel_rfl) (by kernel_rfl) rfl rfl (by decide) (NP.then (NP.then NP.ends)) ?_
      refine AG.no (i := 11) rfl (by kernel_rfl) rfl rfl (by decide) ?_
      refine AG.no (i := 12) rfl (by kernel_rfl) rfl rfl (by decide) ?_
      refine AG.no (i := 13) rfl (by kernel_rfl) rfl rfl (by decide) ?_
      refine AG.no (i := 14) rfl (by kernel_rfl) rfl rfl (by decide) ?_
      refine AG.rd (i := 15) (x := .p (.v (.bool true))) rfl (by kernel_rfl) (rd_pick rfl rfl) rfl rfl (by decide) ?_
      refine AG.rd (i := 16) (x := .p (.v (.bool true))) rfl (by kernel_rfl) (rd_mvx (Or.inl rfl) rfl) rfl rfl (by decide) ?_
      refine AG.skip (i := 17) rfl (by kernel_rfl) (by kernel_rfl) (by kernel_rfl) (by kernel_rfl) (by kernel_rfl) rfl rfl (by decide) (NP.then (NP.then NP.ends)) ?_
      refine AG.skip (i := 18) rfl (by kernel_rfl) (by kernel_rfl) (by kernel_rfl) (by kernel_rfl) (by kernel_rfl) rfl rfl (by decide) (NP.then (NP.then NP.ends)) ?_
      refine AG.skip (i := 19) rfl (by kernel_rfl) (by kernel_rfl) (by kernel_rfl) (by kernel_rfl) (by kernel_rfl) rfl rfl (by decide) (NP.then (NP.then NP.ends)) ?_
      refine AG.no (i := 20) rfl (by kernel_rfl) rfl rfl (by decide) ?_
      refine AG.no (i := 21) rfl (by kernel_rfl) rfl rfl (by decide) ?_
      refine AG.no (i := 22) rfl (by kernel_rfl) rfl rfl (by decide) ?_
      refine AG.rd (i := 23) (x := .p (.v (.bool true))) rfl (by kernel_rfl) (rd_pick rfl rfl) rfl rfl (by decide) ?_
      refine AG.tidy [(2, .ptr 1000 _ 0), (3, .ptr 1001 _ 0), (4, .p (.v (.bool false))), (32, .p (.v (.bool true)))] [(1000, .box _ _ [.p (.v (.int _ _)), .p (.v (.int _ _)), .p (.v (.int _ _)), .p (.lst _ _ _), .p (.lst _ _ _), .p (.lst _ _ _)]), (1001, .box _ _ [.p (.v (.int _ _)), .p (.lst _ _ _)])] ⟨rfl, rfl, rfl, rfl, trivial⟩ ⟨rfl, rfl, trivial⟩ rfl ?_
      refine AG.done (by kernel_rfl) ?_
      refine go_then ?_
      refine AW.yes rfl ?_
      refine AW.seq ?_
      refine AW.list ?_
      refine AL.rd (x := .p (.v (.bool false))) (rd_mvx (Or.inr rfl) rfl) rfl rfl (by decide) ?_
      refine AL.nil ?_
      refine go_then ?_
      refine AW.ret ?_
      refine ret_then ?_
      refine end_ret ?_ trivial
      refine congrArg (fun b => some (boo b)) ?_
      unfold agrees
      simp_all
    · intro h2
      refine AG.take (x := .ptr 1001 _ 0) (i := 9) rfl (by kernel_rfl) (by kernel_rfl) (by kernel_rfl) (by kernel_rfl) (by kernel_rfl) (rd_faddr rfl ty.fl62_0 ty.nz3 ty.is3 rfl rfl) rfl rfl (by decide) (NP.then (NP.then NP.ends)) ?_
      refine AG.take (x := .p (.v (.int _ _))) (i := 10) rfl (by kernel_rfl) (by kernel_rfl) (by kernel_rfl) (by kernel_rfl) (by kernel_rfl) (rd_load_box rfl ty.kd3 rfl rfl rfl rfl) rfl rfl (by decide) (NP.then (NP.then NP.ends)) ?_
      refine AG.rd (i := 11) (x := .ptr 1000 _ 1) rfl (by kernel_rfl) (rd_faddr rfl ty.fl58_1 ty.nz3 ty.is3 rfl rfl) rfl rfl (by decide) ?_
      refine AG.rd (i := 12) (x := .p (.v (.int _ _))) rfl (by kernel_rfl) (rd_load_box rfl ty.kd3 rfl rfl rfl rfl) rfl rfl (by decide) ?_
      have hbk : bookOk x = true := by simpa using h1
      have hnx := bookOk_next hbk
      refine AG.rd (i := 13) (x := .p (.v (.int _ _))) rfl (by kernel_rfl) (rd_bin rfl rfl ⟨rfl, fits_i64 (by unfold i64; omega)⟩) rfl rfl (by decide) ?_
      refine AG.tidy [(2, .ptr 1000 _ 0), (3, .ptr 1001 _ 0), (4, .p (.v (.bool false))), (17, .p (.v (.bool false))), (19, .p (.v (.int _ _))), (22, .p (.v (.int _ _)))] [(1000, .box _ _ [.p (.v (.int _ _)), .p (.v (.int _ _)), .p (.v (.int _ _)), .p (.lst _ _ _), .p (.lst _ _ _), .p (.lst _ _ _)]), (1001, .box _ _ [.p (.v (.int _ _)), .p (.lst _ _ _)])] ⟨rfl, rfl, rfl, rfl, rfl, rfl, trivial⟩ ⟨rfl, rfl, trivial⟩ rfl ?_
      refine AG.rd (i := 14) (x := .p (.v (.bool _))) rfl (by kernel_rfl) (rd_bin rfl rfl rfl) rfl rfl (by decide) ?_
      refine AG.rd (i := 15) (x := .p (.v (.bool _))) rfl (by kernel_rfl) (rd_pick rfl rfl) rfl rfl (by decide) ?_
      refine AG.rd (i := 16) (x := .p (.v (.bool _))) rfl (by kernel_rfl) (rd_mvx (Or.inl rfl) rfl) rfl rfl (by decide) ?_
      refine AG.bool (t := 25) rfl ?_ ?_
      · intro h3
        refine AG.skip (i := 17) rfl (by kernel_rfl) (by kernel_rfl) (by kernel_rfl) (by kernel_rfl) (by kernel_rfl) rfl rfl (by decide) (NP.then (NP.then NP.ends)) ?_
        refine AG.skip (i := 18) rfl (by kernel_rfl) (by kernel_rfl) (by kernel_rfl) (by kernel_rfl) (by kernel_rfl) rfl rfl (by decide) (NP.then (NP.then NP.ends)) ?_
        refine AG.skip (i := 19) rfl (by kernel_rfl) (by kernel_rfl) (by kernel_rfl) (by kernel_rfl) (by kernel_rfl) rfl rfl (by decide) (NP.then (NP.then NP.ends)) ?_
        refine AG.no (i := 20) rfl (by kernel_rfl) rfl rfl (by decide) ?_
        refine AG.no (i := 21) rfl (by kernel_rfl) rfl rfl (by decide) ?_
        refine AG.no (i := 22) rfl (by kernel_rfl) rfl rfl (by decide) ?_
        refine AG.rd (i := 23) (x := .p (.v (.bool true))) rfl (by kernel_rfl) (rd_pick rfl rfl) rfl rfl (by decide) ?_
        refine AG.done (by kernel_rfl) ?_
        refine go_then ?_
        refine AW.yes rfl ?_
        refine AW.seq ?_
        refine AW.list ?_
        refine AL.rd (x := .p (.v (.bool false))) (rd_mvx (Or.inr rfl) rfl) rfl rfl (by decide) ?_
        refine AL.nil ?_
        refine go_then ?_
        refine AW.ret ?_
        refine ret_then ?_
        refine end_ret ?_ trivial
        refine congrArg (fun b => some (boo b)) ?_
        unfold agrees
        simp_all
      · intro h3
        refine AG.take (x := .agg [.p (.v (.int _ _)), .p (.lst _ _ _)]) (i := 17) rfl (by kernel_rfl) (by kernel_rfl) (by kernel_rfl) (by kernel_rfl) (by kernel_rfl) (rd_load_box rfl ty.kd62 rfl rfl rfl rfl) rfl rfl (by decide) (NP.then (NP.then NP.ends)) ?_
        refine AG.tidy [(2, .ptr 1000 _ 0), (3, .ptr 1001 _ 0), (4, .p (.v (.bool false))), (25, .p (.v (.bool false))), (26, .agg [.p (.v (.int _ _)), .p (.lst _ _ _)])] [(1000, .box _ _ [.p (.v (.int _ _)), .p (.v (.int _ _)), .p (.v (.int _ _)), .p (.lst _ _ _), .p (.lst _ _ _), .p (.lst _ _ _)]), (1001, .box _ _ [.p (.v (.int _ _)), .p (.lst _ _ _)])] ⟨rfl, rfl, rfl, rfl, rfl, trivial⟩ ⟨rfl, rfl, trivial⟩ rfl ?_
        refine AG.take (x := .agg [.p (.v (.int _ _)), .p (.v (.int _ _))]) (i := 18) rfl (by kernel_rfl) (by kernel_rfl) (by kernel_rfl) (by kernel_rfl) (by kernel_rfl) (rd_build rfl ty.sa105 rfl rfl rfl) rfl rfl (by decide) (NP.then (NP.then NP.ends)) ?_
        refine AG.take (x := .ptr 1000 _ 2) (i := 20) rfl (by kernel_rfl) (by kernel_rfl) (by kernel_rfl) (by kernel_rfl) (by kernel_rfl) (rd_faddr rfl ty.fl58_2 ty.nz3 ty.is3 rfl rfl) rfl rfl (by decide) (NP.then (NP.then NP.ends)) ?_
        refine AG.take (x := .p (.v (.int _ _))) (i := 21) rfl (by kernel_rfl) (by kernel_rfl) (by kernel_rfl) (by kernel_rfl) (by kernel_rfl) (rd_load_box rfl ty.kd3 rfl rfl rfl rfl) rfl rfl (by decide) (NP.then (NP.then NP.ends)) ?_
        refine AG.st (i := 19) rfl (by kernel_rfl) (St.call [] [] [] rfl (by intro s hs; cases hs; decide) rfl Try.func71 rfl rfl (balance_e l ⟨1, 0⟩ hm) ⟨rfl, rfl, rfl⟩ (trivial) (trivial) rfl) (by decide) rfl ?_
        refine AG.tidy [(2, .ptr 1000 _ 0), (3, .ptr 1001 _ 0), (4, .p (.v (.bool false))), (25, .p (.v (.bool false))), (28, .p (.v (.int _ _))), (30, .p (.v (.int _ _)))] [(1000, .box _ _ [.p (.v (.int _ _)), .p (.v (.int _ _)), .p (.v (.int _ _)), .p (.lst _ _ _), .p (.lst _ _ _), .p (.lst _ _ _)]), (1001, .box _ _ [.p (.v (.int _ _)), .p (.lst _ _ _)])] ⟨rfl, rfl, rfl, rfl, rfl, rfl, trivial⟩ ⟨rfl, rfl, trivial⟩ rfl ?_
        refine AG.rd (i := 22) (x := .p (.v (.bool _))) rfl (by kernel_rfl) (rd_bin rfl rfl rfl) rfl rfl (by decide) ?_
        refine AG.rd (i := 23) (x := .p (.v (.bool _))) rfl (by kernel_rfl) (rd_pick rfl rfl) rfl rfl (by decide) ?_
        refine AG.done (by kernel_rfl) ?_
        refine go_then ?_
        refine AW.cond rfl ?_ ?_
        · intro h4
          refine AW.seq ?_
          refine AW.list ?_
          refine AL.rd (x := .p (.v (.bool false))) (rd_mvx (Or.inr rfl) rfl) rfl rfl (by decide) ?_
          refine AL.nil ?_
          refine go_then ?_
          refine AW.ret ?_
          refine ret_then ?_
          refine end_ret ?_ trivial
          refine congrArg (fun b => some (boo b)) ?_
          unfold agrees
          simp_all
        · intro h4
          refine AW.skip ?_
          refine go_then ?_
          refine AW.seq ?_
          refine AW.seq ?_
          refine AW.list ?_
          refine AL.rd (x := .p (.v (.int _ _))) (rd_mvx (Or.inr rfl) rfl) rfl rfl (by decide) ?_
          refine AL.nil ?_
          refine go_then ?_
          refine AW.block ?_
          refine AW.loopE [(2, .ptr 1000 _ 0), (3, .ptr 1001 _ 0), (4, .p (.v (.bool false)))] [(1000, .box _ _ [.p (.v (.int _ _)), .p (.v (.int _ _)), .p (.v (.int _ _)), .p (.lst _ _ _), .p (.lst _ _ _), .p (.lst _ _ _)]), (1001, .box _ _ [.p (.v (.int _ _)), .p (.lst _ _ _)])] (D := Nat) (fun k => [(5, int ((k : Int) + 1))]) (fun k => []) (fun k => k ≤ 99 ∧ ∀ j : Nat, j < k → agreeAt x l ((j : Int) + 1) = true) (fun k => 99 - k) 0 ⟨Nat.zero_le _, fun j h => absurd h (by omega)⟩ ⟨(Eq.trans (b := int _) rfl (congrArg int (by simp))), trivial⟩ trivial ⟨rfl, rfl, rfl, trivial⟩ ⟨rfl, rfl, trivial⟩ ?_
          intro k hI
          obtain ⟨hk99, hall⟩ := hI
          refine AW.seq ?_
          refine AW.seq ?_
          refine AW.list ?_
          refine AL.rd (x := .p (.v (.int _ _))) (rd_mvx (Or.inl rfl) rfl) rfl rfl (by decide) ?_
          refine AL.rd (x := .p (.v (.bool _))) (rd_bin rfl rfl rfl) rfl rfl (by decide) ?_
          refine AL.tidy [(2, .ptr 1000 _ 0), (3, .ptr 1001 _ 0), (4, .p (.v (.bool false))), (5, .p (.v (.int _ _))), (34, .p (.v (.bool _)))] [(1000, .box _ _ [.p (.v (.int _ _)), .p (.v (.int _ _)), .p (.v (.int _ _)), .p (.lst _ _ _), .p (.lst _ _ _), .p (.lst _ _ _)]), (1001, .box _ _ [.p (.v (.int _ _)), .p (.lst _ _ _)])] ⟨rfl, rfl, rfl, rfl, rfl, trivial⟩ ⟨rfl, rfl, trivial⟩ ?_
          refine AL.nil ?_
          refine go_then ?_
          refine AW.cond rfl ?_ ?_
          · intro h5
            refine AW.skip ?_
            refine go_then ?_
            refine AW.seq ?_
            refine AW.block ?_
            refine AW.seq ?_
            refine AW.list ?_
            have hk : k < 99 := by have h := h5; simp only [decide_eq_true_eq] at h; omega
            refine AL.rd (x := .p (.v (.int _ _))) (rd_mvx (Or.inr rfl) rfl) rfl rfl (by decide) ?_
            refine AL.rd (x := .p (.v (.int _ _))) (rd_mvx (Or.inr rfl) rfl) rfl rfl (by decide) ?_
            refine AL.nil ?_
            refine go_then ?_
            refine AW.seq ?_
            refine AW.seq ?_
            refine AW.list ?_
            refine AL.rd (x := .agg [.p (.v (.int _ _)), .p (.v (.int _ _)), .p (.v (.int _ _)), .p (.lst _ _ _), .p (.lst _ _ _), .p (.lst _ _ _)]) (rd_load_box rfl ty.kd58 rfl rfl rfl rfl) rfl rfl (by decide) ?_
            refine AL.rd (x := .p (.v (.int _ _))) (rd_mvx (Or.inl rfl) rfl) rfl rfl (by decide) ?_
            refine AL.st (St.call [] [] [] rfl (by intro s hs; cases hs; decide) rfl Try.func72 rfl rfl (impl_chanAt_e x ((k : Int) + 1) hw) ⟨rfl, rfl, rfl⟩ (trivial) (trivial) rfl) rfl ?_
            refine AL.tidy [(2, .ptr 1000 _ 0), (3, .ptr 1001 _ 0), (4, .p (.v (.bool false))), (5, .p (.v (.int _ _))), (6, .p (.v (.int _ _))), (7, .p (.v (.int _ _))), (39, .p (.v (.int _ _)))] [(1000, .box _ _ [.p (.v (.int _ _)), .p (.v (.int _ _)), .p (.v (.int _ _)), .p (.lst _ _ _), .p (.lst _ _ _), .p (.lst _ _ _)]), (1001, .box _ _ [.p (.v (.int _ _)), .p (.lst _ _ _)])] ⟨rfl, rfl, rfl, rfl, rfl, rfl, rfl, trivial⟩ ⟨rfl, rfl, trivial⟩ ?_
            refine AL.rd (x := .p (.v (.int _ _))) (rd_mvx (Or.inr rfl) rfl) rfl rfl (by decide) ?_
            refine AL.nil ?_
            refine go_then ?_
            refine AW.seq ?_
            refine AW.list ?_
            refine AL.rd (x := .p (.v (.int _ _))) (rd_mvx (Or.inl rfl) rfl) rfl rfl (by decide) ?_
            refine AL.rd (x := .p (.v (.bool _))) (rd_bin rfl rfl rfl) rfl rfl (by decide) ?_
            refine AL.nil ?_
            refine go_then ?_
            refine AW.cond rfl ?_ ?_
            · intro h6
              refine AW.seq ?_
              refine AW.list ?_
              refine AL.rd (x := .ptr 1000 _ 3) (rd_faddr rfl ty.fl58_3 ty.nz54 ty.is54 rfl rfl) rfl rfl (by decide) ?_
              refine AL.rd (x := .p (.lst _ _ _)) (rd_load_box rfl ty.kd54 rfl rfl rfl rfl) rfl rfl (by decide) ?_
              refine AL.rd (x := .p (.v (.int _ _))) (rd_mvx (Or.inl rfl) rfl) rfl rfl (by decide) ?_
              refine AL.tidy [(2, .ptr 1000 _ 0), (3, .ptr 1001 _ 0), (4, .p (.v (.bool false))), (5, .p (.v (.int _ _))), (6, .p (.v (.int _ _))), (7, .p (.v (.int _ _))), (43, .p (.lst _ _ _)), (44, .p (.v (.int _ _)))] [(1000, .box _ _ [.p (.v (.int _ _)), .p (.v (.int _ _)), .p (.v (.int _ _)), .p (.lst _ _ _), .p (.lst _ _ _), .p (.lst _ _ _)]), (1001, .box _ _ [.p (.v (.int _ _)), .p (.lst _ _ _)])] ⟨rfl, rfl, rfl, rfl, rfl, rfl, rfl, rfl, trivial⟩ ⟨rfl, rfl, trivial⟩ ?_
              have hpos : 0 ≤ chanAt x.chans ((k : Int) + 1) := by simpa using h6
              obtain ⟨q, hq, hqe, hqi⟩ : ∃ q, ∃ h : q < x.chans.length, chanAt x.chans ((k : Int) + 1) = (q : Int) ∧ x.chans[q].id = (k : Int) + 1 := (chanAt_cases x.chans ((k : Int) + 1)).resolve_left (by omega)
              have hloc := locA_some hq hqe
              have hout := outA_some hpos
              refine AL.rd (x := .rp _) (rd_iaddr_p (i := q) rfl ty.el54 rfl rfl ?hn1 (row_map hq)) rfl rfl (by decide) ?_
              case hn1 => exact hqe
              refine AL.rd (x := .rp _) (rd_faddr_rp rfl ty.fl107_2 ty.nz3 ty.is3 rfl) rfl rfl (by decide) ?_
              refine AL.rd (x := .p (.v (.int _ _))) (rd_load_rp rfl ty.kd3 rfl rfl) rfl rfl (by decide) ?_
              refine AL.rd (x := .p (.v (.int _ _))) (rd_mvx (Or.inr rfl) rfl) rfl rfl (by decide) ?_
              refine AL.nil ?_
              refine go_then ?_
              refine AW.list ?_
              refine AL.rd (x := .agg [.p (.v (.int _ _)), .p (.v (.int _ _)), .p (.v (.int _ _)), .p (.lst _ _ _), .p (.lst _ _ _), .p (.lst _ _ _)]) (rd_load_box rfl ty.kd58 rfl rfl rfl rfl) rfl rfl (by decide) ?_
              refine AL.rd (x := .p (.v (.int _ _))) (rd_mvx (Or.inl rfl) rfl) rfl rfl (by decide) ?_
              refine AL.tidy [(2, .ptr 1000 _ 0), (3, .ptr 1001 _ 0), (4, .p (.v (.bool false))), (5, .p (.v (.int _ _))), (6, .p (.v (.int _ _))), (7, .p (.v (.int _ _))), (49, .agg [.p (.v (.int _ _)), .p (.v (.int _ _)), .p (.v (.int _ _)), .p (.lst _ _ _), .p (.lst _ _ _), .p (.lst _ _ _)]), (50, .p (.v (.int _ _)))] [(1000, .box _ _ [.p (.v (.int _ _)), .p (.v (.int _ _)), .p (.v (.int _ _)), .p (.lst _ _ _), .p (.lst _ _ _), .p (.lst _ _ _)]), (1001, .box _ _ [.p (.v (.int _ _)), .p (.lst _ _ _)])] ⟨rfl, rfl, rfl, rfl, rfl, rfl, rfl, rfl, trivial⟩ ⟨rfl, rfl, trivial⟩ ?_
              refine AL.st (St.call [] [] [] rfl (by intro s hs; cases hs; decide) rfl Try.func73 rfl rfl (transit_e x ((k : Int) + 1) hw (bookOk_small hbk)) ⟨rfl, rfl, rfl⟩ (trivial) (trivial) rfl) rfl ?_
              refine AL.tidy [(2, .ptr 1000 _ 0), (3, .ptr 1001 _ 0), (4, .p (.v (.bool false))), (5, .p (.v (.int _ _))), (6, .p (.v (.int _ _))), (7, .p (.v (.int _ _))), (51, .tup [.p (.v (.int _ _)), .p (.v (.int _ _))])] [(1000, .box _ _ [.p (.v (.int _ _)), .p (.v (.int _ _)), .p (.v (.int _ _)), .p (.lst _ _ _), .p (.lst _ _ _), .p (.lst _ _ _)]), (1001, .box _ _ [.p (.v (.int _ _)), .p (.lst _ _ _)])] ⟨rfl, rfl, rfl, rfl, rfl, rfl, rfl, trivial⟩ ⟨rfl, rfl, trivial⟩ ?_
              refine AL.rd (x := .tup [.p (.v (.int _ _)), .p (.v (.int _ _))]) (rd_mvx (Or.inl rfl) rfl) rfl rfl (by decide) ?_
              refine AL.rd (x := .p (.v (.int _ _))) (rd_ext rfl rfl) rfl rfl (by decide) ?_
              refine AL.rd (x := .p (.v (.int _ _))) (rd_ext rfl rfl) rfl rfl (by decide) ?_
              refine AL.rd (x := .p (.v (.int _ _))) (rd_mvx (Or.inr rfl) rfl) rfl rfl (by decide) ?_
              refine AL.nil ?_
              refine go_then ?_
              refine AW.seq ?_
              refine AW.list ?_
              refine AL.rd (x := .agg [.p (.v (.int _ _)), .p (.lst _ _ _)]) (rd_load_box rfl ty.kd62 rfl rfl rfl rfl) rfl rfl (by decide) ?_
              refine AL.rd (x := .p (.v (.int _ _))) (rd_mvx (Or.inl rfl) rfl) rfl rfl (by decide) ?_
              refine AL.tidy [(2, .ptr 1000 _ 0), (3, .ptr 1001 _ 0), (4, .p (.v (.bool false))), (5, .p (.v (.int _ _))), (6, .p (.v (.int _ _))), (7, .p (.v (.int _ _))), (54, .agg [.p (.v (.int _ _)), .p (.lst _ _ _)]), (55, .p (.v (.int _ _)))] [(1000, .box _ _ [.p (.v (.int _ _)), .p (.v (.int _ _)), .p (.v (.int _ _)), .p (.lst _ _ _), .p (.lst _ _ _), .p (.lst _ _ _)]), (1001, .box _ _ [.p (.v (.int _ _)), .p (.lst _ _ _)])] ⟨rfl, rfl, rfl, rfl, rfl, rfl, rfl, rfl, trivial⟩ ⟨rfl, rfl, trivial⟩ ?_
              refine AL.rd (x := .agg [.p (.v (.int _ _)), .p (.v (.int _ _))]) (rd_build rfl ty.sa105 rfl rfl rfl) rfl rfl (by decide) ?_
              refine AL.st (St.call [] [] [] rfl (by intro s hs; cases hs; decide) rfl Try.func71 rfl rfl (balance_e l ⟨6, (k : Int) + 1⟩ hm) ⟨rfl, rfl, rfl⟩ (trivial) (trivial) rfl) rfl ?_
              refine AL.tidy [(2, .ptr 1000 _ 0), (3, .ptr 1001 _ 0), (4, .p (.v (.bool false))), (5, .p (.v (.int _ _))), (6, .p (.v (.int _ _))), (7, .p (.v (.int _ _))), (57, .p (.v (.int _ _)))] [(1000, .box _ _ [.p (.v (.int _ _)), .p (.v (.int _ _)), .p (.v (.int _ _)), .p (.lst _ _ _), .p (.lst _ _ _), .p (.lst _ _ _)]), (1001, .box _ _ [.p (.v (.int _ _)), .p (.lst _ _ _)])] ⟨rfl, rfl, rfl, rfl, rfl, rfl, rfl, trivial⟩ ⟨rfl, rfl, trivial⟩ ?_
              refine AL.rd (x := .p (.v (.int _ _))) (rd_mvx (Or.inl rfl) rfl) rfl rfl (by decide) ?_
              refine AL.rd (x := .p (.v (.bool _))) (rd_bin rfl rfl rfl) rfl rfl (by decide) ?_
              refine AL.rd (x := .p (.v (.bool _))) (rd_mvx (Or.inl rfl) rfl) rfl rfl (by decide) ?_
              refine AL.bool (t := 60) rfl ?_ ?_
              · intro h7
                refine AL.no rfl rfl (by decide) ?_
                refine AL.no rfl rfl (by decide) ?_
                refine AL.no rfl rfl (by decide) ?_
                refine AL.no rfl rfl (by decide) ?_
                refine AL.no rfl rfl (by decide) ?_
                refine AL.no rfl rfl (by decide) ?_
                refine AL.rd (x := .p (.v (.bool true))) (rd_pick rfl rfl) rfl rfl (by decide) ?_
                refine AL.rd (x := .p (.v (.bool true))) (rd_mvx (Or.inl rfl) rfl) rfl rfl (by decide) ?_
                refine AL.no rfl rfl (by decide) ?_
                refine AL.no rfl rfl (by decide) ?_
                refine AL.no rfl rfl (by decide) ?_
                refine AL.no rfl rfl (by decide) ?_
                refine AL.no rfl rfl (by decide) ?_
                refine AL.rd (x := .p (.v (.bool true))) (rd_pick rfl rfl) rfl rfl (by decide) ?_
                refine AL.tidy [(2, .ptr 1000 _ 0), (3, .ptr 1001 _ 0), (4, .p (.v (.bool false))), (5, .p (.v (.int _ _))), (74, .p (.v (.bool true)))] [(1000, .box _ _ [.p (.v (.int _ _)), .p (.v (.int _ _)), .p (.v (.int _ _)), .p (.lst _ _ _), .p (.lst _ _ _), .p (.lst _ _ _)]), (1001, .box _ _ [.p (.v (.int _ _)), .p (.lst _ _ _)])] ⟨rfl, rfl, rfl, rfl, rfl, trivial⟩ ⟨rfl, rfl, trivial⟩ ?_
                refine AL.nil ?_
                refine go_then ?_
                refine AW.yes rfl ?_
                refine AW.seq ?_
                refine AW.list ?_
                refine AL.rd (x := .p (.v (.bool false))) (rd_mvx (Or.inr rfl) rfl) rfl rfl (by decide) ?_
                refine AL.nil ?_
                refine go_then ?_
                refine AW.ret ?_
                refine ret_block ?_
                refine ret_then ?_
                refine ret_then ?_
                refine ret_block ?_
                refine ret_then ?_
                refine end_ret ?_ trivial
                refine congrArg (fun b => some (boo b)) ?_
                first
                | (exact (agrees_no hk (by unfold agreeAt; rw [hloc, hout]; simp_all)).symm)
                | (have hke : k = 99 := by simp only [decide_eq_false_iff_not] at *; omega
                   subst hke
                   rw [agrees_yes hall]
                   simp_all)
              · intro h7
                refine AL.rd (x := .agg [.p (.v (.int _ _)), .p (.lst _ _ _)]) (rd_load_box rfl ty.kd62 rfl rfl rfl rfl) rfl rfl (by decide) ?_
                refine AL.rd (x := .p (.v (.int _ _))) (rd_mvx (Or.inl rfl) rfl) rfl rfl (by decide) ?_
                refine AL.rd (x := .agg [.p (.v (.int _ _)), .p (.v (.int _ _))]) (rd_build rfl ty.sa105 rfl rfl rfl) rfl rfl (by decide) ?_
                refine AL.st (St.call [] [] [] rfl (by intro s hs; cases hs; decide) rfl Try.func71 rfl rfl (balance_e l ⟨8, (k : Int) + 1⟩ hm) ⟨rfl, rfl, rfl⟩ (trivial) (trivial) rfl) rfl ?_
                refine AL.tidy [(2, .ptr 1000 _ 0), (3, .ptr 1001 _ 0), (4, .p (.v (.bool false))), (5, .p (.v (.int _ _))), (7, .p (.v (.int _ _))), (60, .p (.v (.bool false))), (64, .p (.v (.int _ _)))] [(1000, .box _ _ [.p (.v (.int _ _)), .p (.v (.int _ _)), .p (.v (.int _ _)), .p (.lst _ _ _), .p (.lst _ _ _), .p (.lst _ _ _)]), (1001, .box _ _ [.p (.v (.int _ _)), .p (.lst _ _ _)])] ⟨rfl, rfl, rfl, rfl, rfl, rfl, rfl, trivial⟩ ⟨rfl, rfl, trivial⟩ ?_
                refine AL.rd (x := .p (.v (.int _ _))) (rd_mvx (Or.inl rfl) rfl) rfl rfl (by decide) ?_
                refine AL.rd (x := .p (.v (.bool _))) (rd_bin rfl rfl rfl) rfl rfl (by decide) ?_
                refine AL.rd (x := .p (.v (.bool _))) (rd_pick rfl rfl) rfl rfl (by decide) ?_
                refine AL.rd (x := .p (.v (.bool _))) (rd_mvx (Or.inl rfl) rfl) rfl rfl (by decide) ?_
                refine AL.bool (t := 68) rfl ?_ ?_
                · intro h8
                  refine AL.no rfl rfl (by decide) ?_
                  refine AL.no rfl rfl (by decide) ?_
                  refine AL.no rfl rfl (by decide) ?_
                  refine AL.no rfl rfl (by decide) ?_
                  refine AL.no rfl rfl (by decide) ?_
                  refine AL.rd (x := .p (.v (.bool true))) (rd_pick rfl rfl) rfl rfl (by decide) ?_
                  refine AL.nil ?_
                  refine go_then ?_
                  refine AW.yes rfl ?_
                  refine AW.seq ?_
                  refine AW.list ?_
                  refine AL.rd (x := .p (.v (.bool false))) (rd_mvx (Or.inr rfl) rfl) rfl rfl (by decide) ?_
                  refine AL.tidy [(2, .ptr 1000 _ 0), (3, .ptr 1001 _ 0), (4, .p (.v (.bool false))), (5, .p (.v (.int _ _)))] [(1000, .box _ _ [.p (.v (.int _ _)), .p (.v (.int _ _)), .p (.v (.int _ _)), .p (.lst _ _ _), .p (.lst _ _ _), .p (.lst _ _ _)]), (1001, .box _ _ [.p (.v (.int _ _)), .p (.lst _ _ _)])] ⟨rfl, rfl, rfl, rfl, trivial⟩ ⟨rfl, rfl, trivial⟩ ?_
                  refine AL.nil ?_
                  refine go_then ?_
                  refine AW.ret ?_
                  refine ret_block ?_
                  refine ret_then ?_
                  refine ret_then ?_
                  refine ret_block ?_
                  refine ret_then ?_
                  refine end_ret ?_ trivial
                  refine congrArg (fun b => some (boo b)) ?_
                  first
                  | (exact (agrees_no hk (by unfold agreeAt; rw [hloc, hout]; simp_all)).symm)
                  | (have hke : k = 99 := by simp only [decide_eq_false_iff_not] at *; omega
                     subst hke
                     rw [agrees_yes hall]
                     simp_all)
                · intro h8
                  refine AL.rd (x := .agg [.p (.v (.int _ _)), .p (.lst _ _ _)]) (rd_load_box rfl ty.kd62 rfl rfl rfl rfl) rfl rfl (by decide) ?_
                  refine AL.rd (x := .p (.v (.int _ _))) (rd_mvx (Or.inl rfl) rfl) rfl rfl (by decide) ?_
                  refine AL.rd (x := .agg [.p (.v (.int _ _)), .p (.v (.int _ _))]) (rd_build rfl ty.sa105 rfl rfl rfl) rfl rfl (by decide) ?_
                  refine AL.st (St.call [] [] [] rfl (by intro s hs; cases hs; decide) rfl Try.func71 rfl rfl (balance_e l ⟨7, (k : Int) + 1⟩ hm) ⟨rfl, rfl, rfl⟩ (trivial) (trivial) rfl) rfl ?_
                  refine AL.tidy [(2, .ptr 1000 _ 0), (3, .ptr 1001 _ 0), (4, .p (.v (.bool false))), (5, .p (.v (.int _ _))), (68, .p (.v (.bool false))), (72, .p (.v (.int _ _)))] [(1000, .box _ _ [.p (.v (.int _ _)), .p (.v (.int _ _)), .p (.v (.int _ _)), .p (.lst _ _ _), .p (.lst _ _ _), .p (.lst _ _ _)]), (1001, .box _ _ [.p (.v (.int _ _)), .p (.lst _ _ _)])] ⟨rfl, rfl, rfl, rfl, rfl, rfl, trivial⟩ ⟨rfl, rfl, trivial⟩ ?_
                  refine AL.rd (x := .p (.v (.bool _))) (rd_bin rfl rfl rfl) rfl rfl (by decide) ?_
                  refine AL.rd (x := .p (.v (.bool _))) (rd_pick rfl rfl) rfl rfl (by decide) ?_
                  refine AL.nil ?_
                  refine go_then ?_
                  refine AW.cond rfl ?_ ?_
                  · intro h9
                    refine AW.seq ?_
                    refine AW.list ?_
                    refine AL.rd (x := .p (.v (.bool false))) (rd_mvx (Or.inr rfl) rfl) rfl rfl (by decide) ?_
                    refine AL.nil ?_
                    refine go_then ?_
                    refine AW.ret ?_
                    refine ret_block ?_
                    refine ret_then ?_
                    refine ret_then ?_
                    refine ret_block ?_
                    refine ret_then ?_
                    refine end_ret ?_ trivial
                    refine congrArg (fun b => some (boo b)) ?_
                    first
                    | (exact (agrees_no hk (by unfold agreeAt; rw [hloc, hout]; simp_all)).symm)
                    | (have hke : k = 99 := by simp only [decide_eq_false_iff_not] at *; omega
                       subst hke
                       rw [agrees_yes hall]
                       simp_all)
                  · intro h9
                    refine AW.skip ?_
                    refine go_block ?_
                    refine go_then ?_
                    refine AW.list ?_
                    refine AL.rd (x := .p (.v (.int _ _))) (rd_mvx (Or.inl rfl) rfl) rfl rfl (by decide) ?_
                    have hgood : agreeAt x l ((k : Int) + 1) = true := by unfold agreeAt; rw [hloc, hout]; simp_all
                    refine AL.rd (x := .p (.v (.int _ _))) (rd_bin rfl rfl ⟨rfl, fits_i64 (by unfold i64; omega)⟩) rfl rfl (by decide) ?_
                    refine AL.rd (x := .p (.v (.int _ _))) (rd_mvx (Or.inr rfl) rfl) rfl rfl (by decide) ?_
                    refine AL.tidy [(2, .ptr 1000 _ 0), (3, .ptr 1001 _ 0), (4, .p (.v (.bool false))), (5, .p (.v (.int _ _)))] [(1000, .box _ _ [.p (.v (.int _ _)), .p (.v (.int _ _)), .p (.v (.int _ _)), .p (.lst _ _ _), .p (.lst _ _ _), .p (.lst _ _ _)]), (1001, .box _ _ [.p (.v (.int _ _)), .p (.lst _ _ _)])] ⟨rfl, rfl, rfl, rfl, trivial⟩ ⟨rfl, rfl, trivial⟩ ?_
                    refine AL.nil ?_
                    refine go_then ?_
                    refine ⟨k + 1, ⟨hk, fun j hj => (Nat.lt_or_ge j k).elim (hall j) (fun q => by rw [show j = k by omega]; exact hgood)⟩, by omega, ⟨(Eq.trans (b := int _) rfl (congrArg int (by push_cast; rfl))), trivial⟩, trivial, ⟨rfl, rfl, rfl, trivial⟩, ⟨rfl, rfl, trivial⟩⟩
            · intro h6
              refine AW.skip ?_
              refine go_then ?_
              refine AW.seq ?_
              refine AW.list ?_
              have hneg : ¬ 0 ≤ chanAt x.chans ((k : Int) + 1) := by simpa using h6
              have hloc := locA_none hneg
              have hout := outA_none hneg
              refine AL.rd (x := .agg [.p (.v (.int _ _)), .p (.lst _ _ _)]) (rd_load_box rfl ty.kd62 rfl rfl rfl rfl) rfl rfl (by decide) ?_
              refine AL.rd (x := .p (.v (.int _ _))) (rd_mvx (Or.inl rfl) rfl) rfl rfl (by decide) ?_
              refine AL.rd (x := .agg [.p (.v (.int _ _)), .p (.v (.int _ _))]) (rd_build rfl ty.sa105 rfl rfl rfl) rfl rfl (by decide) ?_
              refine AL.st (St.call [] [] [] rfl (by intro s hs; cases hs; decide) rfl Try.func71 rfl rfl (balance_e l ⟨6, (k : Int) + 1⟩ hm) ⟨rfl, rfl, rfl⟩ (trivial) (trivial) rfl) rfl ?_
              refine AL.tidy [(2, .ptr 1000 _ 0), (3, .ptr 1001 _ 0), (4, .p (.v (.bool false))), (5, .p (.v (.int _ _))), (6, .p (.v (.int _ _))), (7, .p (.v (.int _ _))), (57, .p (.v (.int _ _)))] [(1000, .box _ _ [.p (.v (.int _ _)), .p (.v (.int _ _)), .p (.v (.int _ _)), .p (.lst _ _ _), .p (.lst _ _ _), .p (.lst _ _ _)]), (1001, .box _ _ [.p (.v (.int _ _)), .p (.lst _ _ _)])] ⟨rfl, rfl, rfl, rfl, rfl, rfl, rfl, trivial⟩ ⟨rfl, rfl, trivial⟩ ?_
              refine AL.rd (x := .p (.v (.int _ _))) (rd_mvx (Or.inl rfl) rfl) rfl rfl (by decide) ?_
              refine AL.rd (x := .p (.v (.bool _))) (rd_bin rfl rfl rfl) rfl rfl (by decide) ?_
              refine AL.rd (x := .p (.v (.bool _))) (rd_mvx (Or.inl rfl) rfl) rfl rfl (by decide) ?_
              refine AL.bool (t := 60) rfl ?_ ?_
              · intro h10
                refine AL.no rfl rfl (by decide) ?_
                refine AL.no rfl rfl (by decide) ?_
                refine AL.no rfl rfl (by decide) ?_
                refine AL.no rfl rfl (by decide) ?_
                refine AL.no rfl rfl (by decide) ?_
                refine AL.no rfl rfl (by decide) ?_
                refine AL.rd (x := .p (.v (.bool true))) (rd_pick rfl rfl) rfl rfl (by decide) ?_
                refine AL.rd (x := .p (.v (.bool true))) (rd_mvx (Or.inl rfl) rfl) rfl rfl (by decide) ?_
                refine AL.no rfl rfl (by decide) ?_
                refine AL.no rfl rfl (by decide) ?_
                refine AL.no rfl rfl (by decide) ?_
                refine AL.no rfl rfl (by decide) ?_
                refine AL.no rfl rfl (by decide) ?_
                refine AL.rd (x := .p (.v (.bool true))) (rd_pick rfl rfl) rfl rfl (by decide) ?_
                refine AL.tidy [(2, .ptr 1000 _ 0), (3, .ptr 1001 _ 0), (4, .p (.v (.bool false))), (5, .p (.v (.int _ _))), (74, .p (.v (.bool true)))] [(1000, .box _ _ [.p (.v (.int _ _)), .p (.v (.int _ _)), .p (.v (.int _ _)), .p (.lst _ _ _), .p (.lst _ _ _), .p (.lst _ _ _)]), (1001, .box _ _ [.p (.v (.int _ _)), .p (.lst _ _ _)])] ⟨rfl, rfl, rfl, rfl, rfl, trivial⟩ ⟨rfl, rfl, trivial⟩ ?_
                refine AL.nil ?_
                refine go_then ?_
                refine AW.yes rfl ?_
                refine AW.seq ?_
                refine AW.list ?_
                refine AL.rd (x := .p (.v (.bool false))) (rd_mvx (Or.inr rfl) rfl) rfl rfl (by decide) ?_
                refine AL.nil ?_
                refine go_then ?_
                refine AW.ret ?_
                refine ret_block ?_
                refine ret_then ?_
                refine ret_then ?_
                refine ret_block ?_
                refine ret_then ?_
                refine end_ret ?_ trivial
                refine congrArg (fun b => some (boo b)) ?_
                first
                | (exact (agrees_no hk (by unfold agreeAt; rw [hloc, hout]; simp_all)).symm)
                | (have hke : k = 99 := by simp only [decide_eq_false_iff_not] at *; omega
                   subst hke
                   rw [agrees_yes hall]
                   simp_all)
              · intro h10
                refine AL.rd (x := .agg [.p (.v (.int _ _)), .p (.lst _ _ _)]) (rd_load_box rfl ty.kd62 rfl rfl rfl rfl) rfl rfl (by decide) ?_
                refine AL.rd (x := .p (.v (.int _ _))) (rd_mvx (Or.inl rfl) rfl) rfl rfl (by decide) ?_
                refine AL.rd (x := .agg [.p (.v (.int _ _)), .p (.v (.int _ _))]) (rd_build rfl ty.sa105 rfl rfl rfl) rfl rfl (by decide) ?_
                refine AL.st (St.call [] [] [] rfl (by intro s hs; cases hs; decide) rfl Try.func71 rfl rfl (balance_e l ⟨8, (k : Int) + 1⟩ hm) ⟨rfl, rfl, rfl⟩ (trivial) (trivial) rfl) rfl ?_
                refine AL.tidy [(2, .ptr 1000 _ 0), (3, .ptr 1001 _ 0), (4, .p (.v (.bool false))), (5, .p (.v (.int _ _))), (7, .p (.v (.int _ _))), (60, .p (.v (.bool false))), (64, .p (.v (.int _ _)))] [(1000, .box _ _ [.p (.v (.int _ _)), .p (.v (.int _ _)), .p (.v (.int _ _)), .p (.lst _ _ _), .p (.lst _ _ _), .p (.lst _ _ _)]), (1001, .box _ _ [.p (.v (.int _ _)), .p (.lst _ _ _)])] ⟨rfl, rfl, rfl, rfl, rfl, rfl, rfl, trivial⟩ ⟨rfl, rfl, trivial⟩ ?_
                refine AL.rd (x := .p (.v (.int _ _))) (rd_mvx (Or.inl rfl) rfl) rfl rfl (by decide) ?_
                refine AL.rd (x := .p (.v (.bool _))) (rd_bin rfl rfl rfl) rfl rfl (by decide) ?_
                refine AL.rd (x := .p (.v (.bool _))) (rd_pick rfl rfl) rfl rfl (by decide) ?_
                refine AL.rd (x := .p (.v (.bool _))) (rd_mvx (Or.inl rfl) rfl) rfl rfl (by decide) ?_
                refine AL.bool (t := 68) rfl ?_ ?_
                · intro h11
                  refine AL.no rfl rfl (by decide) ?_
                  refine AL.no rfl rfl (by decide) ?_
                  refine AL.no rfl rfl (by decide) ?_
                  refine AL.no rfl rfl (by decide) ?_
                  refine AL.no rfl rfl (by decide) ?_
                  refine AL.rd (x := .p (.v (.bool true))) (rd_pick rfl rfl) rfl rfl (by decide) ?_
                  refine AL.nil ?_
                  refine go_then ?_
                  refine AW.yes rfl ?_
                  refine AW.seq ?_
                  refine AW.list ?_
                  refine AL.rd (x := .p (.v (.bool false))) (rd_mvx (Or.inr rfl) rfl) rfl rfl (by decide) ?_
                  refine AL.tidy [(2, .ptr 1000 _ 0), (3, .ptr 1001 _ 0), (4, .p (.v (.bool false))), (5, .p (.v (.int _ _)))] [(1000, .box _ _ [.p (.v (.int _ _)), .p (.v (.int _ _)), .p (.v (.int _ _)), .p (.lst _ _ _), .p (.lst _ _ _), .p (.lst _ _ _)]), (1001, .box _ _ [.p (.v (.int _ _)), .p (.lst _ _ _)])] ⟨rfl, rfl, rfl, rfl, trivial⟩ ⟨rfl, rfl, trivial⟩ ?_
                  refine AL.nil ?_
                  refine go_then ?_
                  refine AW.ret ?_
                  refine ret_block ?_
                  refine ret_then ?_
                  refine ret_then ?_
                  refine ret_block ?_
                  refine ret_then ?_
                  refine end_ret ?_ trivial
                  refine congrArg (fun b => some (boo b)) ?_
                  first
                  | (exact (agrees_no hk (by unfold agreeAt; rw [hloc, hout]; simp_all)).symm)
                  | (have hke : k = 99 := by simp only [decide_eq_false_iff_not] at *; omega
                     subst hke
                     rw [agrees_yes hall]
                     simp_all)
                · intro h11
                  refine AL.rd (x := .agg [.p (.v (.int _ _)), .p (.lst _ _ _)]) (rd_load_box rfl ty.kd62 rfl rfl rfl rfl) rfl rfl (by decide) ?_
                  refine AL.rd (x := .p (.v (.int _ _))) (rd_mvx (Or.inl rfl) rfl) rfl rfl (by decide) ?_
                  refine AL.rd (x := .agg [.p (.v (.int _ _)), .p (.v (.int _ _))]) (rd_build rfl ty.sa105 rfl rfl rfl) rfl rfl (by decide) ?_
                  refine AL.st (St.call [] [] [] rfl (by intro s hs; cases hs; decide) rfl Try.func71 rfl rfl (balance_e l ⟨7, (k : Int) + 1⟩ hm) ⟨rfl, rfl, rfl⟩ (trivial) (trivial) rfl) rfl ?_
                  refine AL.tidy [(2, .ptr 1000 _ 0), (3, .ptr 1001 _ 0), (4, .p (.v (.bool false))), (5, .p (.v (.int _ _))), (68, .p (.v (.bool false))), (72, .p (.v (.int _ _)))] [(1000, .box _ _ [.p (.v (.int _ _)), .p (.v (.int _ _)), .p (.v (.int _ _)), .p (.lst _ _ _), .p (.lst _ _ _), .p (.lst _ _ _)]), (1001, .box _ _ [.p (.v (.int _ _)), .p (.lst _ _ _)])] ⟨rfl, rfl, rfl, rfl, rfl, rfl, trivial⟩ ⟨rfl, rfl, trivial⟩ ?_
                  refine AL.rd (x := .p (.v (.bool _))) (rd_bin rfl rfl rfl) rfl rfl (by decide) ?_
                  refine AL.rd (x := .p (.v (.bool _))) (rd_pick rfl rfl) rfl rfl (by decide) ?_
                  refine AL.nil ?_
                  refine go_then ?_
                  refine AW.cond rfl ?_ ?_
                  · intro h12
                    refine AW.seq ?_
                    refine AW.list ?_
                    refine AL.rd (x := .p (.v (.bool false))) (rd_mvx (Or.inr rfl) rfl) rfl rfl (by decide) ?_
                    refine AL.nil ?_
                    refine go_then ?_
                    refine AW.ret ?_
                    refine ret_block ?_
                    refine ret_then ?_
                    refine ret_then ?_
                    refine ret_block ?_
                    refine ret_then ?_
                    refine end_ret ?_ trivial
                    refine congrArg (fun b => some (boo b)) ?_
                    first
                    | (exact (agrees_no hk (by unfold agreeAt; rw [hloc, hout]; simp_all)).symm)
                    | (have hke : k = 99 := by simp only [decide_eq_false_iff_not] at *; omega
                       subst hke
                       rw [agrees_yes hall]
                       simp_all)
                  · intro h12
                    refine AW.skip ?_
                    refine go_block ?_
                    refine go_then ?_
                    refine AW.list ?_
                    refine AL.rd (x := .p (.v (.int _ _))) (rd_mvx (Or.inl rfl) rfl) rfl rfl (by decide) ?_
                    have hgood : agreeAt x l ((k : Int) + 1) = true := by unfold agreeAt; rw [hloc, hout]; simp_all
                    refine AL.rd (x := .p (.v (.int _ _))) (rd_bin rfl rfl ⟨rfl, fits_i64 (by unfold i64; omega)⟩) rfl rfl (by decide) ?_
                    refine AL.rd (x := .p (.v (.int _ _))) (rd_mvx (Or.inr rfl) rfl) rfl rfl (by decide) ?_
                    refine AL.tidy [(2, .ptr 1000 _ 0), (3, .ptr 1001 _ 0), (4, .p (.v (.bool false))), (5, .p (.v (.int _ _)))] [(1000, .box _ _ [.p (.v (.int _ _)), .p (.v (.int _ _)), .p (.v (.int _ _)), .p (.lst _ _ _), .p (.lst _ _ _), .p (.lst _ _ _)]), (1001, .box _ _ [.p (.v (.int _ _)), .p (.lst _ _ _)])] ⟨rfl, rfl, rfl, rfl, trivial⟩ ⟨rfl, rfl, trivial⟩ ?_
                    refine AL.nil ?_
                    refine go_then ?_
                    refine ⟨k + 1, ⟨hk, fun j hj => (Nat.lt_or_ge j k).elim (hall j) (fun q => by rw [show j = k by omega]; exact hgood)⟩, by omega, ⟨(Eq.trans (b := int _) rfl (congrArg int (by push_cast; rfl))), trivial⟩, trivial, ⟨rfl, rfl, rfl, trivial⟩, ⟨rfl, rfl, trivial⟩⟩
          · intro h5
            refine AW.exit ?_
            refine ex_then ?_
            refine ex_then ?_
            refine ex_block ?_
            refine go_then ?_
            refine AW.seq ?_
            refine AW.list ?_
            refine AL.rd (x := .p (.v (.bool true))) (rd_mvx (Or.inr rfl) rfl) rfl rfl (by decide) ?_
            refine AL.nil ?_
            refine go_then ?_
            refine AW.ret ?_
            refine end_ret ?_ trivial
            refine congrArg (fun b => some (boo b)) ?_
            first
            | (exact (agrees_no hk (by unfold agreeAt; rw [hloc, hout]; simp_all)).symm)
            | (have hke : k = 99 := by simp only [decide_eq_false_iff_not] at *; omega
               subst hke
               rw [agrees_yes hall]
               simp_all)

set_option maxHeartbeats 8000000 in
set_option maxRecDepth 100000 in
theorem sagrees_e (x : Book) (l : Ledger) (hw : BookWf x) (hm : l.lines.length ≤ 9007199254740992) : GC Try.prog 25 [bookV x, .agg [int l.last, .p (.lst 143 3 (rowsOf encLine l.lines))]] [] (boo (agrees x l)) [] := by
  refine GC.intro (rs := [.tmp 4]) Try.func25 rfl Try.ntmps25 (Nat.le_of_ble_eq_true rfl) ⟨rfl, trivial⟩ ?_
  intro L O w0
  refine AW.seq ?_
  refine AW.list ?_
  refine AL.st (St.box 1000 rfl rfl (by decide) rfl) rfl ?_
  refine AL.tidy [(1, .agg [.p (.v (.int _ _)), .p (.lst _ _ _)]), (2, .ptr 1000 _ 0)] [(1000, .box _ _ [.p (.v (.int _ _)), .p (.v (.int _ _)), .p (.v (.int _ _)), .p (.lst _ _ _), .p (.lst _ _ _), .p (.lst _ _ _)])] ⟨rfl, rfl, trivial⟩ ⟨rfl, trivial⟩ ?_
  refine AL.st (St.box 1001 rfl rfl (by decide) rfl) rfl ?_
  refine AL.tidy [(2, .ptr 1000 _ 0), (3, .ptr 1001 _ 0)] [(1000, .box _ _ [.p (.v (.int _ _)), .p (.v (.int _ _)), .p (.v (.int _ _)), .p (.lst _ _ _), .p (.lst _ _ _), .p (.lst _ _ _)]), (1001, .box _ _ [.p (.v (.int _ _)), .p (.lst _ _ _)])] ⟨rfl, rfl, trivial⟩ ⟨rfl, rfl, trivial⟩ ?_
  refine AL.rd (x := .p (.v (.bool false))) (rd_mvx (Or.inr rfl) rfl) rfl rfl (by decide) ?_
  refine AL.nil ?_
  refine go_then ?_
  refine AW.seq ?_
  refine AW.seq ?_
  refine AW.draw 23 (inK []) (by kernel_rfl) ?_
  refine AG.rd (i := 0) (x := .agg [.p (.v (.int _ _)), .p (.v (.int _ _)), .p (.v (.int _ _)), .p (.lst _ _ _), .p (.lst _ _ _), .p (.lst _ _ _)]) rfl (by kernel_rfl) (rd_load_box rfl ty.kd58 rfl rfl rfl rfl) rfl rfl (by decide) ?_
  refine AG.st (i := 1) rfl (by kernel_rfl) (St.call [] [] [] rfl (by intro s hs; cases hs; decide) rfl Try.func60 rfl rfl (spec_BookOk_e x hw) ⟨rfl, rfl, rfl⟩ (trivial) (trivial) rfl) (by decide) rfl ?_
  refine AG.tidy [(2, .ptr 1000 _ 0), (3, .ptr 1001 _ 0), (4, .p (.v (.bool false))), (9, .p (.v (.bool _)))] [(1000, .box _ _ [.p (.v (.int _ _)), .p (.v (.int _ _)), .p (.v (.int _ _)), .p (.lst _ _ _), .p (.lst _ _ _), .p (.lst _ _ _)]), (1001, .box _ _ [.p (.v (.int _ _)), .p (.lst _ _ _)])] ⟨rfl, rfl, rfl, rfl, trivial⟩ ⟨rfl, rfl, trivial⟩ rfl ?_
  refine AG.rd (i := 2) (x := .p (.v (.bool _))) rfl (by kernel_rfl) (rd_un rfl rfl trivial) rfl rfl (by decide) ?_
  refine AG.rd (i := 3) (x := .p (.v (.bool _))) rfl (by kernel_rfl) (rd_mvx (Or.inl rfl) rfl) rfl rfl (by decide) ?_
  refine AG.bool (t := 11) rfl ?_ ?_
  · intro h1
    refine AG.no (i := 4) rfl (by kernel_rfl) rfl rfl (by decide) ?_
    refine AG.no (i := 5) rfl (by kernel_rfl) rfl rfl (by decide) ?_
    refine AG.no (i := 6) rfl (by kernel_rfl) rfl rfl (by decide) ?_
    refine AG.rd (i := 7) (x := .p (.v (.bool true))) rfl (by kernel_rfl) (rd_pick rfl rfl) rfl rfl (by decide) ?_
    refine AG.rd (i := 8) (x := .p (.v (.bool true))) rfl (by kernel_rfl) (rd_mvx (Or.inl rfl) rfl) rfl rfl (by decide) ?_
    refine AG.skip (i := 9) rfl (by kernel_rfl) (by kernel_rfl) (by kernel_rfl) (by kernel_rfl) (by kernel_rfl) rfl rfl (by decide) (NP.then (NP.then NP.ends)) ?_
    refine AG.skip (i := 10) rfl (by kernel_rfl) (by kernel_rfl) (by kernel_rfl) (by kernel_rfl) (by kernel_rfl) rfl rfl (by decide) (NP.then (NP.then NP.ends)) ?_
    refine AG.no (i := 11) rfl (by kernel_rfl) rfl rfl (by decide) ?_
    refine AG.no (i := 12) rfl (by kernel_rfl) rfl rfl (by decide) ?_
    refine AG.no (i := 13) rfl (by kernel_rfl) rfl rfl (by decide) ?_
    refine AG.no (i := 14) rfl (by kernel_rfl) rfl rfl (by decide) ?_
    refine AG.rd (i := 15) (x := .p (.v (.bool true))) rfl (by kernel_rfl) (rd_pick rfl rfl) rfl rfl (by decide) ?_
    refine AG.rd (i := 16) (x := .p (.v (.bool true))) rfl (by kernel_rfl) (rd_mvx (Or.inl rfl) rfl) rfl rfl (by decide) ?_
    refine AG.tidy [(2, .ptr 1000 _ 0), (3, .ptr 1001 _ 0), (4, .p (.v (.bool false))), (24, .p (.v (.bool true)))] [(1000, .box _ _ [.p (.v (.int _ _)), .p (.v (.int _ _)), .p (.v (.int _ _)), .p (.lst _ _ _), .p (.lst _ _ _), .p (.lst _ _ _)]), (1001, .box _ _ [.p (.v (.int _ _)), .p (.lst _ _ _)])] ⟨rfl, rfl, rfl, rfl, trivial⟩ ⟨rfl, rfl, trivial⟩ rfl ?_
    refine AG.skip (i := 17) rfl (by kernel_rfl) (by kernel_rfl) (by kernel_rfl) (by kernel_rfl) (by kernel_rfl) rfl rfl (by decide) (NP.then (NP.then NP.ends)) ?_
    refine AG.skip (i := 18) rfl (by kernel_rfl) (by kernel_rfl) (by kernel_rfl) (by kernel_rfl) (by kernel_rfl) rfl rfl (by decide) (NP.then (NP.then NP.ends)) ?_
    refine AG.skip (i := 19) rfl (by kernel_rfl) (by kernel_rfl) (by kernel_rfl) (by kernel_rfl) (by kernel_rfl) rfl rfl (by decide) (NP.then (NP.then NP.ends)) ?_
    refine AG.no (i := 20) rfl (by kernel_rfl) rfl rfl (by decide) ?_
    refine AG.no (i := 21) rfl (by kernel_rfl) rfl rfl (by decide) ?_
    refine AG.no (i := 22) rfl (by kernel_rfl) rfl rfl (by decide) ?_
    refine AG.rd (i := 23) (x := .p (.v (.bool true))) rfl (by kernel_rfl) (rd_pick rfl rfl) rfl rfl (by decide) ?_
    refine AG.done (by kernel_rfl) ?_
    refine go_then ?_
    refine AW.yes rfl ?_
    refine AW.seq ?_
    refine AW.list ?_
    refine AL.rd (x := .p (.v (.bool false))) (rd_mvx (Or.inr rfl) rfl) rfl rfl (by decide) ?_
    refine AL.nil ?_
    refine go_then ?_
    refine AW.ret ?_
    refine ret_then ?_
    refine end_ret ?_ trivial
    refine congrArg (fun b => some (boo b)) ?_
    unfold agrees
    simp_all
  · intro h1
    refine AG.rd (i := 4) (x := .agg [.p (.v (.int _ _)), .p (.lst _ _ _)]) rfl (by kernel_rfl) (rd_load_box rfl ty.kd62 rfl rfl rfl rfl) rfl rfl (by decide) ?_
    refine AG.st (i := 5) rfl (by kernel_rfl) (St.call [] [] [] rfl (by intro s hs; cases hs; decide) rfl Try.func61 rfl rfl (sledgerOk_e l) ⟨rfl, rfl, rfl⟩ (trivial) (trivial) rfl) (by decide) rfl ?_
    refine AG.tidy [(2, .ptr 1000 _ 0), (3, .ptr 1001 _ 0), (4, .p (.v (.bool false))), (11, .p (.v (.bool false))), (13, .p (.v (.bool _)))] [(1000, .box _ _ [.p (.v (.int _ _)), .p (.v (.int _ _)), .p (.v (.int _ _)), .p (.lst _ _ _), .p (.lst _ _ _), .p (.lst _ _ _)]), (1001, .box _ _ [.p (.v (.int _ _)), .p (.lst _ _ _)])] ⟨rfl, rfl, rfl, rfl, rfl, trivial⟩ ⟨rfl, rfl, trivial⟩ rfl ?_
    refine AG.rd (i := 6) (x := .p (.v (.bool _))) rfl (by kernel_rfl) (rd_un rfl rfl trivial) rfl rfl (by decide) ?_
    refine AG.rd (i := 7) (x := .p (.v (.bool _))) rfl (by kernel_rfl) (rd_pick rfl rfl) rfl rfl (by decide) ?_
    refine AG.rd (i := 8) (x := .p (.v (.bool _))) rfl (by kernel_rfl) (rd_mvx (Or.inl rfl) rfl) rfl rfl (by decide) ?_
    refine AG.bool (t := 16) rfl ?_ ?_
    · intro h2
      refine AG.skip (i := 9) rfl (by kernel_rfl) (by kernel_rfl) (by kernel_rfl) (by kernel_rfl) (by kernel_rfl) rfl rfl (by decide) (NP.then (NP.then NP.ends)) ?_
      refine AG.skip (i := 10) rfl (by kernel_rfl) (by kernel_rfl) (by kernel_rfl) (by kernel_rfl) (by kernel_rfl) rfl rfl (by decide) (NP.then (NP.then NP.ends)) ?_
      refine AG.no (i := 11) rfl (by kernel_rfl) rfl rfl (by decide) ?_
      refine AG.no (i := 12) rfl (by kernel_rfl) rfl rfl (by decide) ?_
      refine AG.no (i := 13) rfl (by kernel_rfl) rfl rfl (by decide) ?_
      refine AG.no (i := 14) rfl (by kernel_rfl) rfl rfl (by decide) ?_
      refine AG.rd (i := 15) (x := .p (.v (.bool true))) rfl (by kernel_rfl) (rd_pick rfl rfl) rfl rfl (by decide) ?_
      refine AG.rd (i := 16) (x := .p (.v (.bool true))) rfl (by kernel_rfl) (rd_mvx (Or.inl rfl) rfl) rfl rfl (by decide) ?_
      refine AG.skip (i := 17) rfl (by kernel_rfl) (by kernel_rfl) (by kernel_rfl) (by kernel_rfl) (by kernel_rfl) rfl rfl (by decide) (NP.then (NP.then NP.ends)) ?_
      refine AG.skip (i := 18) rfl (by kernel_rfl) (by kernel_rfl) (by kernel_rfl) (by kernel_rfl) (by kernel_rfl) rfl rfl (by decide) (NP.then (NP.then NP.ends)) ?_
      refine AG.skip (i := 19) rfl (by kernel_rfl) (by kernel_rfl) (by kernel_rfl) (by kernel_rfl) (by kernel_rfl) rfl rfl (by decide) (NP.then (NP.then NP.ends)) ?_
      refine AG.no (i := 20) rfl (by kernel_rfl) rfl rfl (by decide) ?_
      refine AG.no (i := 21) rfl (by kernel_rfl) rfl rfl (by decide) ?_
      refine AG.no (i := 22) rfl (by kernel_rfl) rfl rfl (by decide) ?_
      refine AG.rd (i := 23) (x := .p (.v (.bool true))) rfl (by kernel_rfl) (rd_pick rfl rfl) rfl rfl (by decide) ?_
      refine AG.tidy [(2, .ptr 1000 _ 0), (3, .ptr 1001 _ 0), (4, .p (.v (.bool false))), (31, .p (.v (.bool true)))] [(1000, .box _ _ [.p (.v (.int _ _)), .p (.v (.int _ _)), .p (.v (.int _ _)), .p (.lst _ _ _), .p (.lst _ _ _), .p (.lst _ _ _)]), (1001, .box _ _ [.p (.v (.int _ _)), .p (.lst _ _ _)])] ⟨rfl, rfl, rfl, rfl, trivial⟩ ⟨rfl, rfl, trivial⟩ rfl ?_
      refine AG.done (by kernel_rfl) ?_
      refine go_then ?_
      refine AW.yes rfl ?_
      refine AW.seq ?_
      refine AW.list ?_
      refine AL.rd (x := .p (.v (.bool false))) (rd_mvx (Or.inr rfl) rfl) rfl rfl (by decide) ?_
      refine AL.nil ?_
      refine go_then ?_
      refine AW.ret ?_
      refine ret_then ?_
      refine end_ret ?_ trivial
      refine congrArg (fun b => some (boo b)) ?_
      unfold agrees
      simp_all
    · intro h2
      refine AG.take (x := .ptr 1001 _ 0) (i := 9) rfl (by kernel_rfl) (by kernel_rfl) (by kernel_rfl) (by kernel_rfl) (by kernel_rfl) (rd_faddr rfl ty.fl62_0 ty.nz3 ty.is3 rfl rfl) rfl rfl (by decide) (NP.then (NP.then NP.ends)) ?_
      refine AG.take (x := .p (.v (.int _ _))) (i := 10) rfl (by kernel_rfl) (by kernel_rfl) (by kernel_rfl) (by kernel_rfl) (by kernel_rfl) (rd_load_box rfl ty.kd3 rfl rfl rfl rfl) rfl rfl (by decide) (NP.then (NP.then NP.ends)) ?_
      refine AG.rd (i := 11) (x := .ptr 1000 _ 1) rfl (by kernel_rfl) (rd_faddr rfl ty.fl58_1 ty.nz3 ty.is3 rfl rfl) rfl rfl (by decide) ?_
      refine AG.rd (i := 12) (x := .p (.v (.int _ _))) rfl (by kernel_rfl) (rd_load_box rfl ty.kd3 rfl rfl rfl rfl) rfl rfl (by decide) ?_
      have hbk : bookOk x = true := by simpa using h1
      have hnx := bookOk_next hbk
      refine AG.rd (i := 13) (x := .p (.v (.int _ _))) rfl (by kernel_rfl) (rd_bin rfl rfl ⟨rfl, fits_i64 (by unfold i64; omega)⟩) rfl rfl (by decide) ?_
      refine AG.tidy [(2, .ptr 1000 _ 0), (3, .ptr 1001 _ 0), (4, .p (.v (.bool false))), (16, .p (.v (.bool false))), (18, .p (.v (.int _ _))), (21, .p (.v (.int _ _)))] [(1000, .box _ _ [.p (.v (.int _ _)), .p (.v (.int _ _)), .p (.v (.int _ _)), .p (.lst _ _ _), .p (.lst _ _ _), .p (.lst _ _ _)]), (1001, .box _ _ [.p (.v (.int _ _)), .p (.lst _ _ _)])] ⟨rfl, rfl, rfl, rfl, rfl, rfl, trivial⟩ ⟨rfl, rfl, trivial⟩ rfl ?_
      refine AG.rd (i := 14) (x := .p (.v (.bool _))) rfl (by kernel_rfl) (rd_bin rfl rfl rfl) rfl rfl (by decide) ?_
      refine AG.rd (i := 15) (x := .p (.v (.bool _))) rfl (by kernel_rfl) (rd_pick rfl rfl) rfl rfl (by decide) ?_
      refine AG.rd (i := 16) (x := .p (.v (.bool _))) rfl (by kernel_rfl) (rd_mvx (Or.inl rfl) rfl) rfl rfl (by decide) ?_
      refine AG.bool (t := 24) rfl ?_ ?_
      · intro h3
        refine AG.skip (i := 17) rfl (by kernel_rfl) (by kernel_rfl) (by kernel_rfl) (by kernel_rfl) (by kernel_rfl) rfl rfl (by decide) (NP.then (NP.then NP.ends)) ?_
        refine AG.skip (i := 18) rfl (by kernel_rfl) (by kernel_rfl) (by kernel_rfl) (by kernel_rfl) (by kernel_rfl) rfl rfl (by decide) (NP.then (NP.then NP.ends)) ?_
        refine AG.skip (i := 19) rfl (by kernel_rfl) (by kernel_rfl) (by kernel_rfl) (by kernel_rfl) (by kernel_rfl) rfl rfl (by decide) (NP.then (NP.then NP.ends)) ?_
        refine AG.no (i := 20) rfl (by kernel_rfl) rfl rfl (by decide) ?_
        refine AG.no (i := 21) rfl (by kernel_rfl) rfl rfl (by decide) ?_
        refine AG.no (i := 22) rfl (by kernel_rfl) rfl rfl (by decide) ?_
        refine AG.rd (i := 23) (x := .p (.v (.bool true))) rfl (by kernel_rfl) (rd_pick rfl rfl) rfl rfl (by decide) ?_
        refine AG.done (by kernel_rfl) ?_
        refine go_then ?_
        refine AW.yes rfl ?_
        refine AW.seq ?_
        refine AW.list ?_
        refine AL.rd (x := .p (.v (.bool false))) (rd_mvx (Or.inr rfl) rfl) rfl rfl (by decide) ?_
        refine AL.nil ?_
        refine go_then ?_
        refine AW.ret ?_
        refine ret_then ?_
        refine end_ret ?_ trivial
        refine congrArg (fun b => some (boo b)) ?_
        unfold agrees
        simp_all
      · intro h3
        refine AG.take (x := .agg [.p (.v (.int _ _)), .p (.lst _ _ _)]) (i := 17) rfl (by kernel_rfl) (by kernel_rfl) (by kernel_rfl) (by kernel_rfl) (by kernel_rfl) (rd_load_box rfl ty.kd62 rfl rfl rfl rfl) rfl rfl (by decide) (NP.then (NP.then NP.ends)) ?_
        refine AG.tidy [(2, .ptr 1000 _ 0), (3, .ptr 1001 _ 0), (4, .p (.v (.bool false))), (24, .p (.v (.bool false))), (25, .agg [.p (.v (.int _ _)), .p (.lst _ _ _)])] [(1000, .box _ _ [.p (.v (.int _ _)), .p (.v (.int _ _)), .p (.v (.int _ _)), .p (.lst _ _ _), .p (.lst _ _ _), .p (.lst _ _ _)]), (1001, .box _ _ [.p (.v (.int _ _)), .p (.lst _ _ _)])] ⟨rfl, rfl, rfl, rfl, rfl, trivial⟩ ⟨rfl, rfl, trivial⟩ rfl ?_
        refine AG.take (x := .agg [.p (.v (.int _ _)), .p (.v (.int _ _))]) (i := 18) rfl (by kernel_rfl) (by kernel_rfl) (by kernel_rfl) (by kernel_rfl) (by kernel_rfl) (rd_build rfl ty.sa105 rfl rfl rfl) rfl rfl (by decide) (NP.then (NP.then NP.ends)) ?_
        refine AG.take (x := .ptr 1000 _ 2) (i := 20) rfl (by kernel_rfl) (by kernel_rfl) (by kernel_rfl) (by kernel_rfl) (by kernel_rfl) (rd_faddr rfl ty.fl58_2 ty.nz3 ty.is3 rfl rfl) rfl rfl (by decide) (NP.then (NP.then NP.ends)) ?_
        refine AG.take (x := .p (.v (.int _ _))) (i := 21) rfl (by kernel_rfl) (by kernel_rfl) (by kernel_rfl) (by kernel_rfl) (by kernel_rfl) (rd_load_box rfl ty.kd3 rfl rfl rfl rfl) rfl rfl (by decide) (NP.then (NP.then NP.ends)) ?_
        refine AG.st (i := 19) rfl (by kernel_rfl) (St.call [] [] [] rfl (by intro s hs; cases hs; decide) rfl Try.func62 rfl rfl (sbalance_e l ⟨1, 0⟩ hm) ⟨rfl, rfl, rfl⟩ (trivial) (trivial) rfl) (by decide) rfl ?_
        refine AG.tidy [(2, .ptr 1000 _ 0), (3, .ptr 1001 _ 0), (4, .p (.v (.bool false))), (24, .p (.v (.bool false))), (27, .p (.v (.int _ _))), (29, .p (.v (.int _ _)))] [(1000, .box _ _ [.p (.v (.int _ _)), .p (.v (.int _ _)), .p (.v (.int _ _)), .p (.lst _ _ _), .p (.lst _ _ _), .p (.lst _ _ _)]), (1001, .box _ _ [.p (.v (.int _ _)), .p (.lst _ _ _)])] ⟨rfl, rfl, rfl, rfl, rfl, rfl, trivial⟩ ⟨rfl, rfl, trivial⟩ rfl ?_
        refine AG.rd (i := 22) (x := .p (.v (.bool _))) rfl (by kernel_rfl) (rd_bin rfl rfl rfl) rfl rfl (by decide) ?_
        refine AG.rd (i := 23) (x := .p (.v (.bool _))) rfl (by kernel_rfl) (rd_pick rfl rfl) rfl rfl (by decide) ?_
        refine AG.done (by kernel_rfl) ?_
        refine go_then ?_
        refine AW.cond rfl ?_ ?_
        · intro h4
          refine AW.seq ?_
          refine AW.list ?_
          refine AL.rd (x := .p (.v (.bool false))) (rd_mvx (Or.inr rfl) rfl) rfl rfl (by decide) ?_
          refine AL.nil ?_
          refine go_then ?_
          refine AW.ret ?_
          refine ret_then ?_
          refine end_ret ?_ trivial
          refine congrArg (fun b => some (boo b)) ?_
          unfold agrees
          simp_all
        · intro h4
          refine AW.skip ?_
          refine go_then ?_
          refine AW.seq ?_
          refine AW.seq ?_
          refine AW.list ?_
          refine AL.rd (x := .p (.v (.int _ _))) (rd_mvx (Or.inr rfl) rfl) rfl rfl (by decide) ?_
          refine AL.nil ?_
          refine go_then ?_
          refine AW.block ?_
          refine AW.loopE [(2, .ptr 1000 _ 0), (3, .ptr 1001 _ 0), (4, .p (.v (.bool false)))] [(1000, .box _ _ [.p (.v (.int _ _)), .p (.v (.int _ _)), .p (.v (.int _ _)), .p (.lst _ _ _), .p (.lst _ _ _), .p (.lst _ _ _)]), (1001, .box _ _ [.p (.v (.int _ _)), .p (.lst _ _ _)])] (D := Nat) (fun k => [(5, int ((k : Int) + 1))]) (fun k => []) (fun k => k ≤ 99 ∧ ∀ j : Nat, j < k → agreeAt x l ((j : Int) + 1) = true) (fun k => 99 - k) 0 ⟨Nat.zero_le _, fun j h => absurd h (by omega)⟩ ⟨(Eq.trans (b := int _) rfl (congrArg int (by simp))), trivial⟩ trivial ⟨rfl, rfl, rfl, trivial⟩ ⟨rfl, rfl, trivial⟩ ?_
          intro k hI
          obtain ⟨hk99, hall⟩ := hI
          refine AW.seq ?_
          refine AW.seq ?_
          refine AW.list ?_
          refine AL.rd (x := .p (.v (.int _ _))) (rd_mvx (Or.inl rfl) rfl) rfl rfl (by decide) ?_
          refine AL.rd (x := .p (.v (.bool _))) (rd_bin rfl rfl rfl) rfl rfl (by decide) ?_
          refine AL.tidy [(2, .ptr 1000 _ 0), (3, .ptr 1001 _ 0), (4, .p (.v (.bool false))), (5, .p (.v (.int _ _))), (33, .p (.v (.bool _)))] [(1000, .box _ _ [.p (.v (.int _ _)), .p (.v (.int _ _)), .p (.v (.int _ _)), .p (.lst _ _ _), .p (.lst _ _ _), .p (.lst _ _ _)]), (1001, .box _ _ [.p (.v (.int _ _)), .p (.lst _ _ _)])] ⟨rfl, rfl, rfl, rfl, rfl, trivial⟩ ⟨rfl, rfl, trivial⟩ ?_
          refine AL.nil ?_
          refine go_then ?_
          refine AW.cond rfl ?_ ?_
          · intro h5
            refine AW.skip ?_
            refine go_then ?_
            refine AW.seq ?_
            refine AW.block ?_
            refine AW.seq ?_
            refine AW.list ?_
            have hk : k < 99 := by have h := h5; simp only [decide_eq_true_eq] at h; omega
            refine AL.rd (x := .p (.v (.int _ _))) (rd_mvx (Or.inr rfl) rfl) rfl rfl (by decide) ?_
            refine AL.nil ?_
            refine go_then ?_
            refine AW.seq ?_
            refine AW.list ?_
            refine AL.rd (x := .agg [.p (.v (.int _ _)), .p (.v (.int _ _)), .p (.v (.int _ _)), .p (.lst _ _ _), .p (.lst _ _ _), .p (.lst _ _ _)]) (rd_load_box rfl ty.kd58 rfl rfl rfl rfl) rfl rfl (by decide) ?_
            refine AL.rd (x := .p (.v (.int _ _))) (rd_mvx (Or.inl rfl) rfl) rfl rfl (by decide) ?_
            refine AL.st (St.call [] [] [] rfl (by intro s hs; cases hs; decide) rfl Try.func63 rfl rfl (spec_At_e x ((k : Int) + 1) hw) ⟨rfl, rfl, rfl⟩ (trivial) (trivial) rfl) rfl ?_
            refine AL.tidy [(2, .ptr 1000 _ 0), (3, .ptr 1001 _ 0), (4, .p (.v (.bool false))), (5, .p (.v (.int _ _))), (6, .p (.v (.int _ _))), (38, .p (.v (.int _ _)))] [(1000, .box _ _ [.p (.v (.int _ _)), .p (.v (.int _ _)), .p (.v (.int _ _)), .p (.lst _ _ _), .p (.lst _ _ _), .p (.lst _ _ _)]), (1001, .box _ _ [.p (.v (.int _ _)), .p (.lst _ _ _)])] ⟨rfl, rfl, rfl, rfl, rfl, rfl, trivial⟩ ⟨rfl, rfl, trivial⟩ ?_
            refine AL.rd (x := .p (.v (.int _ _))) (rd_mvx (Or.inr rfl) rfl) rfl rfl (by decide) ?_
            refine AL.nil ?_
            refine go_then ?_
            refine AW.seq ?_
            refine AW.seq ?_
            refine AW.list ?_
            refine AL.rd (x := .p (.v (.int _ _))) (rd_mvx (Or.inl rfl) rfl) rfl rfl (by decide) ?_
            refine AL.rd (x := .p (.v (.bool _))) (rd_bin rfl rfl rfl) rfl rfl (by decide) ?_
            refine AL.nil ?_
            refine go_then ?_
            refine AW.cond rfl ?_ ?_
            · intro h6
              refine AW.list ?_
              refine AL.rd (x := .ptr 1000 _ 3) (rd_faddr rfl ty.fl58_3 ty.nz54 ty.is54 rfl rfl) rfl rfl (by decide) ?_
              refine AL.rd (x := .p (.lst _ _ _)) (rd_load_box rfl ty.kd54 rfl rfl rfl rfl) rfl rfl (by decide) ?_
              refine AL.rd (x := .p (.v (.int _ _))) (rd_mvx (Or.inl rfl) rfl) rfl rfl (by decide) ?_
              refine AL.tidy [(2, .ptr 1000 _ 0), (3, .ptr 1001 _ 0), (4, .p (.v (.bool false))), (5, .p (.v (.int _ _))), (6, .p (.v (.int _ _))), (42, .p (.lst _ _ _)), (43, .p (.v (.int _ _)))] [(1000, .box _ _ [.p (.v (.int _ _)), .p (.v (.int _ _)), .p (.v (.int _ _)), .p (.lst _ _ _), .p (.lst _ _ _), .p (.lst _ _ _)]), (1001, .box _ _ [.p (.v (.int _ _)), .p (.lst _ _ _)])] ⟨rfl, rfl, rfl, rfl, rfl, rfl, rfl, trivial⟩ ⟨rfl, rfl, trivial⟩ ?_
              have hpos : 0 ≤ chanAt x.chans ((k : Int) + 1) := by simpa using h6
              obtain ⟨q, hq, hqe, hqi⟩ : ∃ q, ∃ h : q < x.chans.length, chanAt x.chans ((k : Int) + 1) = (q : Int) ∧ x.chans[q].id = (k : Int) + 1 := (chanAt_cases x.chans ((k : Int) + 1)).resolve_left (by omega)
              have hloc := locA_some hq hqe
              have hout := outA_eq (x := x) (ch := (k : Int) + 1) hbk
              refine AL.rd (x := .rp _) (rd_iaddr_p (i := q) rfl ty.el54 rfl rfl ?hn1 (row_map hq)) rfl rfl (by decide) ?_
              case hn1 => exact hqe
              refine AL.rd (x := .rp _) (rd_faddr_rp rfl ty.fl107_2 ty.nz3 ty.is3 rfl) rfl rfl (by decide) ?_
              refine AL.rd (x := .p (.v (.int _ _))) (rd_load_rp rfl ty.kd3 rfl rfl) rfl rfl (by decide) ?_
              refine AL.rd (x := .p (.v (.int _ _))) (rd_mvx (Or.inr rfl) rfl) rfl rfl (by decide) ?_
              refine AL.nil ?_
              refine go_then ?_
              refine AW.seq ?_
              refine AW.draw 22 (inK []) (by kernel_rfl) ?_
              refine AG.take (x := .agg [.p (.v (.int _ _)), .p (.lst _ _ _)]) (i := 0) rfl (by kernel_rfl) (by kernel_rfl) (by kernel_rfl) (by kernel_rfl) (by kernel_rfl) (rd_load_box rfl ty.kd62 rfl rfl rfl rfl) rfl rfl (by decide) (NP.then (NP.block (NP.then (NP.then (NP.block (NP.then NP.ends)))))) ?_
              refine AG.take (x := .p (.v (.int _ _))) (i := 1) rfl (by kernel_rfl) (by kernel_rfl) (by kernel_rfl) (by kernel_rfl) (by kernel_rfl) (rd_mvx (Or.inl rfl) rfl) rfl rfl (by decide) (NP.then (NP.block (NP.then (NP.then (NP.block (NP.then NP.ends)))))) ?_
              refine AG.tidy [(2, .ptr 1000 _ 0), (3, .ptr 1001 _ 0), (4, .p (.v (.bool false))), (5, .p (.v (.int _ _))), (6, .p (.v (.int _ _))), (47, .agg [.p (.v (.int _ _)), .p (.lst _ _ _)]), (48, .p (.v (.int _ _)))] [(1000, .box _ _ [.p (.v (.int _ _)), .p (.v (.int _ _)), .p (.v (.int _ _)), .p (.lst _ _ _), .p (.lst _ _ _), .p (.lst _ _ _)]), (1001, .box _ _ [.p (.v (.int _ _)), .p (.lst _ _ _)])] ⟨rfl, rfl, rfl, rfl, rfl, rfl, rfl, trivial⟩ ⟨rfl, rfl, trivial⟩ rfl ?_
              refine AG.take (x := .agg [.p (.v (.int _ _)), .p (.v (.int _ _))]) (i := 2) rfl (by kernel_rfl) (by kernel_rfl) (by kernel_rfl) (by kernel_rfl) (by kernel_rfl) (rd_build rfl ty.sa105 rfl rfl rfl) rfl rfl (by decide) (NP.then (NP.block (NP.then (NP.then (NP.block (NP.then NP.ends)))))) ?_
              refine AG.take (x := .p (.v (.int _ _))) (i := 4) rfl (by kernel_rfl) (by kernel_rfl) (by kernel_rfl) (by kernel_rfl) (by kernel_rfl) (rd_mvx (Or.inl rfl) rfl) rfl rfl (by decide) (NP.then (NP.block (NP.then (NP.then (NP.block (NP.then NP.ends)))))) ?_
              refine AG.st (i := 3) rfl (by kernel_rfl) (St.call [] [] [] rfl (by intro s hs; cases hs; decide) rfl Try.func62 rfl rfl (sbalance_e l ⟨6, (k : Int) + 1⟩ hm) ⟨rfl, rfl, rfl⟩ (trivial) (trivial) rfl) (by decide) rfl ?_
              refine AG.tidy [(2, .ptr 1000 _ 0), (3, .ptr 1001 _ 0), (4, .p (.v (.bool false))), (5, .p (.v (.int _ _))), (50, .p (.v (.int _ _))), (51, .p (.v (.int _ _)))] [(1000, .box _ _ [.p (.v (.int _ _)), .p (.v (.int _ _)), .p (.v (.int _ _)), .p (.lst _ _ _), .p (.lst _ _ _), .p (.lst _ _ _)]), (1001, .box _ _ [.p (.v (.int _ _)), .p (.lst _ _ _)])] ⟨rfl, rfl, rfl, rfl, rfl, rfl, trivial⟩ ⟨rfl, rfl, trivial⟩ rfl ?_
              refine AG.rd (i := 5) (x := .p (.v (.bool _))) rfl (by kernel_rfl) (rd_bin rfl rfl rfl) rfl rfl (by decide) ?_
              refine AG.rd (i := 6) (x := .p (.v (.bool _))) rfl (by kernel_rfl) (rd_mvx (Or.inl rfl) rfl) rfl rfl (by decide) ?_
              refine AG.bool (t := 53) rfl ?_ ?_
              · intro h7
                refine AG.skip (i := 7) rfl (by kernel_rfl) (by kernel_rfl) (by kernel_rfl) (by kernel_rfl) (by kernel_rfl) rfl rfl (by decide) (NP.then (NP.block (NP.then (NP.then (NP.block (NP.then NP.ends)))))) ?_
                refine AG.skip (i := 8) rfl (by kernel_rfl) (by kernel_rfl) (by kernel_rfl) (by kernel_rfl) (by kernel_rfl) rfl rfl (by decide) (NP.then (NP.block (NP.then (NP.then (NP.block (NP.then NP.ends)))))) ?_
                refine AG.skip (i := 9) rfl (by kernel_rfl) (by kernel_rfl) (by kernel_rfl) (by kernel_rfl) (by kernel_rfl) rfl rfl (by decide) (NP.then (NP.block (NP.then (NP.then (NP.block (NP.then NP.ends)))))) ?_
                refine AG.skip (i := 10) rfl (by kernel_rfl) (by kernel_rfl) (by kernel_rfl) (by kernel_rfl) (by kernel_rfl) rfl rfl (by decide) (NP.then (NP.block (NP.then (NP.then (NP.block (NP.then NP.ends)))))) ?_
                refine AG.skip (i := 11) rfl (by kernel_rfl) (by kernel_rfl) (by kernel_rfl) (by kernel_rfl) (by kernel_rfl) rfl rfl (by decide) (NP.then (NP.block (NP.then (NP.then (NP.block (NP.then NP.ends)))))) ?_
                refine AG.no (i := 12) rfl (by kernel_rfl) rfl rfl (by decide) ?_
                refine AG.no (i := 13) rfl (by kernel_rfl) rfl rfl (by decide) ?_
                refine AG.no (i := 14) rfl (by kernel_rfl) rfl rfl (by decide) ?_
                refine AG.rd (i := 15) (x := .p (.v (.bool true))) rfl (by kernel_rfl) (rd_pick rfl rfl) rfl rfl (by decide) ?_
                refine AG.rd (i := 16) (x := .p (.v (.bool true))) rfl (by kernel_rfl) (rd_mvx (Or.inl rfl) rfl) rfl rfl (by decide) ?_
                refine AG.skip (i := 17) rfl (by kernel_rfl) (by kernel_rfl) (by kernel_rfl) (by kernel_rfl) (by kernel_rfl) rfl rfl (by decide) (NP.then (NP.block (NP.then (NP.then (NP.block (NP.then NP.ends)))))) ?_
                refine AG.no (i := 18) rfl (by kernel_rfl) rfl rfl (by decide) ?_
                refine AG.no (i := 19) rfl (by kernel_rfl) rfl rfl (by decide) ?_
                refine AG.no (i := 20) rfl (by kernel_rfl) rfl rfl (by decide) ?_
                refine AG.no (i := 21) rfl (by kernel_rfl) rfl rfl (by decide) ?_
                refine AG.rd (i := 22) (x := .p (.v (.bool true))) rfl (by kernel_rfl) (rd_pick rfl rfl) rfl rfl (by decide) ?_
                refine AG.done (by kernel_rfl) ?_
                refine go_then ?_
                refine AW.yes rfl ?_
                refine AW.seq ?_
                refine AW.list ?_
                refine AL.rd (x := .p (.v (.bool false))) (rd_mvx (Or.inr rfl) rfl) rfl rfl (by decide) ?_
                refine AL.tidy [(2, .ptr 1000 _ 0), (3, .ptr 1001 _ 0), (4, .p (.v (.bool false))), (5, .p (.v (.int _ _)))] [(1000, .box _ _ [.p (.v (.int _ _)), .p (.v (.int _ _)), .p (.v (.int _ _)), .p (.lst _ _ _), .p (.lst _ _ _), .p (.lst _ _ _)]), (1001, .box _ _ [.p (.v (.int _ _)), .p (.lst _ _ _)])] ⟨rfl, rfl, rfl, rfl, trivial⟩ ⟨rfl, rfl, trivial⟩ ?_
                refine AL.nil ?_
                refine go_then ?_
                refine AW.ret ?_
                refine ret_block ?_
                refine ret_then ?_
                refine ret_then ?_
                refine ret_block ?_
                refine ret_then ?_
                refine end_ret ?_ trivial
                refine congrArg (fun b => some (boo b)) ?_
                first
                | (exact (agrees_no hk (by unfold agreeAt; rw [hloc, hout]; simp_all)).symm)
                | (have hke : k = 99 := by simp only [decide_eq_false_iff_not] at *; omega
                   subst hke
                   rw [agrees_yes hall]
                   simp_all)
              · intro h7
                refine AG.take (x := .agg [.p (.v (.int _ _)), .p (.lst _ _ _)]) (i := 7) rfl (by kernel_rfl) (by kernel_rfl) (by kernel_rfl) (by kernel_rfl) (by kernel_rfl) (rd_load_box rfl ty.kd62 rfl rfl rfl rfl) rfl rfl (by decide) (NP.then (NP.block (NP.then (NP.then (NP.block (NP.then NP.ends)))))) ?_
                refine AG.take (x := .p (.v (.int _ _))) (i := 8) rfl (by kernel_rfl) (by kernel_rfl) (by kernel_rfl) (by kernel_rfl) (by kernel_rfl) (rd_mvx (Or.inl rfl) rfl) rfl rfl (by decide) (NP.then (NP.block (NP.then (NP.then (NP.block (NP.then NP.ends)))))) ?_
                refine AG.take (x := .agg [.p (.v (.int _ _)), .p (.v (.int _ _))]) (i := 9) rfl (by kernel_rfl) (by kernel_rfl) (by kernel_rfl) (by kernel_rfl) (by kernel_rfl) (rd_build rfl ty.sa105 rfl rfl rfl) rfl rfl (by decide) (NP.then (NP.block (NP.then (NP.then (NP.block (NP.then NP.ends)))))) ?_
                refine AG.take (x := .agg [.p (.v (.int _ _)), .p (.v (.int _ _)), .p (.v (.int _ _)), .p (.lst _ _ _), .p (.lst _ _ _), .p (.lst _ _ _)]) (i := 11) rfl (by kernel_rfl) (by kernel_rfl) (by kernel_rfl) (by kernel_rfl) (by kernel_rfl) (rd_load_box rfl ty.kd58 rfl rfl rfl rfl) rfl rfl (by decide) (NP.then (NP.block (NP.then (NP.then (NP.block (NP.then NP.ends)))))) ?_
                refine AG.take (x := .p (.v (.int _ _))) (i := 12) rfl (by kernel_rfl) (by kernel_rfl) (by kernel_rfl) (by kernel_rfl) (by kernel_rfl) (rd_mvx (Or.inl rfl) rfl) rfl rfl (by decide) (NP.then (NP.block (NP.then (NP.then (NP.block (NP.then NP.ends)))))) ?_
                refine AG.st (i := 10) rfl (by kernel_rfl) (St.call [] [] [] rfl (by intro s hs; cases hs; decide) rfl Try.func62 rfl rfl (sbalance_e l ⟨8, (k : Int) + 1⟩ hm) ⟨rfl, rfl, rfl⟩ (trivial) (trivial) rfl) (by decide) rfl ?_
                refine AG.tidy [(2, .ptr 1000 _ 0), (3, .ptr 1001 _ 0), (4, .p (.v (.bool false))), (5, .p (.v (.int _ _))), (53, .p (.v (.bool false))), (57, .p (.v (.int _ _))), (58, .agg [.p (.v (.int _ _)), .p (.v (.int _ _)), .p (.v (.int _ _)), .p (.lst _ _ _), .p (.lst _ _ _), .p (.lst _ _ _)]), (59, .p (.v (.int _ _)))] [(1000, .box _ _ [.p (.v (.int _ _)), .p (.v (.int _ _)), .p (.v (.int _ _)), .p (.lst _ _ _), .p (.lst _ _ _), .p (.lst _ _ _)]), (1001, .box _ _ [.p (.v (.int _ _)), .p (.lst _ _ _)])] ⟨rfl, rfl, rfl, rfl, rfl, rfl, rfl, rfl, trivial⟩ ⟨rfl, rfl, trivial⟩ rfl ?_
                refine AG.st (i := 13) rfl (by kernel_rfl) (St.call [] [] [] rfl (by intro s hs; cases hs; decide) rfl Try.func64 rfl rfl (spec_Out_e x ((k : Int) + 1) hw (bookOk_small hbk)) ⟨rfl, rfl, rfl⟩ (trivial) (trivial) rfl) (by decide) rfl ?_
                refine AG.tidy [(2, .ptr 1000 _ 0), (3, .ptr 1001 _ 0), (4, .p (.v (.bool false))), (5, .p (.v (.int _ _))), (53, .p (.v (.bool false))), (57, .p (.v (.int _ _))), (60, .p (.v (.int _ _)))] [(1000, .box _ _ [.p (.v (.int _ _)), .p (.v (.int _ _)), .p (.v (.int _ _)), .p (.lst _ _ _), .p (.lst _ _ _), .p (.lst _ _ _)]), (1001, .box _ _ [.p (.v (.int _ _)), .p (.lst _ _ _)])] ⟨rfl, rfl, rfl, rfl, rfl, rfl, rfl, trivial⟩ ⟨rfl, rfl, trivial⟩ rfl ?_
                refine AG.rd (i := 14) (x := .p (.v (.bool _))) rfl (by kernel_rfl) (rd_bin rfl rfl rfl) rfl rfl (by decide) ?_
                refine AG.rd (i := 15) (x := .p (.v (.bool _))) rfl (by kernel_rfl) (rd_pick rfl rfl) rfl rfl (by decide) ?_
                refine AG.rd (i := 16) (x := .p (.v (.bool _))) rfl (by kernel_rfl) (rd_mvx (Or.inl rfl) rfl) rfl rfl (by decide) ?_
                refine AG.bool (t := 63) rfl ?_ ?_
                · intro h8
                  refine AG.skip (i := 17) rfl (by kernel_rfl) (by kernel_rfl) (by kernel_rfl) (by kernel_rfl) (by kernel_rfl) rfl rfl (by decide) (NP.then (NP.block (NP.then (NP.then (NP.block (NP.then NP.ends)))))) ?_
                  refine AG.no (i := 18) rfl (by kernel_rfl) rfl rfl (by decide) ?_
                  refine AG.no (i := 19) rfl (by kernel_rfl) rfl rfl (by decide) ?_
                  refine AG.no (i := 20) rfl (by kernel_rfl) rfl rfl (by decide) ?_
                  refine AG.no (i := 21) rfl (by kernel_rfl) rfl rfl (by decide) ?_
                  refine AG.rd (i := 22) (x := .p (.v (.bool true))) rfl (by kernel_rfl) (rd_pick rfl rfl) rfl rfl (by decide) ?_
                  refine AG.done (by kernel_rfl) ?_
                  refine go_then ?_
                  refine AW.yes rfl ?_
                  refine AW.seq ?_
                  refine AW.list ?_
                  refine AL.rd (x := .p (.v (.bool false))) (rd_mvx (Or.inr rfl) rfl) rfl rfl (by decide) ?_
                  refine AL.nil ?_
                  refine go_then ?_
                  refine AW.ret ?_
                  refine ret_block ?_
                  refine ret_then ?_
                  refine ret_then ?_
                  refine ret_block ?_
                  refine ret_then ?_
                  refine end_ret ?_ trivial
                  refine congrArg (fun b => some (boo b)) ?_
                  first
                  | (exact (agrees_no hk (by unfold agreeAt; rw [hloc, hout]; simp_all)).symm)
                  | (have hke : k = 99 := by simp only [decide_eq_false_iff_not] at *; omega
                     subst hke
                     rw [agrees_yes hall]
                     simp_all)
                · intro h8
                  refine AG.take (x := .agg [.p (.v (.int _ _)), .p (.lst _ _ _)]) (i := 17) rfl (by kernel_rfl) (by kernel_rfl) (by kernel_rfl) (by kernel_rfl) (by kernel_rfl) (rd_load_box rfl ty.kd62 rfl rfl rfl rfl) rfl rfl (by decide) (NP.then (NP.block (NP.then (NP.then (NP.block (NP.then NP.ends)))))) ?_
                  refine AG.tidy [(2, .ptr 1000 _ 0), (3, .ptr 1001 _ 0), (4, .p (.v (.bool false))), (5, .p (.v (.int _ _))), (63, .p (.v (.bool false))), (64, .agg [.p (.v (.int _ _)), .p (.lst _ _ _)])] [(1000, .box _ _ [.p (.v (.int _ _)), .p (.v (.int _ _)), .p (.v (.int _ _)), .p (.lst _ _ _), .p (.lst _ _ _), .p (.lst _ _ _)]), (1001, .box _ _ [.p (.v (.int _ _)), .p (.lst _ _ _)])] ⟨rfl, rfl, rfl, rfl, rfl, rfl, trivial⟩ ⟨rfl, rfl, trivial⟩ rfl ?_
                  refine AG.rd (i := 18) (x := .p (.v (.int _ _))) rfl (by kernel_rfl) (rd_mvx (Or.inl rfl) rfl) rfl rfl (by decide) ?_
                  refine AG.rd (i := 19) (x := .agg [.p (.v (.int _ _)), .p (.v (.int _ _))]) rfl (by kernel_rfl) (rd_build rfl ty.sa105 rfl rfl rfl) rfl rfl (by decide) ?_
                  refine AG.st (i := 20) rfl (by kernel_rfl) (St.call [] [] [] rfl (by intro s hs; cases hs; decide) rfl Try.func62 rfl rfl (sbalance_e l ⟨7, (k : Int) + 1⟩ hm) ⟨rfl, rfl, rfl⟩ (trivial) (trivial) rfl) (by decide) rfl ?_
                  refine AG.tidy [(2, .ptr 1000 _ 0), (3, .ptr 1001 _ 0), (4, .p (.v (.bool false))), (5, .p (.v (.int _ _))), (63, .p (.v (.bool false))), (67, .p (.v (.int _ _)))] [(1000, .box _ _ [.p (.v (.int _ _)), .p (.v (.int _ _)), .p (.v (.int _ _)), .p (.lst _ _ _), .p (.lst _ _ _), .p (.lst _ _ _)]), (1001, .box _ _ [.p (.v (.int _ _)), .p (.lst _ _ _)])] ⟨rfl, rfl, rfl, rfl, rfl, rfl, trivial⟩ ⟨rfl, rfl, trivial⟩ rfl ?_
                  refine AG.rd (i := 21) (x := .p (.v (.bool _))) rfl (by kernel_rfl) (rd_bin rfl rfl rfl) rfl rfl (by decide) ?_
                  refine AG.rd (i := 22) (x := .p (.v (.bool _))) rfl (by kernel_rfl) (rd_pick rfl rfl) rfl rfl (by decide) ?_
                  refine AG.done (by kernel_rfl) ?_
                  refine go_then ?_
                  refine AW.cond rfl ?_ ?_
                  · intro h9
                    refine AW.seq ?_
                    refine AW.list ?_
                    refine AL.rd (x := .p (.v (.bool false))) (rd_mvx (Or.inr rfl) rfl) rfl rfl (by decide) ?_
                    refine AL.nil ?_
                    refine go_then ?_
                    refine AW.ret ?_
                    refine ret_block ?_
                    refine ret_then ?_
                    refine ret_then ?_
                    refine ret_block ?_
                    refine ret_then ?_
                    refine end_ret ?_ trivial
                    refine congrArg (fun b => some (boo b)) ?_
                    first
                    | (exact (agrees_no hk (by unfold agreeAt; rw [hloc, hout]; simp_all)).symm)
                    | (have hke : k = 99 := by simp only [decide_eq_false_iff_not] at *; omega
                       subst hke
                       rw [agrees_yes hall]
                       simp_all)
                  · intro h9
                    refine AW.skip ?_
                    refine go_block ?_
                    refine go_then ?_
                    refine AW.list ?_
                    refine AL.rd (x := .p (.v (.int _ _))) (rd_mvx (Or.inl rfl) rfl) rfl rfl (by decide) ?_
                    have hgood : agreeAt x l ((k : Int) + 1) = true := by unfold agreeAt; rw [hloc, hout]; simp_all
                    refine AL.rd (x := .p (.v (.int _ _))) (rd_bin rfl rfl ⟨rfl, fits_i64 (by unfold i64; omega)⟩) rfl rfl (by decide) ?_
                    refine AL.rd (x := .p (.v (.int _ _))) (rd_mvx (Or.inr rfl) rfl) rfl rfl (by decide) ?_
                    refine AL.tidy [(2, .ptr 1000 _ 0), (3, .ptr 1001 _ 0), (4, .p (.v (.bool false))), (5, .p (.v (.int _ _)))] [(1000, .box _ _ [.p (.v (.int _ _)), .p (.v (.int _ _)), .p (.v (.int _ _)), .p (.lst _ _ _), .p (.lst _ _ _), .p (.lst _ _ _)]), (1001, .box _ _ [.p (.v (.int _ _)), .p (.lst _ _ _)])] ⟨rfl, rfl, rfl, rfl, trivial⟩ ⟨rfl, rfl, trivial⟩ ?_
                    refine AL.nil ?_
                    refine go_then ?_
                    refine ⟨k + 1, ⟨hk, fun j hj => (Nat.lt_or_ge j k).elim (hall j) (fun q => by rw [show j = k by omega]; exact hgood)⟩, by omega, ⟨(Eq.trans (b := int _) rfl (congrArg int (by push_cast; rfl))), trivial⟩, trivial, ⟨rfl, rfl, rfl, trivial⟩, ⟨rfl, rfl, trivial⟩⟩
            · intro h6
              refine AW.skip ?_
              refine go_then ?_
              refine AW.seq ?_
              have hneg : ¬ 0 ≤ chanAt x.chans ((k : Int) + 1) := by simpa using h6
              have hloc := locA_none hneg
              have hout := outA_eq (x := x) (ch := (k : Int) + 1) hbk
              refine AW.draw 22 (inK []) (by kernel_rfl) ?_
              refine AG.take (x := .agg [.p (.v (.int _ _)), .p (.lst _ _ _)]) (i := 0) rfl (by kernel_rfl) (by kernel_rfl) (by kernel_rfl) (by kernel_rfl) (by kernel_rfl) (rd_load_box rfl ty.kd62 rfl rfl rfl rfl) rfl rfl (by decide) (NP.then (NP.block (NP.then (NP.then (NP.block (NP.then NP.ends)))))) ?_
              refine AG.take (x := .p (.v (.int _ _))) (i := 1) rfl (by kernel_rfl) (by kernel_rfl) (by kernel_rfl) (by kernel_rfl) (by kernel_rfl) (rd_mvx (Or.inl rfl) rfl) rfl rfl (by decide) (NP.then (NP.block (NP.then (NP.then (NP.block (NP.then NP.ends)))))) ?_
              refine AG.take (x := .agg [.p (.v (.int _ _)), .p (.v (.int _ _))]) (i := 2) rfl (by kernel_rfl) (by kernel_rfl) (by kernel_rfl) (by kernel_rfl) (by kernel_rfl) (rd_build rfl ty.sa105 rfl rfl rfl) rfl rfl (by decide) (NP.then (NP.block (NP.then (NP.then (NP.block (NP.then NP.ends)))))) ?_
              refine AG.take (x := .p (.v (.int _ _))) (i := 4) rfl (by kernel_rfl) (by kernel_rfl) (by kernel_rfl) (by kernel_rfl) (by kernel_rfl) (rd_mvx (Or.inl rfl) rfl) rfl rfl (by decide) (NP.then (NP.block (NP.then (NP.then (NP.block (NP.then NP.ends)))))) ?_
              refine AG.st (i := 3) rfl (by kernel_rfl) (St.call [] [] [] rfl (by intro s hs; cases hs; decide) rfl Try.func62 rfl rfl (sbalance_e l ⟨6, (k : Int) + 1⟩ hm) ⟨rfl, rfl, rfl⟩ (trivial) (trivial) rfl) (by decide) rfl ?_
              refine AG.tidy [(2, .ptr 1000 _ 0), (3, .ptr 1001 _ 0), (4, .p (.v (.bool false))), (5, .p (.v (.int _ _))), (50, .p (.v (.int _ _))), (51, .p (.v (.int _ _)))] [(1000, .box _ _ [.p (.v (.int _ _)), .p (.v (.int _ _)), .p (.v (.int _ _)), .p (.lst _ _ _), .p (.lst _ _ _), .p (.lst _ _ _)]), (1001, .box _ _ [.p (.v (.int _ _)), .p (.lst _ _ _)])] ⟨rfl, rfl, rfl, rfl, rfl, rfl, trivial⟩ ⟨rfl, rfl, trivial⟩ rfl ?_
              refine AG.rd (i := 5) (x := .p (.v (.bool _))) rfl (by kernel_rfl) (rd_bin rfl rfl rfl) rfl rfl (by decide) ?_
              refine AG.rd (i := 6) (x := .p (.v (.bool _))) rfl (by kernel_rfl) (rd_mvx (Or.inl rfl) rfl) rfl rfl (by decide) ?_
              refine AG.bool (t := 53) rfl ?_ ?_
              · intro h10
                refine AG.skip (i := 7) rfl (by kernel_rfl) (by kernel_rfl) (by kernel_rfl) (by kernel_rfl) (by kernel_rfl) rfl rfl (by decide) (NP.then (NP.block (NP.then (NP.then (NP.block (NP.then NP.ends)))))) ?_
                refine AG.skip (i := 8) rfl (by kernel_rfl) (by kernel_rfl) (by kernel_rfl) (by kernel_rfl) (by kernel_rfl) rfl rfl (by decide) (NP.then (NP.block (NP.then (NP.then (NP.block (NP.then NP.ends)))))) ?_
                refine AG.skip (i := 9) rfl (by kernel_rfl) (by kernel_rfl) (by kernel_rfl) (by kernel_rfl) (by kernel_rfl) rfl rfl (by decide) (NP.then (NP.block (NP.then (NP.then (NP.block (NP.then NP.ends)))))) ?_
                refine AG.skip (i := 10) rfl (by kernel_rfl) (by kernel_rfl) (by kernel_rfl) (by kernel_rfl) (by kernel_rfl) rfl rfl (by decide) (NP.then (NP.block (NP.then (NP.then (NP.block (NP.then NP.ends)))))) ?_
                refine AG.skip (i := 11) rfl (by kernel_rfl) (by kernel_rfl) (by kernel_rfl) (by kernel_rfl) (by kernel_rfl) rfl rfl (by decide) (NP.then (NP.block (NP.then (NP.then (NP.block (NP.then NP.ends)))))) ?_
                refine AG.no (i := 12) rfl (by kernel_rfl) rfl rfl (by decide) ?_
                refine AG.no (i := 13) rfl (by kernel_rfl) rfl rfl (by decide) ?_
                refine AG.no (i := 14) rfl (by kernel_rfl) rfl rfl (by decide) ?_
                refine AG.rd (i := 15) (x := .p (.v (.bool true))) rfl (by kernel_rfl) (rd_pick rfl rfl) rfl rfl (by decide) ?_
                refine AG.rd (i := 16) (x := .p (.v (.bool true))) rfl (by kernel_rfl) (rd_mvx (Or.inl rfl) rfl) rfl rfl (by decide) ?_
                refine AG.skip (i := 17) rfl (by kernel_rfl) (by kernel_rfl) (by kernel_rfl) (by kernel_rfl) (by kernel_rfl) rfl rfl (by decide) (NP.then (NP.block (NP.then (NP.then (NP.block (NP.then NP.ends)))))) ?_
                refine AG.no (i := 18) rfl (by kernel_rfl) rfl rfl (by decide) ?_
                refine AG.no (i := 19) rfl (by kernel_rfl) rfl rfl (by decide) ?_
                refine AG.no (i := 20) rfl (by kernel_rfl) rfl rfl (by decide) ?_
                refine AG.no (i := 21) rfl (by kernel_rfl) rfl rfl (by decide) ?_
                refine AG.rd (i := 22) (x := .p (.v (.bool true))) rfl (by kernel_rfl) (rd_pick rfl rfl) rfl rfl (by decide) ?_
                refine AG.done (by kernel_rfl) ?_
                refine go_then ?_
                refine AW.yes rfl ?_
                refine AW.seq ?_
                refine AW.list ?_
                refine AL.rd (x := .p (.v (.bool false))) (rd_mvx (Or.inr rfl) rfl) rfl rfl (by decide) ?_
                refine AL.tidy [(2, .ptr 1000 _ 0), (3, .ptr 1001 _ 0), (4, .p (.v (.bool false))), (5, .p (.v (.int _ _)))] [(1000, .box _ _ [.p (.v (.int _ _)), .p (.v (.int _ _)), .p (.v (.int _ _)), .p (.lst _ _ _), .p (.lst _ _ _), .p (.lst _ _ _)]), (1001, .box _ _ [.p (.v (.int _ _)), .p (.lst _ _ _)])] ⟨rfl, rfl, rfl, rfl, trivial⟩ ⟨rfl, rfl, trivial⟩ ?_
                refine AL.nil ?_
                refine go_then ?_
                refine AW.ret ?_
                refine ret_block ?_
                refine ret_then ?_
                refine ret_then ?_
                refine ret_block ?_
                refine ret_then ?_
                refine end_ret ?_ trivial
                refine congrArg (fun b => some (boo b)) ?_
                first
                | (exact (agrees_no hk (by unfold agreeAt; rw [hloc, hout]; simp_all)).symm)
                | (have hke : k = 99 := by simp only [decide_eq_false_iff_not] at *; omega
                   subst hke
                   rw [agrees_yes hall]
                   simp_all)
              · intro h10
                refine AG.take (x := .agg [.p (.v (.int _ _)), .p (.lst _ _ _)]) (i := 7) rfl (by kernel_rfl) (by kernel_rfl) (by kernel_rfl) (by kernel_rfl) (by kernel_rfl) (rd_load_box rfl ty.kd62 rfl rfl rfl rfl) rfl rfl (by decide) (NP.then (NP.block (NP.then (NP.then (NP.block (NP.then NP.ends)))))) ?_
                refine AG.take (x := .p (.v (.int _ _))) (i := 8) rfl (by kernel_rfl) (by kernel_rfl) (by kernel_rfl) (by kernel_rfl) (by kernel_rfl) (rd_mvx (Or.inl rfl) rfl) rfl rfl (by decide) (NP.then (NP.block (NP.then (NP.then (NP.block (NP.then NP.ends)))))) ?_
                refine AG.take (x := .agg [.p (.v (.int _ _)), .p (.v (.int _ _))]) (i := 9) rfl (by kernel_rfl) (by kernel_rfl) (by kernel_rfl) (by kernel_rfl) (by kernel_rfl) (rd_build rfl ty.sa105 rfl rfl rfl) rfl rfl (by decide) (NP.then (NP.block (NP.then (NP.then (NP.block (NP.then NP.ends)))))) ?_
                refine AG.take (x := .agg [.p (.v (.int _ _)), .p (.v (.int _ _)), .p (.v (.int _ _)), .p (.lst _ _ _), .p (.lst _ _ _), .p (.lst _ _ _)]) (i := 11) rfl (by kernel_rfl) (by kernel_rfl) (by kernel_rfl) (by kernel_rfl) (by kernel_rfl) (rd_load_box rfl ty.kd58 rfl rfl rfl rfl) rfl rfl (by decide) (NP.then (NP.block (NP.then (NP.then (NP.block (NP.then NP.ends)))))) ?_
                refine AG.take (x := .p (.v (.int _ _))) (i := 12) rfl (by kernel_rfl) (by kernel_rfl) (by kernel_rfl) (by kernel_rfl) (by kernel_rfl) (rd_mvx (Or.inl rfl) rfl) rfl rfl (by decide) (NP.then (NP.block (NP.then (NP.then (NP.block (NP.then NP.ends)))))) ?_
                refine AG.st (i := 10) rfl (by kernel_rfl) (St.call [] [] [] rfl (by intro s hs; cases hs; decide) rfl Try.func62 rfl rfl (sbalance_e l ⟨8, (k : Int) + 1⟩ hm) ⟨rfl, rfl, rfl⟩ (trivial) (trivial) rfl) (by decide) rfl ?_
                refine AG.tidy [(2, .ptr 1000 _ 0), (3, .ptr 1001 _ 0), (4, .p (.v (.bool false))), (5, .p (.v (.int _ _))), (53, .p (.v (.bool false))), (57, .p (.v (.int _ _))), (58, .agg [.p (.v (.int _ _)), .p (.v (.int _ _)), .p (.v (.int _ _)), .p (.lst _ _ _), .p (.lst _ _ _), .p (.lst _ _ _)]), (59, .p (.v (.int _ _)))] [(1000, .box _ _ [.p (.v (.int _ _)), .p (.v (.int _ _)), .p (.v (.int _ _)), .p (.lst _ _ _), .p (.lst _ _ _), .p (.lst _ _ _)]), (1001, .box _ _ [.p (.v (.int _ _)), .p (.lst _ _ _)])] ⟨rfl, rfl, rfl, rfl, rfl, rfl, rfl, rfl, trivial⟩ ⟨rfl, rfl, trivial⟩ rfl ?_
                refine AG.st (i := 13) rfl (by kernel_rfl) (St.call [] [] [] rfl (by intro s hs; cases hs; decide) rfl Try.func64 rfl rfl (spec_Out_e x ((k : Int) + 1) hw (bookOk_small hbk)) ⟨rfl, rfl, rfl⟩ (trivial) (trivial) rfl) (by decide) rfl ?_
                refine AG.tidy [(2, .ptr 1000 _ 0), (3, .ptr 1001 _ 0), (4, .p (.v (.bool false))), (5, .p (.v (.int _ _))), (53, .p (.v (.bool false))), (57, .p (.v (.int _ _))), (60, .p (.v (.int _ _)))] [(1000, .box _ _ [.p (.v (.int _ _)), .p (.v (.int _ _)), .p (.v (.int _ _)), .p (.lst _ _ _), .p (.lst _ _ _), .p (.lst _ _ _)]), (1001, .box _ _ [.p (.v (.int _ _)), .p (.lst _ _ _)])] ⟨rfl, rfl, rfl, rfl, rfl, rfl, rfl, trivial⟩ ⟨rfl, rfl, trivial⟩ rfl ?_
                refine AG.rd (i := 14) (x := .p (.v (.bool _))) rfl (by kernel_rfl) (rd_bin rfl rfl rfl) rfl rfl (by decide) ?_
                refine AG.rd (i := 15) (x := .p (.v (.bool _))) rfl (by kernel_rfl) (rd_pick rfl rfl) rfl rfl (by decide) ?_
                refine AG.rd (i := 16) (x := .p (.v (.bool _))) rfl (by kernel_rfl) (rd_mvx (Or.inl rfl) rfl) rfl rfl (by decide) ?_
                refine AG.bool (t := 63) rfl ?_ ?_
                · intro h11
                  refine AG.skip (i := 17) rfl (by kernel_rfl) (by kernel_rfl) (by kernel_rfl) (by kernel_rfl) (by kernel_rfl) rfl rfl (by decide) (NP.then (NP.block (NP.then (NP.then (NP.block (NP.then NP.ends)))))) ?_
                  refine AG.no (i := 18) rfl (by kernel_rfl) rfl rfl (by decide) ?_
                  refine AG.no (i := 19) rfl (by kernel_rfl) rfl rfl (by decide) ?_
                  refine AG.no (i := 20) rfl (by kernel_rfl) rfl rfl (by decide) ?_
                  refine AG.no (i := 21) rfl (by kernel_rfl) rfl rfl (by decide) ?_
                  refine AG.rd (i := 22) (x := .p (.v (.bool true))) rfl (by kernel_rfl) (rd_pick rfl rfl) rfl rfl (by decide) ?_
                  refine AG.done (by kernel_rfl) ?_
                  refine go_then ?_
                  refine AW.yes rfl ?_
                  refine AW.seq ?_
                  refine AW.list ?_
                  refine AL.rd (x := .p (.v (.bool false))) (rd_mvx (Or.inr rfl) rfl) rfl rfl (by decide) ?_
                  refine AL.nil ?_
                  refine go_then ?_
                  refine AW.ret ?_
                  refine ret_block ?_
                  refine ret_then ?_
                  refine ret_then ?_
                  refine ret_block ?_
                  refine ret_then ?_
                  refine end_ret ?_ trivial
                  refine congrArg (fun b => some (boo b)) ?_
                  first
                  | (exact (agrees_no hk (by unfold agreeAt; rw [hloc, hout]; simp_all)).symm)
                  | (have hke : k = 99 := by simp only [decide_eq_false_iff_not] at *; omega
                     subst hke
                     rw [agrees_yes hall]
                     simp_all)
                · intro h11
                  refine AG.take (x := .agg [.p (.v (.int _ _)), .p (.lst _ _ _)]) (i := 17) rfl (by kernel_rfl) (by kernel_rfl) (by kernel_rfl) (by kernel_rfl) (by kernel_rfl) (rd_load_box rfl ty.kd62 rfl rfl rfl rfl) rfl rfl (by decide) (NP.then (NP.block (NP.then (NP.then (NP.block (NP.then NP.ends)))))) ?_
                  refine AG.tidy [(2, .ptr 1000 _ 0), (3, .ptr 1001 _ 0), (4, .p (.v (.bool false))), (5, .p (.v (.int _ _))), (63, .p (.v (.bool false))), (64, .agg [.p (.v (.int _ _)), .p (.lst _ _ _)])] [(1000, .box _ _ [.p (.v (.int _ _)), .p (.v (.int _ _)), .p (.v (.int _ _)), .p (.lst _ _ _), .p (.lst _ _ _), .p (.lst _ _ _)]), (1001, .box _ _ [.p (.v (.int _ _)), .p (.lst _ _ _)])] ⟨rfl, rfl, rfl, rfl, rfl, rfl, trivial⟩ ⟨rfl, rfl, trivial⟩ rfl ?_
                  refine AG.rd (i := 18) (x := .p (.v (.int _ _))) rfl (by kernel_rfl) (rd_mvx (Or.inl rfl) rfl) rfl rfl (by decide) ?_
                  refine AG.rd (i := 19) (x := .agg [.p (.v (.int _ _)), .p (.v (.int _ _))]) rfl (by kernel_rfl) (rd_build rfl ty.sa105 rfl rfl rfl) rfl rfl (by decide) ?_
                  refine AG.st (i := 20) rfl (by kernel_rfl) (St.call [] [] [] rfl (by intro s hs; cases hs; decide) rfl Try.func62 rfl rfl (sbalance_e l ⟨7, (k : Int) + 1⟩ hm) ⟨rfl, rfl, rfl⟩ (trivial) (trivial) rfl) (by decide) rfl ?_
                  refine AG.tidy [(2, .ptr 1000 _ 0), (3, .ptr 1001 _ 0), (4, .p (.v (.bool false))), (5, .p (.v (.int _ _))), (63, .p (.v (.bool false))), (67, .p (.v (.int _ _)))] [(1000, .box _ _ [.p (.v (.int _ _)), .p (.v (.int _ _)), .p (.v (.int _ _)), .p (.lst _ _ _), .p (.lst _ _ _), .p (.lst _ _ _)]), (1001, .box _ _ [.p (.v (.int _ _)), .p (.lst _ _ _)])] ⟨rfl, rfl, rfl, rfl, rfl, rfl, trivial⟩ ⟨rfl, rfl, trivial⟩ rfl ?_
                  refine AG.rd (i := 21) (x := .p (.v (.bool _))) rfl (by kernel_rfl) (rd_bin rfl rfl rfl) rfl rfl (by decide) ?_
                  refine AG.rd (i := 22) (x := .p (.v (.bool _))) rfl (by kernel_rfl) (rd_pick rfl rfl) rfl rfl (by decide) ?_
                  refine AG.done (by kernel_rfl) ?_
                  refine go_then ?_
                  refine AW.cond rfl ?_ ?_
                  · intro h12
                    refine AW.seq ?_
                    refine AW.list ?_
                    refine AL.rd (x := .p (.v (.bool false))) (rd_mvx (Or.inr rfl) rfl) rfl rfl (by decide) ?_
                    refine AL.nil ?_
                    refine go_then ?_
                    refine AW.ret ?_
                    refine ret_block ?_
                    refine ret_then ?_
                    refine ret_then ?_
                    refine ret_block ?_
                    refine ret_then ?_
                    refine end_ret ?_ trivial
                    refine congrArg (fun b => some (boo b)) ?_
                    first
                    | (exact (agrees_no hk (by unfold agreeAt; rw [hloc, hout]; simp_all)).symm)
                    | (have hke : k = 99 := by simp only [decide_eq_false_iff_not] at *; omega
                       subst hke
                       rw [agrees_yes hall]
                       simp_all)
                  · intro h12
                    refine AW.skip ?_
                    refine go_block ?_
                    refine go_then ?_
                    refine AW.list ?_
                    refine AL.rd (x := .p (.v (.int _ _))) (rd_mvx (Or.inl rfl) rfl) rfl rfl (by decide) ?_
                    have hgood : agreeAt x l ((k : Int) + 1) = true := by unfold agreeAt; rw [hloc, hout]; simp_all
                    refine AL.rd (x := .p (.v (.int _ _))) (rd_bin rfl rfl ⟨rfl, fits_i64 (by unfold i64; omega)⟩) rfl rfl (by decide) ?_
                    refine AL.rd (x := .p (.v (.int _ _))) (rd_mvx (Or.inr rfl) rfl) rfl rfl (by decide) ?_
                    refine AL.tidy [(2, .ptr 1000 _ 0), (3, .ptr 1001 _ 0), (4, .p (.v (.bool false))), (5, .p (.v (.int _ _)))] [(1000, .box _ _ [.p (.v (.int _ _)), .p (.v (.int _ _)), .p (.v (.int _ _)), .p (.lst _ _ _), .p (.lst _ _ _), .p (.lst _ _ _)]), (1001, .box _ _ [.p (.v (.int _ _)), .p (.lst _ _ _)])] ⟨rfl, rfl, rfl, rfl, trivial⟩ ⟨rfl, rfl, trivial⟩ ?_
                    refine AL.nil ?_
                    refine go_then ?_
                    refine ⟨k + 1, ⟨hk, fun j hj => (Nat.lt_or_ge j k).elim (hall j) (fun q => by rw [show j = k by omega]; exact hgood)⟩, by omega, ⟨(Eq.trans (b := int _) rfl (congrArg int (by push_cast; rfl))), trivial⟩, trivial, ⟨rfl, rfl, rfl, trivial⟩, ⟨rfl, rfl, trivial⟩⟩
          · intro h5
            refine AW.exit ?_
            refine ex_then ?_
            refine ex_then ?_
            refine ex_block ?_
            refine go_then ?_
            refine AW.seq ?_
            refine AW.list ?_
            refine AL.rd (x := .p (.v (.bool true))) (rd_mvx (Or.inr rfl) rfl) rfl rfl (by decide) ?_
            refine AL.nil ?_
            refine go_then ?_
            refine AW.ret ?_
            refine end_ret ?_ trivial
            refine congrArg (fun b => some (boo b)) ?_
            first
            | (exact (agrees_no hk (by unfold agreeAt; rw [hloc, hout]; simp_all)).symm)
            | (have hke : k = 99 := by simp only [decide_eq_false_iff_not] at *; omega
               subst hke
               rw [agrees_yes hall]
               simp_all)

end Go.Proofs.Ytbjnbhlpibadnaa
