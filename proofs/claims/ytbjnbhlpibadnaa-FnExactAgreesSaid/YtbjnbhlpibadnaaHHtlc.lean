/- Contracts of the harness functions of Htlc -/
import Derived.Test.YtbjnbhlpibadnaaProg
import Derived.Test.YtbjnbhlpibadnaaDat
namespace Go.Proofs.Ytbjnbhlpibadnaa
open Go.RowKit
set_option linter.unusedSimpArgs false
set_option linter.unusedVariables false
set_option maxHeartbeats 400000 in
theorem toHtlc_c (x : Htlc) (w : World) :
    Calls Try.prog 102 #[.agg #[.int .i64 x.key, .int .i64 x.inn, .int .i64 x.out, .int .i64 x.amtIn, .int .i64 x.amtOut, .bool x.kept, .int .i64 x.age]] w fun e w' => e = .returned (.agg #[.int .i64 x.key, .int .i64 x.inn, .int .i64 x.out, .int .i64 x.amtIn, .int .i64 x.amtOut, .bool x.kept, .int .i64 x.age]) ∧ Grow w w' := by
  obtain ⟨key, inn, out, amtIn, amtOut, kept, age⟩ := x
  go_enter Try.func102, Try.ntmps102
  go_wp2
  all_goals
    refine bodyPost_ret (v := .agg #[.int .i64 key, .int .i64 inn, .int .i64 out, .int .i64 amtIn, .int .i64 amtOut, .bool kept, .int .i64 age]) (by simp [results, Try.results102, go_sem]) rfl ⟨rfl, ?_⟩
    (repeat (first | exact Grow.refl _ | refine Grow.alloc ?_ _ _))

theorem infoHtlc : (Try.prog.info? 145).map (fun i => (i.zero, i.size, i.bytes)) = some (some (.agg #[.int .i64 0, .int .i64 0, .int .i64 0, .int .i64 0, .int .i64 0, .bool false, .int .i64 0]), 7, 56) := by kernel_rfl

theorem madeHtlc (n : Nat) (hn : n ≤ 1048576) (w : World) : (Instr.makeSlice 55 (.int .i64 (n : Int)) (.int .i64 (n : Int))).run Try.prog w =
    .ok (.slice (some ⟨w.heap.size, 0, none⟩) n n) (w.alloc (.cells (madeCells #[.int .i64 0, .int .i64 0, .int .i64 0, .int .i64 0, .int .i64 0, .bool false, .int .i64 0] (n * 7)) 145)) := by
  obtain ⟨i, hi, hz, hs, hb⟩ := info_parts infoHtlc
  have := run_make (P := Try.prog) w 55 145 i _ Try.underlying55 hi hz .i64 .i64 n n (by omega) (Int.le_refl _) (by rw [hb]; omega) (by omega)
  simpa [hs, Value.cells] using this

set_option maxHeartbeats 1000000 in
set_option maxRecDepth 100000 in
theorem toHtlcS_c (xs : List Htlc) (a : Option Addr) (cap : Nat) (w : World) (hv : SlR 7 repHtlc w 0 w.heap.size (.slice a xs.length cap) xs) (hn : xs.length ≤ 1048576) :
    Calls Try.prog 66 #[.slice a xs.length cap] w fun e w' => ∃ a' cap', e = .returned (.slice a' xs.length cap') ∧ Grow w w' ∧ SlR 7 repHtlc w' w.heap.size w'.heap.size (.slice a' xs.length cap') xs := by
  obtain ⟨a_, cap_, heq, hc1, hc2, hsl⟩ := hv
  injection heq with q1 q2 q3
  subst q1 q3
  clear q2
  have hmk := fun w => madeHtlc xs.length hn w
  have HS := Lib.hid hsl; clear hsl
  go_enter Try.func66, Try.ntmps66
  go_wp2
  have hg0 : Grow w (w.alloc (.cells (madeCells #[.int .i64 0, .int .i64 0, .int .i64 0, .int .i64 0, .int .i64 0, .bool false, .int .i64 0] (xs.length * 7)) 145)) := (Grow.refl _).alloc _ _
  go_loopg [4] xs.length (fun g i wr => ∃ k : Nat, k + g = xs.length ∧ i = .int .i64 k ∧ w.heap.size < wr.heap.size ∧ Grow w wr ∧ Filled wr w.heap.size 7 xs.length k (fun i => (xs[i]?.map encHtlc).getD []))
  case atStart => exact ⟨0, by omega, rfl, by simp, hg0, Filled.made _ _ _ _ _ _⟩
  case round =>
    obtain ⟨k, hk, rfl, hz, hg, hfl⟩ := hrel
    clear hg0
    by_cases hlt : k < xs.length
    · rcases HS.out with h0 | ⟨b, off, rfl, hb1, hb2, hel⟩
      · exfalso; rw [h0] at hlt; exact absurd hlt (by simp)
      obtain ⟨e0, e1, e2, e3, e4, e5, e6, ewf⟩ := Htlc.atCell (hel.same repHtlc_stable (hg.same (Nat.le_refl _)) hb1 hb2) k hlt
      have hget : xs[k]? = some xs[k] := List.getElem?_eq_getElem hlt
      have HG := Lib.hid hg; have HF := Lib.hid hfl; have HX := Lib.hid hget; have HK := Lib.hid hk; clear hg hfl hget hel hk
      generalize hx : xs[k] = x at *
      have HXX := Lib.hid hx; clear hx
      go_wp2_with fail
      refine (toHtlc_c _ _).mono ?_
      rintro e w1 ⟨rfl, hg1⟩
      have hf1 := HF.out.same (hg1.same (Nat.le_refl _)) (Nat.zero_le _) hz
      have hG := HG.out.trans hg1
      have hz1 : w.heap.size < w1.heap.size := by have := hg1.size; omega
      obtain ⟨u0, d0⟩ := hf1.some hlt 0 (by omega)
      obtain ⟨u1, d1⟩ := hf1.some hlt 1 (by omega)
      obtain ⟨u2, d2⟩ := hf1.some hlt 2 (by omega)
      obtain ⟨u3, d3⟩ := hf1.some hlt 3 (by omega)
      obtain ⟨u4, d4⟩ := hf1.some hlt 4 (by omega)
      obtain ⟨u5, d5⟩ := hf1.some hlt 5 (by omega)
      obtain ⟨u6, d6⟩ := hf1.some hlt 6 (by omega)
      simp only [Nat.add_zero] at d0
      have fz : ∀ o, w1.frozen? ⟨w.heap.size, o, none⟩ = false := fun o => hG.nf _ o (Nat.le_refl _) hz1
      have HG1 := Lib.hid hG; have HF1 := Lib.hid hf1; clear hg1 hG hf1
      go_wp2
      go_roundg (xs.length - (k + 1))
      case measure => have := HK.out; omega
      case rel =>
        have hfin := HF1.out.store hlt (fun i hi => by
          rw [List.getElem?_eq_getElem (by omega)]; rfl)
        have hgr := Grow.setCells (Nat.le_refl _) (encHtlc x) (k * 7) HG1.out
        rw [show (xs[k]?.map encHtlc).getD [] = encHtlc x from by rw [HX.out]; rfl] at hfin
        exact ⟨k + 1, by omega, by go_num, by simpa using hz1, hgr, hfin⟩
    · obtain rfl : k = xs.length := by omega
      have HG := Lib.hid hg; have HF := Lib.hid hfl; clear hg hfl
      go_wp2
      go_ret
      refine ⟨_, _, rfl, HG.out, SlR.of_filled HF.out (Nat.le_refl _) hz (by unfold maxLen; omega) (fun i hi' => ?_)⟩
      rcases HS.out with h0 | ⟨b, off, rfl, hb1, hb2, hel⟩
      · rw [h0] at hi'; exact absurd hi' (by simp)
      · obtain ⟨cs, ⟨_, h2⟩, _⟩ := hel i hi'
        exact ⟨by rw [List.getElem?_eq_getElem hi']; rfl, h2⟩

set_option maxHeartbeats 400000 in
theorem eqHtlc_c (x : Htlc) (w : World) :
    Calls Try.prog 112 #[.agg #[.int .i64 x.key, .int .i64 x.inn, .int .i64 x.out, .int .i64 x.amtIn, .int .i64 x.amtOut, .bool x.kept, .int .i64 x.age], .agg #[.int .i64 x.key, .int .i64 x.inn, .int .i64 x.out, .int .i64 x.amtIn, .int .i64 x.amtOut, .bool x.kept, .int .i64 x.age]] w fun e w' => e = .returned (.bool true) ∧ Grow w w' := by
  obtain ⟨key, inn, out, amtIn, amtOut, kept, age⟩ := x
  go_enter Try.func112, Try.ntmps112
  go_wp2
  all_goals
    go_ret
    refine ⟨rfl, ?_⟩
    repeat (first | exact Grow.refl _ | (refine Grow.setCell ?_ (by dsimp only; (try simp only [World.size_alloc, World.size_setCell]); omega) _) | (refine Grow.alloc ?_ _ _) | (refine Grow.drew ?_) | (refine Grow.trans ?_ (by assumption)))

set_option maxHeartbeats 1000000 in
set_option maxRecDepth 100000 in
theorem eqHtlcS_c (xs : List Htlc) (a a' : Option Addr) (cap cap' : Nat) (w : World) (hv : SlR 7 repHtlc w 0 w.heap.size (.slice a xs.length cap) xs) (hv' : SlR 7 repHtlc w 0 w.heap.size (.slice a' xs.length cap') xs) :
    Calls Try.prog 75 #[.slice a xs.length cap, .slice a' xs.length cap'] w fun e w' => e = .returned (.bool true) ∧ Grow w w' := by
  obtain ⟨a_, cap_, heq, hc1, hc2, hsl⟩ := hv
  injection heq with q1 q2 q3
  subst q1 q3
  obtain ⟨a_', cap_', heq', hc1', hc2', hsl'⟩ := hv'
  injection heq' with q1' q2' q3'
  subst q1' q3'
  have hm : xs.length ≤ 9223372036854775807 := by unfold maxLen at hc2; omega
  clear hc1 hc2 hc1' hc2' q2 q2'
  have HS := Lib.hid hsl; clear hsl
  have HS' := Lib.hid hsl'; clear hsl'
  have hbne : ((xs.length : Int) != (xs.length : Int)) = false := by simp
  go_enter Try.func75, Try.ntmps75
  go_wp2
  go_loopg [5] xs.length (fun g i wr => ∃ k : Nat, k + g = xs.length ∧ i = .int .i64 k ∧ Grow w wr)
  case atStart => exact ⟨0, by omega, rfl, Grow.refl _⟩
  case round =>
    obtain ⟨k, hk, rfl, hg⟩ := hrel
    by_cases hlt : k < xs.length
    · rcases HS.out with h0 | ⟨b, off, rfl, hb1, hb2, hel⟩
      · exfalso; rw [h0] at hlt; exact absurd hlt (by simp)
      rcases HS'.out with h0 | ⟨b', off', rfl, hb1', hb2', hel'⟩
      · exfalso; rw [h0] at hlt; exact absurd hlt (by simp)
      obtain ⟨e0, e1, e2, e3, e4, e5, e6, _⟩ := Htlc.atCell (hel.same repHtlc_stable (hg.same (Nat.le_refl _)) hb1 hb2) k hlt
      obtain ⟨e0', e1', e2', e3', e4', e5', e6', _⟩ := Htlc.atCell (hel'.same repHtlc_stable (hg.same (Nat.le_refl _)) hb1' hb2') k hlt
      have HG := Lib.hid hg; have HK := Lib.hid hk; clear hg hel hel' hk HS HS'
      generalize xs[k] = x at *
      go_wp2_with fail
      go_still_tail 8, (by kernel_rfl)
      go_wp2_with fail
      refine (eqHtlc_c _ _).mono ?_
      rintro e w1 ⟨rfl, hg1⟩
      go_wp2
      go_roundg (xs.length - (k + 1))
      case measure => have := HK.out; omega
      case rel => exact ⟨k + 1, by omega, by go_num, HG.out.drew.trans hg1⟩
    · obtain rfl : k = xs.length := by omega
      have HG := Lib.hid hg; clear hg
      go_wp2
      go_ret
      exact ⟨rfl, HG.out⟩

theorem szHtlcS_c (a : Option Addr) (n cap : Nat) (l : Int) (w : World) (hn : (n : Int) ≤ 9223372036854775807) (h1 : 0 ≤ l) (h2 : l ≤ 1048576) :
    Calls Try.prog 57 #[.slice a n cap, .int .i64 l] w fun e w' => e = .returned (.int .i64 (szL n l)) ∧ Grow w w' := by
  unfold szL
  by_cases h : l - n < 0
  all_goals
    go_enter Try.func57, Try.ntmps57
    go_wp2
    go_ret
    exact ⟨by simp, Grow.refl _⟩

end Go.Proofs.Ytbjnbhlpibadnaa
