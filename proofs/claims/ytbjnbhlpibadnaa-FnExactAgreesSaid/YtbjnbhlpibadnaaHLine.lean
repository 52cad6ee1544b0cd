/- Contracts of the harness functions of Line -/
import Derived.Test.YtbjnbhlpibadnaaProg
import Derived.Test.YtbjnbhlpibadnaaHAcc
import Derived.Test.YtbjnbhlpibadnaaTLine
namespace Go.Proofs.Ytbjnbhlpibadnaa
open Go.RowKit
set_option linter.unusedSimpArgs false
set_option linter.unusedVariables false
theorem infoLine : (Try.prog.info? 143).map (fun i => (i.zero, i.size, i.bytes)) = some (some (.agg #[.int .i64 0, .int .i64 0, .int .i64 0]), 3, 24) := by kernel_rfl

theorem madeLine (n : Nat) (hn : n ≤ 1048576) (w : World) : (Instr.makeSlice 60 (.int .i64 (n : Int)) (.int .i64 (n : Int))).run Try.prog w =
    .ok (.slice (some ⟨w.heap.size, 0, none⟩) n n) (w.alloc (.cells (madeCells #[.int .i64 0, .int .i64 0, .int .i64 0] (n * 3)) 143)) := by
  obtain ⟨i, hi, hz, hs, hb⟩ := info_parts infoLine
  have := run_make (P := Try.prog) w 60 143 i _ Try.underlying60 hi hz .i64 .i64 n n (by omega) (Int.le_refl _) (by rw [hb]; omega) (by omega)
  simpa [hs, Value.cells] using this

set_option maxHeartbeats 1000000 in
set_option maxRecDepth 100000 in
theorem toLineS_c (xs : List Line) (a : Option Addr) (cap : Nat) (w : World) (hv : SlR 3 repLine w 0 w.heap.size (.slice a xs.length cap) xs) (hn : xs.length ≤ 1048576) :
    Calls Try.prog 68 #[.slice a xs.length cap] w fun e w' => ∃ a' cap', e = .returned (.slice a' xs.length cap') ∧ Grow w w' ∧ SlR 3 repLine w' w.heap.size w'.heap.size (.slice a' xs.length cap') xs := by
  obtain ⟨a_, cap_, heq, hc1, hc2, hsl⟩ := hv
  injection heq with q1 q2 q3
  subst q1 q3
  clear q2
  have hmk := fun w => madeLine xs.length hn w
  have HS := Lib.hid hsl; clear hsl
  go_enter Try.func68, Try.ntmps68
  go_wp2
  have hg0 : Grow w (w.alloc (.cells (madeCells #[.int .i64 0, .int .i64 0, .int .i64 0] (xs.length * 3)) 143)) := (Grow.refl _).alloc _ _
  go_loopg [4] xs.length (fun g i wr => ∃ k : Nat, k + g = xs.length ∧ i = .int .i64 k ∧ w.heap.size < wr.heap.size ∧ Grow w wr ∧ Filled wr w.heap.size 3 xs.length k (fun i => (xs[i]?.map encLine).getD []))
  case atStart => exact ⟨0, by omega, rfl, by simp, hg0, Filled.made _ _ _ _ _ _⟩
  case round =>
    obtain ⟨k, hk, rfl, hz, hg, hfl⟩ := hrel
    clear hg0
    by_cases hlt : k < xs.length
    · rcases HS.out with h0 | ⟨b, off, rfl, hb1, hb2, hel⟩
      · exfalso; rw [h0] at hlt; exact absurd hlt (by simp)
      obtain ⟨e0, e1, e2, ewf⟩ := Line.atCell (hel.same repLine_stable (hg.same (Nat.le_refl _)) hb1 hb2) k hlt
      have hget : xs[k]? = some xs[k] := List.getElem?_eq_getElem hlt
      have HG := Lib.hid hg; have HF := Lib.hid hfl; have HX := Lib.hid hget; have HK := Lib.hid hk; clear hg hfl hget hel hk
      generalize hx : xs[k] = x at *
      have HXX := Lib.hid hx; clear hx
      go_wp2_with fail
      refine (toLine_c _ _).mono ?_
      rintro e w1 ⟨rfl, hg1⟩
      have hf1 := HF.out.same (hg1.same (Nat.le_refl _)) (Nat.zero_le _) hz
      have hG := HG.out.trans hg1
      have hz1 : w.heap.size < w1.heap.size := by have := hg1.size; omega
      obtain ⟨u0, d0⟩ := hf1.some hlt 0 (by omega)
      obtain ⟨u1, d1⟩ := hf1.some hlt 1 (by omega)
      obtain ⟨u2, d2⟩ := hf1.some hlt 2 (by omega)
      simp only [Nat.add_zero] at d0
      have fz : ∀ o, w1.frozen? ⟨w.heap.size, o, none⟩ = false := fun o => hG.nf _ o (Nat.le_refl _) hz1
      have HG1 := Lib.hid hG; have HF1 := Lib.hid hf1; clear hg1 hG hf1
      go_wp2
      go_roundg (xs.length - (k + 1))
      case measure => have := HK.out; omega
      case rel =>
        have hfin := HF1.out.store hlt (fun i hi => by
          rw [List.getElem?_eq_getElem (by omega)]; rfl)
        have hgr := Grow.setCells (Nat.le_refl _) (encLine x) (k * 3) HG1.out
        rw [show (xs[k]?.map encLine).getD [] = encLine x from by rw [HX.out]; rfl] at hfin
        exact ⟨k + 1, by omega, by go_num, by simpa using hz1, hgr, hfin⟩
    · obtain rfl : k = xs.length := by omega
      have HG := Lib.hid hg; have HF := Lib.hid hfl; clear hg hfl
      go_wp2
      go_ret
      refine ⟨_, _, rfl, HG.out, SlR.of_filled HF.out (Nat.le_refl _) hz (by unfold maxLen; omega) (fun i hi' => ?_)⟩
      rcases HS.out with h0 | ⟨b, off, rfl, hb1, hb2, hel⟩
      · rw [h0] at hi'; exact absurd hi' (by simp)
      · obtain ⟨cs, ⟨_, h2⟩, _⟩ := hel i hi'
        exact ⟨by rw [List.getElem?_eq_getElem hi']; rfl, h2⟩

set_option maxHeartbeats 400000 in
theorem eqLine_c (x : Line) (w : World) :
    Calls Try.prog 114 #[.agg #[.int .i64 x.acc.kind, .int .i64 x.acc.ch, .int .i64 x.amt], .agg #[.int .i64 x.acc.kind, .int .i64 x.acc.ch, .int .i64 x.amt]] w fun e w' => e = .returned (.bool true) ∧ Grow w w' := by
  obtain ⟨⟨acc_kind, acc_ch⟩, amt⟩ := x
  go_enter Try.func114, Try.ntmps114
  go_wp2_with (go_at_call 127; refine (eqAcc_c ⟨_, _⟩ _).mono ?_; rintro e w1 ⟨rfl, hg1⟩; obtain ⟨hc, hf⟩ := bcell hg1; have hz : w.heap.size + 1 < w1.heap.size := by have := hg1.size; simp at this; omega)
  all_goals
    go_ret
    refine ⟨rfl, ?_⟩
    repeat (first | exact Grow.refl _ | (refine Grow.setCell ?_ (by dsimp only; (try simp only [World.size_alloc, World.size_setCell]); omega) _) | (refine Grow.alloc ?_ _ _) | (refine Grow.drew ?_) | (refine Grow.trans ?_ (by assumption)))

set_option maxHeartbeats 1000000 in
set_option maxRecDepth 100000 in
theorem eqLineS_c (xs : List Line) (a a' : Option Addr) (cap cap' : Nat) (w : World) (hv : SlR 3 repLine w 0 w.heap.size (.slice a xs.length cap) xs) (hv' : SlR 3 repLine w 0 w.heap.size (.slice a' xs.length cap') xs) :
    Calls Try.prog 77 #[.slice a xs.length cap, .slice a' xs.length cap'] w fun e w' => e = .returned (.bool true) ∧ Grow w w' := by
  obtain ⟨a_, cap_, heq, hc1, hc2, hsl⟩ := hv
  injection heq with q1 q2 q3
  subst q1 q3
  obtain ⟨a_', cap_', heq', hc1', hc2', hsl'⟩ := hv'
  injection heq' with q1' q2' q3'
  subst q1' q3'
  have hm : xs.length ≤ 9223372036854775807 := by unfold maxLen at hc2; omega
  clear hc1 hc2 hc1' hc2' q2 q2'
  have HS := Lib.hid hsl; clear hsl
  have HS' := Lib.hid hsl'; clear hsl'
  have hbne : ((xs.length : Int) != (xs.length : Int)) = false := by simp
  go_enter Try.func77, Try.ntmps77
  go_wp2
  go_loopg [5] xs.length (fun g i wr => ∃ k : Nat, k + g = xs.length ∧ i = .int .i64 k ∧ Grow w wr)
  case atStart => exact ⟨0, by omega, rfl, Grow.refl _⟩
  case round =>
    obtain ⟨k, hk, rfl, hg⟩ := hrel
    by_cases hlt : k < xs.length
    · rcases HS.out with h0 | ⟨b, off, rfl, hb1, hb2, hel⟩
      · exfalso; rw [h0] at hlt; exact absurd hlt (by simp)
      rcases HS'.out with h0 | ⟨b', off', rfl, hb1', hb2', hel'⟩
      · exfalso; rw [h0] at hlt; exact absurd hlt (by simp)
      obtain ⟨e0, e1, e2, _⟩ := Line.atCell (hel.same repLine_stable (hg.same (Nat.le_refl _)) hb1 hb2) k hlt
      obtain ⟨e0', e1', e2', _⟩ := Line.atCell (hel'.same repLine_stable (hg.same (Nat.le_refl _)) hb1' hb2') k hlt
      have HG := Lib.hid hg; have HK := Lib.hid hk; clear hg hel hel' hk HS HS'
      generalize xs[k] = x at *
      go_wp2_with fail
      go_still_tail 8, (by kernel_rfl)
      go_wp2_with fail
      refine (eqLine_c _ _).mono ?_
      rintro e w1 ⟨rfl, hg1⟩
      go_wp2
      go_roundg (xs.length - (k + 1))
      case measure => have := HK.out; omega
      case rel => exact ⟨k + 1, by omega, by go_num, HG.out.drew.trans hg1⟩
    · obtain rfl : k = xs.length := by omega
      have HG := Lib.hid hg; clear hg
      go_wp2
      go_ret
      exact ⟨rfl, HG.out⟩

theorem szLineS_c (a : Option Addr) (n cap : Nat) (l : Int) (w : World) (hn : (n : Int) ≤ 9223372036854775807) (h1 : 0 ≤ l) (h2 : l ≤ 1048576) :
    Calls Try.prog 59 #[.slice a n cap, .int .i64 l] w fun e w' => e = .returned (.int .i64 (szL n l)) ∧ Grow w w' := by
  unfold szL
  by_cases h : l - n < 0
  all_goals
    go_enter Try.func59, Try.ntmps59
    go_wp2
    go_ret
    exact ⟨by simp, Grow.refl _⟩

end Go.Proofs.Ytbjnbhlpibadnaa
