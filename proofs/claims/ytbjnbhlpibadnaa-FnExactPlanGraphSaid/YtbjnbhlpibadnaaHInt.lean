/- Contracts of the harness functions of int -/
import Derived.Test.YtbjnbhlpibadnaaProg
import Derived.Test.YtbjnbhlpibadnaaDat
namespace Go.Proofs.Ytbjnbhlpibadnaa
open Go.RowKit
set_option linter.unusedSimpArgs false
set_option linter.unusedVariables false
theorem infoInt : (Try.prog.info? 3).map (fun i => (i.zero, i.size, i.bytes)) = some (some (.int .i64 0), 1, 8) := by kernel_rfl

theorem madeInt (n : Nat) (hn : n ≤ 1048576) (w : World) : (Instr.makeSlice 25 (.int .i64 (n : Int)) (.int .i64 (n : Int))).run Try.prog w =
    .ok (.slice (some ⟨w.heap.size, 0, none⟩) n n) (w.alloc (.cells (madeCells #[.int .i64 0] (n * 1)) 3)) := by
  obtain ⟨i, hi, hz, hs, hb⟩ := info_parts infoInt
  have := run_make (P := Try.prog) w 25 3 i _ Try.underlying25 hi hz .i64 .i64 n n (by omega) (Int.le_refl _) (by rw [hb]; omega) (by omega)
  simpa [hs, Value.cells] using this

set_option maxHeartbeats 1000000 in
set_option maxRecDepth 100000 in
theorem toIntS_c (xs : List Int) (a : Option Addr) (cap : Nat) (w : World) (hv : SlR 1 repInt w 0 w.heap.size (.slice a xs.length cap) xs) (hn : xs.length ≤ 1048576) :
    Calls Try.prog 12 #[.slice a xs.length cap] w fun e w' => ∃ a' cap', e = .returned (.slice a' xs.length cap') ∧ Grow w w' ∧ SlR 1 repInt w' w.heap.size w'.heap.size (.slice a' xs.length cap') xs := by
  obtain ⟨a_, cap_, heq, hc1, hc2, hsl⟩ := hv
  injection heq with q1 q2 q3
  subst q1 q3
  clear q2
  have hmk := fun w => madeInt xs.length hn w
  have HS := Lib.hid hsl; clear hsl
  go_enter Try.func12, Try.ntmps12
  go_wp2
  have hg0 : Grow w (w.alloc (.cells (madeCells #[.int .i64 0] (xs.length * 1)) 3)) := (Grow.refl _).alloc _ _
  go_loopg [4] xs.length (fun g i wr => ∃ k : Nat, k + g = xs.length ∧ i = .int .i64 k ∧ w.heap.size < wr.heap.size ∧ Grow w wr ∧ Filled wr w.heap.size 1 xs.length k (fun i => (xs[i]?.map encInt).getD []))
  case atStart => exact ⟨0, by omega, rfl, by simp, by simpa using hg0, by have hfm := Filled.made w #[.int .i64 0] 1 xs.length 3 (fun i => (xs[i]?.map encInt).getD []); simp only [Nat.mul_one] at hfm; exact hfm⟩
  case round =>
    obtain ⟨k, hk, rfl, hz, hg, hfl⟩ := hrel
    clear hg0
    by_cases hlt : k < xs.length
    · rcases HS.out with h0 | ⟨b, off, rfl, hb1, hb2, hel⟩
      · exfalso; rw [h0] at hlt; exact absurd hlt (by simp)
      obtain ⟨e0, ewf⟩ := Int.atCell (hel.same repInt_stable (hg.same (Nat.le_refl _)) hb1 hb2) k hlt
      have hget : xs[k]? = some xs[k] := List.getElem?_eq_getElem hlt
      have HG := Lib.hid hg; have HF := Lib.hid hfl; have HX := Lib.hid hget; have HK := Lib.hid hk; clear hg hfl hget hel hk
      generalize hx : xs[k] = x at *
      have HXX := Lib.hid hx; clear hx
      have hf1 := HF.out
      have hG := HG.out
      have hz1 := hz
      obtain ⟨u0, d0⟩ := hf1.some hlt 0 (by omega)
      simp only [Nat.add_zero, Nat.mul_one] at d0
      have fz : ∀ o, wr.frozen? ⟨w.heap.size, o, none⟩ = false := fun o => hG.nf _ o (Nat.le_refl _) hz1
      have HG1 := Lib.hid hG; have HF1 := Lib.hid hf1; clear hG hf1
      go_wp2
      go_roundg (xs.length - (k + 1))
      case measure => have := HK.out; omega
      case rel =>
        have hfin := HF1.out.store hlt (fun i hi => by
          rw [List.getElem?_eq_getElem (by omega)]; rfl)
        have hgr := Grow.setCells (Nat.le_refl _) (encInt x) (k * 1) HG1.out
        rw [show (xs[k]?.map encInt).getD [] = encInt x from by rw [HX.out]; rfl] at hfin
        rw [Nat.mul_one] at hfin hgr
        exact ⟨k + 1, by omega, by go_num, by simpa using hz1, hgr, hfin⟩
    · obtain rfl : k = xs.length := by omega
      have HG := Lib.hid hg; have HF := Lib.hid hfl; clear hg hfl
      go_wp2
      go_ret
      refine ⟨_, _, rfl, HG.out, SlR.of_filled HF.out (Nat.le_refl _) hz (by unfold maxLen; omega) (fun i hi' => ?_)⟩
      rcases HS.out with h0 | ⟨b, off, rfl, hb1, hb2, hel⟩
      · rw [h0] at hi'; exact absurd hi' (by simp)
      · obtain ⟨cs, ⟨_, h2⟩, _⟩ := hel i hi'
        exact ⟨by rw [List.getElem?_eq_getElem hi']; rfl, h2⟩

set_option maxHeartbeats 1000000 in
set_option maxRecDepth 100000 in
theorem eqIntS_c (xs : List Int) (a a' : Option Addr) (cap cap' : Nat) (w : World) (hv : SlR 1 repInt w 0 w.heap.size (.slice a xs.length cap) xs) (hv' : SlR 1 repInt w 0 w.heap.size (.slice a' xs.length cap') xs) :
    Calls Try.prog 14 #[.slice a xs.length cap, .slice a' xs.length cap'] w fun e w' => e = .returned (.bool true) ∧ Grow w w' := by
  obtain ⟨a_, cap_, heq, hc1, hc2, hsl⟩ := hv
  injection heq with q1 q2 q3
  subst q1 q3
  obtain ⟨a_', cap_', heq', hc1', hc2', hsl'⟩ := hv'
  injection heq' with q1' q2' q3'
  subst q1' q3'
  have hm : xs.length ≤ 9223372036854775807 := by unfold maxLen at hc2; omega
  clear hc1 hc2 hc1' hc2' q2 q2'
  have HS := Lib.hid hsl; clear hsl
  have HS' := Lib.hid hsl'; clear hsl'
  have hbne : ((xs.length : Int) != (xs.length : Int)) = false := by simp
  go_enter Try.func14, Try.ntmps14
  go_wp2
  go_loopg [5] xs.length (fun g i wr => ∃ k : Nat, k + g = xs.length ∧ i = .int .i64 k ∧ Grow w wr)
  case atStart => exact ⟨0, by omega, rfl, Grow.refl _⟩
  case round =>
    obtain ⟨k, hk, rfl, hg⟩ := hrel
    by_cases hlt : k < xs.length
    · rcases HS.out with h0 | ⟨b, off, rfl, hb1, hb2, hel⟩
      · exfalso; rw [h0] at hlt; exact absurd hlt (by simp)
      rcases HS'.out with h0 | ⟨b', off', rfl, hb1', hb2', hel'⟩
      · exfalso; rw [h0] at hlt; exact absurd hlt (by simp)
      obtain ⟨e0, _⟩ := Int.atCell (hel.same repInt_stable (hg.same (Nat.le_refl _)) hb1 hb2) k hlt
      obtain ⟨e0', _⟩ := Int.atCell (hel'.same repInt_stable (hg.same (Nat.le_refl _)) hb1' hb2') k hlt
      have HG := Lib.hid hg; have HK := Lib.hid hk; clear hg hel hel' hk HS HS'
      generalize xs[k] = x at *
      go_wp2_with fail
      have hxx : (x != x) = false := by simp
      go_quiet (fail)
      go_wp2
      go_roundg (xs.length - (k + 1))
      case measure => have := HK.out; omega
      case rel => exact ⟨k + 1, by omega, by go_num, by first | exact HG.out.drew | exact HG.out.drewN _⟩
    · obtain rfl : k = xs.length := by omega
      have HG := Lib.hid hg; clear hg
      go_wp2
      go_ret
      exact ⟨rfl, HG.out⟩

end Go.Proofs.Ytbjnbhlpibadnaa
