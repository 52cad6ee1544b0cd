/- Contracts of the harness functions of Event -/
import Derived.Test.YtigbjpllckgilaaProg
import Derived.Test.YtigbjpllckgilaaDat
namespace Go.Proofs.Ytigbjpllckgilaa
open Go.RowKit
set_option linter.unusedSimpArgs false
set_option linter.unusedVariables false
set_option maxHeartbeats 400000 in
theorem eqEvent_c (x : Event) (w : World) :
    Calls Try.prog 99 #[.agg #[.int .i64 x.kind, .int .i64 x.key, .int .i64 x.ch, .int .i64 x.to, .int .i64 x.amt, .int .i64 x.fee, .bool x.yes], .agg #[.int .i64 x.kind, .int .i64 x.key, .int .i64 x.ch, .int .i64 x.to, .int .i64 x.amt, .int .i64 x.fee, .bool x.yes]] w fun e w' => e = .returned (.bool true) ∧ Grow w w' := by
  obtain ⟨kind, key, ch, to, amt, fee, yes⟩ := x
  go_enter Try.func99, Try.ntmps99
  go_wp2
  all_goals
    go_ret
    refine ⟨rfl, ?_⟩
    repeat (first | exact Grow.refl _ | (refine Grow.setCell ?_ (by dsimp only; (try simp only [World.size_alloc, World.size_setCell]); omega) _) | (refine Grow.alloc ?_ _ _) | (refine Grow.drew ?_) | (refine Grow.trans ?_ (by assumption)))

set_option maxHeartbeats 1000000 in
set_option maxRecDepth 100000 in
theorem eqEventS_c (xs : List Event) (a a' : Option Addr) (cap cap' : Nat) (w : World) (hv : SlR 7 repEvent w 0 w.heap.size (.slice a xs.length cap) xs) (hv' : SlR 7 repEvent w 0 w.heap.size (.slice a' xs.length cap') xs) :
    Calls Try.prog 42 #[.slice a xs.length cap, .slice a' xs.length cap'] w fun e w' => e = .returned (.bool true) ∧ Grow w w' := by
  obtain ⟨a_, cap_, heq, hc1, hc2, hsl⟩ := hv
  injection heq with q1 q2 q3
  subst q1 q3
  obtain ⟨a_', cap_', heq', hc1', hc2', hsl'⟩ := hv'
  injection heq' with q1' q2' q3'
  subst q1' q3'
  have hm : xs.length ≤ 9223372036854775807 := by unfold maxLen at hc2; omega
  clear hc1 hc2 hc1' hc2' q2 q2'
  have HS := Lib.hid hsl; clear hsl
  have HS' := Lib.hid hsl'; clear hsl'
  have hbne : ((xs.length : Int) != (xs.length : Int)) = false := by simp
  go_enter Try.func42, Try.ntmps42
  go_wp2
  go_loopg [5] xs.length (fun g i wr => ∃ k : Nat, k + g = xs.length ∧ i = .int .i64 k ∧ Grow w wr)
  case atStart => exact ⟨0, by omega, rfl, Grow.refl _⟩
  case round =>
    obtain ⟨k, hk, rfl, hg⟩ := hrel
    by_cases hlt : k < xs.length
    · rcases HS.out with h0 | ⟨b, off, rfl, hb1, hb2, hel⟩
      · exfalso; rw [h0] at hlt; exact absurd hlt (by simp)
      rcases HS'.out with h0 | ⟨b', off', rfl, hb1', hb2', hel'⟩
      · exfalso; rw [h0] at hlt; exact absurd hlt (by simp)
      obtain ⟨e0, e1, e2, e3, e4, e5, e6, _⟩ := Event.atCell (hel.same repEvent_stable (hg.same (Nat.le_refl _)) hb1 hb2) k hlt
      obtain ⟨e0', e1', e2', e3', e4', e5', e6', _⟩ := Event.atCell (hel'.same repEvent_stable (hg.same (Nat.le_refl _)) hb1' hb2') k hlt
      have HG := Lib.hid hg; have HK := Lib.hid hk; clear hg hel hel' hk HS HS'
      generalize xs[k] = x at *
      go_wp2_with fail
      go_still_tail 8, (by kernel_rfl)
      go_wp2_with fail
      refine (eqEvent_c _ _).mono ?_
      rintro e w1 ⟨rfl, hg1⟩
      go_wp2
      go_roundg (xs.length - (k + 1))
      case measure => have := HK.out; omega
      case rel => exact ⟨k + 1, by omega, by go_num, HG.out.drew.trans hg1⟩
    · obtain rfl : k = xs.length := by omega
      have HG := Lib.hid hg; clear hg
      go_wp2
      go_ret
      exact ⟨rfl, HG.out⟩

end Go.Proofs.Ytigbjpllckgilaa
