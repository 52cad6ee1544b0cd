/- The law FnAllow, walked over the contracts. -/
import Derived.Test.YteklopbnkclfaaaDraw2
import Derived.Test.YteklopbnkclfaaaAllowS
import Derived.Test.YteklopbnkclfaaaAllowI
namespace Go.Proofs.Yteklopbnkclfaaa
open Go.RowKit
set_option linter.unusedSimpArgs false
set_option linter.unusedVariables false

theorem allow_facts (s fw al sf sa am : Int) :
    (allow s fw al sf sa am false = 1 → allow s fw al sf sa am true = 1) ∧ allow s fw al sf sa am false ≠ 2 ∧ (allow s fw al sf sa am false = 0 → allow s fw al sf sa am true ≠ 1) ∧
    (allow s fw al sf sa am false = 0 ∨ allow s fw al sf sa am false = 1) ∧ (allow s fw al sf sa am true = 0 ∨ allow s fw al sf sa am true = 1 ∨ allow s fw al sf sa am true = 2) ∧
    (allow s fw al sf sa am true ≠ 0 → 0 ≤ al ∧ al ≤ 1125899906842624 ∧ 0 ≤ am ∧ am ≤ 1125899906842624 ∧ al + am ≤ s ∧ sa < 10) := by
  unfold allow
  by_cases h : allowIn s fw al sf sa am = true
  · simp only [h, if_true]
    have hv : 0 ≤ al ∧ al ≤ 1125899906842624 ∧ 0 ≤ am ∧ am ≤ 1125899906842624 := by
      unfold allowIn at h
      simp only [Bool.and_eq_true] at h
      have h1 := amtOk_true.1 h.1.1.1.1.1.2
      have h2 := amtOk_true.1 h.1.1.1.1.2
      exact ⟨h1.1, h1.2, h2.1, h2.2⟩
    by_cases r : sa < 10 ∧ al + am ≤ s
    · by_cases t : sf < 5 ∧ fw + am ≤ s / 2
      · simp [r, t, hv]
      · simp [r, t, hv]
    · simp [r]
  · simp [h]

set_option maxHeartbeats 8000000 in
set_option maxRecDepth 100000 in
theorem FnAllow_walk (xs : List Int) (a : Option Addr) (c : Nat) (w : World) (h : SlR 1 repByte w 0 w.heap.size (.slice a xs.length c) xs) :
    Calls Try.prog 12 #[.slice a xs.length c] w fun e w' => e = .returned (.bool true) ∧ Grow w w' := by
  have hm : xs.length ≤ 9223372036854775807 := by obtain ⟨_, _, _, _, hh, _⟩ := h; unfold maxLen at hh; omega
  by_cases hn : xs.length ≤ 1048576
  rotate_left
  · have q : decide ((1048576 : Int) < (xs.length : Int)) = true := by simp; omega
    go_enter Try.func12, Try.ntmps12
    go_wp2_with fail
    all_goals
      go_ret
      exact ⟨rfl, Grow.refl _⟩
  have q : decide ((1048576 : Int) < (xs.length : Int)) = false := by simp; omega
  go_enter Try.func12, Try.ntmps12
  go_wp2_with fail
  refine (DrawAllow_c xs _ _ _ h hn).mono ?_
  rintro e w1 ⟨s, fw, al, sf, sa, am, gd, rfl, g1⟩
  obtain ⟨f1, f2, f3, f4, f5, f6⟩ := allow_facts s fw al sf sa am
  go_wp2_with fail
  refine (impl_Allow_c s fw al sf sa am false _).mono ?_
  rintro e w2 ⟨rfl, g2⟩
  go_wp2_with fail
  refine (impl_Allow_c s fw al sf sa am true _).mono ?_
  rintro e w3 ⟨rfl, g3⟩
  go_wp2_with fail
  refine (impl_Allow_c s fw al sf sa am gd _).mono ?_
  rintro e w4 ⟨rfl, g4⟩
  go_wp2_with fail
  refine (spec_Allow_c s fw al sf sa am gd _).mono ?_
  rintro e w5 ⟨rfl, g5⟩
  have G := (((g1.trans g2).trans g3).trans g4).trans g5
  have hbb : (allow s fw al sf sa am gd != allow s fw al sf sa am gd) = false := by simp
  have HG := Lib.hid G; clear G g1 g2 g3 g4 g5
  generalize allow s fw al sf sa am gd = v at *
  generalize allow s fw al sf sa am false = x at *
  generalize allow s fw al sf sa am true = y at *
  have hxy : (x = 0 ∧ y = 0) ∨ (x = 0 ∧ y = 2) ∨ (x = 1 ∧ y = 1) := by omega
  clear f1 f2 f3 f4 f5
  rcases hxy with ⟨rfl, rfl⟩ | ⟨rfl, rfl⟩ | ⟨rfl, rfl⟩
  · clear f6
    go_wp2_with fail
    go_ret
    exact ⟨rfl, HG.out⟩
  all_goals
    obtain ⟨u1, u2, u3, u4, u5, u6⟩ := f6 (by omega)
    clear f6
    go_wp2_with fail
    go_ret
    exact ⟨by simp [*], HG.out⟩
end Go.Proofs.Yteklopbnkclfaaa
