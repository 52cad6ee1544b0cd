/- The law FnScore, walked over the contracts. -/
import Derived.Test.YteklopbnkclfaaaDraw2
import Derived.Test.YteklopbnkclfaaaScore1
namespace Go.Proofs.Yteklopbnkclfaaa
open Go.RowKit
set_option linter.unusedSimpArgs false
set_option linter.unusedVariables false

theorem score_facts (n : Int) (h : -100 ≤ n ∧ n ≤ 100) : n ≤ scoreUp n ∧ scoreDown n ≤ n ∧ scoreOk (scoreUp n) = true ∧ scoreOk (scoreDown n) = true := by
  unfold scoreUp scoreDown
  rw [if_pos h, if_pos h]
  refine ⟨?_, ?_, ?_, ?_⟩
  · split <;> omega
  · split <;> omega
  · apply score_yes; split <;> omega
  · apply score_yes; split <;> omega
theorem fade_le (z : Int) (k : Nat) (h : k < 100) (h1 : -(100 - (k : Int)) ≤ z) (h2 : z ≤ 100 - (k : Int)) : -(100 - ((k + 1 : Nat) : Int)) ≤ fade z ∧ fade z ≤ 100 - ((k + 1 : Nat) : Int) := by
  unfold fade
  rw [if_pos (by omega)]
  split
  · omega
  · split <;> omega

set_option maxHeartbeats 8000000 in
set_option maxRecDepth 100000 in
theorem FnScore_walk (xs : List Int) (a : Option Addr) (c : Nat) (w : World) (h : SlR 1 repByte w 0 w.heap.size (.slice a xs.length c) xs) :
    Calls Try.prog 11 #[.slice a xs.length c] w fun e w' => e = .returned (.bool true) ∧ Grow w w' := by
  have hm : xs.length ≤ 9223372036854775807 := by obtain ⟨_, _, _, _, hh, _⟩ := h; unfold maxLen at hh; omega
  by_cases hn : xs.length ≤ 1048576
  rotate_left
  · have q : decide ((1048576 : Int) < (xs.length : Int)) = true := by simp; omega
    go_enter Try.func11, Try.ntmps11
    go_wp2_with fail
    all_goals
      go_ret
      exact ⟨rfl, Grow.refl _⟩
  have q : decide ((1048576 : Int) < (xs.length : Int)) = false := by simp; omega
  go_enter Try.func11, Try.ntmps11
  go_wp2_with fail
  refine (DrawScoreUp_c xs _ _ _ h hn).mono ?_
  rintro e w1 ⟨n, rfl, g1⟩
  have HG := Lib.hid g1; clear g1
  go_wp2_with fail
  refine (impl_ScoreOk_c n _).mono ?_
  rintro e w2 ⟨rfl, rfl⟩
  go_wp2_with fail
  refine (spec_ScoreOk_c n _).mono ?_
  rintro e w2 ⟨rfl, rfl⟩
  have hbb : (scoreOk n != scoreOk n) = false := by simp
  by_cases hs : -100 ≤ n ∧ n ≤ 100
  rotate_left
  · have u1 := score_no hs
    have u2 : scoreUp n = 0 := by unfold scoreUp; rw [if_neg hs]
    have u3 : scoreDown n = 0 := by unfold scoreDown; rw [if_neg hs]
    have u4 : fade n = 0 := by unfold fade; rw [if_neg hs]
    clear hs
    go_wp2_with fail
    refine (spec_ScoreOk_c n _).mono ?_
    rintro e w2 ⟨rfl, rfl⟩
    go_wp2_with fail
    refine (impl_ScoreUp_c n _).mono ?_
    rw [u2]
    rintro e w2 ⟨rfl, rfl⟩
    go_wp2_with fail
    refine (impl_ScoreDown_c n _).mono ?_
    rw [u3]
    rintro e w2 ⟨rfl, rfl⟩
    go_wp2_with fail
    refine (impl_ScoreFade_c n _).mono ?_
    rw [u4]
    rintro e w2 ⟨rfl, rfl⟩
    go_wp2_with fail
    go_ret
    exact ⟨rfl, HG.out⟩
  have u1 := score_yes hs
  obtain ⟨f1, f2, f3, f4⟩ := score_facts n hs
  have HS := Lib.hid hs; clear hs
  have F1 := Lib.hid f1
  have F2 := Lib.hid f2
  have F3 := Lib.hid f3
  have F4 := Lib.hid f4
  clear f1 f2 f3 f4
  go_wp2_with fail
  refine (spec_ScoreOk_c n _).mono ?_
  rintro e w2 ⟨rfl, rfl⟩
  go_wp2_with fail
  go_loopg [4, 5] 100 (fun g m i wr => ∃ (k : Nat) (z : Int), k + g = 100 ∧ i = .int .i64 k ∧ m = .int .i64 z ∧ -(100 - (k : Int)) ≤ z ∧ z ≤ 100 - (k : Int) ∧ Grow w wr)
  case atStart => have hs := HS.out; exact ⟨0, n, by omega, rfl, rfl, by omega, by omega, HG.out⟩
  case round =>
    obtain ⟨k, z, hk, rfl, rfl, z1, z2, g2⟩ := hrel
    have HG2 := Lib.hid g2; clear g2
    by_cases hlt : k < 100
    · have hf := fade_le z k hlt z1 z2
      have HK := Lib.hid hk
      have HF := Lib.hid hf
      clear hf hk z1 z2
      go_wp2_with fail
      refine (impl_ScoreFade_c z _).mono ?_
      rintro e w2 ⟨rfl, rfl⟩
      go_wp2_with fail
      go_roundg (100 - (k + 1))
      case measure => have := HK.out; omega
      case rel => exact ⟨k + 1, _, by have := HK.out; omega, by go_num, rfl, HF.out.1, HF.out.2, HG2.out⟩
    · obtain rfl : k = 100 := by omega
      obtain rfl : z = 0 := by omega
      clear z1 z2 hk
      go_wp2_with fail
      obtain ⟨u, hu⟩ : ∃ u, u = scoreUp n := ⟨_, rfl⟩
      obtain ⟨d, hd⟩ : ∃ d, d = scoreDown n := ⟨_, rfl⟩
      refine (impl_ScoreUp_c n _).mono ?_
      have f1 := F1.out
      have f2 := F2.out
      have f3 := F3.out
      have f4 := F4.out
      rw [← hu] at f1 f3
      rw [← hd] at f2 f4
      rw [← hu]
      have HU := Lib.hid hu
      have HD := Lib.hid hd
      clear hu hd F1 F2 F3 F4
      rintro e w2 ⟨rfl, rfl⟩
      go_wp2_with fail
      refine (impl_ScoreDown_c n _).mono ?_
      rw [← HD.out]
      rintro e w2 ⟨rfl, rfl⟩
      go_wp2_with fail
      refine (impl_ScoreUp_c n _).mono ?_
      rw [← HU.out]
      rintro e w2 ⟨rfl, rfl⟩
      go_wp2_with fail
      refine (impl_ScoreOk_c u _).mono ?_
      rintro e w2 ⟨rfl, rfl⟩
      go_wp2_with fail
      refine (impl_ScoreDown_c n _).mono ?_
      rw [← HD.out]
      rintro e w2 ⟨rfl, rfl⟩
      go_wp2_with fail
      refine (impl_ScoreOk_c d _).mono ?_
      rintro e w2 ⟨rfl, rfl⟩
      by_cases t : n = 20
      · subst t
        go_wp2_with fail
        refine (impl_Standing_c 20 true _).mono ?_
        rintro e w2 ⟨rfl, rfl⟩
        go_wp2_with fail
        go_ret
        exact ⟨by simp [*], HG2.out⟩
      · have q2 : (n != 20) = true := by simpa using t
        go_wp2_with fail
        go_ret
        exact ⟨by simp [*], HG2.out⟩
end Go.Proofs.Yteklopbnkclfaaa
