/- The draws of a score and of Allow's numbers. -/
import Derived.Test.YteklopbnkclfaaaDraw1
namespace Go.Proofs.Yteklopbnkclfaaa
open Go.RowKit
set_option linter.unusedSimpArgs false
set_option linter.unusedVariables false

theorem results_tmp7 {fn : Func} {t0 t1 t2 t3 t4 t5 t6 : Tmp} (h : fn.results = #[.tmp t0, .tmp t1, .tmp t2, .tmp t3, .tmp t4, .tmp t5, .tmp t6]) (tmps : Array Value) (P : Program) (w : World) :
    (results fn tmps).run P w = .ok (.tuple #[tmps.getD t0 undef, tmps.getD t1 undef, tmps.getD t2 undef, tmps.getD t3 undef, tmps.getD t4 undef, tmps.getD t5 undef, tmps.getD t6 undef]) w := by
  simp [results, h]

set_option maxHeartbeats 4000000 in
theorem DrawScoreUp_c (xs : List Int) (a : Option Addr) (c : Nat) (w : World) (h : SlR 1 repByte w 0 w.heap.size (.slice a xs.length c) xs) (hn : xs.length ≤ 1048576) :
    Calls Try.prog 42 #[.slice a xs.length c] w fun e w' => ∃ n : Int, e = .returned (.int .i64 n) ∧ Grow w w' := by
  go_enter Try.func42, Try.ntmps42
  go_wp2_with fail
  refine (l01New_c xs _ _ _ h hn).mono ?_
  rintro e w1 ⟨p, rfl, hp, c1, g1⟩
  go_wp2_with fail
  refine (l06Score_c p xs _ c1).mono ?_
  rintro e w2 ⟨n, rfl, c2, m2⟩
  go_wp2_with fail
  go_ret
  exact ⟨_, rfl, g1.mv m2 hp⟩

set_option maxHeartbeats 8000000 in
set_option maxRecDepth 100000 in
theorem DrawAllow_c (xs : List Int) (a : Option Addr) (c : Nat) (w : World) (h : SlR 1 repByte w 0 w.heap.size (.slice a xs.length c) xs) (hn : xs.length ≤ 1048576) :
    Calls Try.prog 49 #[.slice a xs.length c] w fun e w' => ∃ (s fw al sf sa am : Int) (gd : Bool), e = .returned (.tuple #[.int .i64 s, .int .i64 fw, .int .i64 al, .int .i64 sf, .int .i64 sa, .int .i64 am, .bool gd]) ∧ Grow w w' := by
  go_enter Try.func49, Try.ntmps49
  go_wp2_with fail
  refine (l01New_c xs _ _ _ h hn).mono ?_
  rintro e w1 ⟨p, rfl, hp, c1, g1⟩
  have G1 := g1
  have P1 : p < w1.heap.size := by obtain ⟨_, _, _, _, h0, _⟩ := c1; exact lt_of_cell h0
  go_wp2_with fail
  refine (l01Below_c p xs _ _ c1 (by omega) (by omega)).mono ?_
  rintro e w2 ⟨n2, rfl, n2a, n2b, c2, m2⟩
  have G2 := G1.mv m2 hp
  go_wp2_with fail
  refine (l01Below_c p xs _ _ c2 (by omega) (by omega)).mono ?_
  rintro e w3 ⟨n3, rfl, n3a, n3b, c3, m3⟩
  have G3 := G2.mv m3 hp
  go_wp2_with fail
  refine (l01Below_c p xs _ _ c3 (by omega) (by omega)).mono ?_
  rintro e w4 ⟨n4, rfl, n4a, n4b, c4, m4⟩
  have G4 := G3.mv m4 hp
  go_wp2_with fail
  refine (l01Below_c p xs _ _ c4 (by omega) (by omega)).mono ?_
  rintro e w5 ⟨n5, rfl, n5a, n5b, c5, m5⟩
  have G5 := G4.mv m5 hp
  go_wp2_with fail
  refine (l01Below_c p xs _ _ c5 (by omega) (by omega)).mono ?_
  rintro e w6 ⟨n6, rfl, n6a, n6b, c6, m6⟩
  have G6 := G5.mv m6 hp
  go_wp2_with fail
  refine (l01Below_c p xs _ _ c6 (by omega) (by omega)).mono ?_
  rintro e w7 ⟨n7, rfl, n7a, n7b, c7, m7⟩
  have G7 := G6.mv m7 hp
  go_wp2_with fail
  refine (l01Below_c p xs _ _ c7 (by omega) (by omega)).mono ?_
  rintro e w8 ⟨n8, rfl, n8a, n8b, c8, m8⟩
  have G8 := G7.mv m8 hp
  by_cases t1 : n8 = 0
  · subst t1
    go_wp2_with fail
    refine (l01Below_c p xs _ _ c8 (by omega) (by omega)).mono ?_
    rintro e w9 ⟨n9, rfl, n9a, n9b, c9, m9⟩
    have G9 := G8.mv m9 hp
    go_wp2_with fail
    refine (l01Below_c p xs _ _ c9 (by omega) (by omega)).mono ?_
    rintro e w10 ⟨n10, rfl, n10a, n10b, c10, m10⟩
    have G10 := G9.mv m10 hp
    have hk : n10 = 0 ∨ n10 = 1 ∨ n10 = 2 ∨ n10 = 3 ∨ (n10 ≠ 0 ∧ n10 ≠ 1 ∧ n10 ≠ 2 ∧ n10 ≠ 3) := by omega
    clear n10a n10b
    rcases hk with rfl | rfl | rfl | rfl | ⟨u0, u1, u2, u3⟩
    case inr.inr.inr.inr =>
      have u0 : (n10 == 0) = false := by simpa using u0
      have u1 : (n10 == 1) = false := by simpa using u1
      have u2 : (n10 == 2) = false := by simpa using u2
      have u3 : (n10 == 3) = false := by simpa using u3
      go_wp2_with fail
      refine (l01Below_c p xs _ _ c10 (by omega) (by omega)).mono ?_
      rintro e wz ⟨nz, rfl, nza, nzb, cz, mz⟩
      have Gz := G10.mv mz hp
      go_wp2_with fail
      refine bodyPost_ret (results_tmp7 rfl _ _ _) rfl ?_
      exact ⟨_, _, _, _, _, _, _, rfl, Gz⟩
    all_goals
      go_wp2_with fail
      refine (l01Raw_c p xs _ c10).mono ?_
      rintro e wy ⟨ny, rfl, cy, my⟩
      have Gy := G10.mv my hp
      go_wp2_with fail
      refine (l01Below_c p xs _ _ cy (by omega) (by omega)).mono ?_
      rintro e wz ⟨nz, rfl, nza, nzb, cz, mz⟩
      have Gz := Gy.mv mz hp
      go_wp2_with fail
      refine bodyPost_ret (results_tmp7 rfl _ _ _) rfl ?_
      exact ⟨_, _, _, _, _, _, _, rfl, Gz⟩
  · have t1' : (n8 == 0) = false := by simpa using t1
    go_wp2_with fail
    refine (l01Below_c p xs _ _ c8 (by omega) (by omega)).mono ?_
    rintro e w9 ⟨n9, rfl, n9a, n9b, c9, m9⟩
    have G9 := G8.mv m9 hp
    have hk : n9 = 0 ∨ n9 = 1 ∨ n9 = 2 ∨ n9 = 3 ∨ (n9 ≠ 0 ∧ n9 ≠ 1 ∧ n9 ≠ 2 ∧ n9 ≠ 3) := by omega
    clear n9a n9b
    rcases hk with rfl | rfl | rfl | rfl | ⟨u0, u1, u2, u3⟩
    case inr.inr.inr.inr =>
      have u0 : (n9 == 0) = false := by simpa using u0
      have u1 : (n9 == 1) = false := by simpa using u1
      have u2 : (n9 == 2) = false := by simpa using u2
      have u3 : (n9 == 3) = false := by simpa using u3
      go_wp2_with fail
      refine (l01Below_c p xs _ _ c9 (by omega) (by omega)).mono ?_
      rintro e wz ⟨nz, rfl, nza, nzb, cz, mz⟩
      have Gz := G9.mv mz hp
      go_wp2_with fail
      refine bodyPost_ret (results_tmp7 rfl _ _ _) rfl ?_
      exact ⟨_, _, _, _, _, _, _, rfl, Gz⟩
    all_goals
      go_wp2_with fail
      refine (l01Raw_c p xs _ c9).mono ?_
      rintro e wy ⟨ny, rfl, cy, my⟩
      have Gy := G9.mv my hp
      go_wp2_with fail
      refine (l01Below_c p xs _ _ cy (by omega) (by omega)).mono ?_
      rintro e wz ⟨nz, rfl, nza, nzb, cz, mz⟩
      have Gz := Gy.mv mz hp
      go_wp2_with fail
      refine bodyPost_ret (results_tmp7 rfl _ _ _) rfl ?_
      exact ⟨_, _, _, _, _, _, _, rfl, Gz⟩
end Go.Proofs.Yteklopbnkclfaaa
