/- The draws' numbers of any kind, scores; a new cursor. -/
import Derived.Test.YteklopbnkclfaaaDraw0
namespace Go.Proofs.Yteklopbnkclfaaa
open Go.RowKit
set_option linter.unusedSimpArgs false
set_option linter.unusedVariables false

set_option maxHeartbeats 4000000 in
set_option maxRecDepth 100000 in
theorem l01Raw_c (p : Nat) (xs : List Int) (w : World) (h : Cur w p xs) :
    Calls Try.prog 72 #[.pointer (some ⟨p, 0, none⟩)] w fun e w' => ∃ n : Int, e = .returned (.int .i64 n) ∧ Cur w' p xs ∧ Mv p w w' := by
  have hp : p < w.heap.size := by obtain ⟨_, _, _, _, h0, _⟩ := h; exact lt_of_cell h0
  go_enter Try.func72, Try.ntmps72
  go_wp2_with fail
  refine (l01Below_c p xs 11 _ h (by omega) (by omega)).mono ?_
  rintro e w1 ⟨k, rfl, ka, kb, c1, m1⟩
  by_cases k4 : k < 4
  · go_wp2_with fail
    refine (l01Below_c p xs _ _ c1 (by omega) (by omega)).mono ?_
    rintro e w2 ⟨n, rfl, na, nb, c2, m2⟩
    go_wp2_with fail
    go_ret
    exact ⟨_, rfl, c2, m1.trans m2 hp⟩
  have hk : k = 4 ∨ k = 5 ∨ k = 6 ∨ k = 7 ∨ k = 8 ∨ k = 9 ∨ k = 10 := by omega
  clear ka kb k4
  rcases hk with rfl | rfl | rfl | rfl | rfl | rfl | rfl
  case inr.inr.inr.inr.inr.inr =>
    go_wp2_with fail
    refine (l01Below_c p xs _ _ c1 (by omega) (by omega)).mono ?_
    rintro e w2 ⟨n, rfl, na, nb, c2, m2⟩
    go_wp2_with fail
    refine (l01Below_c p xs _ _ c2 (by omega) (by omega)).mono ?_
    rintro e w3 ⟨n', rfl, na', nb', c3, m3⟩
    go_wp2_with fail
    go_ret
    exact ⟨_, rfl, c3, (m1.trans m2 hp).trans m3 hp⟩
  all_goals
    go_wp2_with fail
    refine (l01Below_c p xs _ _ c1 (by omega) (by omega)).mono ?_
    rintro e w2 ⟨n, rfl, na, nb, c2, m2⟩
    go_wp2_with fail
    go_ret
    exact ⟨_, rfl, c2, m1.trans m2 hp⟩

set_option maxHeartbeats 4000000 in
set_option maxRecDepth 100000 in
theorem l06Score_c (p : Nat) (xs : List Int) (w : World) (h : Cur w p xs) :
    Calls Try.prog 70 #[.pointer (some ⟨p, 0, none⟩)] w fun e w' => ∃ n : Int, e = .returned (.int .i64 n) ∧ Cur w' p xs ∧ Mv p w w' := by
  have hp : p < w.heap.size := by obtain ⟨_, _, _, _, h0, _⟩ := h; exact lt_of_cell h0
  go_enter Try.func70, Try.ntmps70
  go_wp2_with fail
  refine (l01Below_c p xs _ _ h (by omega) (by omega)).mono ?_
  rintro e w1 ⟨n, rfl, na, nb, c1, m1⟩
  go_wp2_with fail
  refine (l01Below_c p xs _ _ c1 (by omega) (by omega)).mono ?_
  rintro e w2 ⟨k, rfl, ka, kb, c2, m2⟩
  have m12 := m1.trans m2 hp
  by_cases k0 : k = 0
  · subst k0
    go_wp2_with fail
    refine (l01Raw_c p xs _ c2).mono ?_
    rintro e w3 ⟨n3, rfl, c3, m3⟩
    go_wp2_with fail
    go_ret
    exact ⟨_, rfl, c3, m12.trans m3 hp⟩
  by_cases k1 : k = 1
  · subst k1
    go_wp2_with fail
    refine (l01Below_c p xs _ _ (c2.grow ((Grow.refl _).alloc _ _)) (by omega) (by omega)).mono ?_
    rintro e w3 ⟨j, rfl, ja, jb, c3, m3⟩
    have hb : ∀ o v, #[Value.int .i64 (-101), .int .i64 (-100), .int .i64 0, .int .i64 19, .int .i64 20, .int .i64 100, .int .i64 101][o]? = some v → w3.cell? ⟨w2.heap.size, o, none⟩ = some v := fun o v ho =>
      m3.cell (by have := m12.size; omega) (cell_new o ho)
    have m123 := (m12.alloc hp _ _).trans m3 hp
    have hj : j = 0 ∨ j = 1 ∨ j = 2 ∨ j = 3 ∨ j = 4 ∨ j = 5 ∨ j = 6 := by omega
    have b0 := hb 0 _ rfl
    have b1 := hb 1 _ rfl
    have b2 := hb 2 _ rfl
    have b3 := hb 3 _ rfl
    have b4 := hb 4 _ rfl
    have b5 := hb 5 _ rfl
    have b6 := hb 6 _ rfl
    clear hb ja jb
    have M := Lib.hid m123; clear m123 m3 m12 m1 m2
    rcases hj with rfl | rfl | rfl | rfl | rfl | rfl | rfl
    all_goals
      go_wp2_with fail
      go_ret
      exact ⟨_, rfl, c3, M.out⟩
  · have k0' : (k == 0) = false := by simpa using k0
    have k1' : (k == 1) = false := by simpa using k1
    go_wp2_with fail
    go_ret
    exact ⟨_, rfl, c2, m12⟩

theorem newCur {w : World} {xs : List Int} {a : Option Addr} {c : Nat} (h : SlR 1 repByte w 0 w.heap.size (.slice a xs.length c) xs) (hn : xs.length ≤ 1048576) (z : Int) (T : TypeId) :
    Cur (w.alloc (.cells #[.slice a xs.length c, .int .i64 0, .int .i64 z] T)) w.heap.size xs := by
  refine ⟨a, c, 0, z, cell_new 0 rfl, cell_new 1 rfl, cell_new 2 rfl, by omega, hn, fun o => ((Grow.refl w).alloc _ _).nf _ o (Nat.le_refl _) (by simp), ?_⟩
  obtain ⟨a_, c_, heq, _, _, h⟩ := h
  injection heq with q1 q2 q3
  subst q1
  rcases h with h0 | ⟨b, off, ha, hb1, hb2, he⟩
  · exact .inl h0
  · exact .inr ⟨b, off, ha, by omega, he.stable repByte_stable (Same.below ((Grow.refl w).alloc _ _).below (Nat.le_refl _)) (Nat.le_refl _) (by simp) hb1 hb2⟩

set_option maxHeartbeats 4000000 in
set_option maxRecDepth 100000 in
theorem l01New_c (xs : List Int) (a : Option Addr) (c : Nat) (w : World) (h : SlR 1 repByte w 0 w.heap.size (.slice a xs.length c) xs) (hn : xs.length ≤ 1048576) :
    Calls Try.prog 69 #[.slice a xs.length c] w fun e w' => ∃ p, e = .returned (.pointer (some ⟨p, 0, none⟩)) ∧ w.heap.size ≤ p ∧ Cur w' p xs ∧ Grow w w' := by
  have H := Lib.hid h
  go_enter Try.func69, Try.ntmps69
  go_wp2
  go_loopg [3, 4] xs.length (fun g hh i wr => ∃ (k : Nat) (z : Int), k + g = xs.length ∧ i = .int .i64 k ∧ hh = .int .i64 z ∧ 0 ≤ z ∧ z ≤ 1073741823 ∧ wr = w)
  case atStart => exact ⟨0, _, by omega, rfl, rfl, by omega, by omega, rfl⟩
  case round =>
    obtain ⟨k, z, hk, rfl, rfl, z1, z2, rfl⟩ := hrel
    by_cases hlt : k < xs.length
    · by_cases h4 : k < 4000
      · obtain ⟨b, off, rfl, hb1, hb2, hel⟩ := h.elems k hlt
        obtain ⟨e0, e1, e2⟩ := Byte.atCell hel k hlt
        have HK := Lib.hid hk
        clear hel h hk
        generalize xs[k] = y at *
        obtain ⟨q1, q2⟩ := bits_and_le (z * 149 + y + 9) 1073741823 (by decide)
        simp only [Int.cast_ofNat_Int] at q1 q2
        go_wp2_with fail
        go_roundg (xs.length - (k + 1))
        case measure => have := HK.out; omega
        case rel => exact ⟨k + 1, _, by have := HK.out; omega, by go_num, rfl, q1, q2, rfl⟩
      · clear h
        go_wp2_with fail
        go_ret
        exact ⟨_, rfl, Nat.le_refl _, newCur H.out hn z _, (Grow.refl _).alloc _ _⟩
    · clear h
      go_wp2_with fail
      all_goals
        go_ret
        exact ⟨_, rfl, Nat.le_refl _, newCur H.out hn z _, (Grow.refl _).alloc _ _⟩
end Go.Proofs.Yteklopbnkclfaaa
