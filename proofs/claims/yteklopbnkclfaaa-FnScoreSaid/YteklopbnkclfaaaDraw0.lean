/- The draws' cursor: one byte, a number below another, a number of any kind. -/
import Derived.Test.YteklopbnkclfaaaProg
import Derived.Test.YteklopbnkclfaaaCur0
namespace Go.Proofs.Yteklopbnkclfaaa
open Go.RowKit
set_option linter.unusedSimpArgs false
set_option linter.unusedVariables false

set_option maxHeartbeats 4000000 in
set_option maxRecDepth 100000 in
theorem l01Byte_c (p : Nat) (xs : List Int) (w : World) (h : Cur w p xs) :
    Calls Try.prog 84 #[.pointer (some ⟨p, 0, none⟩)] w fun e w' => ∃ n : Int, e = .returned (.int .i64 n) ∧ 0 ≤ n ∧ n ≤ 255 ∧ Cur w' p xs ∧ Mv p w w' := by
  obtain ⟨a, c, i, n, h0, h1, h2, h3, h4, h5, h6⟩ := h
  have hp := lt_of_cell h0
  have H6 := Lib.hid h6; clear h6
  go_enter Try.func84, Try.ntmps84
  go_wp2_with fail
  have hH : i64 (wrap64 (wrap64 (n * 6364136223846793005) + 1442695040888963407)) := wrap64_i64 _
  generalize wrap64 (wrap64 (n * 6364136223846793005) + 1442695040888963407) = H at *
  have k0 := cellSet2 (u := .int .i64 H) (o' := 2) h0 (by decide)
  have k1 := cellSet2 (u := .int .i64 H) (o' := 2) h1 (by decide)
  have k2 : (w.setCell ⟨p, 2, none⟩ (.int .i64 H)).cell? ⟨p, 2, none⟩ = some (.int .i64 H) := World.cell?_setCell_same w ⟨p, 2, none⟩ _ h2
  have k3 : ∀ o, (w.setCell ⟨p, 2, none⟩ (.int .i64 H)).frozen? ⟨p, o, none⟩ = false := fun o => by rw [World.frozen?_setCell]; exact h5 o
  have k4 := (Mv.refl p w).setCell 2 (.int .i64 H)
  obtain ⟨W, hW⟩ : ∃ W, W = w.setCell ⟨p, 2, none⟩ (.int .i64 H) := ⟨_, rfl⟩
  rw [← hW] at k0 k1 k2 k3 k4 ⊢
  clear hW h0 h1 h2 h5
  have K4 := Lib.hid k4; clear k4
  go_quiet (fail)
  generalize hZ : bits BinOp.xor IntKind.i64 _ _ = Z
  obtain ⟨x1, x2⟩ := bits_and_le Z 255 (by decide)
  simp only [Int.cast_ofNat_Int] at x1 x2
  generalize hX : bits BinOp.and IntKind.i64 Z 255 = X at *
  have k0' : (W.drewN nq).cell? ⟨p, 0, none⟩ = _ := k0
  have k1' : (W.drewN nq).cell? ⟨p, 1, none⟩ = _ := k1
  have k2' : (W.drewN nq).cell? ⟨p, 2, none⟩ = _ := k2
  have k3' : ∀ o, (W.drewN nq).frozen? ⟨p, o, none⟩ = false := k3
  have k4' := K4.out.drewN nq
  obtain ⟨V, hV⟩ : ∃ V, V = W.drewN nq := ⟨_, rfl⟩
  rw [← hV] at k0' k1' k2' k3' k4' ⊢
  clear hV k0 k1 k2 k3 K4 hX hZ
  have K4 := Lib.hid k4'; clear k4'
  by_cases hlt : i < xs.length
  · rcases H6.out with h0 | ⟨b, off, rfl, hb, hel⟩
    · exfalso; rw [h0] at hlt; exact absurd hlt (by simp)
    obtain ⟨e0, e1, e2⟩ := Byte.atCell (hel.mv K4.out hb) i hlt
    have hi0 : (0 : Int) ≤ (i : Int) := by omega
    have hi1 : (i : Int) < (xs.length : Int) := by omega
    clear hel
    generalize xs[i] = y at *
    have HX := Lib.hid hlt
    go_wp2_with fail
    go_quiet (fail)
    go_wp2_with fail
    go_quiet (fail)
    obtain ⟨z1, z2⟩ := bits_and_le (X + y) 255 (by decide)
    simp only [Int.cast_ofNat_Int] at z1 z2
    generalize hX2 : bits BinOp.and IntKind.i64 (X + y) 255 = X2 at *
    go_wp2_with fail
    go_ret
    refine ⟨X2, rfl, z1, z2, ?_, (K4.out.drewN _).setCell 1 _⟩
    refine ⟨_, c, i + 1, H, cellSet2 k0' (by decide), ?_, cellSet2 k2' (by decide), by have := HX.out; omega, h4, fun o => by rw [World.frozen?_setCell]; exact k3' o, ?_⟩
    · have := World.cell?_setCell_same V ⟨p, 1, none⟩ (.int .i64 ((i : Int) + 1)) k1'
      exact this
    · rcases H6.out with h0 | ⟨b2, off2, ha, hb2, hel⟩
      · exact .inl h0
      · exact .inr ⟨b2, off2, ha, hb2, hel.mv ((K4.out.drewN _).setCell 1 _) hb2⟩
  · have HX := Lib.hid hlt
    have hi1 : ¬ (i : Int) < (xs.length : Int) := by omega
    go_wp2_with fail
    go_quiet (fail)
    go_wp2_with fail
    go_ret
    have Mq := K4.out.drewN nq
    refine ⟨X, rfl, x1, x2, ⟨a, c, i, H, k0', k1', k2', h3, h4, k3', ?_⟩, Mq⟩
    rcases H6.out with h0 | ⟨b2, off2, ha, hb2, hel⟩
    · exact .inl h0
    · exact .inr ⟨b2, off2, ha, hb2, hel.mv Mq hb2⟩

theorem emod_bd {n m : Int} (h0 : 0 ≤ n) (hm : 1 ≤ m) : 0 ≤ n % m ∧ n % m < m := ⟨Int.emod_nonneg _ (by omega), Int.emod_lt_of_pos _ (by omega)⟩

set_option maxHeartbeats 4000000 in
set_option maxRecDepth 100000 in
theorem l01Below_c (p : Nat) (xs : List Int) (m : Int) (w : World) (h : Cur w p xs) (hm : 1 ≤ m) (hm2 : m ≤ 1073741824) :
    Calls Try.prog 71 #[.pointer (some ⟨p, 0, none⟩), .int .i64 m] w fun e w' => ∃ n : Int, e = .returned (.int .i64 n) ∧ 0 ≤ n ∧ n < m ∧ Cur w' p xs ∧ Mv p w w' := by
  have hp : p < w.heap.size := by obtain ⟨_, _, _, _, h0, _⟩ := h; exact lt_of_cell h0
  have hm0 : (m == 0) = false := by simp; omega
  by_cases hs : m ≤ 256
  · go_enter Try.func71, Try.ntmps71
    go_wp2_with fail
    refine (l01Byte_c p xs _ h).mono ?_
    rintro e w1 ⟨n1, rfl, n1a, n1b, c1, m1⟩
    obtain ⟨q1, q2⟩ := emod_bd n1a hm
    go_wp2_with fail
    go_ret
    exact ⟨_, rfl, q1, q2, c1, m1⟩
  · go_enter Try.func71, Try.ntmps71
    go_wp2_with fail
    refine (l01Byte_c p xs _ h).mono ?_
    rintro e w1 ⟨n1, rfl, n1a, n1b, c1, m1⟩
    go_wp2_with fail
    refine (l01Byte_c p xs _ c1).mono ?_
    rintro e w2 ⟨n2, rfl, n2a, n2b, c2, m2⟩
    go_wp2_with fail
    refine (l01Byte_c p xs _ c2).mono ?_
    rintro e w3 ⟨n3, rfl, n3a, n3b, c3, m3⟩
    go_wp2_with fail
    refine (l01Byte_c p xs _ c3).mono ?_
    rintro e w4 ⟨n4, rfl, n4a, n4b, c4, m4⟩
    obtain ⟨q1, q2⟩ := emod_bd (show 0 ≤ n1 * 16777216 + n2 * 65536 + n3 * 256 + n4 by omega) hm
    go_wp2_with fail
    go_ret
    exact ⟨_, rfl, q1, q2, c4, (((m1.trans m2 hp).trans m3 hp).trans m4 hp)⟩
end Go.Proofs.Yteklopbnkclfaaa
