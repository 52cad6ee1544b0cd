/- Contracts of the harness functions of Book -/
import Derived.Test.YtbjnbhlpibadnaaBox
import Derived.Test.YtbjnbhlpibadnaaHChan
import Derived.Test.YtbjnbhlpibadnaaHHtlc
import Derived.Test.YtbjnbhlpibadnaaHCircle
namespace Go.Proofs.Ytbjnbhlpibadnaa
open Go.RowKit
set_option linter.unusedSimpArgs false
set_option linter.unusedVariables false
set_option maxHeartbeats 2000000 in
set_option maxRecDepth 100000 in
theorem toBook_c (x : Book) (a0 : Option Addr) (c0 : Nat) (a1 : Option Addr) (c1 : Nat) (a2 : Option Addr) (c2 : Nat) (w : World) (h0 : SlR 7 repChan w 0 w.heap.size (.slice a0 x.chans.length c0) x.chans) (h1 : SlR 7 repHtlc w 0 w.heap.size (.slice a1 x.htlcs.length c1) x.htlcs) (h2 : SlR 5 repCircle w 0 w.heap.size (.slice a2 x.circles.length c2) x.circles) (n0 : x.chans.length ≤ 1048576) (n1 : x.htlcs.length ≤ 1048576) (n2 : x.circles.length ≤ 1048576) :
    Calls Try.prog 26 #[.agg #[.int .i64 x.tick, .int .i64 x.next, .int .i64 x.wallet, .slice a0 x.chans.length c0, .slice a1 x.htlcs.length c1, .slice a2 x.circles.length c2]] w fun e w' => ∃ a0' c0' p0 q0 a1' c1' p1 q1 a2' c2' p2 q2, e = .returned (.agg #[.int .i64 x.tick, .int .i64 x.next, .int .i64 x.wallet, .slice a0' x.chans.length c0', .slice a1' x.htlcs.length c1', .slice a2' x.circles.length c2']) ∧ Grow w w' ∧ (w.heap.size ≤ p0 ∧ p0 ≤ q0 ∧ q0 ≤ p1 ∧ p1 ≤ q1 ∧ q1 ≤ p2 ∧ p2 ≤ q2 ∧ q2 ≤ w'.heap.size) ∧ SlR 7 repChan w' p0 q0 (.slice a0' x.chans.length c0') x.chans ∧ SlR 7 repHtlc w' p1 q1 (.slice a1' x.htlcs.length c1') x.htlcs ∧ SlR 5 repCircle w' p2 q2 (.slice a2' x.circles.length c2') x.circles := by
  obtain ⟨tick, next, wallet, chans, htlcs, circles⟩ := x
  go_enter Try.func26, Try.ntmps26
  go_wp2_with fail
  obtain ⟨V, hV⟩ : ∃ V, V = ((w.alloc (.cells #[.int .i64 tick, .int .i64 next, .int .i64 wallet, .slice a0 chans.length c0, .slice a1 htlcs.length c1, .slice a2 circles.length c2] 47)).alloc (.cells #[.int .i64 0, .int .i64 0, .int .i64 0, .slice none 0 0, .slice none 0 0, .slice none 0 0] 58)).alloc (.cells #[.int .i64 tick, .int .i64 next, .int .i64 wallet, .slice none 0 0, .slice none 0 0, .slice none 0 0] 58) := ⟨_, rfl⟩
  have G : Grow w V := by rw [hV]; exact (((Grow.refl w).alloc _ _).alloc _ _).alloc _ _
  have B0 : Box V (w.heap.size) [.int .i64 tick, .int .i64 next, .int .i64 wallet, .slice a0 chans.length c0, .slice a1 htlcs.length c1, .slice a2 circles.length c2] := by rw [hV]; exact ((Box.new w _ _).alloc _ _).alloc _ _
  have B1 : Box V (w.heap.size + 1) [.int .i64 0, .int .i64 0, .int .i64 0, .slice none 0 0, .slice none 0 0, .slice none 0 0] := by rw [hV]; exact (Box.newAt (by simp) _ _).alloc _ _
  have B2 : Box V (w.heap.size + 1 + 1) [.int .i64 tick, .int .i64 next, .int .i64 wallet, .slice none 0 0, .slice none 0 0, .slice none 0 0] := by rw [hV]; exact Box.newAt (by simp) _ _
  have y0 : w.heap.size + 3 ≤ V.heap.size := by rw [hV]; simp
  rw [← hV]
  clear hV
  refine (toChanS_c chans _ _ _ (h0.grow' repChan_stable (Grow.below G)) n0).mono ?_
  rintro e w1 ⟨b0, d0, rfl, g1, s0⟩
  have y1 := Grow.size g1
  replace B0 : Box w1 (w.heap.size) [.int .i64 tick, .int .i64 next, .int .i64 wallet, .slice a0 chans.length c0, .slice a1 htlcs.length c1, .slice a2 circles.length c2] := B0.grow g1
  replace B1 : Box w1 (w.heap.size + 1) [.int .i64 0, .int .i64 0, .int .i64 0, .slice none 0 0, .slice none 0 0, .slice none 0 0] := B1.grow g1
  replace B2 : Box w1 (w.heap.size + 1 + 1) [.int .i64 tick, .int .i64 next, .int .i64 wallet, .slice none 0 0, .slice none 0 0, .slice none 0 0] := B2.grow g1
  replace G : Grow w w1 := Grow.trans G g1
  have s0 : SlR 7 repChan w1 V.heap.size w1.heap.size (.slice b0 chans.length d0) chans := s0
  clear g1
  have q0_0 : w1.cell? ⟨w.heap.size, 0, none⟩ = some (.int .i64 tick) := B0.c 0 _ rfl
  have q0_1 : w1.cell? ⟨w.heap.size, 1, none⟩ = some (.int .i64 next) := B0.c 1 _ rfl
  have q0_2 : w1.cell? ⟨w.heap.size, 2, none⟩ = some (.int .i64 wallet) := B0.c 2 _ rfl
  have q0_3 : w1.cell? ⟨w.heap.size, 3, none⟩ = some (.slice a0 chans.length c0) := B0.c 3 _ rfl
  have q0_4 : w1.cell? ⟨w.heap.size, 4, none⟩ = some (.slice a1 htlcs.length c1) := B0.c 4 _ rfl
  have q0_5 : w1.cell? ⟨w.heap.size, 5, none⟩ = some (.slice a2 circles.length c2) := B0.c 5 _ rfl
  have q1_0 : w1.cell? ⟨w.heap.size + 1, 0, none⟩ = some (.int .i64 0) := B1.c 0 _ rfl
  have q1_1 : w1.cell? ⟨w.heap.size + 1, 1, none⟩ = some (.int .i64 0) := B1.c 1 _ rfl
  have q1_2 : w1.cell? ⟨w.heap.size + 1, 2, none⟩ = some (.int .i64 0) := B1.c 2 _ rfl
  have q1_3 : w1.cell? ⟨w.heap.size + 1, 3, none⟩ = some (.slice none 0 0) := B1.c 3 _ rfl
  have q1_4 : w1.cell? ⟨w.heap.size + 1, 4, none⟩ = some (.slice none 0 0) := B1.c 4 _ rfl
  have q1_5 : w1.cell? ⟨w.heap.size + 1, 5, none⟩ = some (.slice none 0 0) := B1.c 5 _ rfl
  have f1 := B1.f
  have q2_0 : w1.cell? ⟨w.heap.size + 1 + 1, 0, none⟩ = some (.int .i64 tick) := B2.c 0 _ rfl
  have q2_1 : w1.cell? ⟨w.heap.size + 1 + 1, 1, none⟩ = some (.int .i64 next) := B2.c 1 _ rfl
  have q2_2 : w1.cell? ⟨w.heap.size + 1 + 1, 2, none⟩ = some (.int .i64 wallet) := B2.c 2 _ rfl
  have q2_3 : w1.cell? ⟨w.heap.size + 1 + 1, 3, none⟩ = some (.slice none 0 0) := B2.c 3 _ rfl
  have q2_4 : w1.cell? ⟨w.heap.size + 1 + 1, 4, none⟩ = some (.slice none 0 0) := B2.c 4 _ rfl
  have q2_5 : w1.cell? ⟨w.heap.size + 1 + 1, 5, none⟩ = some (.slice none 0 0) := B2.c 5 _ rfl
  have f2 := B2.f
  go_wp2_with fail
  refine (toHtlcS_c htlcs _ _ _ (h1.grow' repHtlc_stable (Grow.below (G.setCell (by show w.heap.size ≤ w.heap.size + 1 + 1; omega) _))) n1).mono ?_
  rintro e w2 ⟨b1, d1, rfl, g2, s1⟩
  clear q0_0 q0_1 q0_2 q0_3 q0_4 q0_5 q1_0 q1_1 q1_2 q1_3 q1_4 q1_5 q2_0 q2_1 q2_2 q2_3 q2_4 q2_5 f1 f2
  have y2 := Grow.size g2
  simp only [World.size_setCell] at y2
  replace B0 : Box w2 (w.heap.size) [.int .i64 tick, .int .i64 next, .int .i64 wallet, .slice a0 chans.length c0, .slice a1 htlcs.length c1, .slice a2 circles.length c2] := (B0.other (by show w.heap.size + 1 + 1 ≠ w.heap.size; omega) _).grow g2
  replace B1 : Box w2 (w.heap.size + 1) [.int .i64 0, .int .i64 0, .int .i64 0, .slice none 0 0, .slice none 0 0, .slice none 0 0] := (B1.other (by show w.heap.size + 1 + 1 ≠ w.heap.size + 1; omega) _).grow g2
  replace B2 : Box w2 (w.heap.size + 1 + 1) [.int .i64 tick, .int .i64 next, .int .i64 wallet, .slice b0 chans.length d0, .slice none 0 0, .slice none 0 0] := (B2.set 3 (by simp) _).grow g2
  replace G : Grow w w2 := Grow.trans (G.setCell (by show w.heap.size ≤ w.heap.size + 1 + 1; omega) _) g2
  replace s0 := s0.same repChan_stable (Same.grown ((Same.refl V.heap.size w1.heap.size w1).setCell (.inl (by show w.heap.size + 1 + 1 < V.heap.size; omega)) _) g2 (by simp only [World.size_setCell]; omega))
  have s1 : SlR 7 repHtlc w2 w1.heap.size w2.heap.size (.slice b1 htlcs.length d1) htlcs := by simpa only [World.size_setCell] using s1
  clear g2
  have q0_0 : w2.cell? ⟨w.heap.size, 0, none⟩ = some (.int .i64 tick) := B0.c 0 _ rfl
  have q0_1 : w2.cell? ⟨w.heap.size, 1, none⟩ = some (.int .i64 next) := B0.c 1 _ rfl
  have q0_2 : w2.cell? ⟨w.heap.size, 2, none⟩ = some (.int .i64 wallet) := B0.c 2 _ rfl
  have q0_3 : w2.cell? ⟨w.heap.size, 3, none⟩ = some (.slice a0 chans.length c0) := B0.c 3 _ rfl
  have q0_4 : w2.cell? ⟨w.heap.size, 4, none⟩ = some (.slice a1 htlcs.length c1) := B0.c 4 _ rfl
  have q0_5 : w2.cell? ⟨w.heap.size, 5, none⟩ = some (.slice a2 circles.length c2) := B0.c 5 _ rfl
  have q1_0 : w2.cell? ⟨w.heap.size + 1, 0, none⟩ = some (.int .i64 0) := B1.c 0 _ rfl
  have q1_1 : w2.cell? ⟨w.heap.size + 1, 1, none⟩ = some (.int .i64 0) := B1.c 1 _ rfl
  have q1_2 : w2.cell? ⟨w.heap.size + 1, 2, none⟩ = some (.int .i64 0) := B1.c 2 _ rfl
  have q1_3 : w2.cell? ⟨w.heap.size + 1, 3, none⟩ = some (.slice none 0 0) := B1.c 3 _ rfl
  have q1_4 : w2.cell? ⟨w.heap.size + 1, 4, none⟩ = some (.slice none 0 0) := B1.c 4 _ rfl
  have q1_5 : w2.cell? ⟨w.heap.size + 1, 5, none⟩ = some (.slice none 0 0) := B1.c 5 _ rfl
  have f1 := B1.f
  have q2_0 : w2.cell? ⟨w.heap.size + 1 + 1, 0, none⟩ = some (.int .i64 tick) := B2.c 0 _ rfl
  have q2_1 : w2.cell? ⟨w.heap.size + 1 + 1, 1, none⟩ = some (.int .i64 next) := B2.c 1 _ rfl
  have q2_2 : w2.cell? ⟨w.heap.size + 1 + 1, 2, none⟩ = some (.int .i64 wallet) := B2.c 2 _ rfl
  have q2_3 : w2.cell? ⟨w.heap.size + 1 + 1, 3, none⟩ = some (.slice b0 chans.length d0) := B2.c 3 _ rfl
  have q2_4 : w2.cell? ⟨w.heap.size + 1 + 1, 4, none⟩ = some (.slice none 0 0) := B2.c 4 _ rfl
  have q2_5 : w2.cell? ⟨w.heap.size + 1 + 1, 5, none⟩ = some (.slice none 0 0) := B2.c 5 _ rfl
  have f2 := B2.f
  go_wp2_with fail
  refine (toCircleS_c circles _ _ _ (h2.grow' repCircle_stable (Grow.below (G.setCell (by show w.heap.size ≤ w.heap.size + 1 + 1; omega) _))) n2).mono ?_
  rintro e w3 ⟨b2, d2, rfl, g3, s2⟩
  clear q0_0 q0_1 q0_2 q0_3 q0_4 q0_5 q1_0 q1_1 q1_2 q1_3 q1_4 q1_5 q2_0 q2_1 q2_2 q2_3 q2_4 q2_5 f1 f2
  have y3 := Grow.size g3
  simp only [World.size_setCell] at y3
  replace B0 : Box w3 (w.heap.size) [.int .i64 tick, .int .i64 next, .int .i64 wallet, .slice a0 chans.length c0, .slice a1 htlcs.length c1, .slice a2 circles.length c2] := (B0.other (by show w.heap.size + 1 + 1 ≠ w.heap.size; omega) _).grow g3
  replace B1 : Box w3 (w.heap.size + 1) [.int .i64 0, .int .i64 0, .int .i64 0, .slice none 0 0, .slice none 0 0, .slice none 0 0] := (B1.other (by show w.heap.size + 1 + 1 ≠ w.heap.size + 1; omega) _).grow g3
  replace B2 : Box w3 (w.heap.size + 1 + 1) [.int .i64 tick, .int .i64 next, .int .i64 wallet, .slice b0 chans.length d0, .slice b1 htlcs.length d1, .slice none 0 0] := (B2.set 4 (by simp) _).grow g3
  replace G : Grow w w3 := Grow.trans (G.setCell (by show w.heap.size ≤ w.heap.size + 1 + 1; omega) _) g3
  replace s0 := s0.same repChan_stable (Same.grown ((Same.refl V.heap.size w1.heap.size w2).setCell (.inl (by show w.heap.size + 1 + 1 < V.heap.size; omega)) _) g3 (by simp only [World.size_setCell]; omega))
  replace s1 := s1.same repHtlc_stable (Same.grown ((Same.refl w1.heap.size w2.heap.size w2).setCell (.inl (by show w.heap.size + 1 + 1 < w1.heap.size; omega)) _) g3 (by simp only [World.size_setCell]; omega))
  have s2 : SlR 5 repCircle w3 w2.heap.size w3.heap.size (.slice b2 circles.length d2) circles := by simpa only [World.size_setCell] using s2
  clear g3
  have q0_0 : w3.cell? ⟨w.heap.size, 0, none⟩ = some (.int .i64 tick) := B0.c 0 _ rfl
  have q0_1 : w3.cell? ⟨w.heap.size, 1, none⟩ = some (.int .i64 next) := B0.c 1 _ rfl
  have q0_2 : w3.cell? ⟨w.heap.size, 2, none⟩ = some (.int .i64 wallet) := B0.c 2 _ rfl
  have q0_3 : w3.cell? ⟨w.heap.size, 3, none⟩ = some (.slice a0 chans.length c0) := B0.c 3 _ rfl
  have q0_4 : w3.cell? ⟨w.heap.size, 4, none⟩ = some (.slice a1 htlcs.length c1) := B0.c 4 _ rfl
  have q0_5 : w3.cell? ⟨w.heap.size, 5, none⟩ = some (.slice a2 circles.length c2) := B0.c 5 _ rfl
  have q1_0 : w3.cell? ⟨w.heap.size + 1, 0, none⟩ = some (.int .i64 0) := B1.c 0 _ rfl
  have q1_1 : w3.cell? ⟨w.heap.size + 1, 1, none⟩ = some (.int .i64 0) := B1.c 1 _ rfl
  have q1_2 : w3.cell? ⟨w.heap.size + 1, 2, none⟩ = some (.int .i64 0) := B1.c 2 _ rfl
  have q1_3 : w3.cell? ⟨w.heap.size + 1, 3, none⟩ = some (.slice none 0 0) := B1.c 3 _ rfl
  have q1_4 : w3.cell? ⟨w.heap.size + 1, 4, none⟩ = some (.slice none 0 0) := B1.c 4 _ rfl
  have q1_5 : w3.cell? ⟨w.heap.size + 1, 5, none⟩ = some (.slice none 0 0) := B1.c 5 _ rfl
  have f1 := B1.f
  have q2_0 : w3.cell? ⟨w.heap.size + 1 + 1, 0, none⟩ = some (.int .i64 tick) := B2.c 0 _ rfl
  have q2_1 : w3.cell? ⟨w.heap.size + 1 + 1, 1, none⟩ = some (.int .i64 next) := B2.c 1 _ rfl
  have q2_2 : w3.cell? ⟨w.heap.size + 1 + 1, 2, none⟩ = some (.int .i64 wallet) := B2.c 2 _ rfl
  have q2_3 : w3.cell? ⟨w.heap.size + 1 + 1, 3, none⟩ = some (.slice b0 chans.length d0) := B2.c 3 _ rfl
  have q2_4 : w3.cell? ⟨w.heap.size + 1 + 1, 4, none⟩ = some (.slice b1 htlcs.length d1) := B2.c 4 _ rfl
  have q2_5 : w3.cell? ⟨w.heap.size + 1 + 1, 5, none⟩ = some (.slice none 0 0) := B2.c 5 _ rfl
  have f2 := B2.f
  go_wp2_with fail
  refine bodyPost_ret (v := .agg #[.int .i64 tick, .int .i64 next, .int .i64 wallet, .slice b0 chans.length d0, .slice b1 htlcs.length d1, .slice b2 circles.length d2]) (by simp [results, Try.results26, go_sem, q1_0, q1_1, q1_2, q1_3, q1_4, q1_5]) rfl ?_
  refine ⟨b0, d0, V.heap.size, w1.heap.size, b1, d1, w1.heap.size, w2.heap.size, b2, d2, w2.heap.size, w3.heap.size, rfl, (((((((G.setCell (by show w.heap.size ≤ w.heap.size + 1 + 1; omega) _).setCell (by show w.heap.size ≤ w.heap.size + 1; omega) _).setCell (by show w.heap.size ≤ w.heap.size + 1; omega) _).setCell (by show w.heap.size ≤ w.heap.size + 1; omega) _).setCell (by show w.heap.size ≤ w.heap.size + 1; omega) _).setCell (by show w.heap.size ≤ w.heap.size + 1; omega) _).setCell (by show w.heap.size ≤ w.heap.size + 1; omega) _), ?_, ?_, ?_, ?_⟩
  · simp only [World.size_setCell]; omega
  · exact s0.same repChan_stable ((((((((Same.refl V.heap.size w1.heap.size _).setCell (.inl (by show w.heap.size + 1 + 1 < V.heap.size; omega)) _).setCell (.inl (by show w.heap.size + 1 < V.heap.size; omega)) _).setCell (.inl (by show w.heap.size + 1 < V.heap.size; omega)) _).setCell (.inl (by show w.heap.size + 1 < V.heap.size; omega)) _).setCell (.inl (by show w.heap.size + 1 < V.heap.size; omega)) _).setCell (.inl (by show w.heap.size + 1 < V.heap.size; omega)) _).setCell (.inl (by show w.heap.size + 1 < V.heap.size; omega)) _)
  · exact s1.same repHtlc_stable ((((((((Same.refl w1.heap.size w2.heap.size _).setCell (.inl (by show w.heap.size + 1 + 1 < w1.heap.size; omega)) _).setCell (.inl (by show w.heap.size + 1 < w1.heap.size; omega)) _).setCell (.inl (by show w.heap.size + 1 < w1.heap.size; omega)) _).setCell (.inl (by show w.heap.size + 1 < w1.heap.size; omega)) _).setCell (.inl (by show w.heap.size + 1 < w1.heap.size; omega)) _).setCell (.inl (by show w.heap.size + 1 < w1.heap.size; omega)) _).setCell (.inl (by show w.heap.size + 1 < w1.heap.size; omega)) _)
  · exact s2.same repCircle_stable ((((((((Same.refl w2.heap.size w3.heap.size _).setCell (.inl (by show w.heap.size + 1 + 1 < w2.heap.size; omega)) _).setCell (.inl (by show w.heap.size + 1 < w2.heap.size; omega)) _).setCell (.inl (by show w.heap.size + 1 < w2.heap.size; omega)) _).setCell (.inl (by show w.heap.size + 1 < w2.heap.size; omega)) _).setCell (.inl (by show w.heap.size + 1 < w2.heap.size; omega)) _).setCell (.inl (by show w.heap.size + 1 < w2.heap.size; omega)) _).setCell (.inl (by show w.heap.size + 1 < w2.heap.size; omega)) _)

set_option maxHeartbeats 2000000 in
set_option maxRecDepth 100000 in
theorem eqBook_c (x : Book) (a0 a0' : Option Addr) (c0 c0' : Nat) (a1 a1' : Option Addr) (c1 c1' : Nat) (a2 a2' : Option Addr) (c2 c2' : Nat) (w : World) (h0 : SlR 7 repChan w 0 w.heap.size (.slice a0 x.chans.length c0) x.chans) (h0' : SlR 7 repChan w 0 w.heap.size (.slice a0' x.chans.length c0') x.chans) (h1 : SlR 7 repHtlc w 0 w.heap.size (.slice a1 x.htlcs.length c1) x.htlcs) (h1' : SlR 7 repHtlc w 0 w.heap.size (.slice a1' x.htlcs.length c1') x.htlcs) (h2 : SlR 5 repCircle w 0 w.heap.size (.slice a2 x.circles.length c2) x.circles) (h2' : SlR 5 repCircle w 0 w.heap.size (.slice a2' x.circles.length c2') x.circles) :
    Calls Try.prog 29 #[.agg #[.int .i64 x.tick, .int .i64 x.next, .int .i64 x.wallet, .slice a0 x.chans.length c0, .slice a1 x.htlcs.length c1, .slice a2 x.circles.length c2], .agg #[.int .i64 x.tick, .int .i64 x.next, .int .i64 x.wallet, .slice a0' x.chans.length c0', .slice a1' x.htlcs.length c1', .slice a2' x.circles.length c2']] w fun e w' => e = .returned (.bool true) ∧ Grow w w' := by
  obtain ⟨tick, next, wallet, chans, htlcs, circles⟩ := x
  go_enter Try.func29, Try.ntmps29
  go_wp2_with fail
  obtain ⟨V, hV⟩ : ∃ V, V = (w.alloc (.cells #[.int .i64 tick, .int .i64 next, .int .i64 wallet, .slice a0 chans.length c0, .slice a1 htlcs.length c1, .slice a2 circles.length c2] 58)).alloc (.cells #[.int .i64 tick, .int .i64 next, .int .i64 wallet, .slice a0' chans.length c0', .slice a1' htlcs.length c1', .slice a2' circles.length c2'] 58) := ⟨_, rfl⟩
  have G : Grow w V := by rw [hV]; exact ((Grow.refl w).alloc _ _).alloc _ _
  have B0 : Box V (w.heap.size) [.int .i64 tick, .int .i64 next, .int .i64 wallet, .slice a0 chans.length c0, .slice a1 htlcs.length c1, .slice a2 circles.length c2] := by rw [hV]; exact (Box.new w _ _).alloc _ _
  have B1 : Box V (w.heap.size + 1) [.int .i64 tick, .int .i64 next, .int .i64 wallet, .slice a0' chans.length c0', .slice a1' htlcs.length c1', .slice a2' circles.length c2'] := by rw [hV]; exact Box.newAt (by simp) _ _
  rw [← hV]
  clear hV
  refine (eqChanS_c chans _ _ _ _ _ (h0.grow' repChan_stable (Grow.below (by repeat (first | exact G | (refine Grow.drew ?_) | (refine Grow.drewN ?_ _) | (refine Grow.alloc ?_ _ _))))) (h0'.grow' repChan_stable (Grow.below (by repeat (first | exact G | (refine Grow.drew ?_) | (refine Grow.drewN ?_ _) | (refine Grow.alloc ?_ _ _)))))).mono ?_
  rintro e w1 ⟨rfl, g1⟩
  have G' := Grow.trans (show Grow w _ by repeat (first | exact G | (refine Grow.drew ?_) | (refine Grow.drewN ?_ _) | (refine Grow.alloc ?_ _ _))) g1
  replace B0 : Box w1 (w.heap.size) [.int .i64 tick, .int .i64 next, .int .i64 wallet, .slice a0 chans.length c0, .slice a1 htlcs.length c1, .slice a2 circles.length c2] := Box.grow (by repeat (first | exact B0 | (refine Box.drew ?_) | (refine Box.drewN ?_ _))) g1
  replace B1 : Box w1 (w.heap.size + 1) [.int .i64 tick, .int .i64 next, .int .i64 wallet, .slice a0' chans.length c0', .slice a1' htlcs.length c1', .slice a2' circles.length c2'] := Box.grow (by repeat (first | exact B1 | (refine Box.drew ?_) | (refine Box.drewN ?_ _))) g1
  replace G := G'
  clear g1 G'
  have q0_0 : w1.cell? ⟨w.heap.size, 0, none⟩ = some (.int .i64 tick) := B0.c 0 _ rfl
  have q0_1 : w1.cell? ⟨w.heap.size, 1, none⟩ = some (.int .i64 next) := B0.c 1 _ rfl
  have q0_2 : w1.cell? ⟨w.heap.size, 2, none⟩ = some (.int .i64 wallet) := B0.c 2 _ rfl
  have q0_3 : w1.cell? ⟨w.heap.size, 3, none⟩ = some (.slice a0 chans.length c0) := B0.c 3 _ rfl
  have q0_4 : w1.cell? ⟨w.heap.size, 4, none⟩ = some (.slice a1 htlcs.length c1) := B0.c 4 _ rfl
  have q0_5 : w1.cell? ⟨w.heap.size, 5, none⟩ = some (.slice a2 circles.length c2) := B0.c 5 _ rfl
  have q1_0 : w1.cell? ⟨w.heap.size + 1, 0, none⟩ = some (.int .i64 tick) := B1.c 0 _ rfl
  have q1_1 : w1.cell? ⟨w.heap.size + 1, 1, none⟩ = some (.int .i64 next) := B1.c 1 _ rfl
  have q1_2 : w1.cell? ⟨w.heap.size + 1, 2, none⟩ = some (.int .i64 wallet) := B1.c 2 _ rfl
  have q1_3 : w1.cell? ⟨w.heap.size + 1, 3, none⟩ = some (.slice a0' chans.length c0') := B1.c 3 _ rfl
  have q1_4 : w1.cell? ⟨w.heap.size + 1, 4, none⟩ = some (.slice a1' htlcs.length c1') := B1.c 4 _ rfl
  have q1_5 : w1.cell? ⟨w.heap.size + 1, 5, none⟩ = some (.slice a2' circles.length c2') := B1.c 5 _ rfl
  go_wp2_with fail
  refine (eqHtlcS_c htlcs _ _ _ _ _ (h1.grow' repHtlc_stable (Grow.below (by repeat (first | exact G | (refine Grow.drew ?_) | (refine Grow.drewN ?_ _) | (refine Grow.alloc ?_ _ _))))) (h1'.grow' repHtlc_stable (Grow.below (by repeat (first | exact G | (refine Grow.drew ?_) | (refine Grow.drewN ?_ _) | (refine Grow.alloc ?_ _ _)))))).mono ?_
  rintro e w2 ⟨rfl, g2⟩
  clear q0_0 q0_1 q0_2 q0_3 q0_4 q0_5 q1_0 q1_1 q1_2 q1_3 q1_4 q1_5
  have G' := Grow.trans (show Grow w _ by repeat (first | exact G | (refine Grow.drew ?_) | (refine Grow.drewN ?_ _) | (refine Grow.alloc ?_ _ _))) g2
  replace B0 : Box w2 (w.heap.size) [.int .i64 tick, .int .i64 next, .int .i64 wallet, .slice a0 chans.length c0, .slice a1 htlcs.length c1, .slice a2 circles.length c2] := Box.grow (by repeat (first | exact B0 | (refine Box.drew ?_) | (refine Box.drewN ?_ _))) g2
  replace B1 : Box w2 (w.heap.size + 1) [.int .i64 tick, .int .i64 next, .int .i64 wallet, .slice a0' chans.length c0', .slice a1' htlcs.length c1', .slice a2' circles.length c2'] := Box.grow (by repeat (first | exact B1 | (refine Box.drew ?_) | (refine Box.drewN ?_ _))) g2
  replace G := G'
  clear g2 G'
  have q0_0 : w2.cell? ⟨w.heap.size, 0, none⟩ = some (.int .i64 tick) := B0.c 0 _ rfl
  have q0_1 : w2.cell? ⟨w.heap.size, 1, none⟩ = some (.int .i64 next) := B0.c 1 _ rfl
  have q0_2 : w2.cell? ⟨w.heap.size, 2, none⟩ = some (.int .i64 wallet) := B0.c 2 _ rfl
  have q0_3 : w2.cell? ⟨w.heap.size, 3, none⟩ = some (.slice a0 chans.length c0) := B0.c 3 _ rfl
  have q0_4 : w2.cell? ⟨w.heap.size, 4, none⟩ = some (.slice a1 htlcs.length c1) := B0.c 4 _ rfl
  have q0_5 : w2.cell? ⟨w.heap.size, 5, none⟩ = some (.slice a2 circles.length c2) := B0.c 5 _ rfl
  have q1_0 : w2.cell? ⟨w.heap.size + 1, 0, none⟩ = some (.int .i64 tick) := B1.c 0 _ rfl
  have q1_1 : w2.cell? ⟨w.heap.size + 1, 1, none⟩ = some (.int .i64 next) := B1.c 1 _ rfl
  have q1_2 : w2.cell? ⟨w.heap.size + 1, 2, none⟩ = some (.int .i64 wallet) := B1.c 2 _ rfl
  have q1_3 : w2.cell? ⟨w.heap.size + 1, 3, none⟩ = some (.slice a0' chans.length c0') := B1.c 3 _ rfl
  have q1_4 : w2.cell? ⟨w.heap.size + 1, 4, none⟩ = some (.slice a1' htlcs.length c1') := B1.c 4 _ rfl
  have q1_5 : w2.cell? ⟨w.heap.size + 1, 5, none⟩ = some (.slice a2' circles.length c2') := B1.c 5 _ rfl
  go_wp2_with fail
  refine (eqCircleS_c circles _ _ _ _ _ (h2.grow' repCircle_stable (Grow.below (by repeat (first | exact G | (refine Grow.drew ?_) | (refine Grow.drewN ?_ _) | (refine Grow.alloc ?_ _ _))))) (h2'.grow' repCircle_stable (Grow.below (by repeat (first | exact G | (refine Grow.drew ?_) | (refine Grow.drewN ?_ _) | (refine Grow.alloc ?_ _ _)))))).mono ?_
  rintro e w3 ⟨rfl, g3⟩
  clear q0_0 q0_1 q0_2 q0_3 q0_4 q0_5 q1_0 q1_1 q1_2 q1_3 q1_4 q1_5
  have G' := Grow.trans (show Grow w _ by repeat (first | exact G | (refine Grow.drew ?_) | (refine Grow.drewN ?_ _) | (refine Grow.alloc ?_ _ _))) g3
  replace B0 : Box w3 (w.heap.size) [.int .i64 tick, .int .i64 next, .int .i64 wallet, .slice a0 chans.length c0, .slice a1 htlcs.length c1, .slice a2 circles.length c2] := Box.grow (by repeat (first | exact B0 | (refine Box.drew ?_) | (refine Box.drewN ?_ _))) g3
  replace B1 : Box w3 (w.heap.size + 1) [.int .i64 tick, .int .i64 next, .int .i64 wallet, .slice a0' chans.length c0', .slice a1' htlcs.length c1', .slice a2' circles.length c2'] := Box.grow (by repeat (first | exact B1 | (refine Box.drew ?_) | (refine Box.drewN ?_ _))) g3
  replace G := G'
  clear g3 G'
  have q0_0 : w3.cell? ⟨w.heap.size, 0, none⟩ = some (.int .i64 tick) := B0.c 0 _ rfl
  have q0_1 : w3.cell? ⟨w.heap.size, 1, none⟩ = some (.int .i64 next) := B0.c 1 _ rfl
  have q0_2 : w3.cell? ⟨w.heap.size, 2, none⟩ = some (.int .i64 wallet) := B0.c 2 _ rfl
  have q0_3 : w3.cell? ⟨w.heap.size, 3, none⟩ = some (.slice a0 chans.length c0) := B0.c 3 _ rfl
  have q0_4 : w3.cell? ⟨w.heap.size, 4, none⟩ = some (.slice a1 htlcs.length c1) := B0.c 4 _ rfl
  have q0_5 : w3.cell? ⟨w.heap.size, 5, none⟩ = some (.slice a2 circles.length c2) := B0.c 5 _ rfl
  have q1_0 : w3.cell? ⟨w.heap.size + 1, 0, none⟩ = some (.int .i64 tick) := B1.c 0 _ rfl
  have q1_1 : w3.cell? ⟨w.heap.size + 1, 1, none⟩ = some (.int .i64 next) := B1.c 1 _ rfl
  have q1_2 : w3.cell? ⟨w.heap.size + 1, 2, none⟩ = some (.int .i64 wallet) := B1.c 2 _ rfl
  have q1_3 : w3.cell? ⟨w.heap.size + 1, 3, none⟩ = some (.slice a0' chans.length c0') := B1.c 3 _ rfl
  have q1_4 : w3.cell? ⟨w.heap.size + 1, 4, none⟩ = some (.slice a1' htlcs.length c1') := B1.c 4 _ rfl
  have q1_5 : w3.cell? ⟨w.heap.size + 1, 5, none⟩ = some (.slice a2' circles.length c2') := B1.c 5 _ rfl
  go_wp2_with fail
  go_ret
  refine ⟨rfl, ?_⟩
  repeat (first | exact G | (refine Grow.drew ?_) | (refine Grow.drewN ?_ _) | (refine Grow.alloc ?_ _ _))

def szBook (x : Book) (l : Int) : Int := szN (szL x.chans.length l) fun l => szN (szL x.htlcs.length l) fun l => szN (szL x.circles.length l) fun l => l
theorem szBook_le (x : Book) (l : Int) (h : 0 ≤ szBook x l) (hl : l ≤ 1048576) : szBook x l ≤ l ∧ (x.chans.length ≤ 1048576) ∧ (x.htlcs.length ≤ 1048576) ∧ (x.circles.length ≤ 1048576) := by
  unfold szBook at h ⊢
  obtain ⟨p0, h0, e0⟩ := szN_le h
  obtain ⟨r0, b0⟩ := szL_le _ _ p0
  obtain ⟨p1, h1, e1⟩ := szN_le h0
  obtain ⟨r1, b1⟩ := szL_le _ _ p1
  obtain ⟨p2, h2, e2⟩ := szN_le h1
  obtain ⟨r2, b2⟩ := szL_le _ _ p2
  rw [e0, e1, e2]
  exact ⟨by omega, by omega, by omega, by omega⟩

set_option maxHeartbeats 2000000 in
set_option maxRecDepth 100000 in
theorem szBook_c (x : Book) (a0 : Option Addr) (c0 : Nat) (a1 : Option Addr) (c1 : Nat) (a2 : Option Addr) (c2 : Nat) (l : Int) (w : World) (m0 : SlR 7 repChan w 0 w.heap.size (.slice a0 x.chans.length c0) x.chans) (m1 : SlR 7 repHtlc w 0 w.heap.size (.slice a1 x.htlcs.length c1) x.htlcs) (m2 : SlR 5 repCircle w 0 w.heap.size (.slice a2 x.circles.length c2) x.circles) (l1 : 0 ≤ l) (l2 : l ≤ 1048576) :
    Calls Try.prog 23 #[.agg #[.int .i64 x.tick, .int .i64 x.next, .int .i64 x.wallet, .slice a0 x.chans.length c0, .slice a1 x.htlcs.length c1, .slice a2 x.circles.length c2], .int .i64 l] w fun e w' => e = .returned (.int .i64 (szBook x l)) ∧ Grow w w' := by
  unfold szBook
  by_cases t1 : szL x.chans.length (l) < 0
  · have T1 := Lib.hid t1
    go_enter Try.func23, Try.ntmps23
    go_wp2_with fail
    refine (szChanS_c _ _ _ _ _ (by have := m0; obtain ⟨_, _, _, hh1, hh2, _⟩ := this; unfold maxLen at hh2; omega) (by omega) (by omega)).mono ?_
    rintro e w1 ⟨rfl, g1⟩
    obtain ⟨k1, f1⟩ := bcell g1
    have z1 : w.heap.size < w1.heap.size := by have := g1.size; (try simp at this); omega
    go_wp2_with fail
    go_ret
    refine ⟨by have t1 := T1.out; simp only [szN, if_pos (show szL x.chans.length (l) < 0 by omega)]; rfl, ?_⟩
    repeat (first | exact Grow.refl _ | (refine Grow.setCell ?_ (by dsimp only; (try simp only [World.size_alloc, World.size_setCell]); omega) _) | (refine Grow.alloc ?_ _ _) | (refine Grow.drew ?_) | (refine Grow.trans ?_ (by assumption)))
  have y1 := (szL_le _ _ (Int.not_lt.1 t1)).1
  by_cases t2 : szL x.htlcs.length (szL x.chans.length (l)) < 0
  · have T1 := Lib.hid t1
    have T2 := Lib.hid t2
    go_enter Try.func23, Try.ntmps23
    go_wp2_with fail
    refine (szChanS_c _ _ _ _ _ (by have := m0; obtain ⟨_, _, _, hh1, hh2, _⟩ := this; unfold maxLen at hh2; omega) (by omega) (by omega)).mono ?_
    rintro e w1 ⟨rfl, g1⟩
    obtain ⟨k1, f1⟩ := bcell g1
    have z1 : w.heap.size < w1.heap.size := by have := g1.size; (try simp at this); omega
    go_wp2_with fail
    refine (szHtlcS_c _ _ _ _ _ (by have := m1; obtain ⟨_, _, _, hh1, hh2, _⟩ := this; unfold maxLen at hh2; omega) (by omega) (by omega)).mono ?_
    rintro e w2 ⟨rfl, g2⟩
    obtain ⟨k2, f2⟩ := bcell g2
    have z2 : w.heap.size < w2.heap.size := by have := g2.size; (try simp at this); omega
    go_wp2_with fail
    go_ret
    refine ⟨by have t1 := T1.out; have t2 := T2.out; simp only [szN, if_neg (show ¬ szL x.chans.length (l) < 0 by omega), if_pos (show szL x.htlcs.length (szL x.chans.length (l)) < 0 by omega)]; rfl, ?_⟩
    repeat (first | exact Grow.refl _ | (refine Grow.setCell ?_ (by dsimp only; (try simp only [World.size_alloc, World.size_setCell]); omega) _) | (refine Grow.alloc ?_ _ _) | (refine Grow.drew ?_) | (refine Grow.trans ?_ (by assumption)))
  have y2 := (szL_le _ _ (Int.not_lt.1 t2)).1
  by_cases t3 : szL x.circles.length (szL x.htlcs.length (szL x.chans.length (l))) < 0
  · have T1 := Lib.hid t1
    have T2 := Lib.hid t2
    have T3 := Lib.hid t3
    go_enter Try.func23, Try.ntmps23
    go_wp2_with fail
    refine (szChanS_c _ _ _ _ _ (by have := m0; obtain ⟨_, _, _, hh1, hh2, _⟩ := this; unfold maxLen at hh2; omega) (by omega) (by omega)).mono ?_
    rintro e w1 ⟨rfl, g1⟩
    obtain ⟨k1, f1⟩ := bcell g1
    have z1 : w.heap.size < w1.heap.size := by have := g1.size; (try simp at this); omega
    go_wp2_with fail
    refine (szHtlcS_c _ _ _ _ _ (by have := m1; obtain ⟨_, _, _, hh1, hh2, _⟩ := this; unfold maxLen at hh2; omega) (by omega) (by omega)).mono ?_
    rintro e w2 ⟨rfl, g2⟩
    obtain ⟨k2, f2⟩ := bcell g2
    have z2 : w.heap.size < w2.heap.size := by have := g2.size; (try simp at this); omega
    go_wp2_with fail
    refine (szCircleS_c _ _ _ _ _ (by have := m2; obtain ⟨_, _, _, hh1, hh2, _⟩ := this; unfold maxLen at hh2; omega) (by omega) (by omega)).mono ?_
    rintro e w3 ⟨rfl, g3⟩
    obtain ⟨k3, f3⟩ := bcell g3
    have z3 : w.heap.size < w3.heap.size := by have := g3.size; (try simp at this); omega
    go_wp2_with fail
    go_ret
    refine ⟨by have t1 := T1.out; have t2 := T2.out; have t3 := T3.out; simp only [szN, if_neg (show ¬ szL x.chans.length (l) < 0 by omega), if_neg (show ¬ szL x.htlcs.length (szL x.chans.length (l)) < 0 by omega), if_pos (show szL x.circles.length (szL x.htlcs.length (szL x.chans.length (l))) < 0 by omega)]; rfl, ?_⟩
    repeat (first | exact Grow.refl _ | (refine Grow.setCell ?_ (by dsimp only; (try simp only [World.size_alloc, World.size_setCell]); omega) _) | (refine Grow.alloc ?_ _ _) | (refine Grow.drew ?_) | (refine Grow.trans ?_ (by assumption)))
  have y3 := (szL_le _ _ (Int.not_lt.1 t3)).1
  have T1 := Lib.hid t1
  have T2 := Lib.hid t2
  have T3 := Lib.hid t3
  go_enter Try.func23, Try.ntmps23
  go_wp2_with fail
  refine (szChanS_c _ _ _ _ _ (by have := m0; obtain ⟨_, _, _, hh1, hh2, _⟩ := this; unfold maxLen at hh2; omega) (by omega) (by omega)).mono ?_
  rintro e w1 ⟨rfl, g1⟩
  obtain ⟨k1, f1⟩ := bcell g1
  have z1 : w.heap.size < w1.heap.size := by have := g1.size; (try simp at this); omega
  go_wp2_with fail
  refine (szHtlcS_c _ _ _ _ _ (by have := m1; obtain ⟨_, _, _, hh1, hh2, _⟩ := this; unfold maxLen at hh2; omega) (by omega) (by omega)).mono ?_
  rintro e w2 ⟨rfl, g2⟩
  obtain ⟨k2, f2⟩ := bcell g2
  have z2 : w.heap.size < w2.heap.size := by have := g2.size; (try simp at this); omega
  go_wp2_with fail
  refine (szCircleS_c _ _ _ _ _ (by have := m2; obtain ⟨_, _, _, hh1, hh2, _⟩ := this; unfold maxLen at hh2; omega) (by omega) (by omega)).mono ?_
  rintro e w3 ⟨rfl, g3⟩
  obtain ⟨k3, f3⟩ := bcell g3
  have z3 : w.heap.size < w3.heap.size := by have := g3.size; (try simp at this); omega
  go_wp2_with fail
  go_ret
  refine ⟨by have t1 := T1.out; have t2 := T2.out; have t3 := T3.out; simp only [szN, if_neg (show ¬ szL x.chans.length (l) < 0 by omega), if_neg (show ¬ szL x.htlcs.length (szL x.chans.length (l)) < 0 by omega), if_neg (show ¬ szL x.circles.length (szL x.htlcs.length (szL x.chans.length (l))) < 0 by omega)]; rfl, ?_⟩
  repeat (first | exact Grow.refl _ | (refine Grow.setCell ?_ (by dsimp only; (try simp only [World.size_alloc, World.size_setCell]); omega) _) | (refine Grow.alloc ?_ _ _) | (refine Grow.drew ?_) | (refine Grow.trans ?_ (by assumption)))

end Go.Proofs.Ytbjnbhlpibadnaa
