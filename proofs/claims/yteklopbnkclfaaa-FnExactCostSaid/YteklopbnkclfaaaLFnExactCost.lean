/- The law FnExactCost, walked over the contracts. -/
import Derived.Test.YteklopbnkclfaaaCost1
import Derived.Test.YteklopbnkclfaaaHGraph
import Derived.Deep.RegionHeld3
namespace Go.Proofs.Yteklopbnkclfaaa
open Go.RowKit
set_option linter.unusedSimpArgs false
set_option linter.unusedVariables false

set_option maxHeartbeats 4000000 in
set_option maxRecDepth 100000 in
theorem FnExactCost_walk (x0 : Graph) (a0_0 : Option Addr) (c0_0 : Nat) (x1 : List Int) (a1 : Option Addr) (c1 : Nat) (w : World) (h0_0 : SlR 4 repEdge w 0 w.heap.size (.slice a0_0 x0.edges.length c0_0) x0.edges) (_ : wfGraph x0) (h1 : SlR 1 repInt w 0 w.heap.size (.slice a1 x1.length c1) x1) :
    Calls Try.prog 6 #[.agg #[.int .i64 x0.n, .slice a0_0 x0.edges.length c0_0], .slice a1 x1.length c1] w fun e w' => e = .returned (.bool true) ∧ Grow w w' := by
  by_cases l1 : 1048576 < x1.length
  · have q1 : decide ((1048576 : Int) < (x1.length : Int)) = true := by simp; omega
    go_enter Try.func6, Try.ntmps6
    go_wp2_with fail
    all_goals
      go_ret
      exact ⟨rfl, by repeat (first | exact Grow.refl _ | (refine Grow.alloc ?_ _ _) | (refine Grow.drew ?_) | (refine Grow.trans ?_ (by assumption)))⟩
  have q1 : decide ((1048576 : Int) < (x1.length : Int)) = false := by simp; omega
  have Bx1 : x1.length ≤ 1048576 := by omega
  by_cases t0 : szGraph x0 (1048576 : Int) < 0
  · go_enter Try.func6, Try.ntmps6
    go_wp2_with fail
    refine (szGraph_c x0 _ _ _ _ (h0_0.grow' repEdge_stable (Grow.below (by repeat (first | exact Grow.refl _ | (refine Grow.alloc ?_ _ _) | (refine Grow.drew ?_) | (refine Grow.trans ?_ (by assumption)))))) (by omega) (by omega)).mono ?_
    rintro e w1 ⟨rfl, g1⟩
    have y1 := g1.size
    simp only [World.size_alloc] at y1
    have b0_0_1 : w1.cell? ⟨w.heap.size, 0, none⟩ = some (.int .i64 x0.n) := cellGrow g1 (cell_new 0 rfl)
    have b0_1_1 : w1.cell? ⟨w.heap.size, 1, none⟩ = some (.slice a0_0 x0.edges.length c0_0) := cellGrow g1 (cell_new 1 rfl)
    have z0_1 := lt_of_cell b0_0_1
    go_wp2_with fail
    go_ret
    exact ⟨rfl, by repeat (first | exact Grow.refl _ | (refine Grow.alloc ?_ _ _) | (refine Grow.drew ?_) | (refine Grow.trans ?_ (by assumption)))⟩
  obtain ⟨L0, Bx0_0⟩ := szGraph_le x0 (1048576 : Int) (by omega) (by omega)
  have hbb : (cost x0 x1 != cost x0 x1) = false := by simp
  go_enter Try.func6, Try.ntmps6
  go_wp2_with fail
  refine (szGraph_c x0 _ _ _ _ (h0_0.grow' repEdge_stable (Grow.below (by repeat (first | exact Grow.refl _ | (refine Grow.alloc ?_ _ _) | (refine Grow.drew ?_) | (refine Grow.trans ?_ (by assumption)))))) (by omega) (by omega)).mono ?_
  rintro e w1 ⟨rfl, g1⟩
  have y1 := g1.size
  simp only [World.size_alloc] at y1
  have b0_0_1 : w1.cell? ⟨w.heap.size, 0, none⟩ = some (.int .i64 x0.n) := cellGrow g1 (cell_new 0 rfl)
  have b0_1_1 : w1.cell? ⟨w.heap.size, 1, none⟩ = some (.slice a0_0 x0.edges.length c0_0) := cellGrow g1 (cell_new 1 rfl)
  have z0_1 := lt_of_cell b0_0_1
  go_wp2_with fail
  refine (toGraph_c x0 _ _ _ (h0_0.grow' repEdge_stable (Grow.below (by repeat (first | exact Grow.refl _ | (refine Grow.alloc ?_ _ _) | (refine Grow.drew ?_) | (refine Grow.trans ?_ (by assumption)))))) Bx0_0).mono ?_
  rintro e w2 ⟨A2_0, C2_0, P2_0, Q2_0, rfl, g2, O2, R2_0⟩
  have y2 := g2.size
  have S2_0 : SlR 4 repEdge w2 0 w2.heap.size (.slice A2_0 x0.edges.length C2_0) x0.edges := R2_0.stable repEdge_stable (Same.refl _ _ _) (Nat.zero_le _) (by omega)
  have b0_0_2 : w2.cell? ⟨w.heap.size, 0, none⟩ = some (.int .i64 x0.n) := cellGrow g2 b0_0_1
  have b0_1_2 : w2.cell? ⟨w.heap.size, 1, none⟩ = some (.slice a0_0 x0.edges.length c0_0) := cellGrow g2 b0_1_1
  have z0_2 := lt_of_cell b0_0_2
  clear b0_0_1 b0_1_1
  go_wp2_with fail
  refine (toIntS_c x1 _ _ _ (h1.grow' repInt_stable (Grow.below (by repeat (first | exact Grow.refl _ | (refine Grow.alloc ?_ _ _) | (refine Grow.drew ?_) | (refine Grow.trans ?_ (by assumption)))))) Bx1).mono ?_
  rintro e w3 ⟨A3_0, C3_0, rfl, g3, R3_0⟩
  have y3 := g3.size
  have S3_0 : SlR 1 repInt w3 0 w3.heap.size (.slice A3_0 x1.length C3_0) x1 := R3_0.stable repInt_stable (Same.refl _ _ _) (Nat.zero_le _) (by omega)
  have b0_0_3 : w3.cell? ⟨w.heap.size, 0, none⟩ = some (.int .i64 x0.n) := cellGrow g3 b0_0_2
  have b0_1_3 : w3.cell? ⟨w.heap.size, 1, none⟩ = some (.slice a0_0 x0.edges.length c0_0) := cellGrow g3 b0_1_2
  have z0_3 := lt_of_cell b0_0_3
  clear b0_0_2 b0_1_2
  go_wp2_with fail
  refine (spec_Cost_c x0 _ _ x1 _ _ _ (S2_0.grow' repEdge_stable (Grow.below (by repeat (first | exact Grow.refl _ | (refine Grow.alloc ?_ _ _) | (refine Grow.drew ?_) | (refine Grow.trans ?_ (by assumption)))))) (S3_0.grow' repInt_stable (Grow.below (by repeat (first | exact Grow.refl _ | (refine Grow.alloc ?_ _ _) | (refine Grow.drew ?_) | (refine Grow.trans ?_ (by assumption)))))) ).mono ?_
  rintro e w4 ⟨rfl, g4⟩
  have y4 := g4.size
  have b0_0_4 : w4.cell? ⟨w.heap.size, 0, none⟩ = some (.int .i64 x0.n) := cellGrow g4 b0_0_3
  have b0_1_4 : w4.cell? ⟨w.heap.size, 1, none⟩ = some (.slice a0_0 x0.edges.length c0_0) := cellGrow g4 b0_1_3
  have z0_4 := lt_of_cell b0_0_4
  clear b0_0_3 b0_1_3
  go_wp2_with fail
  refine (toGraph_c x0 _ _ _ (h0_0.grow' repEdge_stable (Grow.below (by repeat (first | exact Grow.refl _ | (refine Grow.alloc ?_ _ _) | (refine Grow.drew ?_) | (refine Grow.trans ?_ (by assumption)))))) Bx0_0).mono ?_
  rintro e w5 ⟨A5_0, C5_0, P5_0, Q5_0, rfl, g5, O5, R5_0⟩
  have y5 := g5.size
  have S5_0 : SlR 4 repEdge w5 0 w5.heap.size (.slice A5_0 x0.edges.length C5_0) x0.edges := R5_0.stable repEdge_stable (Same.refl _ _ _) (Nat.zero_le _) (by omega)
  have b0_0_5 : w5.cell? ⟨w.heap.size, 0, none⟩ = some (.int .i64 x0.n) := cellGrow g5 b0_0_4
  have b0_1_5 : w5.cell? ⟨w.heap.size, 1, none⟩ = some (.slice a0_0 x0.edges.length c0_0) := cellGrow g5 b0_1_4
  have z0_5 := lt_of_cell b0_0_5
  clear b0_0_4 b0_1_4
  go_wp2_with fail
  refine (toIntS_c x1 _ _ _ (h1.grow' repInt_stable (Grow.below (by repeat (first | exact Grow.refl _ | (refine Grow.alloc ?_ _ _) | (refine Grow.drew ?_) | (refine Grow.trans ?_ (by assumption)))))) Bx1).mono ?_
  rintro e w6 ⟨A6_0, C6_0, rfl, g6, R6_0⟩
  have y6 := g6.size
  simp only [World.size_alloc] at y6
  have S6_0 : SlR 1 repInt w6 0 w6.heap.size (.slice A6_0 x1.length C6_0) x1 := R6_0.stable repInt_stable (Same.refl _ _ _) (Nat.zero_le _) (by omega)
  have b0_0_6 : w6.cell? ⟨w.heap.size, 0, none⟩ = some (.int .i64 x0.n) := cellGrow g6 (cellAlloc b0_0_5 _)
  have b0_1_6 : w6.cell? ⟨w.heap.size, 1, none⟩ = some (.slice a0_0 x0.edges.length c0_0) := cellGrow g6 (cellAlloc b0_1_5 _)
  have b1_0_6 : w6.cell? ⟨w5.heap.size, 0, none⟩ = some (.int .i64 x0.n) := cellGrow g6 (cell_new 0 rfl)
  have b1_1_6 : w6.cell? ⟨w5.heap.size, 1, none⟩ = some (.slice A5_0 x0.edges.length C5_0) := cellGrow g6 (cell_new 1 rfl)
  have z0_6 := lt_of_cell b0_0_6
  have z1_6 := lt_of_cell b1_0_6
  clear b0_0_5 b0_1_5
  go_wp2_with fail
  refine (impl_Cost_c x0 _ _ x1 _ _ _ (S5_0.grow' repEdge_stable (Grow.below (by repeat (first | exact Grow.refl _ | (refine Grow.alloc ?_ _ _) | (refine Grow.drew ?_) | (refine Grow.trans ?_ (by assumption)))))) (S6_0.grow' repInt_stable (Grow.below (by repeat (first | exact Grow.refl _ | (refine Grow.alloc ?_ _ _) | (refine Grow.drew ?_) | (refine Grow.trans ?_ (by assumption)))))) ).mono ?_
  rintro e w7 ⟨rfl, g7⟩
  have y7 := g7.size
  have b0_0_7 : w7.cell? ⟨w.heap.size, 0, none⟩ = some (.int .i64 x0.n) := cellGrow g7 b0_0_6
  have b0_1_7 : w7.cell? ⟨w.heap.size, 1, none⟩ = some (.slice a0_0 x0.edges.length c0_0) := cellGrow g7 b0_1_6
  have b1_0_7 : w7.cell? ⟨w5.heap.size, 0, none⟩ = some (.int .i64 x0.n) := cellGrow g7 b1_0_6
  have b1_1_7 : w7.cell? ⟨w5.heap.size, 1, none⟩ = some (.slice A5_0 x0.edges.length C5_0) := cellGrow g7 b1_1_6
  have z0_7 := lt_of_cell b0_0_7
  have z1_7 := lt_of_cell b1_0_7
  clear b0_0_6 b0_1_6 b1_0_6 b1_1_6
  go_wp2_with fail
  go_region_held3 (fun W => W.cell? ⟨w.heap.size, 0, none⟩ = some (.int .i64 x0.n) ∧ W.cell? ⟨w.heap.size, 1, none⟩ = some (.slice a0_0 x0.edges.length c0_0) ∧ W.cell? ⟨w5.heap.size, 0, none⟩ = some (.int .i64 x0.n) ∧ W.cell? ⟨w5.heap.size, 1, none⟩ = some (.slice A5_0 x0.edges.length C5_0))
    (first
      | exact ⟨b0_0_7, b0_1_7, b1_0_7, b1_1_7⟩
      | exact ⟨(cellGrow g8 b0_0_7), (cellGrow g8 b0_1_7), (cellGrow g8 b1_0_7), (cellGrow g8 b1_1_7)⟩
      | exact ⟨(cellGrow g9 (cellGrow g8 b0_0_7)), (cellGrow g9 (cellGrow g8 b0_1_7)), (cellGrow g9 (cellGrow g8 b1_0_7)), (cellGrow g9 (cellGrow g8 b1_1_7))⟩)
    (first
      | (go_at_call 22; refine (toGraph_c x0 _ _ _ (h0_0.grow' repEdge_stable (Grow.below (by repeat (first | exact Grow.refl _ | (refine Grow.alloc ?_ _ _) | (refine Grow.drew ?_) | (refine Grow.trans ?_ (by assumption)))))) Bx0_0).mono ?_; rintro e w8 ⟨A8_0, C8_0, P8_0, Q8_0, rfl, g8, O8, R8_0⟩; have y8 := g8.size; have S8_0 : SlR 4 repEdge w8 0 w8.heap.size (.slice A8_0 x0.edges.length C8_0) x0.edges := R8_0.stable repEdge_stable (Same.refl _ _ _) (Nat.zero_le _) (by omega))
      | (go_at_call 24; refine (eqGraph_c x0 _ _ _ _ _ (S5_0.grow' repEdge_stable (Grow.below (by repeat (first | exact Grow.refl _ | (refine Grow.alloc ?_ _ _) | (refine Grow.drew ?_) | (refine Grow.trans ?_ (by assumption)))))) (S8_0.grow' repEdge_stable (Grow.below (by repeat (first | exact Grow.refl _ | (refine Grow.alloc ?_ _ _) | (refine Grow.drew ?_) | (refine Grow.trans ?_ (by assumption))))))).mono ?_; rintro e w9 ⟨rfl, g9⟩; have y9 := g9.size))
  have b0_0_9 : w9.cell? ⟨w.heap.size, 0, none⟩ = some (.int .i64 x0.n) := (cellGrow g9 (cellGrow g8 b0_0_7))
  have b0_1_9 : w9.cell? ⟨w.heap.size, 1, none⟩ = some (.slice a0_0 x0.edges.length c0_0) := (cellGrow g9 (cellGrow g8 b0_1_7))
  have b1_0_9 : w9.cell? ⟨w5.heap.size, 0, none⟩ = some (.int .i64 x0.n) := (cellGrow g9 (cellGrow g8 b1_0_7))
  have b1_1_9 : w9.cell? ⟨w5.heap.size, 1, none⟩ = some (.slice A5_0 x0.edges.length C5_0) := (cellGrow g9 (cellGrow g8 b1_1_7))
  have z0_9 := lt_of_cell b0_0_9
  have z1_9 := lt_of_cell b1_0_9
  go_wp2_with fail
  refine (toIntS_c x1 _ _ _ (h1.grow' repInt_stable (Grow.below (by repeat (first | exact Grow.refl _ | (refine Grow.alloc ?_ _ _) | (refine Grow.drew ?_) | (refine Grow.trans ?_ (by assumption)))))) Bx1).mono ?_
  rintro e w10 ⟨A10_0, C10_0, rfl, g10, R10_0⟩
  have y10 := g10.size
  have S10_0 : SlR 1 repInt w10 0 w10.heap.size (.slice A10_0 x1.length C10_0) x1 := R10_0.stable repInt_stable (Same.refl _ _ _) (Nat.zero_le _) (by omega)
  have b0_0_10 : w10.cell? ⟨w.heap.size, 0, none⟩ = some (.int .i64 x0.n) := cellGrow g10 b0_0_9
  have b0_1_10 : w10.cell? ⟨w.heap.size, 1, none⟩ = some (.slice a0_0 x0.edges.length c0_0) := cellGrow g10 b0_1_9
  have b1_0_10 : w10.cell? ⟨w5.heap.size, 0, none⟩ = some (.int .i64 x0.n) := cellGrow g10 b1_0_9
  have b1_1_10 : w10.cell? ⟨w5.heap.size, 1, none⟩ = some (.slice A5_0 x0.edges.length C5_0) := cellGrow g10 b1_1_9
  have z0_10 := lt_of_cell b0_0_10
  have z1_10 := lt_of_cell b1_0_10
  clear b0_0_9 b0_1_9 b1_0_9 b1_1_9
  go_wp2_with fail
  refine (eqIntS_c x1 _ _ _ _ _ (S6_0.grow' repInt_stable (Grow.below (by repeat (first | exact Grow.refl _ | (refine Grow.alloc ?_ _ _) | (refine Grow.drew ?_) | (refine Grow.trans ?_ (by assumption)))))) (S10_0.grow' repInt_stable (Grow.below (by repeat (first | exact Grow.refl _ | (refine Grow.alloc ?_ _ _) | (refine Grow.drew ?_) | (refine Grow.trans ?_ (by assumption))))))).mono ?_
  rintro e w11 ⟨rfl, g11⟩
  have y11 := g11.size
  have b0_0_11 : w11.cell? ⟨w.heap.size, 0, none⟩ = some (.int .i64 x0.n) := cellGrow g11 b0_0_10
  have b0_1_11 : w11.cell? ⟨w.heap.size, 1, none⟩ = some (.slice a0_0 x0.edges.length c0_0) := cellGrow g11 b0_1_10
  have b1_0_11 : w11.cell? ⟨w5.heap.size, 0, none⟩ = some (.int .i64 x0.n) := cellGrow g11 b1_0_10
  have b1_1_11 : w11.cell? ⟨w5.heap.size, 1, none⟩ = some (.slice A5_0 x0.edges.length C5_0) := cellGrow g11 b1_1_10
  have z0_11 := lt_of_cell b0_0_11
  have z1_11 := lt_of_cell b1_0_11
  clear b0_0_10 b0_1_10 b1_0_10 b1_1_10
  go_wp2_with fail
  go_ret
  exact ⟨rfl, by repeat (first | exact Grow.refl _ | (refine Grow.alloc ?_ _ _) | (refine Grow.drew ?_) | (refine Grow.trans ?_ (by assumption)))⟩
end Go.Proofs.Yteklopbnkclfaaa
