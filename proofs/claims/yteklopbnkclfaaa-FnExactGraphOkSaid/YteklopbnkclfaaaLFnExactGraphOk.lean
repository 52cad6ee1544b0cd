/- The law FnExactGraphOk, walked over the contracts. -/
import Derived.Test.YteklopbnkclfaaaFlow1
import Derived.Test.YteklopbnkclfaaaHGraph
import Derived.Deep.RegionHeld3
namespace Go.Proofs.Yteklopbnkclfaaa
open Go.RowKit
set_option linter.unusedSimpArgs false
set_option linter.unusedVariables false

set_option maxHeartbeats 4000000 in
set_option maxRecDepth 100000 in
theorem FnExactGraphOk_walk (x0 : Graph) (a0_0 : Option Addr) (c0_0 : Nat) (w : World) (h0_0 : SlR 4 repEdge w 0 w.heap.size (.slice a0_0 x0.edges.length c0_0) x0.edges) (_ : wfGraph x0) :
    Calls Try.prog 4 #[.agg #[.int .i64 x0.n, .slice a0_0 x0.edges.length c0_0]] w fun e w' => e = .returned (.bool true) ∧ Grow w w' := by
  by_cases t0 : szGraph x0 (1048576 : Int) < 0
  · go_enter Try.func4, Try.ntmps4
    go_wp2_with fail
    refine (szGraph_c x0 _ _ _ _ (h0_0.grow' repEdge_stable (Grow.below (by repeat (first | exact Grow.refl _ | (refine Grow.alloc ?_ _ _) | (refine Grow.drew ?_) | (refine Grow.trans ?_ (by assumption)))))) (by omega) (by omega)).mono ?_
    rintro e w1 ⟨rfl, g1⟩
    have y1 := g1.size
    simp only [World.size_alloc] at y1
    have b0_0_1 : w1.cell? ⟨w.heap.size, 0, none⟩ = some (.int .i64 x0.n) := cellGrow g1 (cell_new 0 rfl)
    have b0_1_1 : w1.cell? ⟨w.heap.size, 1, none⟩ = some (.slice a0_0 x0.edges.length c0_0) := cellGrow g1 (cell_new 1 rfl)
    have z0_1 := lt_of_cell b0_0_1
    go_wp2_with fail
    go_ret
    exact ⟨rfl, by repeat (first | exact Grow.refl _ | (refine Grow.alloc ?_ _ _) | (refine Grow.drew ?_) | (refine Grow.trans ?_ (by assumption)))⟩
  obtain ⟨L0, Bx0_0⟩ := szGraph_le x0 (1048576 : Int) (by omega) (by omega)
  have hbb : (graphOk x0 != graphOk x0) = false := by simp
  go_enter Try.func4, Try.ntmps4
  go_wp2_with fail
  refine (szGraph_c x0 _ _ _ _ (h0_0.grow' repEdge_stable (Grow.below (by repeat (first | exact Grow.refl _ | (refine Grow.alloc ?_ _ _) | (refine Grow.drew ?_) | (refine Grow.trans ?_ (by assumption)))))) (by omega) (by omega)).mono ?_
  rintro e w1 ⟨rfl, g1⟩
  have y1 := g1.size
  simp only [World.size_alloc] at y1
  have b0_0_1 : w1.cell? ⟨w.heap.size, 0, none⟩ = some (.int .i64 x0.n) := cellGrow g1 (cell_new 0 rfl)
  have b0_1_1 : w1.cell? ⟨w.heap.size, 1, none⟩ = some (.slice a0_0 x0.edges.length c0_0) := cellGrow g1 (cell_new 1 rfl)
  have z0_1 := lt_of_cell b0_0_1
  go_wp2_with fail
  refine (toGraph_c x0 _ _ _ (h0_0.grow' repEdge_stable (Grow.below (by repeat (first | exact Grow.refl _ | (refine Grow.alloc ?_ _ _) | (refine Grow.drew ?_) | (refine Grow.trans ?_ (by assumption)))))) Bx0_0).mono ?_
  rintro e w2 ⟨A2_0, C2_0, P2_0, Q2_0, rfl, g2, O2, R2_0⟩
  have y2 := g2.size
  have S2_0 : SlR 4 repEdge w2 0 w2.heap.size (.slice A2_0 x0.edges.length C2_0) x0.edges := R2_0.stable repEdge_stable (Same.refl _ _ _) (Nat.zero_le _) (by omega)
  have b0_0_2 : w2.cell? ⟨w.heap.size, 0, none⟩ = some (.int .i64 x0.n) := cellGrow g2 b0_0_1
  have b0_1_2 : w2.cell? ⟨w.heap.size, 1, none⟩ = some (.slice a0_0 x0.edges.length c0_0) := cellGrow g2 b0_1_1
  have z0_2 := lt_of_cell b0_0_2
  clear b0_0_1 b0_1_1
  go_wp2_with fail
  refine (spec_GraphOk_c x0 _ _ _ (S2_0.grow' repEdge_stable (Grow.below (by repeat (first | exact Grow.refl _ | (refine Grow.alloc ?_ _ _) | (refine Grow.drew ?_) | (refine Grow.trans ?_ (by assumption)))))) ).mono ?_
  rintro e w3 ⟨rfl, g3⟩
  have y3 := g3.size
  have b0_0_3 : w3.cell? ⟨w.heap.size, 0, none⟩ = some (.int .i64 x0.n) := cellGrow g3 b0_0_2
  have b0_1_3 : w3.cell? ⟨w.heap.size, 1, none⟩ = some (.slice a0_0 x0.edges.length c0_0) := cellGrow g3 b0_1_2
  have z0_3 := lt_of_cell b0_0_3
  clear b0_0_2 b0_1_2
  go_wp2_with fail
  refine (toGraph_c x0 _ _ _ (h0_0.grow' repEdge_stable (Grow.below (by repeat (first | exact Grow.refl _ | (refine Grow.alloc ?_ _ _) | (refine Grow.drew ?_) | (refine Grow.trans ?_ (by assumption)))))) Bx0_0).mono ?_
  rintro e w4 ⟨A4_0, C4_0, P4_0, Q4_0, rfl, g4, O4, R4_0⟩
  have y4 := g4.size
  have S4_0 : SlR 4 repEdge w4 0 w4.heap.size (.slice A4_0 x0.edges.length C4_0) x0.edges := R4_0.stable repEdge_stable (Same.refl _ _ _) (Nat.zero_le _) (by omega)
  have b0_0_4 : w4.cell? ⟨w.heap.size, 0, none⟩ = some (.int .i64 x0.n) := cellGrow g4 b0_0_3
  have b0_1_4 : w4.cell? ⟨w.heap.size, 1, none⟩ = some (.slice a0_0 x0.edges.length c0_0) := cellGrow g4 b0_1_3
  have z0_4 := lt_of_cell b0_0_4
  clear b0_0_3 b0_1_3
  go_wp2_with fail
  refine (impl_GraphOk_c x0 _ _ _ (S4_0.grow' repEdge_stable (Grow.below (by repeat (first | exact Grow.refl _ | (refine Grow.alloc ?_ _ _) | (refine Grow.drew ?_) | (refine Grow.trans ?_ (by assumption)))))) ).mono ?_
  rintro e w5 ⟨rfl, g5⟩
  have y5 := g5.size
  simp only [World.size_alloc] at y5
  have b0_0_5 : w5.cell? ⟨w.heap.size, 0, none⟩ = some (.int .i64 x0.n) := cellGrow g5 (cellAlloc b0_0_4 _)
  have b0_1_5 : w5.cell? ⟨w.heap.size, 1, none⟩ = some (.slice a0_0 x0.edges.length c0_0) := cellGrow g5 (cellAlloc b0_1_4 _)
  have b1_0_5 : w5.cell? ⟨w4.heap.size, 0, none⟩ = some (.int .i64 x0.n) := cellGrow g5 (cell_new 0 rfl)
  have b1_1_5 : w5.cell? ⟨w4.heap.size, 1, none⟩ = some (.slice A4_0 x0.edges.length C4_0) := cellGrow g5 (cell_new 1 rfl)
  have z0_5 := lt_of_cell b0_0_5
  have z1_5 := lt_of_cell b1_0_5
  clear b0_0_4 b0_1_4
  go_wp2_with fail
  go_region_held3 (fun W => W.cell? ⟨w.heap.size, 0, none⟩ = some (.int .i64 x0.n) ∧ W.cell? ⟨w.heap.size, 1, none⟩ = some (.slice a0_0 x0.edges.length c0_0) ∧ W.cell? ⟨w4.heap.size, 0, none⟩ = some (.int .i64 x0.n) ∧ W.cell? ⟨w4.heap.size, 1, none⟩ = some (.slice A4_0 x0.edges.length C4_0))
    (first
      | exact ⟨b0_0_5, b0_1_5, b1_0_5, b1_1_5⟩
      | exact ⟨(cellGrow g6 b0_0_5), (cellGrow g6 b0_1_5), (cellGrow g6 b1_0_5), (cellGrow g6 b1_1_5)⟩
      | exact ⟨(cellGrow g7 (cellGrow g6 b0_0_5)), (cellGrow g7 (cellGrow g6 b0_1_5)), (cellGrow g7 (cellGrow g6 b1_0_5)), (cellGrow g7 (cellGrow g6 b1_1_5))⟩)
    (first
      | (go_at_call 22; refine (toGraph_c x0 _ _ _ (h0_0.grow' repEdge_stable (Grow.below (by repeat (first | exact Grow.refl _ | (refine Grow.alloc ?_ _ _) | (refine Grow.drew ?_) | (refine Grow.trans ?_ (by assumption)))))) Bx0_0).mono ?_; rintro e w6 ⟨A6_0, C6_0, P6_0, Q6_0, rfl, g6, O6, R6_0⟩; have y6 := g6.size; have S6_0 : SlR 4 repEdge w6 0 w6.heap.size (.slice A6_0 x0.edges.length C6_0) x0.edges := R6_0.stable repEdge_stable (Same.refl _ _ _) (Nat.zero_le _) (by omega))
      | (go_at_call 24; refine (eqGraph_c x0 _ _ _ _ _ (S4_0.grow' repEdge_stable (Grow.below (by repeat (first | exact Grow.refl _ | (refine Grow.alloc ?_ _ _) | (refine Grow.drew ?_) | (refine Grow.trans ?_ (by assumption)))))) (S6_0.grow' repEdge_stable (Grow.below (by repeat (first | exact Grow.refl _ | (refine Grow.alloc ?_ _ _) | (refine Grow.drew ?_) | (refine Grow.trans ?_ (by assumption))))))).mono ?_; rintro e w7 ⟨rfl, g7⟩; have y7 := g7.size))
  have b0_0_7 : w7.cell? ⟨w.heap.size, 0, none⟩ = some (.int .i64 x0.n) := (cellGrow g7 (cellGrow g6 b0_0_5))
  have b0_1_7 : w7.cell? ⟨w.heap.size, 1, none⟩ = some (.slice a0_0 x0.edges.length c0_0) := (cellGrow g7 (cellGrow g6 b0_1_5))
  have b1_0_7 : w7.cell? ⟨w4.heap.size, 0, none⟩ = some (.int .i64 x0.n) := (cellGrow g7 (cellGrow g6 b1_0_5))
  have b1_1_7 : w7.cell? ⟨w4.heap.size, 1, none⟩ = some (.slice A4_0 x0.edges.length C4_0) := (cellGrow g7 (cellGrow g6 b1_1_5))
  have z0_7 := lt_of_cell b0_0_7
  have z1_7 := lt_of_cell b1_0_7
  go_wp2_with fail
  go_ret
  exact ⟨rfl, by repeat (first | exact Grow.refl _ | (refine Grow.alloc ?_ _ _) | (refine Grow.drew ?_) | (refine Grow.trans ?_ (by assumption)))⟩
end Go.Proofs.Yteklopbnkclfaaa
