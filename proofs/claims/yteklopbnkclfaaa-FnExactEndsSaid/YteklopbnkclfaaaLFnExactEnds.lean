/- The law FnExactEnds, walked over the contracts. -/
import Derived.Test.YteklopbnkclfaaaPrice1
import Derived.Test.YteklopbnkclfaaaHChan
import Derived.Deep.RegionHeld3
namespace Go.Proofs.Yteklopbnkclfaaa
open Go.RowKit
set_option linter.unusedSimpArgs false
set_option linter.unusedVariables false

set_option maxHeartbeats 4000000 in
set_option maxRecDepth 100000 in
theorem FnExactEnds_walk (x0 : Chan)  (n1 : Int) (n2 : Int) (w : World) (_ : wfChan x0) (i1 : i64 n1) (i2 : i64 n2) :
    Calls Try.prog 13 #[.agg #[.int .i64 x0.id, .int .i64 x0.size, .int .i64 x0.loc, .int .i64 x0.remote, .int .i64 x0.base, .int .i64 x0.ppm, .int .i64 x0.score], .int .i64 n1, .int .i64 n2] w fun e w' => e = .returned (.bool true) ∧ Grow w w' := by
  have hb1 : (ends1 x0.size n1 n2 != ends1 x0.size n1 n2) = false := by simp
  have hb2 : (ends2 x0.size n1 n2 != ends2 x0.size n1 n2) = false := by simp
  go_enter Try.func13, Try.ntmps13
  go_wp2_with fail
  refine (toChan_c x0 _).mono ?_
  rintro e w1 ⟨rfl, g1⟩
  have y1 := g1.size
  simp only [World.size_alloc] at y1
  have b0_0_1 : w1.cell? ⟨w.heap.size, 0, none⟩ = some (.int .i64 x0.id) := cellGrow g1 (cell_new 0 rfl)
  have b0_1_1 : w1.cell? ⟨w.heap.size, 1, none⟩ = some (.int .i64 x0.size) := cellGrow g1 (cell_new 1 rfl)
  have b0_2_1 : w1.cell? ⟨w.heap.size, 2, none⟩ = some (.int .i64 x0.loc) := cellGrow g1 (cell_new 2 rfl)
  have b0_3_1 : w1.cell? ⟨w.heap.size, 3, none⟩ = some (.int .i64 x0.remote) := cellGrow g1 (cell_new 3 rfl)
  have b0_4_1 : w1.cell? ⟨w.heap.size, 4, none⟩ = some (.int .i64 x0.base) := cellGrow g1 (cell_new 4 rfl)
  have b0_5_1 : w1.cell? ⟨w.heap.size, 5, none⟩ = some (.int .i64 x0.ppm) := cellGrow g1 (cell_new 5 rfl)
  have b0_6_1 : w1.cell? ⟨w.heap.size, 6, none⟩ = some (.int .i64 x0.score) := cellGrow g1 (cell_new 6 rfl)
  have z0_1 := lt_of_cell b0_0_1
  go_wp2_with fail
  refine (spec_Ends_c x0 n1 n2 _  ).mono ?_
  rintro e w2 ⟨rfl, g2⟩
  have y2 := g2.size
  have b0_0_2 : w2.cell? ⟨w.heap.size, 0, none⟩ = some (.int .i64 x0.id) := cellGrow g2 b0_0_1
  have b0_1_2 : w2.cell? ⟨w.heap.size, 1, none⟩ = some (.int .i64 x0.size) := cellGrow g2 b0_1_1
  have b0_2_2 : w2.cell? ⟨w.heap.size, 2, none⟩ = some (.int .i64 x0.loc) := cellGrow g2 b0_2_1
  have b0_3_2 : w2.cell? ⟨w.heap.size, 3, none⟩ = some (.int .i64 x0.remote) := cellGrow g2 b0_3_1
  have b0_4_2 : w2.cell? ⟨w.heap.size, 4, none⟩ = some (.int .i64 x0.base) := cellGrow g2 b0_4_1
  have b0_5_2 : w2.cell? ⟨w.heap.size, 5, none⟩ = some (.int .i64 x0.ppm) := cellGrow g2 b0_5_1
  have b0_6_2 : w2.cell? ⟨w.heap.size, 6, none⟩ = some (.int .i64 x0.score) := cellGrow g2 b0_6_1
  have z0_2 := lt_of_cell b0_0_2
  clear b0_0_1 b0_1_1 b0_2_1 b0_3_1 b0_4_1 b0_5_1 b0_6_1
  go_wp2_with fail
  refine (toChan_c x0 _).mono ?_
  rintro e w3 ⟨rfl, g3⟩
  have y3 := g3.size
  have b0_0_3 : w3.cell? ⟨w.heap.size, 0, none⟩ = some (.int .i64 x0.id) := cellGrow g3 b0_0_2
  have b0_1_3 : w3.cell? ⟨w.heap.size, 1, none⟩ = some (.int .i64 x0.size) := cellGrow g3 b0_1_2
  have b0_2_3 : w3.cell? ⟨w.heap.size, 2, none⟩ = some (.int .i64 x0.loc) := cellGrow g3 b0_2_2
  have b0_3_3 : w3.cell? ⟨w.heap.size, 3, none⟩ = some (.int .i64 x0.remote) := cellGrow g3 b0_3_2
  have b0_4_3 : w3.cell? ⟨w.heap.size, 4, none⟩ = some (.int .i64 x0.base) := cellGrow g3 b0_4_2
  have b0_5_3 : w3.cell? ⟨w.heap.size, 5, none⟩ = some (.int .i64 x0.ppm) := cellGrow g3 b0_5_2
  have b0_6_3 : w3.cell? ⟨w.heap.size, 6, none⟩ = some (.int .i64 x0.score) := cellGrow g3 b0_6_2
  have z0_3 := lt_of_cell b0_0_3
  clear b0_0_2 b0_1_2 b0_2_2 b0_3_2 b0_4_2 b0_5_2 b0_6_2
  go_wp2_with fail
  refine (impl_Ends_c x0 n1 n2 _  ).mono ?_
  rintro e w4 ⟨rfl, g4⟩
  have y4 := g4.size
  have b0_0_4 : w4.cell? ⟨w.heap.size, 0, none⟩ = some (.int .i64 x0.id) := cellGrow g4 b0_0_3
  have b0_1_4 : w4.cell? ⟨w.heap.size, 1, none⟩ = some (.int .i64 x0.size) := cellGrow g4 b0_1_3
  have b0_2_4 : w4.cell? ⟨w.heap.size, 2, none⟩ = some (.int .i64 x0.loc) := cellGrow g4 b0_2_3
  have b0_3_4 : w4.cell? ⟨w.heap.size, 3, none⟩ = some (.int .i64 x0.remote) := cellGrow g4 b0_3_3
  have b0_4_4 : w4.cell? ⟨w.heap.size, 4, none⟩ = some (.int .i64 x0.base) := cellGrow g4 b0_4_3
  have b0_5_4 : w4.cell? ⟨w.heap.size, 5, none⟩ = some (.int .i64 x0.ppm) := cellGrow g4 b0_5_3
  have b0_6_4 : w4.cell? ⟨w.heap.size, 6, none⟩ = some (.int .i64 x0.score) := cellGrow g4 b0_6_3
  have z0_4 := lt_of_cell b0_0_4
  clear b0_0_3 b0_1_3 b0_2_3 b0_3_3 b0_4_3 b0_5_3 b0_6_3
  go_wp2_with fail
  go_ret
  exact ⟨rfl, by repeat (first | exact Grow.refl _ | (refine Grow.alloc ?_ _ _) | (refine Grow.drew ?_) | (refine Grow.trans ?_ (by assumption)))⟩
end Go.Proofs.Yteklopbnkclfaaa
