/- The law FnExactRuleOk, walked over the contracts. -/
import Derived.Test.YtofdmjaceghmbaaRule1
import Derived.Test.YtofdmjaceghmbaaHRule
import Derived.Deep.RegionHeld3
namespace Go.Proofs.Ytofdmjaceghmbaa
open Go.RowKit
set_option linter.unusedSimpArgs false
set_option linter.unusedVariables false

set_option maxHeartbeats 4000000 in
set_option maxRecDepth 100000 in
theorem FnExactRuleOk_walk (x0 : Rule)  (w : World) (_ : wfRule x0) :
    Calls Try.prog 5 #[.agg #[.int .i64 x0.lo, .int .i64 x0.hi, .int .i64 x0.step, .int .i64 x0.min, .int .i64 x0.max]] w fun e w' => e = .returned (.bool true) ∧ Grow w w' := by
  have hbb : (ruleOk x0 != ruleOk x0) = false := by simp
  go_enter Try.func5, Try.ntmps5
  go_wp2_with fail
  refine (toRule_c x0 _).mono ?_
  rintro e w1 ⟨rfl, g1⟩
  have y1 := g1.size
  simp only [World.size_alloc] at y1
  have b0_0_1 : w1.cell? ⟨w.heap.size, 0, none⟩ = some (.int .i64 x0.lo) := cellGrow g1 (cell_new 0 rfl)
  have b0_1_1 : w1.cell? ⟨w.heap.size, 1, none⟩ = some (.int .i64 x0.hi) := cellGrow g1 (cell_new 1 rfl)
  have b0_2_1 : w1.cell? ⟨w.heap.size, 2, none⟩ = some (.int .i64 x0.step) := cellGrow g1 (cell_new 2 rfl)
  have b0_3_1 : w1.cell? ⟨w.heap.size, 3, none⟩ = some (.int .i64 x0.min) := cellGrow g1 (cell_new 3 rfl)
  have b0_4_1 : w1.cell? ⟨w.heap.size, 4, none⟩ = some (.int .i64 x0.max) := cellGrow g1 (cell_new 4 rfl)
  have z0_1 := lt_of_cell b0_0_1
  go_wp2_with fail
  refine (spec_RuleOk_c x0 _  ).mono ?_
  rintro e w2 ⟨rfl, g2⟩
  have y2 := g2.size
  have b0_0_2 : w2.cell? ⟨w.heap.size, 0, none⟩ = some (.int .i64 x0.lo) := cellGrow g2 b0_0_1
  have b0_1_2 : w2.cell? ⟨w.heap.size, 1, none⟩ = some (.int .i64 x0.hi) := cellGrow g2 b0_1_1
  have b0_2_2 : w2.cell? ⟨w.heap.size, 2, none⟩ = some (.int .i64 x0.step) := cellGrow g2 b0_2_1
  have b0_3_2 : w2.cell? ⟨w.heap.size, 3, none⟩ = some (.int .i64 x0.min) := cellGrow g2 b0_3_1
  have b0_4_2 : w2.cell? ⟨w.heap.size, 4, none⟩ = some (.int .i64 x0.max) := cellGrow g2 b0_4_1
  have z0_2 := lt_of_cell b0_0_2
  clear b0_0_1 b0_1_1 b0_2_1 b0_3_1 b0_4_1
  go_wp2_with fail
  refine (toRule_c x0 _).mono ?_
  rintro e w3 ⟨rfl, g3⟩
  have y3 := g3.size
  have b0_0_3 : w3.cell? ⟨w.heap.size, 0, none⟩ = some (.int .i64 x0.lo) := cellGrow g3 b0_0_2
  have b0_1_3 : w3.cell? ⟨w.heap.size, 1, none⟩ = some (.int .i64 x0.hi) := cellGrow g3 b0_1_2
  have b0_2_3 : w3.cell? ⟨w.heap.size, 2, none⟩ = some (.int .i64 x0.step) := cellGrow g3 b0_2_2
  have b0_3_3 : w3.cell? ⟨w.heap.size, 3, none⟩ = some (.int .i64 x0.min) := cellGrow g3 b0_3_2
  have b0_4_3 : w3.cell? ⟨w.heap.size, 4, none⟩ = some (.int .i64 x0.max) := cellGrow g3 b0_4_2
  have z0_3 := lt_of_cell b0_0_3
  clear b0_0_2 b0_1_2 b0_2_2 b0_3_2 b0_4_2
  go_wp2_with fail
  refine (impl_RuleOk_c x0 _  ).mono ?_
  rintro e w4 ⟨rfl, g4⟩
  have y4 := g4.size
  have b0_0_4 : w4.cell? ⟨w.heap.size, 0, none⟩ = some (.int .i64 x0.lo) := cellGrow g4 b0_0_3
  have b0_1_4 : w4.cell? ⟨w.heap.size, 1, none⟩ = some (.int .i64 x0.hi) := cellGrow g4 b0_1_3
  have b0_2_4 : w4.cell? ⟨w.heap.size, 2, none⟩ = some (.int .i64 x0.step) := cellGrow g4 b0_2_3
  have b0_3_4 : w4.cell? ⟨w.heap.size, 3, none⟩ = some (.int .i64 x0.min) := cellGrow g4 b0_3_3
  have b0_4_4 : w4.cell? ⟨w.heap.size, 4, none⟩ = some (.int .i64 x0.max) := cellGrow g4 b0_4_3
  have z0_4 := lt_of_cell b0_0_4
  clear b0_0_3 b0_1_3 b0_2_3 b0_3_3 b0_4_3
  go_wp2_with fail
  go_ret
  exact ⟨rfl, by repeat (first | exact Grow.refl _ | (refine Grow.alloc ?_ _ _) | (refine Grow.drew ?_) | (refine Grow.trans ?_ (by assumption)))⟩
end Go.Proofs.Ytofdmjaceghmbaa
