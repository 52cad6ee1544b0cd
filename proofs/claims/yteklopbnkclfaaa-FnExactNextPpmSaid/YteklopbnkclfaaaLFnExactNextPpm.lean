/- The law FnExactNextPpm, walked over the contracts. -/
import Derived.Test.YteklopbnkclfaaaPrice2
import Derived.Test.YteklopbnkclfaaaSup2
import Derived.Test.YteklopbnkclfaaaHChan
import Derived.Test.YteklopbnkclfaaaHRule
import Derived.Deep.RegionHeld3
namespace Go.Proofs.Yteklopbnkclfaaa
open Go.RowKit
set_option linter.unusedSimpArgs false
set_option linter.unusedVariables false

set_option maxHeartbeats 4000000 in
set_option maxRecDepth 100000 in
theorem FnExactNextPpm_walk (x0 : Chan)  (x1 : Rule)  (w : World) (_ : wfChan x0) (_ : wfRule x1) :
    Calls Try.prog 14 #[.agg #[.int .i64 x0.id, .int .i64 x0.size, .int .i64 x0.loc, .int .i64 x0.remote, .int .i64 x0.base, .int .i64 x0.ppm, .int .i64 x0.score], .agg #[.int .i64 x1.lo, .int .i64 x1.hi, .int .i64 x1.step, .int .i64 x1.min, .int .i64 x1.max]] w fun e w' => e = .returned (.bool true) ∧ Grow w w' := by
  have hbb : (nextPpm x0 x1 != nextPpm x0 x1) = false := by simp
  go_enter Try.func14, Try.ntmps14
  go_wp2_with fail
  go_region_held3 (fun W => W.cell? ⟨w.heap.size, 0, none⟩ = some (.int .i64 x0.id) ∧ W.cell? ⟨w.heap.size, 1, none⟩ = some (.int .i64 x0.size) ∧ W.cell? ⟨w.heap.size, 2, none⟩ = some (.int .i64 x0.loc) ∧ W.cell? ⟨w.heap.size, 3, none⟩ = some (.int .i64 x0.remote) ∧ W.cell? ⟨w.heap.size, 4, none⟩ = some (.int .i64 x0.base) ∧ W.cell? ⟨w.heap.size, 5, none⟩ = some (.int .i64 x0.ppm) ∧ W.cell? ⟨w.heap.size, 6, none⟩ = some (.int .i64 x0.score) ∧ W.cell? ⟨w.heap.size + 1, 0, none⟩ = some (.int .i64 x1.lo) ∧ W.cell? ⟨w.heap.size + 1, 1, none⟩ = some (.int .i64 x1.hi) ∧ W.cell? ⟨w.heap.size + 1, 2, none⟩ = some (.int .i64 x1.step) ∧ W.cell? ⟨w.heap.size + 1, 3, none⟩ = some (.int .i64 x1.min) ∧ W.cell? ⟨w.heap.size + 1, 4, none⟩ = some (.int .i64 x1.max))
    (first
      | exact ⟨(cellAlloc (cell_newAt (by simp) 0 rfl) _), (cellAlloc (cell_newAt (by simp) 1 rfl) _), (cellAlloc (cell_newAt (by simp) 2 rfl) _), (cellAlloc (cell_newAt (by simp) 3 rfl) _), (cellAlloc (cell_newAt (by simp) 4 rfl) _), (cellAlloc (cell_newAt (by simp) 5 rfl) _), (cellAlloc (cell_newAt (by simp) 6 rfl) _), (cell_newAt (by simp) 0 rfl), (cell_newAt (by simp) 1 rfl), (cell_newAt (by simp) 2 rfl), (cell_newAt (by simp) 3 rfl), (cell_newAt (by simp) 4 rfl)⟩
      | exact ⟨(cellGrow g1 (cellAlloc (cell_newAt (by simp) 0 rfl) _)), (cellGrow g1 (cellAlloc (cell_newAt (by simp) 1 rfl) _)), (cellGrow g1 (cellAlloc (cell_newAt (by simp) 2 rfl) _)), (cellGrow g1 (cellAlloc (cell_newAt (by simp) 3 rfl) _)), (cellGrow g1 (cellAlloc (cell_newAt (by simp) 4 rfl) _)), (cellGrow g1 (cellAlloc (cell_newAt (by simp) 5 rfl) _)), (cellGrow g1 (cellAlloc (cell_newAt (by simp) 6 rfl) _)), (cellGrow g1 (cell_newAt (by simp) 0 rfl)), (cellGrow g1 (cell_newAt (by simp) 1 rfl)), (cellGrow g1 (cell_newAt (by simp) 2 rfl)), (cellGrow g1 (cell_newAt (by simp) 3 rfl)), (cellGrow g1 (cell_newAt (by simp) 4 rfl))⟩
      | exact ⟨(cellGrow g2 (cellGrow g1 (cellAlloc (cell_newAt (by simp) 0 rfl) _))), (cellGrow g2 (cellGrow g1 (cellAlloc (cell_newAt (by simp) 1 rfl) _))), (cellGrow g2 (cellGrow g1 (cellAlloc (cell_newAt (by simp) 2 rfl) _))), (cellGrow g2 (cellGrow g1 (cellAlloc (cell_newAt (by simp) 3 rfl) _))), (cellGrow g2 (cellGrow g1 (cellAlloc (cell_newAt (by simp) 4 rfl) _))), (cellGrow g2 (cellGrow g1 (cellAlloc (cell_newAt (by simp) 5 rfl) _))), (cellGrow g2 (cellGrow g1 (cellAlloc (cell_newAt (by simp) 6 rfl) _))), (cellGrow g2 (cellGrow g1 (cell_newAt (by simp) 0 rfl))), (cellGrow g2 (cellGrow g1 (cell_newAt (by simp) 1 rfl))), (cellGrow g2 (cellGrow g1 (cell_newAt (by simp) 2 rfl))), (cellGrow g2 (cellGrow g1 (cell_newAt (by simp) 3 rfl))), (cellGrow g2 (cellGrow g1 (cell_newAt (by simp) 4 rfl)))⟩
      | exact ⟨(cellGrow g3 (cellGrow g2 (cellGrow g1 (cellAlloc (cell_newAt (by simp) 0 rfl) _)))), (cellGrow g3 (cellGrow g2 (cellGrow g1 (cellAlloc (cell_newAt (by simp) 1 rfl) _)))), (cellGrow g3 (cellGrow g2 (cellGrow g1 (cellAlloc (cell_newAt (by simp) 2 rfl) _)))), (cellGrow g3 (cellGrow g2 (cellGrow g1 (cellAlloc (cell_newAt (by simp) 3 rfl) _)))), (cellGrow g3 (cellGrow g2 (cellGrow g1 (cellAlloc (cell_newAt (by simp) 4 rfl) _)))), (cellGrow g3 (cellGrow g2 (cellGrow g1 (cellAlloc (cell_newAt (by simp) 5 rfl) _)))), (cellGrow g3 (cellGrow g2 (cellGrow g1 (cellAlloc (cell_newAt (by simp) 6 rfl) _)))), (cellGrow g3 (cellGrow g2 (cellGrow g1 (cell_newAt (by simp) 0 rfl)))), (cellGrow g3 (cellGrow g2 (cellGrow g1 (cell_newAt (by simp) 1 rfl)))), (cellGrow g3 (cellGrow g2 (cellGrow g1 (cell_newAt (by simp) 2 rfl)))), (cellGrow g3 (cellGrow g2 (cellGrow g1 (cell_newAt (by simp) 3 rfl)))), (cellGrow g3 (cellGrow g2 (cellGrow g1 (cell_newAt (by simp) 4 rfl))))⟩)
    (first
      | (go_at_call 51; refine (toChan_c x0 _).mono ?_; rintro e w1 ⟨rfl, g1⟩; have y1 := g1.size)
      | (go_at_call 54; refine (toRule_c x1 _).mono ?_; rintro e w2 ⟨rfl, g2⟩; have y2 := g2.size)
      | (go_at_call 53; refine (spec_NextPpm_c x0 x1 _  ).mono ?_; rintro e w3 ⟨rfl, g3⟩; have y3 := g3.size))
  have b0_0_3 : w3.cell? ⟨w.heap.size, 0, none⟩ = some (.int .i64 x0.id) := (cellGrow g3 (cellGrow g2 (cellGrow g1 (cellAlloc (cell_newAt (by simp) 0 rfl) _))))
  have b0_1_3 : w3.cell? ⟨w.heap.size, 1, none⟩ = some (.int .i64 x0.size) := (cellGrow g3 (cellGrow g2 (cellGrow g1 (cellAlloc (cell_newAt (by simp) 1 rfl) _))))
  have b0_2_3 : w3.cell? ⟨w.heap.size, 2, none⟩ = some (.int .i64 x0.loc) := (cellGrow g3 (cellGrow g2 (cellGrow g1 (cellAlloc (cell_newAt (by simp) 2 rfl) _))))
  have b0_3_3 : w3.cell? ⟨w.heap.size, 3, none⟩ = some (.int .i64 x0.remote) := (cellGrow g3 (cellGrow g2 (cellGrow g1 (cellAlloc (cell_newAt (by simp) 3 rfl) _))))
  have b0_4_3 : w3.cell? ⟨w.heap.size, 4, none⟩ = some (.int .i64 x0.base) := (cellGrow g3 (cellGrow g2 (cellGrow g1 (cellAlloc (cell_newAt (by simp) 4 rfl) _))))
  have b0_5_3 : w3.cell? ⟨w.heap.size, 5, none⟩ = some (.int .i64 x0.ppm) := (cellGrow g3 (cellGrow g2 (cellGrow g1 (cellAlloc (cell_newAt (by simp) 5 rfl) _))))
  have b0_6_3 : w3.cell? ⟨w.heap.size, 6, none⟩ = some (.int .i64 x0.score) := (cellGrow g3 (cellGrow g2 (cellGrow g1 (cellAlloc (cell_newAt (by simp) 6 rfl) _))))
  have b1_0_3 : w3.cell? ⟨w.heap.size + 1, 0, none⟩ = some (.int .i64 x1.lo) := (cellGrow g3 (cellGrow g2 (cellGrow g1 (cell_newAt (by simp) 0 rfl))))
  have b1_1_3 : w3.cell? ⟨w.heap.size + 1, 1, none⟩ = some (.int .i64 x1.hi) := (cellGrow g3 (cellGrow g2 (cellGrow g1 (cell_newAt (by simp) 1 rfl))))
  have b1_2_3 : w3.cell? ⟨w.heap.size + 1, 2, none⟩ = some (.int .i64 x1.step) := (cellGrow g3 (cellGrow g2 (cellGrow g1 (cell_newAt (by simp) 2 rfl))))
  have b1_3_3 : w3.cell? ⟨w.heap.size + 1, 3, none⟩ = some (.int .i64 x1.min) := (cellGrow g3 (cellGrow g2 (cellGrow g1 (cell_newAt (by simp) 3 rfl))))
  have b1_4_3 : w3.cell? ⟨w.heap.size + 1, 4, none⟩ = some (.int .i64 x1.max) := (cellGrow g3 (cellGrow g2 (cellGrow g1 (cell_newAt (by simp) 4 rfl))))
  have z0_3 := lt_of_cell b0_0_3
  have z1_3 := lt_of_cell b1_0_3
  go_wp2_with fail
  go_region_held3 (fun W => W.cell? ⟨w.heap.size, 0, none⟩ = some (.int .i64 x0.id) ∧ W.cell? ⟨w.heap.size, 1, none⟩ = some (.int .i64 x0.size) ∧ W.cell? ⟨w.heap.size, 2, none⟩ = some (.int .i64 x0.loc) ∧ W.cell? ⟨w.heap.size, 3, none⟩ = some (.int .i64 x0.remote) ∧ W.cell? ⟨w.heap.size, 4, none⟩ = some (.int .i64 x0.base) ∧ W.cell? ⟨w.heap.size, 5, none⟩ = some (.int .i64 x0.ppm) ∧ W.cell? ⟨w.heap.size, 6, none⟩ = some (.int .i64 x0.score) ∧ W.cell? ⟨w.heap.size + 1, 0, none⟩ = some (.int .i64 x1.lo) ∧ W.cell? ⟨w.heap.size + 1, 1, none⟩ = some (.int .i64 x1.hi) ∧ W.cell? ⟨w.heap.size + 1, 2, none⟩ = some (.int .i64 x1.step) ∧ W.cell? ⟨w.heap.size + 1, 3, none⟩ = some (.int .i64 x1.min) ∧ W.cell? ⟨w.heap.size + 1, 4, none⟩ = some (.int .i64 x1.max))
    (first
      | exact ⟨b0_0_3, b0_1_3, b0_2_3, b0_3_3, b0_4_3, b0_5_3, b0_6_3, b1_0_3, b1_1_3, b1_2_3, b1_3_3, b1_4_3⟩
      | exact ⟨(cellGrow g4 b0_0_3), (cellGrow g4 b0_1_3), (cellGrow g4 b0_2_3), (cellGrow g4 b0_3_3), (cellGrow g4 b0_4_3), (cellGrow g4 b0_5_3), (cellGrow g4 b0_6_3), (cellGrow g4 b1_0_3), (cellGrow g4 b1_1_3), (cellGrow g4 b1_2_3), (cellGrow g4 b1_3_3), (cellGrow g4 b1_4_3)⟩
      | exact ⟨(cellGrow g5 (cellGrow g4 b0_0_3)), (cellGrow g5 (cellGrow g4 b0_1_3)), (cellGrow g5 (cellGrow g4 b0_2_3)), (cellGrow g5 (cellGrow g4 b0_3_3)), (cellGrow g5 (cellGrow g4 b0_4_3)), (cellGrow g5 (cellGrow g4 b0_5_3)), (cellGrow g5 (cellGrow g4 b0_6_3)), (cellGrow g5 (cellGrow g4 b1_0_3)), (cellGrow g5 (cellGrow g4 b1_1_3)), (cellGrow g5 (cellGrow g4 b1_2_3)), (cellGrow g5 (cellGrow g4 b1_3_3)), (cellGrow g5 (cellGrow g4 b1_4_3))⟩
      | exact ⟨(cellGrow g6 (cellGrow g5 (cellGrow g4 b0_0_3))), (cellGrow g6 (cellGrow g5 (cellGrow g4 b0_1_3))), (cellGrow g6 (cellGrow g5 (cellGrow g4 b0_2_3))), (cellGrow g6 (cellGrow g5 (cellGrow g4 b0_3_3))), (cellGrow g6 (cellGrow g5 (cellGrow g4 b0_4_3))), (cellGrow g6 (cellGrow g5 (cellGrow g4 b0_5_3))), (cellGrow g6 (cellGrow g5 (cellGrow g4 b0_6_3))), (cellGrow g6 (cellGrow g5 (cellGrow g4 b1_0_3))), (cellGrow g6 (cellGrow g5 (cellGrow g4 b1_1_3))), (cellGrow g6 (cellGrow g5 (cellGrow g4 b1_2_3))), (cellGrow g6 (cellGrow g5 (cellGrow g4 b1_3_3))), (cellGrow g6 (cellGrow g5 (cellGrow g4 b1_4_3)))⟩)
    (first
      | (go_at_call 51; refine (toChan_c x0 _).mono ?_; rintro e w4 ⟨rfl, g4⟩; have y4 := g4.size)
      | (go_at_call 54; refine (toRule_c x1 _).mono ?_; rintro e w5 ⟨rfl, g5⟩; have y5 := g5.size)
      | (go_at_call 55; refine (impl_NextPpm_c x0 x1 _  ).mono ?_; rintro e w6 ⟨rfl, g6⟩; have y6 := g6.size))
  have b0_0_6 : w6.cell? ⟨w.heap.size, 0, none⟩ = some (.int .i64 x0.id) := (cellGrow g6 (cellGrow g5 (cellGrow g4 b0_0_3)))
  have b0_1_6 : w6.cell? ⟨w.heap.size, 1, none⟩ = some (.int .i64 x0.size) := (cellGrow g6 (cellGrow g5 (cellGrow g4 b0_1_3)))
  have b0_2_6 : w6.cell? ⟨w.heap.size, 2, none⟩ = some (.int .i64 x0.loc) := (cellGrow g6 (cellGrow g5 (cellGrow g4 b0_2_3)))
  have b0_3_6 : w6.cell? ⟨w.heap.size, 3, none⟩ = some (.int .i64 x0.remote) := (cellGrow g6 (cellGrow g5 (cellGrow g4 b0_3_3)))
  have b0_4_6 : w6.cell? ⟨w.heap.size, 4, none⟩ = some (.int .i64 x0.base) := (cellGrow g6 (cellGrow g5 (cellGrow g4 b0_4_3)))
  have b0_5_6 : w6.cell? ⟨w.heap.size, 5, none⟩ = some (.int .i64 x0.ppm) := (cellGrow g6 (cellGrow g5 (cellGrow g4 b0_5_3)))
  have b0_6_6 : w6.cell? ⟨w.heap.size, 6, none⟩ = some (.int .i64 x0.score) := (cellGrow g6 (cellGrow g5 (cellGrow g4 b0_6_3)))
  have b1_0_6 : w6.cell? ⟨w.heap.size + 1, 0, none⟩ = some (.int .i64 x1.lo) := (cellGrow g6 (cellGrow g5 (cellGrow g4 b1_0_3)))
  have b1_1_6 : w6.cell? ⟨w.heap.size + 1, 1, none⟩ = some (.int .i64 x1.hi) := (cellGrow g6 (cellGrow g5 (cellGrow g4 b1_1_3)))
  have b1_2_6 : w6.cell? ⟨w.heap.size + 1, 2, none⟩ = some (.int .i64 x1.step) := (cellGrow g6 (cellGrow g5 (cellGrow g4 b1_2_3)))
  have b1_3_6 : w6.cell? ⟨w.heap.size + 1, 3, none⟩ = some (.int .i64 x1.min) := (cellGrow g6 (cellGrow g5 (cellGrow g4 b1_3_3)))
  have b1_4_6 : w6.cell? ⟨w.heap.size + 1, 4, none⟩ = some (.int .i64 x1.max) := (cellGrow g6 (cellGrow g5 (cellGrow g4 b1_4_3)))
  have z0_6 := lt_of_cell b0_0_6
  have z1_6 := lt_of_cell b1_0_6
  go_wp2_with fail
  go_ret
  exact ⟨rfl, by repeat (first | exact Grow.refl _ | (refine Grow.alloc ?_ _ _) | (refine Grow.drew ?_) | (refine Grow.trans ?_ (by assumption)))⟩
end Go.Proofs.Yteklopbnkclfaaa
