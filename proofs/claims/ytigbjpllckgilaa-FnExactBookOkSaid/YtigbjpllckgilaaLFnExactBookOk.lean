/- The law FnExactBookOk, walked over the contracts. -/
import Derived.Test.YtigbjpllckgilaaBook9
import Derived.Test.YtigbjpllckgilaaHBook
import Derived.Deep.RegionHeld3
namespace Go.Proofs.Ytigbjpllckgilaa
open Go.RowKit
set_option linter.unusedSimpArgs false
set_option linter.unusedVariables false

set_option maxHeartbeats 4000000 in
set_option maxRecDepth 100000 in
theorem FnExactBookOk_walk (x : Book) (a0_0 : Option Addr) (c0_0 : Nat) (a0_1 : Option Addr) (c0_1 : Nat) (a0_2 : Option Addr) (c0_2 : Nat) (w : World) (h0_0 : SlR 7 repChan w 0 w.heap.size (.slice a0_0 x.chans.length c0_0) x.chans) (h0_1 : SlR 7 repHtlc w 0 w.heap.size (.slice a0_1 x.htlcs.length c0_1) x.htlcs) (h0_2 : SlR 5 repCircle w 0 w.heap.size (.slice a0_2 x.circles.length c0_2) x.circles) (_ : wfBook x) :
    Calls Try.prog 4 #[.agg #[.int .i64 x.tick, .int .i64 x.next, .int .i64 x.wallet, .slice a0_0 x.chans.length c0_0, .slice a0_1 x.htlcs.length c0_1, .slice a0_2 x.circles.length c0_2]] w fun e w' => e = .returned (.bool true) ∧ Grow w w' := by
  by_cases t0 : szBook x (1048576 : Int) < 0
  · go_enter Try.func4, Try.ntmps4
    go_wp2_with fail
    refine (szBook_c x _ _ _ _ _ _ _ _ (h0_0.grow' repChan_stable (Grow.below (by repeat (first | exact Grow.refl _ | (refine Grow.alloc ?_ _ _) | (refine Grow.drew ?_) | (refine Grow.trans ?_ (by assumption)))))) (h0_1.grow' repHtlc_stable (Grow.below (by repeat (first | exact Grow.refl _ | (refine Grow.alloc ?_ _ _) | (refine Grow.drew ?_) | (refine Grow.trans ?_ (by assumption)))))) (h0_2.grow' repCircle_stable (Grow.below (by repeat (first | exact Grow.refl _ | (refine Grow.alloc ?_ _ _) | (refine Grow.drew ?_) | (refine Grow.trans ?_ (by assumption)))))) (by omega) (by omega)).mono ?_
    rintro e w1 ⟨rfl, g1⟩
    have y1 := g1.size
    simp only [World.size_alloc] at y1
    have b0_0_1 : w1.cell? ⟨w.heap.size, 0, none⟩ = some (.int .i64 x.tick) := cellGrow g1 (cell_new 0 rfl)
    have b0_1_1 : w1.cell? ⟨w.heap.size, 1, none⟩ = some (.int .i64 x.next) := cellGrow g1 (cell_new 1 rfl)
    have b0_2_1 : w1.cell? ⟨w.heap.size, 2, none⟩ = some (.int .i64 x.wallet) := cellGrow g1 (cell_new 2 rfl)
    have b0_3_1 : w1.cell? ⟨w.heap.size, 3, none⟩ = some (.slice a0_0 x.chans.length c0_0) := cellGrow g1 (cell_new 3 rfl)
    have b0_4_1 : w1.cell? ⟨w.heap.size, 4, none⟩ = some (.slice a0_1 x.htlcs.length c0_1) := cellGrow g1 (cell_new 4 rfl)
    have b0_5_1 : w1.cell? ⟨w.heap.size, 5, none⟩ = some (.slice a0_2 x.circles.length c0_2) := cellGrow g1 (cell_new 5 rfl)
    have z0_1 := lt_of_cell b0_0_1
    go_wp2_with fail
    go_ret
    exact ⟨rfl, by repeat (first | exact Grow.refl _ | (refine Grow.alloc ?_ _ _) | (refine Grow.drew ?_) | (refine Grow.trans ?_ (by assumption)))⟩
  obtain ⟨L0, Bx_0, Bx_1, Bx_2⟩ := szBook_le x (1048576 : Int) (by omega) (by omega)
  go_enter Try.func4, Try.ntmps4
  go_wp2_with fail
  refine (szBook_c x _ _ _ _ _ _ _ _ (h0_0.grow' repChan_stable (Grow.below (by repeat (first | exact Grow.refl _ | (refine Grow.alloc ?_ _ _) | (refine Grow.drew ?_) | (refine Grow.trans ?_ (by assumption)))))) (h0_1.grow' repHtlc_stable (Grow.below (by repeat (first | exact Grow.refl _ | (refine Grow.alloc ?_ _ _) | (refine Grow.drew ?_) | (refine Grow.trans ?_ (by assumption)))))) (h0_2.grow' repCircle_stable (Grow.below (by repeat (first | exact Grow.refl _ | (refine Grow.alloc ?_ _ _) | (refine Grow.drew ?_) | (refine Grow.trans ?_ (by assumption)))))) (by omega) (by omega)).mono ?_
  rintro e w1 ⟨rfl, g1⟩
  have y1 := g1.size
  simp only [World.size_alloc] at y1
  have b0_0_1 : w1.cell? ⟨w.heap.size, 0, none⟩ = some (.int .i64 x.tick) := cellGrow g1 (cell_new 0 rfl)
  have b0_1_1 : w1.cell? ⟨w.heap.size, 1, none⟩ = some (.int .i64 x.next) := cellGrow g1 (cell_new 1 rfl)
  have b0_2_1 : w1.cell? ⟨w.heap.size, 2, none⟩ = some (.int .i64 x.wallet) := cellGrow g1 (cell_new 2 rfl)
  have b0_3_1 : w1.cell? ⟨w.heap.size, 3, none⟩ = some (.slice a0_0 x.chans.length c0_0) := cellGrow g1 (cell_new 3 rfl)
  have b0_4_1 : w1.cell? ⟨w.heap.size, 4, none⟩ = some (.slice a0_1 x.htlcs.length c0_1) := cellGrow g1 (cell_new 4 rfl)
  have b0_5_1 : w1.cell? ⟨w.heap.size, 5, none⟩ = some (.slice a0_2 x.circles.length c0_2) := cellGrow g1 (cell_new 5 rfl)
  have z0_1 := lt_of_cell b0_0_1
  go_wp2_with fail
  refine (toBook_c x _ _ _ _ _ _ _ (h0_0.grow' repChan_stable (Grow.below (by repeat (first | exact Grow.refl _ | (refine Grow.alloc ?_ _ _) | (refine Grow.drew ?_) | (refine Grow.trans ?_ (by assumption)))))) (h0_1.grow' repHtlc_stable (Grow.below (by repeat (first | exact Grow.refl _ | (refine Grow.alloc ?_ _ _) | (refine Grow.drew ?_) | (refine Grow.trans ?_ (by assumption)))))) (h0_2.grow' repCircle_stable (Grow.below (by repeat (first | exact Grow.refl _ | (refine Grow.alloc ?_ _ _) | (refine Grow.drew ?_) | (refine Grow.trans ?_ (by assumption)))))) Bx_0 Bx_1 Bx_2).mono ?_
  rintro e w2 ⟨A2_0, C2_0, P2_0, Q2_0, A2_1, C2_1, P2_1, Q2_1, A2_2, C2_2, P2_2, Q2_2, rfl, g2, O2, R2_0, R2_1, R2_2⟩
  have y2 := g2.size
  have S2_0 : SlR 7 repChan w2 0 w2.heap.size (.slice A2_0 x.chans.length C2_0) x.chans := R2_0.stable repChan_stable (Same.refl _ _ _) (Nat.zero_le _) (by omega)
  have S2_1 : SlR 7 repHtlc w2 0 w2.heap.size (.slice A2_1 x.htlcs.length C2_1) x.htlcs := R2_1.stable repHtlc_stable (Same.refl _ _ _) (Nat.zero_le _) (by omega)
  have S2_2 : SlR 5 repCircle w2 0 w2.heap.size (.slice A2_2 x.circles.length C2_2) x.circles := R2_2.stable repCircle_stable (Same.refl _ _ _) (Nat.zero_le _) (by omega)
  have b0_0_2 : w2.cell? ⟨w.heap.size, 0, none⟩ = some (.int .i64 x.tick) := cellGrow g2 b0_0_1
  have b0_1_2 : w2.cell? ⟨w.heap.size, 1, none⟩ = some (.int .i64 x.next) := cellGrow g2 b0_1_1
  have b0_2_2 : w2.cell? ⟨w.heap.size, 2, none⟩ = some (.int .i64 x.wallet) := cellGrow g2 b0_2_1
  have b0_3_2 : w2.cell? ⟨w.heap.size, 3, none⟩ = some (.slice a0_0 x.chans.length c0_0) := cellGrow g2 b0_3_1
  have b0_4_2 : w2.cell? ⟨w.heap.size, 4, none⟩ = some (.slice a0_1 x.htlcs.length c0_1) := cellGrow g2 b0_4_1
  have b0_5_2 : w2.cell? ⟨w.heap.size, 5, none⟩ = some (.slice a0_2 x.circles.length c0_2) := cellGrow g2 b0_5_1
  have z0_2 := lt_of_cell b0_0_2
  clear b0_0_1 b0_1_1 b0_2_1 b0_3_1 b0_4_1 b0_5_1
  go_wp2_with fail
  refine (spec_BookOk_c x _ _ _ _ _ _ _ (S2_0.grow' repChan_stable (Grow.below (by repeat (first | exact Grow.refl _ | (refine Grow.alloc ?_ _ _) | (refine Grow.drew ?_) | (refine Grow.trans ?_ (by assumption)))))) (S2_1.grow' repHtlc_stable (Grow.below (by repeat (first | exact Grow.refl _ | (refine Grow.alloc ?_ _ _) | (refine Grow.drew ?_) | (refine Grow.trans ?_ (by assumption)))))) (S2_2.grow' repCircle_stable (Grow.below (by repeat (first | exact Grow.refl _ | (refine Grow.alloc ?_ _ _) | (refine Grow.drew ?_) | (refine Grow.trans ?_ (by assumption)))))) Bx_0).mono ?_
  rintro e w3 ⟨rfl, g3⟩
  have y3 := g3.size
  have b0_0_3 : w3.cell? ⟨w.heap.size, 0, none⟩ = some (.int .i64 x.tick) := cellGrow g3 b0_0_2
  have b0_1_3 : w3.cell? ⟨w.heap.size, 1, none⟩ = some (.int .i64 x.next) := cellGrow g3 b0_1_2
  have b0_2_3 : w3.cell? ⟨w.heap.size, 2, none⟩ = some (.int .i64 x.wallet) := cellGrow g3 b0_2_2
  have b0_3_3 : w3.cell? ⟨w.heap.size, 3, none⟩ = some (.slice a0_0 x.chans.length c0_0) := cellGrow g3 b0_3_2
  have b0_4_3 : w3.cell? ⟨w.heap.size, 4, none⟩ = some (.slice a0_1 x.htlcs.length c0_1) := cellGrow g3 b0_4_2
  have b0_5_3 : w3.cell? ⟨w.heap.size, 5, none⟩ = some (.slice a0_2 x.circles.length c0_2) := cellGrow g3 b0_5_2
  have z0_3 := lt_of_cell b0_0_3
  clear b0_0_2 b0_1_2 b0_2_2 b0_3_2 b0_4_2 b0_5_2
  go_wp2_with fail
  refine (toBook_c x _ _ _ _ _ _ _ (h0_0.grow' repChan_stable (Grow.below (by repeat (first | exact Grow.refl _ | (refine Grow.alloc ?_ _ _) | (refine Grow.drew ?_) | (refine Grow.trans ?_ (by assumption)))))) (h0_1.grow' repHtlc_stable (Grow.below (by repeat (first | exact Grow.refl _ | (refine Grow.alloc ?_ _ _) | (refine Grow.drew ?_) | (refine Grow.trans ?_ (by assumption)))))) (h0_2.grow' repCircle_stable (Grow.below (by repeat (first | exact Grow.refl _ | (refine Grow.alloc ?_ _ _) | (refine Grow.drew ?_) | (refine Grow.trans ?_ (by assumption)))))) Bx_0 Bx_1 Bx_2).mono ?_
  rintro e w4 ⟨A4_0, C4_0, P4_0, Q4_0, A4_1, C4_1, P4_1, Q4_1, A4_2, C4_2, P4_2, Q4_2, rfl, g4, O4, R4_0, R4_1, R4_2⟩
  have y4 := g4.size
  have S4_0 : SlR 7 repChan w4 0 w4.heap.size (.slice A4_0 x.chans.length C4_0) x.chans := R4_0.stable repChan_stable (Same.refl _ _ _) (Nat.zero_le _) (by omega)
  have S4_1 : SlR 7 repHtlc w4 0 w4.heap.size (.slice A4_1 x.htlcs.length C4_1) x.htlcs := R4_1.stable repHtlc_stable (Same.refl _ _ _) (Nat.zero_le _) (by omega)
  have S4_2 : SlR 5 repCircle w4 0 w4.heap.size (.slice A4_2 x.circles.length C4_2) x.circles := R4_2.stable repCircle_stable (Same.refl _ _ _) (Nat.zero_le _) (by omega)
  have b0_0_4 : w4.cell? ⟨w.heap.size, 0, none⟩ = some (.int .i64 x.tick) := cellGrow g4 b0_0_3
  have b0_1_4 : w4.cell? ⟨w.heap.size, 1, none⟩ = some (.int .i64 x.next) := cellGrow g4 b0_1_3
  have b0_2_4 : w4.cell? ⟨w.heap.size, 2, none⟩ = some (.int .i64 x.wallet) := cellGrow g4 b0_2_3
  have b0_3_4 : w4.cell? ⟨w.heap.size, 3, none⟩ = some (.slice a0_0 x.chans.length c0_0) := cellGrow g4 b0_3_3
  have b0_4_4 : w4.cell? ⟨w.heap.size, 4, none⟩ = some (.slice a0_1 x.htlcs.length c0_1) := cellGrow g4 b0_4_3
  have b0_5_4 : w4.cell? ⟨w.heap.size, 5, none⟩ = some (.slice a0_2 x.circles.length c0_2) := cellGrow g4 b0_5_3
  have z0_4 := lt_of_cell b0_0_4
  clear b0_0_3 b0_1_3 b0_2_3 b0_3_3 b0_4_3 b0_5_3
  go_wp2_with fail
  refine (impl_BookOk_c x _ _ _ _ _ _ _ (S4_0.grow' repChan_stable (Grow.below (by repeat (first | exact Grow.refl _ | (refine Grow.alloc ?_ _ _) | (refine Grow.drew ?_) | (refine Grow.trans ?_ (by assumption)))))) (S4_1.grow' repHtlc_stable (Grow.below (by repeat (first | exact Grow.refl _ | (refine Grow.alloc ?_ _ _) | (refine Grow.drew ?_) | (refine Grow.trans ?_ (by assumption)))))) (S4_2.grow' repCircle_stable (Grow.below (by repeat (first | exact Grow.refl _ | (refine Grow.alloc ?_ _ _) | (refine Grow.drew ?_) | (refine Grow.trans ?_ (by assumption)))))) Bx_0).mono ?_
  rintro e w5 ⟨rfl, g5⟩
  have y5 := g5.size
  simp only [World.size_alloc] at y5
  have b0_0_5 : w5.cell? ⟨w.heap.size, 0, none⟩ = some (.int .i64 x.tick) := cellGrow g5 (cellAlloc b0_0_4 _)
  have b0_1_5 : w5.cell? ⟨w.heap.size, 1, none⟩ = some (.int .i64 x.next) := cellGrow g5 (cellAlloc b0_1_4 _)
  have b0_2_5 : w5.cell? ⟨w.heap.size, 2, none⟩ = some (.int .i64 x.wallet) := cellGrow g5 (cellAlloc b0_2_4 _)
  have b0_3_5 : w5.cell? ⟨w.heap.size, 3, none⟩ = some (.slice a0_0 x.chans.length c0_0) := cellGrow g5 (cellAlloc b0_3_4 _)
  have b0_4_5 : w5.cell? ⟨w.heap.size, 4, none⟩ = some (.slice a0_1 x.htlcs.length c0_1) := cellGrow g5 (cellAlloc b0_4_4 _)
  have b0_5_5 : w5.cell? ⟨w.heap.size, 5, none⟩ = some (.slice a0_2 x.circles.length c0_2) := cellGrow g5 (cellAlloc b0_5_4 _)
  have b1_0_5 : w5.cell? ⟨w4.heap.size, 0, none⟩ = some (.int .i64 x.tick) := cellGrow g5 (cell_new 0 rfl)
  have b1_1_5 : w5.cell? ⟨w4.heap.size, 1, none⟩ = some (.int .i64 x.next) := cellGrow g5 (cell_new 1 rfl)
  have b1_2_5 : w5.cell? ⟨w4.heap.size, 2, none⟩ = some (.int .i64 x.wallet) := cellGrow g5 (cell_new 2 rfl)
  have b1_3_5 : w5.cell? ⟨w4.heap.size, 3, none⟩ = some (.slice A4_0 x.chans.length C4_0) := cellGrow g5 (cell_new 3 rfl)
  have b1_4_5 : w5.cell? ⟨w4.heap.size, 4, none⟩ = some (.slice A4_1 x.htlcs.length C4_1) := cellGrow g5 (cell_new 4 rfl)
  have b1_5_5 : w5.cell? ⟨w4.heap.size, 5, none⟩ = some (.slice A4_2 x.circles.length C4_2) := cellGrow g5 (cell_new 5 rfl)
  have z0_5 := lt_of_cell b0_0_5
  have z1_5 := lt_of_cell b1_0_5
  clear b0_0_4 b0_1_4 b0_2_4 b0_3_4 b0_4_4 b0_5_4
  go_wp2_with fail
  go_region_held3 (fun W => W.cell? ⟨w.heap.size, 0, none⟩ = some (.int .i64 x.tick) ∧ W.cell? ⟨w.heap.size, 1, none⟩ = some (.int .i64 x.next) ∧ W.cell? ⟨w.heap.size, 2, none⟩ = some (.int .i64 x.wallet) ∧ W.cell? ⟨w.heap.size, 3, none⟩ = some (.slice a0_0 x.chans.length c0_0) ∧ W.cell? ⟨w.heap.size, 4, none⟩ = some (.slice a0_1 x.htlcs.length c0_1) ∧ W.cell? ⟨w.heap.size, 5, none⟩ = some (.slice a0_2 x.circles.length c0_2) ∧ W.cell? ⟨w4.heap.size, 0, none⟩ = some (.int .i64 x.tick) ∧ W.cell? ⟨w4.heap.size, 1, none⟩ = some (.int .i64 x.next) ∧ W.cell? ⟨w4.heap.size, 2, none⟩ = some (.int .i64 x.wallet) ∧ W.cell? ⟨w4.heap.size, 3, none⟩ = some (.slice A4_0 x.chans.length C4_0) ∧ W.cell? ⟨w4.heap.size, 4, none⟩ = some (.slice A4_1 x.htlcs.length C4_1) ∧ W.cell? ⟨w4.heap.size, 5, none⟩ = some (.slice A4_2 x.circles.length C4_2))
    (first
      | exact ⟨b0_0_5, b0_1_5, b0_2_5, b0_3_5, b0_4_5, b0_5_5, b1_0_5, b1_1_5, b1_2_5, b1_3_5, b1_4_5, b1_5_5⟩
      | exact ⟨(cellGrow g6 b0_0_5), (cellGrow g6 b0_1_5), (cellGrow g6 b0_2_5), (cellGrow g6 b0_3_5), (cellGrow g6 b0_4_5), (cellGrow g6 b0_5_5), (cellGrow g6 b1_0_5), (cellGrow g6 b1_1_5), (cellGrow g6 b1_2_5), (cellGrow g6 b1_3_5), (cellGrow g6 b1_4_5), (cellGrow g6 b1_5_5)⟩
      | exact ⟨(cellGrow g7 (cellGrow g6 b0_0_5)), (cellGrow g7 (cellGrow g6 b0_1_5)), (cellGrow g7 (cellGrow g6 b0_2_5)), (cellGrow g7 (cellGrow g6 b0_3_5)), (cellGrow g7 (cellGrow g6 b0_4_5)), (cellGrow g7 (cellGrow g6 b0_5_5)), (cellGrow g7 (cellGrow g6 b1_0_5)), (cellGrow g7 (cellGrow g6 b1_1_5)), (cellGrow g7 (cellGrow g6 b1_2_5)), (cellGrow g7 (cellGrow g6 b1_3_5)), (cellGrow g7 (cellGrow g6 b1_4_5)), (cellGrow g7 (cellGrow g6 b1_5_5))⟩)
    (first
      | (go_at_call 20; refine (toBook_c x _ _ _ _ _ _ _ (h0_0.grow' repChan_stable (Grow.below (by repeat (first | exact Grow.refl _ | (refine Grow.alloc ?_ _ _) | (refine Grow.drew ?_) | (refine Grow.trans ?_ (by assumption)))))) (h0_1.grow' repHtlc_stable (Grow.below (by repeat (first | exact Grow.refl _ | (refine Grow.alloc ?_ _ _) | (refine Grow.drew ?_) | (refine Grow.trans ?_ (by assumption)))))) (h0_2.grow' repCircle_stable (Grow.below (by repeat (first | exact Grow.refl _ | (refine Grow.alloc ?_ _ _) | (refine Grow.drew ?_) | (refine Grow.trans ?_ (by assumption)))))) Bx_0 Bx_1 Bx_2).mono ?_; rintro e w6 ⟨A6_0, C6_0, P6_0, Q6_0, A6_1, C6_1, P6_1, Q6_1, A6_2, C6_2, P6_2, Q6_2, rfl, g6, O6, R6_0, R6_1, R6_2⟩; have y6 := g6.size; have S6_0 : SlR 7 repChan w6 0 w6.heap.size (.slice A6_0 x.chans.length C6_0) x.chans := R6_0.stable repChan_stable (Same.refl _ _ _) (Nat.zero_le _) (by omega); have S6_1 : SlR 7 repHtlc w6 0 w6.heap.size (.slice A6_1 x.htlcs.length C6_1) x.htlcs := R6_1.stable repHtlc_stable (Same.refl _ _ _) (Nat.zero_le _) (by omega); have S6_2 : SlR 5 repCircle w6 0 w6.heap.size (.slice A6_2 x.circles.length C6_2) x.circles := R6_2.stable repCircle_stable (Same.refl _ _ _) (Nat.zero_le _) (by omega))
      | (go_at_call 15; refine (eqBook_c x _ _ _ _ _ _ _ _ _ _ _ _ _ (S4_0.grow' repChan_stable (Grow.below (by repeat (first | exact Grow.refl _ | (refine Grow.alloc ?_ _ _) | (refine Grow.drew ?_) | (refine Grow.trans ?_ (by assumption)))))) (S6_0.grow' repChan_stable (Grow.below (by repeat (first | exact Grow.refl _ | (refine Grow.alloc ?_ _ _) | (refine Grow.drew ?_) | (refine Grow.trans ?_ (by assumption)))))) (S4_1.grow' repHtlc_stable (Grow.below (by repeat (first | exact Grow.refl _ | (refine Grow.alloc ?_ _ _) | (refine Grow.drew ?_) | (refine Grow.trans ?_ (by assumption)))))) (S6_1.grow' repHtlc_stable (Grow.below (by repeat (first | exact Grow.refl _ | (refine Grow.alloc ?_ _ _) | (refine Grow.drew ?_) | (refine Grow.trans ?_ (by assumption)))))) (S4_2.grow' repCircle_stable (Grow.below (by repeat (first | exact Grow.refl _ | (refine Grow.alloc ?_ _ _) | (refine Grow.drew ?_) | (refine Grow.trans ?_ (by assumption)))))) (S6_2.grow' repCircle_stable (Grow.below (by repeat (first | exact Grow.refl _ | (refine Grow.alloc ?_ _ _) | (refine Grow.drew ?_) | (refine Grow.trans ?_ (by assumption))))))).mono ?_; rintro e w7 ⟨rfl, g7⟩; have y7 := g7.size))
  have b0_0_7 : w7.cell? ⟨w.heap.size, 0, none⟩ = some (.int .i64 x.tick) := (cellGrow g7 (cellGrow g6 b0_0_5))
  have b0_1_7 : w7.cell? ⟨w.heap.size, 1, none⟩ = some (.int .i64 x.next) := (cellGrow g7 (cellGrow g6 b0_1_5))
  have b0_2_7 : w7.cell? ⟨w.heap.size, 2, none⟩ = some (.int .i64 x.wallet) := (cellGrow g7 (cellGrow g6 b0_2_5))
  have b0_3_7 : w7.cell? ⟨w.heap.size, 3, none⟩ = some (.slice a0_0 x.chans.length c0_0) := (cellGrow g7 (cellGrow g6 b0_3_5))
  have b0_4_7 : w7.cell? ⟨w.heap.size, 4, none⟩ = some (.slice a0_1 x.htlcs.length c0_1) := (cellGrow g7 (cellGrow g6 b0_4_5))
  have b0_5_7 : w7.cell? ⟨w.heap.size, 5, none⟩ = some (.slice a0_2 x.circles.length c0_2) := (cellGrow g7 (cellGrow g6 b0_5_5))
  have b1_0_7 : w7.cell? ⟨w4.heap.size, 0, none⟩ = some (.int .i64 x.tick) := (cellGrow g7 (cellGrow g6 b1_0_5))
  have b1_1_7 : w7.cell? ⟨w4.heap.size, 1, none⟩ = some (.int .i64 x.next) := (cellGrow g7 (cellGrow g6 b1_1_5))
  have b1_2_7 : w7.cell? ⟨w4.heap.size, 2, none⟩ = some (.int .i64 x.wallet) := (cellGrow g7 (cellGrow g6 b1_2_5))
  have b1_3_7 : w7.cell? ⟨w4.heap.size, 3, none⟩ = some (.slice A4_0 x.chans.length C4_0) := (cellGrow g7 (cellGrow g6 b1_3_5))
  have b1_4_7 : w7.cell? ⟨w4.heap.size, 4, none⟩ = some (.slice A4_1 x.htlcs.length C4_1) := (cellGrow g7 (cellGrow g6 b1_4_5))
  have b1_5_7 : w7.cell? ⟨w4.heap.size, 5, none⟩ = some (.slice A4_2 x.circles.length C4_2) := (cellGrow g7 (cellGrow g6 b1_5_5))
  have z0_7 := lt_of_cell b0_0_7
  have z1_7 := lt_of_cell b1_0_7
  go_wp2_with fail
  go_ret
  exact ⟨rfl, by repeat (first | exact Grow.refl _ | (refine Grow.alloc ?_ _ _) | (refine Grow.drew ?_) | (refine Grow.trans ?_ (by assumption)))⟩
end Go.Proofs.Ytigbjpllckgilaa
