/- The law FnExactMovesCost, walked over the contracts. -/
import Derived.Test.YteklopbnkclfaaaMoves1
import Derived.Test.YteklopbnkclfaaaHMove
import Derived.Deep.RegionHeld3
namespace Go.Proofs.Yteklopbnkclfaaa
open Go.RowKit
set_option linter.unusedSimpArgs false
set_option linter.unusedVariables false

set_option maxHeartbeats 4000000 in
set_option maxRecDepth 100000 in
theorem FnExactMovesCost_walk (x0 : List Move) (a0 : Option Addr) (c0 : Nat) (w : World) (h0 : SlR 4 repMove w 0 w.heap.size (.slice a0 x0.length c0) x0) :
    Calls Try.prog 3 #[.slice a0 x0.length c0] w fun e w' => e = .returned (.bool true) ∧ Grow w w' := by
  by_cases t0 : szL x0.length (1048576 : Int) < 0
  · go_enter Try.func3, Try.ntmps3
    go_wp2_with fail
    refine (szMoveS_c _ _ _ _ _ (by have hh := h0; obtain ⟨_, _, _, _, hh2, _⟩ := hh; unfold maxLen at hh2; omega) (by omega) (by omega)).mono ?_
    rintro e w1 ⟨rfl, g1⟩
    have y1 := g1.size
    go_wp2_with fail
    go_ret
    exact ⟨rfl, by repeat (first | exact Grow.refl _ | (refine Grow.alloc ?_ _ _) | (refine Grow.drew ?_) | (refine Grow.trans ?_ (by assumption)))⟩
  obtain ⟨L0, Bx0⟩ := szL_le x0.length (1048576 : Int) (by omega)
  have Bx0 : x0.length ≤ 1048576 := by omega
  have hbb : (movesCost x0 != movesCost x0) = false := by simp
  go_enter Try.func3, Try.ntmps3
  go_wp2_with fail
  refine (szMoveS_c _ _ _ _ _ (by have hh := h0; obtain ⟨_, _, _, _, hh2, _⟩ := hh; unfold maxLen at hh2; omega) (by omega) (by omega)).mono ?_
  rintro e w1 ⟨rfl, g1⟩
  have y1 := g1.size
  go_wp2_with fail
  refine (toMoveS_c x0 _ _ _ (h0.grow' repMove_stable (Grow.below (by repeat (first | exact Grow.refl _ | (refine Grow.alloc ?_ _ _) | (refine Grow.drew ?_) | (refine Grow.trans ?_ (by assumption)))))) Bx0).mono ?_
  rintro e w2 ⟨A2_0, C2_0, rfl, g2, R2_0⟩
  have y2 := g2.size
  have S2_0 : SlR 4 repMove w2 0 w2.heap.size (.slice A2_0 x0.length C2_0) x0 := R2_0.stable repMove_stable (Same.refl _ _ _) (Nat.zero_le _) (by omega)
  go_wp2_with fail
  refine (spec_MovesCost_c x0 _ _ _ (S2_0.grow' repMove_stable (Grow.below (by repeat (first | exact Grow.refl _ | (refine Grow.alloc ?_ _ _) | (refine Grow.drew ?_) | (refine Grow.trans ?_ (by assumption)))))) ).mono ?_
  rintro e w3 ⟨rfl, g3⟩
  have y3 := g3.size
  go_wp2_with fail
  refine (toMoveS_c x0 _ _ _ (h0.grow' repMove_stable (Grow.below (by repeat (first | exact Grow.refl _ | (refine Grow.alloc ?_ _ _) | (refine Grow.drew ?_) | (refine Grow.trans ?_ (by assumption)))))) Bx0).mono ?_
  rintro e w4 ⟨A4_0, C4_0, rfl, g4, R4_0⟩
  have y4 := g4.size
  have S4_0 : SlR 4 repMove w4 0 w4.heap.size (.slice A4_0 x0.length C4_0) x0 := R4_0.stable repMove_stable (Same.refl _ _ _) (Nat.zero_le _) (by omega)
  go_wp2_with fail
  refine (impl_MovesCost_c x0 _ _ _ (S4_0.grow' repMove_stable (Grow.below (by repeat (first | exact Grow.refl _ | (refine Grow.alloc ?_ _ _) | (refine Grow.drew ?_) | (refine Grow.trans ?_ (by assumption)))))) ).mono ?_
  rintro e w5 ⟨rfl, g5⟩
  have y5 := g5.size
  go_wp2_with fail
  refine (toMoveS_c x0 _ _ _ (h0.grow' repMove_stable (Grow.below (by repeat (first | exact Grow.refl _ | (refine Grow.alloc ?_ _ _) | (refine Grow.drew ?_) | (refine Grow.trans ?_ (by assumption)))))) Bx0).mono ?_
  rintro e w6 ⟨A6_0, C6_0, rfl, g6, R6_0⟩
  have y6 := g6.size
  have S6_0 : SlR 4 repMove w6 0 w6.heap.size (.slice A6_0 x0.length C6_0) x0 := R6_0.stable repMove_stable (Same.refl _ _ _) (Nat.zero_le _) (by omega)
  go_wp2_with fail
  refine (eqMoveS_c x0 _ _ _ _ _ (S4_0.grow' repMove_stable (Grow.below (by repeat (first | exact Grow.refl _ | (refine Grow.alloc ?_ _ _) | (refine Grow.drew ?_) | (refine Grow.trans ?_ (by assumption)))))) (S6_0.grow' repMove_stable (Grow.below (by repeat (first | exact Grow.refl _ | (refine Grow.alloc ?_ _ _) | (refine Grow.drew ?_) | (refine Grow.trans ?_ (by assumption))))))).mono ?_
  rintro e w7 ⟨rfl, g7⟩
  have y7 := g7.size
  go_wp2_with fail
  go_ret
  exact ⟨rfl, by repeat (first | exact Grow.refl _ | (refine Grow.alloc ?_ _ _) | (refine Grow.drew ?_) | (refine Grow.trans ?_ (by assumption)))⟩
end Go.Proofs.Yteklopbnkclfaaa
