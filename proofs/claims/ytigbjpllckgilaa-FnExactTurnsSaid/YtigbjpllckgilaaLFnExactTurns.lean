/- The law FnExactTurns, walked over the contracts. -/
import Derived.Test.YtigbjpllckgilaaTurns
import Derived.Test.YtigbjpllckgilaaHBook
import Derived.Test.YtigbjpllckgilaaHRule
import Derived.Test.YtigbjpllckgilaaHEvent
import Derived.Test.YtigbjpllckgilaaMEvent
import Derived.Test.YtigbjpllckgilaaMBook
import Derived.Deep.RegionHeld3
namespace Go.Proofs.Ytigbjpllckgilaa
open Go.RowKit
set_option linter.unusedSimpArgs false
set_option linter.unusedVariables false

set_option maxHeartbeats 8000000 in
set_option maxRecDepth 100000 in
theorem FnExactTurns_walk (x : Book) (a0_0 : Option Addr) (c0_0 : Nat) (a0_1 : Option Addr) (c0_1 : Nat) (a0_2 : Option Addr) (c0_2 : Nat) (r : Rule)  (w : World) (h0_0 : SlR 7 repChan w 0 w.heap.size (.slice a0_0 x.chans.length c0_0) x.chans) (h0_1 : SlR 7 repHtlc w 0 w.heap.size (.slice a0_1 x.htlcs.length c0_1) x.htlcs) (h0_2 : SlR 5 repCircle w 0 w.heap.size (.slice a0_2 x.circles.length c0_2) x.circles) (wf0 : wfBook x) (wf1 : wfRule r) :
    Calls Try.prog 10 #[.agg #[.int .i64 x.tick, .int .i64 x.next, .int .i64 x.wallet, .slice a0_0 x.chans.length c0_0, .slice a0_1 x.htlcs.length c0_1, .slice a0_2 x.circles.length c0_2], .agg #[.int .i64 r.lo, .int .i64 r.hi, .int .i64 r.step, .int .i64 r.min, .int .i64 r.max]] w fun e w' => e = .returned (.bool true) ∧ Grow w w' := by
  have H0_0 := Lib.hid h0_0
  have H0_1 := Lib.hid h0_1
  have H0_2 := Lib.hid h0_2
  clear h0_0 h0_1 h0_2
  by_cases t0 : szBook x (1048576 : Int) < 0
  · go_enter Try.func10, Try.ntmps10
    go_wp2_with fail
    obtain ⟨V1, hV⟩ : ∃ V, V = ((w.alloc (.cells #[.int .i64 x.tick, .int .i64 x.next, .int .i64 x.wallet, .slice a0_0 x.chans.length c0_0, .slice a0_1 x.htlcs.length c0_1, .slice a0_2 x.circles.length c0_2] 35)).alloc (.cells #[.int .i64 r.lo, .int .i64 r.hi, .int .i64 r.step, .int .i64 r.min, .int .i64 r.max] 66)) := ⟨_, rfl⟩
    have G' : Grow w V1 := by rw [hV]; exact (((Grow.refl w).alloc _ _).alloc _ _)
    have gs : Grow w V1 := by rw [hV]; exact (((Grow.refl w).alloc _ _).alloc _ _)
    have B0 : Box V1 (w.heap.size) [.int .i64 x.tick, .int .i64 x.next, .int .i64 x.wallet, .slice a0_0 x.chans.length c0_0, .slice a0_1 x.htlcs.length c0_1, .slice a0_2 x.circles.length c0_2] := by rw [hV]; exact (Box.newAt (by simp) _ _).alloc _ _
    have B1 : Box V1 (w.heap.size + 1) [.int .i64 r.lo, .int .i64 r.hi, .int .i64 r.step, .int .i64 r.min, .int .i64 r.max] := by rw [hV]; exact Box.newAt (by simp) _ _
    have ys : V1.heap.size = w.heap.size + 2 := by rw [hV]; simp
    have G := G'
    clear G'
    rw [← hV]
    clear hV
    clear gs
    have z0 := B0.lt
    have z1 := B1.lt
    have q0_0 : V1.cell? ⟨w.heap.size, 0, none⟩ = some (.int .i64 x.tick) := B0.c 0 _ rfl
    have q0_1 : V1.cell? ⟨w.heap.size, 1, none⟩ = some (.int .i64 x.next) := B0.c 1 _ rfl
    have q0_2 : V1.cell? ⟨w.heap.size, 2, none⟩ = some (.int .i64 x.wallet) := B0.c 2 _ rfl
    have q0_3 : V1.cell? ⟨w.heap.size, 3, none⟩ = some (.slice a0_0 x.chans.length c0_0) := B0.c 3 _ rfl
    have q0_4 : V1.cell? ⟨w.heap.size, 4, none⟩ = some (.slice a0_1 x.htlcs.length c0_1) := B0.c 4 _ rfl
    have q0_5 : V1.cell? ⟨w.heap.size, 5, none⟩ = some (.slice a0_2 x.circles.length c0_2) := B0.c 5 _ rfl
    have f0 := B0.f
    have q1_0 : V1.cell? ⟨w.heap.size + 1, 0, none⟩ = some (.int .i64 r.lo) := B1.c 0 _ rfl
    have q1_1 : V1.cell? ⟨w.heap.size + 1, 1, none⟩ = some (.int .i64 r.hi) := B1.c 1 _ rfl
    have q1_2 : V1.cell? ⟨w.heap.size + 1, 2, none⟩ = some (.int .i64 r.step) := B1.c 2 _ rfl
    have q1_3 : V1.cell? ⟨w.heap.size + 1, 3, none⟩ = some (.int .i64 r.min) := B1.c 3 _ rfl
    have q1_4 : V1.cell? ⟨w.heap.size + 1, 4, none⟩ = some (.int .i64 r.max) := B1.c 4 _ rfl
    have f1 := B1.f
    refine (szBook_c x _ _ _ _ _ _ _ _ (H0_0.out.grow' repChan_stable (Grow.below G)) (H0_1.out.grow' repHtlc_stable (Grow.below G)) (H0_2.out.grow' repCircle_stable (Grow.below G)) (by omega) (by omega)).mono ?_
    rintro e U1 ⟨rfl, gs⟩
    clear z0 z1 q0_0 q0_1 q0_2 q0_3 q0_4 q0_5 f0 q1_0 q1_1 q1_2 q1_3 q1_4 f1
    have ys := Grow.size gs
    replace B0 : Box U1 (w.heap.size) [.int .i64 x.tick, .int .i64 x.next, .int .i64 x.wallet, .slice a0_0 x.chans.length c0_0, .slice a0_1 x.htlcs.length c0_1, .slice a0_2 x.circles.length c0_2] := Box.grow B0 gs
    replace B1 : Box U1 (w.heap.size + 1) [.int .i64 r.lo, .int .i64 r.hi, .int .i64 r.step, .int .i64 r.min, .int .i64 r.max] := Box.grow B1 gs
    replace G : Grow w U1 := Grow.trans G gs
    clear gs
    have z0 := B0.lt
    have z1 := B1.lt
    have q0_0 : U1.cell? ⟨w.heap.size, 0, none⟩ = some (.int .i64 x.tick) := B0.c 0 _ rfl
    have q0_1 : U1.cell? ⟨w.heap.size, 1, none⟩ = some (.int .i64 x.next) := B0.c 1 _ rfl
    have q0_2 : U1.cell? ⟨w.heap.size, 2, none⟩ = some (.int .i64 x.wallet) := B0.c 2 _ rfl
    have q0_3 : U1.cell? ⟨w.heap.size, 3, none⟩ = some (.slice a0_0 x.chans.length c0_0) := B0.c 3 _ rfl
    have q0_4 : U1.cell? ⟨w.heap.size, 4, none⟩ = some (.slice a0_1 x.htlcs.length c0_1) := B0.c 4 _ rfl
    have q0_5 : U1.cell? ⟨w.heap.size, 5, none⟩ = some (.slice a0_2 x.circles.length c0_2) := B0.c 5 _ rfl
    have f0 := B0.f
    have q1_0 : U1.cell? ⟨w.heap.size + 1, 0, none⟩ = some (.int .i64 r.lo) := B1.c 0 _ rfl
    have q1_1 : U1.cell? ⟨w.heap.size + 1, 1, none⟩ = some (.int .i64 r.hi) := B1.c 1 _ rfl
    have q1_2 : U1.cell? ⟨w.heap.size + 1, 2, none⟩ = some (.int .i64 r.step) := B1.c 2 _ rfl
    have q1_3 : U1.cell? ⟨w.heap.size + 1, 3, none⟩ = some (.int .i64 r.min) := B1.c 3 _ rfl
    have q1_4 : U1.cell? ⟨w.heap.size + 1, 4, none⟩ = some (.int .i64 r.max) := B1.c 4 _ rfl
    have f1 := B1.f
    go_wp2_with fail
    go_ret
    exact ⟨rfl, by repeat (first | exact G | (refine Grow.alloc ?_ _ _) | (refine Grow.drew ?_) | (refine Grow.drewN ?_ _))⟩
  obtain ⟨L0, Bx_0, Bx_1, Bx_2⟩ := szBook_le x (1048576 : Int) (by omega) (by omega)
  go_enter Try.func10, Try.ntmps10
  go_wp2_with fail
  obtain ⟨V1, hV⟩ : ∃ V, V = ((w.alloc (.cells #[.int .i64 x.tick, .int .i64 x.next, .int .i64 x.wallet, .slice a0_0 x.chans.length c0_0, .slice a0_1 x.htlcs.length c0_1, .slice a0_2 x.circles.length c0_2] 35)).alloc (.cells #[.int .i64 r.lo, .int .i64 r.hi, .int .i64 r.step, .int .i64 r.min, .int .i64 r.max] 66)) := ⟨_, rfl⟩
  have G' : Grow w V1 := by rw [hV]; exact (((Grow.refl w).alloc _ _).alloc _ _)
  have gs : Grow w V1 := by rw [hV]; exact (((Grow.refl w).alloc _ _).alloc _ _)
  have B0 : Box V1 (w.heap.size) [.int .i64 x.tick, .int .i64 x.next, .int .i64 x.wallet, .slice a0_0 x.chans.length c0_0, .slice a0_1 x.htlcs.length c0_1, .slice a0_2 x.circles.length c0_2] := by rw [hV]; exact (Box.newAt (by simp) _ _).alloc _ _
  have B1 : Box V1 (w.heap.size + 1) [.int .i64 r.lo, .int .i64 r.hi, .int .i64 r.step, .int .i64 r.min, .int .i64 r.max] := by rw [hV]; exact Box.newAt (by simp) _ _
  have ys : V1.heap.size = w.heap.size + 2 := by rw [hV]; simp
  have G := G'
  clear G'
  rw [← hV]
  clear hV
  clear gs
  have z0 := B0.lt
  have z1 := B1.lt
  have q0_0 : V1.cell? ⟨w.heap.size, 0, none⟩ = some (.int .i64 x.tick) := B0.c 0 _ rfl
  have q0_1 : V1.cell? ⟨w.heap.size, 1, none⟩ = some (.int .i64 x.next) := B0.c 1 _ rfl
  have q0_2 : V1.cell? ⟨w.heap.size, 2, none⟩ = some (.int .i64 x.wallet) := B0.c 2 _ rfl
  have q0_3 : V1.cell? ⟨w.heap.size, 3, none⟩ = some (.slice a0_0 x.chans.length c0_0) := B0.c 3 _ rfl
  have q0_4 : V1.cell? ⟨w.heap.size, 4, none⟩ = some (.slice a0_1 x.htlcs.length c0_1) := B0.c 4 _ rfl
  have q0_5 : V1.cell? ⟨w.heap.size, 5, none⟩ = some (.slice a0_2 x.circles.length c0_2) := B0.c 5 _ rfl
  have f0 := B0.f
  have q1_0 : V1.cell? ⟨w.heap.size + 1, 0, none⟩ = some (.int .i64 r.lo) := B1.c 0 _ rfl
  have q1_1 : V1.cell? ⟨w.heap.size + 1, 1, none⟩ = some (.int .i64 r.hi) := B1.c 1 _ rfl
  have q1_2 : V1.cell? ⟨w.heap.size + 1, 2, none⟩ = some (.int .i64 r.step) := B1.c 2 _ rfl
  have q1_3 : V1.cell? ⟨w.heap.size + 1, 3, none⟩ = some (.int .i64 r.min) := B1.c 3 _ rfl
  have q1_4 : V1.cell? ⟨w.heap.size + 1, 4, none⟩ = some (.int .i64 r.max) := B1.c 4 _ rfl
  have f1 := B1.f
  refine (szBook_c x _ _ _ _ _ _ _ _ (H0_0.out.grow' repChan_stable (Grow.below G)) (H0_1.out.grow' repHtlc_stable (Grow.below G)) (H0_2.out.grow' repCircle_stable (Grow.below G)) (by omega) (by omega)).mono ?_
  rintro e U1 ⟨rfl, gs⟩
  clear z0 z1 q0_0 q0_1 q0_2 q0_3 q0_4 q0_5 f0 q1_0 q1_1 q1_2 q1_3 q1_4 f1
  have ys := Grow.size gs
  replace B0 : Box U1 (w.heap.size) [.int .i64 x.tick, .int .i64 x.next, .int .i64 x.wallet, .slice a0_0 x.chans.length c0_0, .slice a0_1 x.htlcs.length c0_1, .slice a0_2 x.circles.length c0_2] := Box.grow B0 gs
  replace B1 : Box U1 (w.heap.size + 1) [.int .i64 r.lo, .int .i64 r.hi, .int .i64 r.step, .int .i64 r.min, .int .i64 r.max] := Box.grow B1 gs
  replace G : Grow w U1 := Grow.trans G gs
  clear gs
  have z0 := B0.lt
  have z1 := B1.lt
  have q0_0 : U1.cell? ⟨w.heap.size, 0, none⟩ = some (.int .i64 x.tick) := B0.c 0 _ rfl
  have q0_1 : U1.cell? ⟨w.heap.size, 1, none⟩ = some (.int .i64 x.next) := B0.c 1 _ rfl
  have q0_2 : U1.cell? ⟨w.heap.size, 2, none⟩ = some (.int .i64 x.wallet) := B0.c 2 _ rfl
  have q0_3 : U1.cell? ⟨w.heap.size, 3, none⟩ = some (.slice a0_0 x.chans.length c0_0) := B0.c 3 _ rfl
  have q0_4 : U1.cell? ⟨w.heap.size, 4, none⟩ = some (.slice a0_1 x.htlcs.length c0_1) := B0.c 4 _ rfl
  have q0_5 : U1.cell? ⟨w.heap.size, 5, none⟩ = some (.slice a0_2 x.circles.length c0_2) := B0.c 5 _ rfl
  have f0 := B0.f
  have q1_0 : U1.cell? ⟨w.heap.size + 1, 0, none⟩ = some (.int .i64 r.lo) := B1.c 0 _ rfl
  have q1_1 : U1.cell? ⟨w.heap.size + 1, 1, none⟩ = some (.int .i64 r.hi) := B1.c 1 _ rfl
  have q1_2 : U1.cell? ⟨w.heap.size + 1, 2, none⟩ = some (.int .i64 r.step) := B1.c 2 _ rfl
  have q1_3 : U1.cell? ⟨w.heap.size + 1, 3, none⟩ = some (.int .i64 r.min) := B1.c 3 _ rfl
  have q1_4 : U1.cell? ⟨w.heap.size + 1, 4, none⟩ = some (.int .i64 r.max) := B1.c 4 _ rfl
  have f1 := B1.f
  go_wp2_with fail
  have KH0_0 := (H0_0.out.grow' repChan_stable (Grow.below G))
  have KH0_1 := (H0_1.out.grow' repHtlc_stable (Grow.below G))
  have KH0_2 := (H0_2.out.grow' repCircle_stable (Grow.below G))
  go_region_held3 (fun W => W.cell? ⟨w.heap.size, 0, none⟩ = some (.int .i64 x.tick) ∧ W.cell? ⟨w.heap.size, 1, none⟩ = some (.int .i64 x.next) ∧ W.cell? ⟨w.heap.size, 2, none⟩ = some (.int .i64 x.wallet) ∧ W.cell? ⟨w.heap.size, 3, none⟩ = some (.slice a0_0 x.chans.length c0_0) ∧ W.cell? ⟨w.heap.size, 4, none⟩ = some (.slice a0_1 x.htlcs.length c0_1) ∧ W.cell? ⟨w.heap.size, 5, none⟩ = some (.slice a0_2 x.circles.length c0_2) ∧ W.cell? ⟨w.heap.size + 1, 0, none⟩ = some (.int .i64 r.lo) ∧ W.cell? ⟨w.heap.size + 1, 1, none⟩ = some (.int .i64 r.hi) ∧ W.cell? ⟨w.heap.size + 1, 2, none⟩ = some (.int .i64 r.step) ∧ W.cell? ⟨w.heap.size + 1, 3, none⟩ = some (.int .i64 r.min) ∧ W.cell? ⟨w.heap.size + 1, 4, none⟩ = some (.int .i64 r.max))
    (first
      | exact ⟨q0_0, q0_1, q0_2, q0_3, q0_4, q0_5, q1_0, q1_1, q1_2, q1_3, q1_4⟩
      | exact ⟨(cellGrow g2 q0_0), (cellGrow g2 q0_1), (cellGrow g2 q0_2), (cellGrow g2 q0_3), (cellGrow g2 q0_4), (cellGrow g2 q0_5), (cellGrow g2 q1_0), (cellGrow g2 q1_1), (cellGrow g2 q1_2), (cellGrow g2 q1_3), (cellGrow g2 q1_4)⟩
      | exact ⟨(cellGrow g3 (cellGrow g2 q0_0)), (cellGrow g3 (cellGrow g2 q0_1)), (cellGrow g3 (cellGrow g2 q0_2)), (cellGrow g3 (cellGrow g2 q0_3)), (cellGrow g3 (cellGrow g2 q0_4)), (cellGrow g3 (cellGrow g2 q0_5)), (cellGrow g3 (cellGrow g2 q1_0)), (cellGrow g3 (cellGrow g2 q1_1)), (cellGrow g3 (cellGrow g2 q1_2)), (cellGrow g3 (cellGrow g2 q1_3)), (cellGrow g3 (cellGrow g2 q1_4))⟩
      | exact ⟨(cellGrow g4 (cellGrow g3 (cellGrow g2 q0_0))), (cellGrow g4 (cellGrow g3 (cellGrow g2 q0_1))), (cellGrow g4 (cellGrow g3 (cellGrow g2 q0_2))), (cellGrow g4 (cellGrow g3 (cellGrow g2 q0_3))), (cellGrow g4 (cellGrow g3 (cellGrow g2 q0_4))), (cellGrow g4 (cellGrow g3 (cellGrow g2 q0_5))), (cellGrow g4 (cellGrow g3 (cellGrow g2 q1_0))), (cellGrow g4 (cellGrow g3 (cellGrow g2 q1_1))), (cellGrow g4 (cellGrow g3 (cellGrow g2 q1_2))), (cellGrow g4 (cellGrow g3 (cellGrow g2 q1_3))), (cellGrow g4 (cellGrow g3 (cellGrow g2 q1_4)))⟩)
    (first
      | (go_at_call 20; with_reducible show Calls _ 20 #[.agg #[.int .i64 x.tick, .int .i64 x.next, .int .i64 x.wallet, .slice a0_0 x.chans.length c0_0, .slice a0_1 x.htlcs.length c0_1, .slice a0_2 x.circles.length c0_2]] _ _; refine (toBook_c x _ _ _ _ _ _ _ (KH0_0.grow' repChan_stable (Grow.below (by repeat (first | exact Grow.refl _ | (refine Grow.alloc ?_ _ _) | (refine Grow.drew ?_) | (refine Grow.trans ?_ (by assumption)))))) (KH0_1.grow' repHtlc_stable (Grow.below (by repeat (first | exact Grow.refl _ | (refine Grow.alloc ?_ _ _) | (refine Grow.drew ?_) | (refine Grow.trans ?_ (by assumption)))))) (KH0_2.grow' repCircle_stable (Grow.below (by repeat (first | exact Grow.refl _ | (refine Grow.alloc ?_ _ _) | (refine Grow.drew ?_) | (refine Grow.trans ?_ (by assumption)))))) Bx_0 Bx_1 Bx_2).mono ?_; rintro e U2 ⟨A2_0, C2_0, P2_0, Q2_0, A2_1, C2_1, P2_1, Q2_1, A2_2, C2_2, P2_2, Q2_2, rfl, g2, O2, S2_0, S2_1, S2_2⟩; have y2 := Grow.size g2; have KS2_0 : SlR 7 repChan U2 0 U2.heap.size (.slice A2_0 x.chans.length C2_0) x.chans := S2_0.all repChan_stable (by omega); have KS2_1 : SlR 7 repHtlc U2 0 U2.heap.size (.slice A2_1 x.htlcs.length C2_1) x.htlcs := S2_1.all repHtlc_stable (by omega); have KS2_2 : SlR 5 repCircle U2 0 U2.heap.size (.slice A2_2 x.circles.length C2_2) x.circles := S2_2.all repCircle_stable (by omega))
      | (go_at_call 38; with_reducible show Calls _ 38 #[.agg #[.int .i64 r.lo, .int .i64 r.hi, .int .i64 r.step, .int .i64 r.min, .int .i64 r.max]] _ _; refine (toRule_c r _).mono ?_; rintro e U3 ⟨rfl, g3⟩; have y3 := Grow.size g3)
      | (go_at_call 40; with_reducible show Calls _ 40 #[.agg #[.int .i64 x.tick, .int .i64 x.next, .int .i64 x.wallet, .slice A2_0 x.chans.length C2_0, .slice A2_1 x.htlcs.length C2_1, .slice A2_2 x.circles.length C2_2], .agg #[.int .i64 r.lo, .int .i64 r.hi, .int .i64 r.step, .int .i64 r.min, .int .i64 r.max]] _ _; refine (spec_Turns_c x _ _ _ _ _ _ r _ (KS2_0.grow' repChan_stable (Grow.below (by repeat (first | exact Grow.refl _ | (refine Grow.alloc ?_ _ _) | (refine Grow.drew ?_) | (refine Grow.trans ?_ (by assumption)))))) (KS2_1.grow' repHtlc_stable (Grow.below (by repeat (first | exact Grow.refl _ | (refine Grow.alloc ?_ _ _) | (refine Grow.drew ?_) | (refine Grow.trans ?_ (by assumption)))))) (KS2_2.grow' repCircle_stable (Grow.below (by repeat (first | exact Grow.refl _ | (refine Grow.alloc ?_ _ _) | (refine Grow.drew ?_) | (refine Grow.trans ?_ (by assumption)))))) Bx_0).mono ?_; rintro e U4 ⟨A4_0, C4_0, rfl, g4, S4_0⟩; have y4 := Grow.size g4; have WS4_0 : SlR 7 repEvent U4 U1.heap.size U4.heap.size (.slice A4_0 (turnsOf x r).length C4_0) (turnsOf x r) := S4_0.stable repEvent_stable (Same.refl _ _ _) (Grow.size (w := U1) (by repeat (first | exact Grow.refl _ | (refine Grow.alloc ?_ _ _) | (refine Grow.drew ?_) | (refine Grow.trans ?_ (by assumption))))) (Nat.le_refl _); have KS4_0 : SlR 7 repEvent U4 0 U4.heap.size (.slice A4_0 (turnsOf x r).length C4_0) (turnsOf x r) := S4_0.all repEvent_stable (by omega)))
  have gs : Grow U1 U4 := by repeat (first | exact Grow.refl _ | (refine Grow.alloc ?_ _ _) | (refine Grow.drew ?_) | (refine Grow.trans ?_ (by assumption)))
  replace S4_0 := WS4_0
  clear g2 g3 g4
  clear z0 z1 q0_0 q0_1 q0_2 q0_3 q0_4 q0_5 f0 q1_0 q1_1 q1_2 q1_3 q1_4 f1
  have ys := Grow.size gs
  replace B0 : Box U4 (w.heap.size) [.int .i64 x.tick, .int .i64 x.next, .int .i64 x.wallet, .slice a0_0 x.chans.length c0_0, .slice a0_1 x.htlcs.length c0_1, .slice a0_2 x.circles.length c0_2] := Box.grow B0 gs
  replace B1 : Box U4 (w.heap.size + 1) [.int .i64 r.lo, .int .i64 r.hi, .int .i64 r.step, .int .i64 r.min, .int .i64 r.max] := Box.grow B1 gs
  replace G : Grow w U4 := Grow.trans G gs
  clear gs
  have z0 := B0.lt
  have z1 := B1.lt
  have q0_0 : U4.cell? ⟨w.heap.size, 0, none⟩ = some (.int .i64 x.tick) := B0.c 0 _ rfl
  have q0_1 : U4.cell? ⟨w.heap.size, 1, none⟩ = some (.int .i64 x.next) := B0.c 1 _ rfl
  have q0_2 : U4.cell? ⟨w.heap.size, 2, none⟩ = some (.int .i64 x.wallet) := B0.c 2 _ rfl
  have q0_3 : U4.cell? ⟨w.heap.size, 3, none⟩ = some (.slice a0_0 x.chans.length c0_0) := B0.c 3 _ rfl
  have q0_4 : U4.cell? ⟨w.heap.size, 4, none⟩ = some (.slice a0_1 x.htlcs.length c0_1) := B0.c 4 _ rfl
  have q0_5 : U4.cell? ⟨w.heap.size, 5, none⟩ = some (.slice a0_2 x.circles.length c0_2) := B0.c 5 _ rfl
  have f0 := B0.f
  have q1_0 : U4.cell? ⟨w.heap.size + 1, 0, none⟩ = some (.int .i64 r.lo) := B1.c 0 _ rfl
  have q1_1 : U4.cell? ⟨w.heap.size + 1, 1, none⟩ = some (.int .i64 r.hi) := B1.c 1 _ rfl
  have q1_2 : U4.cell? ⟨w.heap.size + 1, 2, none⟩ = some (.int .i64 r.step) := B1.c 2 _ rfl
  have q1_3 : U4.cell? ⟨w.heap.size + 1, 3, none⟩ = some (.int .i64 r.min) := B1.c 3 _ rfl
  have q1_4 : U4.cell? ⟨w.heap.size + 1, 4, none⟩ = some (.int .i64 r.max) := B1.c 4 _ rfl
  have f1 := B1.f
  go_wp2_with fail
  refine (toBook_c x _ _ _ _ _ _ _ (H0_0.out.grow' repChan_stable (Grow.below G)) (H0_1.out.grow' repHtlc_stable (Grow.below G)) (H0_2.out.grow' repCircle_stable (Grow.below G)) Bx_0 Bx_1 Bx_2).mono ?_
  rintro e U5 ⟨A5_0, C5_0, P5_0, Q5_0, A5_1, C5_1, P5_1, Q5_1, A5_2, C5_2, P5_2, Q5_2, rfl, gs, O5, S5_0, S5_1, S5_2⟩
  clear z0 z1 q0_0 q0_1 q0_2 q0_3 q0_4 q0_5 f0 q1_0 q1_1 q1_2 q1_3 q1_4 f1
  have ys := Grow.size gs
  replace B0 : Box U5 (w.heap.size) [.int .i64 x.tick, .int .i64 x.next, .int .i64 x.wallet, .slice a0_0 x.chans.length c0_0, .slice a0_1 x.htlcs.length c0_1, .slice a0_2 x.circles.length c0_2] := Box.grow B0 gs
  replace B1 : Box U5 (w.heap.size + 1) [.int .i64 r.lo, .int .i64 r.hi, .int .i64 r.step, .int .i64 r.min, .int .i64 r.max] := Box.grow B1 gs
  replace S4_0 := S4_0.same repEvent_stable (gs.same (by omega))
  replace G : Grow w U5 := Grow.trans G gs
  clear gs
  have z0 := B0.lt
  have z1 := B1.lt
  have q0_0 : U5.cell? ⟨w.heap.size, 0, none⟩ = some (.int .i64 x.tick) := B0.c 0 _ rfl
  have q0_1 : U5.cell? ⟨w.heap.size, 1, none⟩ = some (.int .i64 x.next) := B0.c 1 _ rfl
  have q0_2 : U5.cell? ⟨w.heap.size, 2, none⟩ = some (.int .i64 x.wallet) := B0.c 2 _ rfl
  have q0_3 : U5.cell? ⟨w.heap.size, 3, none⟩ = some (.slice a0_0 x.chans.length c0_0) := B0.c 3 _ rfl
  have q0_4 : U5.cell? ⟨w.heap.size, 4, none⟩ = some (.slice a0_1 x.htlcs.length c0_1) := B0.c 4 _ rfl
  have q0_5 : U5.cell? ⟨w.heap.size, 5, none⟩ = some (.slice a0_2 x.circles.length c0_2) := B0.c 5 _ rfl
  have f0 := B0.f
  have q1_0 : U5.cell? ⟨w.heap.size + 1, 0, none⟩ = some (.int .i64 r.lo) := B1.c 0 _ rfl
  have q1_1 : U5.cell? ⟨w.heap.size + 1, 1, none⟩ = some (.int .i64 r.hi) := B1.c 1 _ rfl
  have q1_2 : U5.cell? ⟨w.heap.size + 1, 2, none⟩ = some (.int .i64 r.step) := B1.c 2 _ rfl
  have q1_3 : U5.cell? ⟨w.heap.size + 1, 3, none⟩ = some (.int .i64 r.min) := B1.c 3 _ rfl
  have q1_4 : U5.cell? ⟨w.heap.size + 1, 4, none⟩ = some (.int .i64 r.max) := B1.c 4 _ rfl
  have f1 := B1.f
  go_wp2_with fail
  obtain ⟨V2, hV⟩ : ∃ V, V = (U5.alloc (.cells #[.int .i64 x.tick, .int .i64 x.next, .int .i64 x.wallet, .slice A5_0 x.chans.length C5_0, .slice A5_1 x.htlcs.length C5_1, .slice A5_2 x.circles.length C5_2] 26)) := ⟨_, rfl⟩
  have G' : Grow w V2 := by rw [hV]; exact (G.alloc _ _)
  have gs : Grow U5 V2 := by rw [hV]; exact ((Grow.refl U5).alloc _ _)
  replace B0 : Box V2 (w.heap.size) [.int .i64 x.tick, .int .i64 x.next, .int .i64 x.wallet, .slice a0_0 x.chans.length c0_0, .slice a0_1 x.htlcs.length c0_1, .slice a0_2 x.circles.length c0_2] := by rw [hV]; exact (B0.alloc _ _)
  replace B1 : Box V2 (w.heap.size + 1) [.int .i64 r.lo, .int .i64 r.hi, .int .i64 r.step, .int .i64 r.min, .int .i64 r.max] := by rw [hV]; exact (B1.alloc _ _)
  have B2 : Box V2 (U5.heap.size) [.int .i64 x.tick, .int .i64 x.next, .int .i64 x.wallet, .slice A5_0 x.chans.length C5_0, .slice A5_1 x.htlcs.length C5_1, .slice A5_2 x.circles.length C5_2] := by rw [hV]; exact Box.newAt (by simp) _ _
  have ys : V2.heap.size = U5.heap.size + 1 := by rw [hV]; simp
  replace S4_0 := S4_0.same repEvent_stable (gs.same (by omega))
  replace S5_0 := S5_0.same repChan_stable (gs.same (by omega))
  replace S5_1 := S5_1.same repHtlc_stable (gs.same (by omega))
  replace S5_2 := S5_2.same repCircle_stable (gs.same (by omega))
  replace G := G'
  clear G'
  rw [← hV]
  clear hV
  clear gs
  clear z0 z1 q0_0 q0_1 q0_2 q0_3 q0_4 q0_5 f0 q1_0 q1_1 q1_2 q1_3 q1_4 f1
  have z0 := B0.lt
  have z1 := B1.lt
  have z2 := B2.lt
  have q0_0 : V2.cell? ⟨w.heap.size, 0, none⟩ = some (.int .i64 x.tick) := B0.c 0 _ rfl
  have q0_1 : V2.cell? ⟨w.heap.size, 1, none⟩ = some (.int .i64 x.next) := B0.c 1 _ rfl
  have q0_2 : V2.cell? ⟨w.heap.size, 2, none⟩ = some (.int .i64 x.wallet) := B0.c 2 _ rfl
  have q0_3 : V2.cell? ⟨w.heap.size, 3, none⟩ = some (.slice a0_0 x.chans.length c0_0) := B0.c 3 _ rfl
  have q0_4 : V2.cell? ⟨w.heap.size, 4, none⟩ = some (.slice a0_1 x.htlcs.length c0_1) := B0.c 4 _ rfl
  have q0_5 : V2.cell? ⟨w.heap.size, 5, none⟩ = some (.slice a0_2 x.circles.length c0_2) := B0.c 5 _ rfl
  have f0 := B0.f
  have q1_0 : V2.cell? ⟨w.heap.size + 1, 0, none⟩ = some (.int .i64 r.lo) := B1.c 0 _ rfl
  have q1_1 : V2.cell? ⟨w.heap.size + 1, 1, none⟩ = some (.int .i64 r.hi) := B1.c 1 _ rfl
  have q1_2 : V2.cell? ⟨w.heap.size + 1, 2, none⟩ = some (.int .i64 r.step) := B1.c 2 _ rfl
  have q1_3 : V2.cell? ⟨w.heap.size + 1, 3, none⟩ = some (.int .i64 r.min) := B1.c 3 _ rfl
  have q1_4 : V2.cell? ⟨w.heap.size + 1, 4, none⟩ = some (.int .i64 r.max) := B1.c 4 _ rfl
  have f1 := B1.f
  have q2_0 : V2.cell? ⟨U5.heap.size, 0, none⟩ = some (.int .i64 x.tick) := B2.c 0 _ rfl
  have q2_1 : V2.cell? ⟨U5.heap.size, 1, none⟩ = some (.int .i64 x.next) := B2.c 1 _ rfl
  have q2_2 : V2.cell? ⟨U5.heap.size, 2, none⟩ = some (.int .i64 x.wallet) := B2.c 2 _ rfl
  have q2_3 : V2.cell? ⟨U5.heap.size, 3, none⟩ = some (.slice A5_0 x.chans.length C5_0) := B2.c 3 _ rfl
  have q2_4 : V2.cell? ⟨U5.heap.size, 4, none⟩ = some (.slice A5_1 x.htlcs.length C5_1) := B2.c 4 _ rfl
  have q2_5 : V2.cell? ⟨U5.heap.size, 5, none⟩ = some (.slice A5_2 x.circles.length C5_2) := B2.c 5 _ rfl
  have f2 := B2.f
  have KH0_0 := (H0_0.out.grow' repChan_stable (Grow.below G))
  have KH0_1 := (H0_1.out.grow' repHtlc_stable (Grow.below G))
  have KH0_2 := (H0_2.out.grow' repCircle_stable (Grow.below G))
  have KS4_0 := (S4_0.all repEvent_stable (by omega))
  have KS5_0 := (S5_0.all repChan_stable (by omega))
  have KS5_1 := (S5_1.all repHtlc_stable (by omega))
  have KS5_2 := (S5_2.all repCircle_stable (by omega))
  go_region_held3 (fun W => W.cell? ⟨U5.heap.size, 0, none⟩ = some (.int .i64 x.tick) ∧ W.cell? ⟨U5.heap.size, 1, none⟩ = some (.int .i64 x.next) ∧ W.cell? ⟨U5.heap.size, 2, none⟩ = some (.int .i64 x.wallet) ∧ W.cell? ⟨U5.heap.size, 3, none⟩ = some (.slice A5_0 x.chans.length C5_0) ∧ W.cell? ⟨U5.heap.size, 4, none⟩ = some (.slice A5_1 x.htlcs.length C5_1) ∧ W.cell? ⟨U5.heap.size, 5, none⟩ = some (.slice A5_2 x.circles.length C5_2) ∧ W.cell? ⟨w.heap.size + 1, 0, none⟩ = some (.int .i64 r.lo) ∧ W.cell? ⟨w.heap.size + 1, 1, none⟩ = some (.int .i64 r.hi) ∧ W.cell? ⟨w.heap.size + 1, 2, none⟩ = some (.int .i64 r.step) ∧ W.cell? ⟨w.heap.size + 1, 3, none⟩ = some (.int .i64 r.min) ∧ W.cell? ⟨w.heap.size + 1, 4, none⟩ = some (.int .i64 r.max))
    (first
      | exact ⟨q2_0, q2_1, q2_2, q2_3, q2_4, q2_5, q1_0, q1_1, q1_2, q1_3, q1_4⟩
      | exact ⟨(cellGrow g6 q2_0), (cellGrow g6 q2_1), (cellGrow g6 q2_2), (cellGrow g6 q2_3), (cellGrow g6 q2_4), (cellGrow g6 q2_5), (cellGrow g6 q1_0), (cellGrow g6 q1_1), (cellGrow g6 q1_2), (cellGrow g6 q1_3), (cellGrow g6 q1_4)⟩
      | exact ⟨(cellGrow g7 (cellGrow g6 q2_0)), (cellGrow g7 (cellGrow g6 q2_1)), (cellGrow g7 (cellGrow g6 q2_2)), (cellGrow g7 (cellGrow g6 q2_3)), (cellGrow g7 (cellGrow g6 q2_4)), (cellGrow g7 (cellGrow g6 q2_5)), (cellGrow g7 (cellGrow g6 q1_0)), (cellGrow g7 (cellGrow g6 q1_1)), (cellGrow g7 (cellGrow g6 q1_2)), (cellGrow g7 (cellGrow g6 q1_3)), (cellGrow g7 (cellGrow g6 q1_4))⟩)
    (first
      | (go_at_call 38; with_reducible show Calls _ 38 #[.agg #[.int .i64 r.lo, .int .i64 r.hi, .int .i64 r.step, .int .i64 r.min, .int .i64 r.max]] _ _; refine (toRule_c r _).mono ?_; rintro e U6 ⟨rfl, g6⟩; have y6 := Grow.size g6)
      | (go_at_call 41; with_reducible show Calls _ 41 #[.agg #[.int .i64 x.tick, .int .i64 x.next, .int .i64 x.wallet, .slice A5_0 x.chans.length C5_0, .slice A5_1 x.htlcs.length C5_1, .slice A5_2 x.circles.length C5_2], .agg #[.int .i64 r.lo, .int .i64 r.hi, .int .i64 r.step, .int .i64 r.min, .int .i64 r.max]] _ _; refine (impl_Turns_c x _ _ _ _ _ _ r _ (KS5_0.grow' repChan_stable (Grow.below (by repeat (first | exact Grow.refl _ | (refine Grow.alloc ?_ _ _) | (refine Grow.drew ?_) | (refine Grow.trans ?_ (by assumption)))))) (KS5_1.grow' repHtlc_stable (Grow.below (by repeat (first | exact Grow.refl _ | (refine Grow.alloc ?_ _ _) | (refine Grow.drew ?_) | (refine Grow.trans ?_ (by assumption)))))) (KS5_2.grow' repCircle_stable (Grow.below (by repeat (first | exact Grow.refl _ | (refine Grow.alloc ?_ _ _) | (refine Grow.drew ?_) | (refine Grow.trans ?_ (by assumption)))))) Bx_0).mono ?_; rintro e U7 ⟨A7_0, C7_0, rfl, g7, S7_0⟩; have y7 := Grow.size g7; have WS7_0 : SlR 7 repEvent U7 V2.heap.size U7.heap.size (.slice A7_0 (turnsOf x r).length C7_0) (turnsOf x r) := S7_0.stable repEvent_stable (Same.refl _ _ _) (Grow.size (w := V2) (by repeat (first | exact Grow.refl _ | (refine Grow.alloc ?_ _ _) | (refine Grow.drew ?_) | (refine Grow.trans ?_ (by assumption))))) (Nat.le_refl _); have KS7_0 : SlR 7 repEvent U7 0 U7.heap.size (.slice A7_0 (turnsOf x r).length C7_0) (turnsOf x r) := S7_0.all repEvent_stable (by omega)))
  have gs : Grow V2 U7 := by repeat (first | exact Grow.refl _ | (refine Grow.alloc ?_ _ _) | (refine Grow.drew ?_) | (refine Grow.trans ?_ (by assumption)))
  replace S7_0 := WS7_0
  clear g6 g7
  clear z0 z1 z2 q0_0 q0_1 q0_2 q0_3 q0_4 q0_5 f0 q1_0 q1_1 q1_2 q1_3 q1_4 f1 q2_0 q2_1 q2_2 q2_3 q2_4 q2_5 f2
  have ys := Grow.size gs
  replace B0 : Box U7 (w.heap.size) [.int .i64 x.tick, .int .i64 x.next, .int .i64 x.wallet, .slice a0_0 x.chans.length c0_0, .slice a0_1 x.htlcs.length c0_1, .slice a0_2 x.circles.length c0_2] := Box.grow B0 gs
  replace B1 : Box U7 (w.heap.size + 1) [.int .i64 r.lo, .int .i64 r.hi, .int .i64 r.step, .int .i64 r.min, .int .i64 r.max] := Box.grow B1 gs
  replace B2 : Box U7 (U5.heap.size) [.int .i64 x.tick, .int .i64 x.next, .int .i64 x.wallet, .slice A5_0 x.chans.length C5_0, .slice A5_1 x.htlcs.length C5_1, .slice A5_2 x.circles.length C5_2] := Box.grow B2 gs
  replace S4_0 := S4_0.same repEvent_stable (gs.same (by omega))
  replace S5_0 := S5_0.same repChan_stable (gs.same (by omega))
  replace S5_1 := S5_1.same repHtlc_stable (gs.same (by omega))
  replace S5_2 := S5_2.same repCircle_stable (gs.same (by omega))
  replace G : Grow w U7 := Grow.trans G gs
  clear gs
  have z0 := B0.lt
  have z1 := B1.lt
  have z2 := B2.lt
  have q0_0 : U7.cell? ⟨w.heap.size, 0, none⟩ = some (.int .i64 x.tick) := B0.c 0 _ rfl
  have q0_1 : U7.cell? ⟨w.heap.size, 1, none⟩ = some (.int .i64 x.next) := B0.c 1 _ rfl
  have q0_2 : U7.cell? ⟨w.heap.size, 2, none⟩ = some (.int .i64 x.wallet) := B0.c 2 _ rfl
  have q0_3 : U7.cell? ⟨w.heap.size, 3, none⟩ = some (.slice a0_0 x.chans.length c0_0) := B0.c 3 _ rfl
  have q0_4 : U7.cell? ⟨w.heap.size, 4, none⟩ = some (.slice a0_1 x.htlcs.length c0_1) := B0.c 4 _ rfl
  have q0_5 : U7.cell? ⟨w.heap.size, 5, none⟩ = some (.slice a0_2 x.circles.length c0_2) := B0.c 5 _ rfl
  have f0 := B0.f
  have q1_0 : U7.cell? ⟨w.heap.size + 1, 0, none⟩ = some (.int .i64 r.lo) := B1.c 0 _ rfl
  have q1_1 : U7.cell? ⟨w.heap.size + 1, 1, none⟩ = some (.int .i64 r.hi) := B1.c 1 _ rfl
  have q1_2 : U7.cell? ⟨w.heap.size + 1, 2, none⟩ = some (.int .i64 r.step) := B1.c 2 _ rfl
  have q1_3 : U7.cell? ⟨w.heap.size + 1, 3, none⟩ = some (.int .i64 r.min) := B1.c 3 _ rfl
  have q1_4 : U7.cell? ⟨w.heap.size + 1, 4, none⟩ = some (.int .i64 r.max) := B1.c 4 _ rfl
  have f1 := B1.f
  have q2_0 : U7.cell? ⟨U5.heap.size, 0, none⟩ = some (.int .i64 x.tick) := B2.c 0 _ rfl
  have q2_1 : U7.cell? ⟨U5.heap.size, 1, none⟩ = some (.int .i64 x.next) := B2.c 1 _ rfl
  have q2_2 : U7.cell? ⟨U5.heap.size, 2, none⟩ = some (.int .i64 x.wallet) := B2.c 2 _ rfl
  have q2_3 : U7.cell? ⟨U5.heap.size, 3, none⟩ = some (.slice A5_0 x.chans.length C5_0) := B2.c 3 _ rfl
  have q2_4 : U7.cell? ⟨U5.heap.size, 4, none⟩ = some (.slice A5_1 x.htlcs.length C5_1) := B2.c 4 _ rfl
  have q2_5 : U7.cell? ⟨U5.heap.size, 5, none⟩ = some (.slice A5_2 x.circles.length C5_2) := B2.c 5 _ rfl
  have f2 := B2.f
  go_wp2_with fail
  refine (eqEventS_c (turnsOf x r) _ _ _ _ _ (S7_0.all repEvent_stable (by omega)) (S4_0.all repEvent_stable (by omega))).mono ?_
  rintro e U8 ⟨rfl, gs⟩
  clear z0 z1 z2 q0_0 q0_1 q0_2 q0_3 q0_4 q0_5 f0 q1_0 q1_1 q1_2 q1_3 q1_4 f1 q2_0 q2_1 q2_2 q2_3 q2_4 q2_5 f2
  have ys := Grow.size gs
  replace B0 : Box U8 (w.heap.size) [.int .i64 x.tick, .int .i64 x.next, .int .i64 x.wallet, .slice a0_0 x.chans.length c0_0, .slice a0_1 x.htlcs.length c0_1, .slice a0_2 x.circles.length c0_2] := Box.grow B0 gs
  replace B1 : Box U8 (w.heap.size + 1) [.int .i64 r.lo, .int .i64 r.hi, .int .i64 r.step, .int .i64 r.min, .int .i64 r.max] := Box.grow B1 gs
  replace B2 : Box U8 (U5.heap.size) [.int .i64 x.tick, .int .i64 x.next, .int .i64 x.wallet, .slice A5_0 x.chans.length C5_0, .slice A5_1 x.htlcs.length C5_1, .slice A5_2 x.circles.length C5_2] := Box.grow B2 gs
  replace S4_0 := S4_0.same repEvent_stable (gs.same (by omega))
  replace S5_0 := S5_0.same repChan_stable (gs.same (by omega))
  replace S5_1 := S5_1.same repHtlc_stable (gs.same (by omega))
  replace S5_2 := S5_2.same repCircle_stable (gs.same (by omega))
  replace S7_0 := S7_0.same repEvent_stable (gs.same (by omega))
  replace G : Grow w U8 := Grow.trans G gs
  clear gs
  have z0 := B0.lt
  have z1 := B1.lt
  have z2 := B2.lt
  have q0_0 : U8.cell? ⟨w.heap.size, 0, none⟩ = some (.int .i64 x.tick) := B0.c 0 _ rfl
  have q0_1 : U8.cell? ⟨w.heap.size, 1, none⟩ = some (.int .i64 x.next) := B0.c 1 _ rfl
  have q0_2 : U8.cell? ⟨w.heap.size, 2, none⟩ = some (.int .i64 x.wallet) := B0.c 2 _ rfl
  have q0_3 : U8.cell? ⟨w.heap.size, 3, none⟩ = some (.slice a0_0 x.chans.length c0_0) := B0.c 3 _ rfl
  have q0_4 : U8.cell? ⟨w.heap.size, 4, none⟩ = some (.slice a0_1 x.htlcs.length c0_1) := B0.c 4 _ rfl
  have q0_5 : U8.cell? ⟨w.heap.size, 5, none⟩ = some (.slice a0_2 x.circles.length c0_2) := B0.c 5 _ rfl
  have f0 := B0.f
  have q1_0 : U8.cell? ⟨w.heap.size + 1, 0, none⟩ = some (.int .i64 r.lo) := B1.c 0 _ rfl
  have q1_1 : U8.cell? ⟨w.heap.size + 1, 1, none⟩ = some (.int .i64 r.hi) := B1.c 1 _ rfl
  have q1_2 : U8.cell? ⟨w.heap.size + 1, 2, none⟩ = some (.int .i64 r.step) := B1.c 2 _ rfl
  have q1_3 : U8.cell? ⟨w.heap.size + 1, 3, none⟩ = some (.int .i64 r.min) := B1.c 3 _ rfl
  have q1_4 : U8.cell? ⟨w.heap.size + 1, 4, none⟩ = some (.int .i64 r.max) := B1.c 4 _ rfl
  have f1 := B1.f
  have q2_0 : U8.cell? ⟨U5.heap.size, 0, none⟩ = some (.int .i64 x.tick) := B2.c 0 _ rfl
  have q2_1 : U8.cell? ⟨U5.heap.size, 1, none⟩ = some (.int .i64 x.next) := B2.c 1 _ rfl
  have q2_2 : U8.cell? ⟨U5.heap.size, 2, none⟩ = some (.int .i64 x.wallet) := B2.c 2 _ rfl
  have q2_3 : U8.cell? ⟨U5.heap.size, 3, none⟩ = some (.slice A5_0 x.chans.length C5_0) := B2.c 3 _ rfl
  have q2_4 : U8.cell? ⟨U5.heap.size, 4, none⟩ = some (.slice A5_1 x.htlcs.length C5_1) := B2.c 4 _ rfl
  have q2_5 : U8.cell? ⟨U5.heap.size, 5, none⟩ = some (.slice A5_2 x.circles.length C5_2) := B2.c 5 _ rfl
  have f2 := B2.f
  go_wp2_with fail
  have KH0_0 := (H0_0.out.grow' repChan_stable (Grow.below G))
  have KH0_1 := (H0_1.out.grow' repHtlc_stable (Grow.below G))
  have KH0_2 := (H0_2.out.grow' repCircle_stable (Grow.below G))
  have KS4_0 := (S4_0.all repEvent_stable (by omega))
  have KS5_0 := (S5_0.all repChan_stable (by omega))
  have KS5_1 := (S5_1.all repHtlc_stable (by omega))
  have KS5_2 := (S5_2.all repCircle_stable (by omega))
  have KS7_0 := (S7_0.all repEvent_stable (by omega))
  go_region_held3 (fun W => W.cell? ⟨U5.heap.size, 0, none⟩ = some (.int .i64 x.tick) ∧ W.cell? ⟨U5.heap.size, 1, none⟩ = some (.int .i64 x.next) ∧ W.cell? ⟨U5.heap.size, 2, none⟩ = some (.int .i64 x.wallet) ∧ W.cell? ⟨U5.heap.size, 3, none⟩ = some (.slice A5_0 x.chans.length C5_0) ∧ W.cell? ⟨U5.heap.size, 4, none⟩ = some (.slice A5_1 x.htlcs.length C5_1) ∧ W.cell? ⟨U5.heap.size, 5, none⟩ = some (.slice A5_2 x.circles.length C5_2) ∧ W.cell? ⟨w.heap.size, 0, none⟩ = some (.int .i64 x.tick) ∧ W.cell? ⟨w.heap.size, 1, none⟩ = some (.int .i64 x.next) ∧ W.cell? ⟨w.heap.size, 2, none⟩ = some (.int .i64 x.wallet) ∧ W.cell? ⟨w.heap.size, 3, none⟩ = some (.slice a0_0 x.chans.length c0_0) ∧ W.cell? ⟨w.heap.size, 4, none⟩ = some (.slice a0_1 x.htlcs.length c0_1) ∧ W.cell? ⟨w.heap.size, 5, none⟩ = some (.slice a0_2 x.circles.length c0_2))
    (first
      | exact ⟨q2_0, q2_1, q2_2, q2_3, q2_4, q2_5, q0_0, q0_1, q0_2, q0_3, q0_4, q0_5⟩
      | exact ⟨(cellGrow g9 q2_0), (cellGrow g9 q2_1), (cellGrow g9 q2_2), (cellGrow g9 q2_3), (cellGrow g9 q2_4), (cellGrow g9 q2_5), (cellGrow g9 q0_0), (cellGrow g9 q0_1), (cellGrow g9 q0_2), (cellGrow g9 q0_3), (cellGrow g9 q0_4), (cellGrow g9 q0_5)⟩
      | exact ⟨(cellGrow g10 (cellGrow g9 q2_0)), (cellGrow g10 (cellGrow g9 q2_1)), (cellGrow g10 (cellGrow g9 q2_2)), (cellGrow g10 (cellGrow g9 q2_3)), (cellGrow g10 (cellGrow g9 q2_4)), (cellGrow g10 (cellGrow g9 q2_5)), (cellGrow g10 (cellGrow g9 q0_0)), (cellGrow g10 (cellGrow g9 q0_1)), (cellGrow g10 (cellGrow g9 q0_2)), (cellGrow g10 (cellGrow g9 q0_3)), (cellGrow g10 (cellGrow g9 q0_4)), (cellGrow g10 (cellGrow g9 q0_5))⟩)
    (first
      | (go_at_call 20; with_reducible show Calls _ 20 #[.agg #[.int .i64 x.tick, .int .i64 x.next, .int .i64 x.wallet, .slice a0_0 x.chans.length c0_0, .slice a0_1 x.htlcs.length c0_1, .slice a0_2 x.circles.length c0_2]] _ _; refine (toBook_c x _ _ _ _ _ _ _ (KH0_0.grow' repChan_stable (Grow.below (by repeat (first | exact Grow.refl _ | (refine Grow.alloc ?_ _ _) | (refine Grow.drew ?_) | (refine Grow.trans ?_ (by assumption)))))) (KH0_1.grow' repHtlc_stable (Grow.below (by repeat (first | exact Grow.refl _ | (refine Grow.alloc ?_ _ _) | (refine Grow.drew ?_) | (refine Grow.trans ?_ (by assumption)))))) (KH0_2.grow' repCircle_stable (Grow.below (by repeat (first | exact Grow.refl _ | (refine Grow.alloc ?_ _ _) | (refine Grow.drew ?_) | (refine Grow.trans ?_ (by assumption)))))) Bx_0 Bx_1 Bx_2).mono ?_; rintro e U9 ⟨A9_0, C9_0, P9_0, Q9_0, A9_1, C9_1, P9_1, Q9_1, A9_2, C9_2, P9_2, Q9_2, rfl, g9, O9, S9_0, S9_1, S9_2⟩; have y9 := Grow.size g9; have KS9_0 : SlR 7 repChan U9 0 U9.heap.size (.slice A9_0 x.chans.length C9_0) x.chans := S9_0.all repChan_stable (by omega); have KS9_1 : SlR 7 repHtlc U9 0 U9.heap.size (.slice A9_1 x.htlcs.length C9_1) x.htlcs := S9_1.all repHtlc_stable (by omega); have KS9_2 : SlR 5 repCircle U9 0 U9.heap.size (.slice A9_2 x.circles.length C9_2) x.circles := S9_2.all repCircle_stable (by omega))
      | (go_at_call 15; with_reducible show Calls _ 15 #[.agg #[.int .i64 x.tick, .int .i64 x.next, .int .i64 x.wallet, .slice A5_0 x.chans.length C5_0, .slice A5_1 x.htlcs.length C5_1, .slice A5_2 x.circles.length C5_2], .agg #[.int .i64 x.tick, .int .i64 x.next, .int .i64 x.wallet, .slice A9_0 x.chans.length C9_0, .slice A9_1 x.htlcs.length C9_1, .slice A9_2 x.circles.length C9_2]] _ _; refine (eqBook_c x _ _ _ _ _ _ _ _ _ _ _ _ _ (KS5_0.grow' repChan_stable (Grow.below (by repeat (first | exact Grow.refl _ | (refine Grow.alloc ?_ _ _) | (refine Grow.drew ?_) | (refine Grow.trans ?_ (by assumption)))))) (KS9_0.grow' repChan_stable (Grow.below (by repeat (first | exact Grow.refl _ | (refine Grow.alloc ?_ _ _) | (refine Grow.drew ?_) | (refine Grow.trans ?_ (by assumption)))))) (KS5_1.grow' repHtlc_stable (Grow.below (by repeat (first | exact Grow.refl _ | (refine Grow.alloc ?_ _ _) | (refine Grow.drew ?_) | (refine Grow.trans ?_ (by assumption)))))) (KS9_1.grow' repHtlc_stable (Grow.below (by repeat (first | exact Grow.refl _ | (refine Grow.alloc ?_ _ _) | (refine Grow.drew ?_) | (refine Grow.trans ?_ (by assumption)))))) (KS5_2.grow' repCircle_stable (Grow.below (by repeat (first | exact Grow.refl _ | (refine Grow.alloc ?_ _ _) | (refine Grow.drew ?_) | (refine Grow.trans ?_ (by assumption)))))) (KS9_2.grow' repCircle_stable (Grow.below (by repeat (first | exact Grow.refl _ | (refine Grow.alloc ?_ _ _) | (refine Grow.drew ?_) | (refine Grow.trans ?_ (by assumption))))))).mono ?_; rintro e U10 ⟨rfl, g10⟩; have y10 := Grow.size g10))
  have gs : Grow U8 U10 := by repeat (first | exact Grow.refl _ | (refine Grow.alloc ?_ _ _) | (refine Grow.drew ?_) | (refine Grow.trans ?_ (by assumption)))
  clear g9 g10
  clear z0 z1 z2 q0_0 q0_1 q0_2 q0_3 q0_4 q0_5 f0 q1_0 q1_1 q1_2 q1_3 q1_4 f1 q2_0 q2_1 q2_2 q2_3 q2_4 q2_5 f2
  have ys := Grow.size gs
  replace B0 : Box U10 (w.heap.size) [.int .i64 x.tick, .int .i64 x.next, .int .i64 x.wallet, .slice a0_0 x.chans.length c0_0, .slice a0_1 x.htlcs.length c0_1, .slice a0_2 x.circles.length c0_2] := Box.grow B0 gs
  replace B1 : Box U10 (w.heap.size + 1) [.int .i64 r.lo, .int .i64 r.hi, .int .i64 r.step, .int .i64 r.min, .int .i64 r.max] := Box.grow B1 gs
  replace B2 : Box U10 (U5.heap.size) [.int .i64 x.tick, .int .i64 x.next, .int .i64 x.wallet, .slice A5_0 x.chans.length C5_0, .slice A5_1 x.htlcs.length C5_1, .slice A5_2 x.circles.length C5_2] := Box.grow B2 gs
  replace S4_0 := S4_0.same repEvent_stable (gs.same (by omega))
  replace S5_0 := S5_0.same repChan_stable (gs.same (by omega))
  replace S5_1 := S5_1.same repHtlc_stable (gs.same (by omega))
  replace S5_2 := S5_2.same repCircle_stable (gs.same (by omega))
  replace S7_0 := S7_0.same repEvent_stable (gs.same (by omega))
  replace G : Grow w U10 := Grow.trans G gs
  clear gs
  have z0 := B0.lt
  have z1 := B1.lt
  have z2 := B2.lt
  have q0_0 : U10.cell? ⟨w.heap.size, 0, none⟩ = some (.int .i64 x.tick) := B0.c 0 _ rfl
  have q0_1 : U10.cell? ⟨w.heap.size, 1, none⟩ = some (.int .i64 x.next) := B0.c 1 _ rfl
  have q0_2 : U10.cell? ⟨w.heap.size, 2, none⟩ = some (.int .i64 x.wallet) := B0.c 2 _ rfl
  have q0_3 : U10.cell? ⟨w.heap.size, 3, none⟩ = some (.slice a0_0 x.chans.length c0_0) := B0.c 3 _ rfl
  have q0_4 : U10.cell? ⟨w.heap.size, 4, none⟩ = some (.slice a0_1 x.htlcs.length c0_1) := B0.c 4 _ rfl
  have q0_5 : U10.cell? ⟨w.heap.size, 5, none⟩ = some (.slice a0_2 x.circles.length c0_2) := B0.c 5 _ rfl
  have f0 := B0.f
  have q1_0 : U10.cell? ⟨w.heap.size + 1, 0, none⟩ = some (.int .i64 r.lo) := B1.c 0 _ rfl
  have q1_1 : U10.cell? ⟨w.heap.size + 1, 1, none⟩ = some (.int .i64 r.hi) := B1.c 1 _ rfl
  have q1_2 : U10.cell? ⟨w.heap.size + 1, 2, none⟩ = some (.int .i64 r.step) := B1.c 2 _ rfl
  have q1_3 : U10.cell? ⟨w.heap.size + 1, 3, none⟩ = some (.int .i64 r.min) := B1.c 3 _ rfl
  have q1_4 : U10.cell? ⟨w.heap.size + 1, 4, none⟩ = some (.int .i64 r.max) := B1.c 4 _ rfl
  have f1 := B1.f
  have q2_0 : U10.cell? ⟨U5.heap.size, 0, none⟩ = some (.int .i64 x.tick) := B2.c 0 _ rfl
  have q2_1 : U10.cell? ⟨U5.heap.size, 1, none⟩ = some (.int .i64 x.next) := B2.c 1 _ rfl
  have q2_2 : U10.cell? ⟨U5.heap.size, 2, none⟩ = some (.int .i64 x.wallet) := B2.c 2 _ rfl
  have q2_3 : U10.cell? ⟨U5.heap.size, 3, none⟩ = some (.slice A5_0 x.chans.length C5_0) := B2.c 3 _ rfl
  have q2_4 : U10.cell? ⟨U5.heap.size, 4, none⟩ = some (.slice A5_1 x.htlcs.length C5_1) := B2.c 4 _ rfl
  have q2_5 : U10.cell? ⟨U5.heap.size, 5, none⟩ = some (.slice A5_2 x.circles.length C5_2) := B2.c 5 _ rfl
  have f2 := B2.f
  go_wp2_with fail
  refine (markBook_c x _ _ _ _ _ _ 1 P5_0 Q5_2 P5_0 Q5_0 P5_1 Q5_1 P5_2 Q5_2 _ S5_0 S5_1 S5_2 (by omega) (by omega) (by omega) (by omega) (by omega) (by omega) ((Grow.nf G).mono (by omega) (by omega)) (by omega) (by omega) (by omega) (by omega) (by omega) (by omega)).mono ?_
  rintro e U11 ⟨rfl, gp, M11_0, M11_1, M11_2⟩
  have kb := mkBook_bd (x := x) (k := 1) (B := 1) (by omega) (by omega) (by omega) (by omega) (by omega)
  obtain ⟨kb1, kb2⟩ := kb
  have cap_S5_0 := SlR.cap S5_0
  have cap_S5_1 := SlR.cap S5_1
  have cap_S5_2 := SlR.cap S5_2
  clear z0 z1 z2 q0_0 q0_1 q0_2 q0_3 q0_4 q0_5 f0 q1_0 q1_1 q1_2 q1_3 q1_4 f1 q2_0 q2_1 q2_2 q2_3 q2_4 q2_5 f2
  have ys := Put.size gp
  replace B0 : Box U11 (w.heap.size) [.int .i64 x.tick, .int .i64 x.next, .int .i64 x.wallet, .slice a0_0 x.chans.length c0_0, .slice a0_1 x.htlcs.length c0_1, .slice a0_2 x.circles.length c0_2] := Box.put B0 gp (by omega)
  replace B1 : Box U11 (w.heap.size + 1) [.int .i64 r.lo, .int .i64 r.hi, .int .i64 r.step, .int .i64 r.min, .int .i64 r.max] := Box.put B1 gp (by omega)
  replace B2 : Box U11 (U5.heap.size) [.int .i64 x.tick, .int .i64 x.next, .int .i64 x.wallet, .slice A5_0 x.chans.length C5_0, .slice A5_1 x.htlcs.length C5_1, .slice A5_2 x.circles.length C5_2] := Box.put B2 gp (by omega)
  replace S4_0 := S4_0.same repEvent_stable (Put.same gp (by omega) (by omega))
  replace S7_0 := S7_0.same repEvent_stable (Put.same gp (by omega) (by omega))
  replace G : Grow w U11 := Grow.put G gp (by omega)
  clear gp
  have z0 := B0.lt
  have z1 := B1.lt
  have z2 := B2.lt
  have q0_0 : U11.cell? ⟨w.heap.size, 0, none⟩ = some (.int .i64 x.tick) := B0.c 0 _ rfl
  have q0_1 : U11.cell? ⟨w.heap.size, 1, none⟩ = some (.int .i64 x.next) := B0.c 1 _ rfl
  have q0_2 : U11.cell? ⟨w.heap.size, 2, none⟩ = some (.int .i64 x.wallet) := B0.c 2 _ rfl
  have q0_3 : U11.cell? ⟨w.heap.size, 3, none⟩ = some (.slice a0_0 x.chans.length c0_0) := B0.c 3 _ rfl
  have q0_4 : U11.cell? ⟨w.heap.size, 4, none⟩ = some (.slice a0_1 x.htlcs.length c0_1) := B0.c 4 _ rfl
  have q0_5 : U11.cell? ⟨w.heap.size, 5, none⟩ = some (.slice a0_2 x.circles.length c0_2) := B0.c 5 _ rfl
  have f0 := B0.f
  have q1_0 : U11.cell? ⟨w.heap.size + 1, 0, none⟩ = some (.int .i64 r.lo) := B1.c 0 _ rfl
  have q1_1 : U11.cell? ⟨w.heap.size + 1, 1, none⟩ = some (.int .i64 r.hi) := B1.c 1 _ rfl
  have q1_2 : U11.cell? ⟨w.heap.size + 1, 2, none⟩ = some (.int .i64 r.step) := B1.c 2 _ rfl
  have q1_3 : U11.cell? ⟨w.heap.size + 1, 3, none⟩ = some (.int .i64 r.min) := B1.c 3 _ rfl
  have q1_4 : U11.cell? ⟨w.heap.size + 1, 4, none⟩ = some (.int .i64 r.max) := B1.c 4 _ rfl
  have f1 := B1.f
  have q2_0 : U11.cell? ⟨U5.heap.size, 0, none⟩ = some (.int .i64 x.tick) := B2.c 0 _ rfl
  have q2_1 : U11.cell? ⟨U5.heap.size, 1, none⟩ = some (.int .i64 x.next) := B2.c 1 _ rfl
  have q2_2 : U11.cell? ⟨U5.heap.size, 2, none⟩ = some (.int .i64 x.wallet) := B2.c 2 _ rfl
  have q2_3 : U11.cell? ⟨U5.heap.size, 3, none⟩ = some (.slice A5_0 x.chans.length C5_0) := B2.c 3 _ rfl
  have q2_4 : U11.cell? ⟨U5.heap.size, 4, none⟩ = some (.slice A5_1 x.htlcs.length C5_1) := B2.c 4 _ rfl
  have q2_5 : U11.cell? ⟨U5.heap.size, 5, none⟩ = some (.slice A5_2 x.circles.length C5_2) := B2.c 5 _ rfl
  have f2 := B2.f
  go_wp2_with fail
  refine (eqEventS_c (turnsOf x r) _ _ _ _ _ (S7_0.all repEvent_stable (by omega)) (S4_0.all repEvent_stable (by omega))).mono ?_
  rintro e U12 ⟨rfl, gs⟩
  clear z0 z1 z2 q0_0 q0_1 q0_2 q0_3 q0_4 q0_5 f0 q1_0 q1_1 q1_2 q1_3 q1_4 f1 q2_0 q2_1 q2_2 q2_3 q2_4 q2_5 f2
  have ys := Grow.size gs
  replace B0 : Box U12 (w.heap.size) [.int .i64 x.tick, .int .i64 x.next, .int .i64 x.wallet, .slice a0_0 x.chans.length c0_0, .slice a0_1 x.htlcs.length c0_1, .slice a0_2 x.circles.length c0_2] := Box.grow B0 gs
  replace B1 : Box U12 (w.heap.size + 1) [.int .i64 r.lo, .int .i64 r.hi, .int .i64 r.step, .int .i64 r.min, .int .i64 r.max] := Box.grow B1 gs
  replace B2 : Box U12 (U5.heap.size) [.int .i64 x.tick, .int .i64 x.next, .int .i64 x.wallet, .slice A5_0 x.chans.length C5_0, .slice A5_1 x.htlcs.length C5_1, .slice A5_2 x.circles.length C5_2] := Box.grow B2 gs
  replace S4_0 := S4_0.same repEvent_stable (gs.same (by omega))
  replace S7_0 := S7_0.same repEvent_stable (gs.same (by omega))
  replace M11_0 := M11_0.same (gs.same (by omega))
  replace M11_1 := M11_1.same (gs.same (by omega))
  replace M11_2 := M11_2.same (gs.same (by omega))
  replace G : Grow w U12 := Grow.trans G gs
  clear gs
  have z0 := B0.lt
  have z1 := B1.lt
  have z2 := B2.lt
  have q0_0 : U12.cell? ⟨w.heap.size, 0, none⟩ = some (.int .i64 x.tick) := B0.c 0 _ rfl
  have q0_1 : U12.cell? ⟨w.heap.size, 1, none⟩ = some (.int .i64 x.next) := B0.c 1 _ rfl
  have q0_2 : U12.cell? ⟨w.heap.size, 2, none⟩ = some (.int .i64 x.wallet) := B0.c 2 _ rfl
  have q0_3 : U12.cell? ⟨w.heap.size, 3, none⟩ = some (.slice a0_0 x.chans.length c0_0) := B0.c 3 _ rfl
  have q0_4 : U12.cell? ⟨w.heap.size, 4, none⟩ = some (.slice a0_1 x.htlcs.length c0_1) := B0.c 4 _ rfl
  have q0_5 : U12.cell? ⟨w.heap.size, 5, none⟩ = some (.slice a0_2 x.circles.length c0_2) := B0.c 5 _ rfl
  have f0 := B0.f
  have q1_0 : U12.cell? ⟨w.heap.size + 1, 0, none⟩ = some (.int .i64 r.lo) := B1.c 0 _ rfl
  have q1_1 : U12.cell? ⟨w.heap.size + 1, 1, none⟩ = some (.int .i64 r.hi) := B1.c 1 _ rfl
  have q1_2 : U12.cell? ⟨w.heap.size + 1, 2, none⟩ = some (.int .i64 r.step) := B1.c 2 _ rfl
  have q1_3 : U12.cell? ⟨w.heap.size + 1, 3, none⟩ = some (.int .i64 r.min) := B1.c 3 _ rfl
  have q1_4 : U12.cell? ⟨w.heap.size + 1, 4, none⟩ = some (.int .i64 r.max) := B1.c 4 _ rfl
  have f1 := B1.f
  have q2_0 : U12.cell? ⟨U5.heap.size, 0, none⟩ = some (.int .i64 x.tick) := B2.c 0 _ rfl
  have q2_1 : U12.cell? ⟨U5.heap.size, 1, none⟩ = some (.int .i64 x.next) := B2.c 1 _ rfl
  have q2_2 : U12.cell? ⟨U5.heap.size, 2, none⟩ = some (.int .i64 x.wallet) := B2.c 2 _ rfl
  have q2_3 : U12.cell? ⟨U5.heap.size, 3, none⟩ = some (.slice A5_0 x.chans.length C5_0) := B2.c 3 _ rfl
  have q2_4 : U12.cell? ⟨U5.heap.size, 4, none⟩ = some (.slice A5_1 x.htlcs.length C5_1) := B2.c 4 _ rfl
  have q2_5 : U12.cell? ⟨U5.heap.size, 5, none⟩ = some (.slice A5_2 x.circles.length C5_2) := B2.c 5 _ rfl
  have f2 := B2.f
  go_wp2_with fail
  refine (markEventS_c (turnsOf x r) _ _ 1 V2.heap.size U7.heap.size _ S7_0 ((Grow.nf G).mono (by omega) (by omega)) (by have := turnsOf_len (x := x) (r := r); omega) (by omega) (by omega)).mono ?_
  rintro e U13 ⟨rfl, gp, M13_0⟩
  have kb := mkEnd_bd (n := 7) (m := (turnsOf x r).length) (k := 1) (B := 1) (by omega) (by omega) (by omega) (by have := turnsOf_len (x := x) (r := r); omega)
  obtain ⟨kb1, kb2⟩ := kb
  have cap_S7_0 := SlR.cap S7_0
  clear z0 z1 z2 q0_0 q0_1 q0_2 q0_3 q0_4 q0_5 f0 q1_0 q1_1 q1_2 q1_3 q1_4 f1 q2_0 q2_1 q2_2 q2_3 q2_4 q2_5 f2
  have ys := Put.size gp
  replace B0 : Box U13 (w.heap.size) [.int .i64 x.tick, .int .i64 x.next, .int .i64 x.wallet, .slice a0_0 x.chans.length c0_0, .slice a0_1 x.htlcs.length c0_1, .slice a0_2 x.circles.length c0_2] := Box.put B0 gp (by omega)
  replace B1 : Box U13 (w.heap.size + 1) [.int .i64 r.lo, .int .i64 r.hi, .int .i64 r.step, .int .i64 r.min, .int .i64 r.max] := Box.put B1 gp (by omega)
  replace B2 : Box U13 (U5.heap.size) [.int .i64 x.tick, .int .i64 x.next, .int .i64 x.wallet, .slice A5_0 x.chans.length C5_0, .slice A5_1 x.htlcs.length C5_1, .slice A5_2 x.circles.length C5_2] := Box.put B2 gp (by omega)
  replace S4_0 := S4_0.same repEvent_stable (Put.same gp (by omega) (by omega))
  replace M11_0 := M11_0.same (Put.same gp (by omega) (by omega))
  replace M11_1 := M11_1.same (Put.same gp (by omega) (by omega))
  replace M11_2 := M11_2.same (Put.same gp (by omega) (by omega))
  replace G : Grow w U13 := Grow.put G gp (by omega)
  clear gp
  have z0 := B0.lt
  have z1 := B1.lt
  have z2 := B2.lt
  have q0_0 : U13.cell? ⟨w.heap.size, 0, none⟩ = some (.int .i64 x.tick) := B0.c 0 _ rfl
  have q0_1 : U13.cell? ⟨w.heap.size, 1, none⟩ = some (.int .i64 x.next) := B0.c 1 _ rfl
  have q0_2 : U13.cell? ⟨w.heap.size, 2, none⟩ = some (.int .i64 x.wallet) := B0.c 2 _ rfl
  have q0_3 : U13.cell? ⟨w.heap.size, 3, none⟩ = some (.slice a0_0 x.chans.length c0_0) := B0.c 3 _ rfl
  have q0_4 : U13.cell? ⟨w.heap.size, 4, none⟩ = some (.slice a0_1 x.htlcs.length c0_1) := B0.c 4 _ rfl
  have q0_5 : U13.cell? ⟨w.heap.size, 5, none⟩ = some (.slice a0_2 x.circles.length c0_2) := B0.c 5 _ rfl
  have f0 := B0.f
  have q1_0 : U13.cell? ⟨w.heap.size + 1, 0, none⟩ = some (.int .i64 r.lo) := B1.c 0 _ rfl
  have q1_1 : U13.cell? ⟨w.heap.size + 1, 1, none⟩ = some (.int .i64 r.hi) := B1.c 1 _ rfl
  have q1_2 : U13.cell? ⟨w.heap.size + 1, 2, none⟩ = some (.int .i64 r.step) := B1.c 2 _ rfl
  have q1_3 : U13.cell? ⟨w.heap.size + 1, 3, none⟩ = some (.int .i64 r.min) := B1.c 3 _ rfl
  have q1_4 : U13.cell? ⟨w.heap.size + 1, 4, none⟩ = some (.int .i64 r.max) := B1.c 4 _ rfl
  have f1 := B1.f
  have q2_0 : U13.cell? ⟨U5.heap.size, 0, none⟩ = some (.int .i64 x.tick) := B2.c 0 _ rfl
  have q2_1 : U13.cell? ⟨U5.heap.size, 1, none⟩ = some (.int .i64 x.next) := B2.c 1 _ rfl
  have q2_2 : U13.cell? ⟨U5.heap.size, 2, none⟩ = some (.int .i64 x.wallet) := B2.c 2 _ rfl
  have q2_3 : U13.cell? ⟨U5.heap.size, 3, none⟩ = some (.slice A5_0 x.chans.length C5_0) := B2.c 3 _ rfl
  have q2_4 : U13.cell? ⟨U5.heap.size, 4, none⟩ = some (.slice A5_1 x.htlcs.length C5_1) := B2.c 4 _ rfl
  have q2_5 : U13.cell? ⟨U5.heap.size, 5, none⟩ = some (.slice A5_2 x.circles.length C5_2) := B2.c 5 _ rfl
  have f2 := B2.f
  go_wp2_with fail
  refine (heldEventS_c _ _ _ 1 V2.heap.size U7.heap.size _ M13_0 cap_S7_0 (by have := turnsOf_len (x := x) (r := r); omega) (by omega) (by omega)).mono ?_
  rintro e U14 ⟨rfl, gs⟩
  clear z0 z1 z2 q0_0 q0_1 q0_2 q0_3 q0_4 q0_5 f0 q1_0 q1_1 q1_2 q1_3 q1_4 f1 q2_0 q2_1 q2_2 q2_3 q2_4 q2_5 f2
  have ys := Grow.size gs
  replace B0 : Box U14 (w.heap.size) [.int .i64 x.tick, .int .i64 x.next, .int .i64 x.wallet, .slice a0_0 x.chans.length c0_0, .slice a0_1 x.htlcs.length c0_1, .slice a0_2 x.circles.length c0_2] := Box.grow B0 gs
  replace B1 : Box U14 (w.heap.size + 1) [.int .i64 r.lo, .int .i64 r.hi, .int .i64 r.step, .int .i64 r.min, .int .i64 r.max] := Box.grow B1 gs
  replace B2 : Box U14 (U5.heap.size) [.int .i64 x.tick, .int .i64 x.next, .int .i64 x.wallet, .slice A5_0 x.chans.length C5_0, .slice A5_1 x.htlcs.length C5_1, .slice A5_2 x.circles.length C5_2] := Box.grow B2 gs
  replace S4_0 := S4_0.same repEvent_stable (gs.same (by omega))
  replace M11_0 := M11_0.same (gs.same (by omega))
  replace M11_1 := M11_1.same (gs.same (by omega))
  replace M11_2 := M11_2.same (gs.same (by omega))
  replace M13_0 := M13_0.same (gs.same (by omega))
  replace G : Grow w U14 := Grow.trans G gs
  clear gs
  have z0 := B0.lt
  have z1 := B1.lt
  have z2 := B2.lt
  have q0_0 : U14.cell? ⟨w.heap.size, 0, none⟩ = some (.int .i64 x.tick) := B0.c 0 _ rfl
  have q0_1 : U14.cell? ⟨w.heap.size, 1, none⟩ = some (.int .i64 x.next) := B0.c 1 _ rfl
  have q0_2 : U14.cell? ⟨w.heap.size, 2, none⟩ = some (.int .i64 x.wallet) := B0.c 2 _ rfl
  have q0_3 : U14.cell? ⟨w.heap.size, 3, none⟩ = some (.slice a0_0 x.chans.length c0_0) := B0.c 3 _ rfl
  have q0_4 : U14.cell? ⟨w.heap.size, 4, none⟩ = some (.slice a0_1 x.htlcs.length c0_1) := B0.c 4 _ rfl
  have q0_5 : U14.cell? ⟨w.heap.size, 5, none⟩ = some (.slice a0_2 x.circles.length c0_2) := B0.c 5 _ rfl
  have f0 := B0.f
  have q1_0 : U14.cell? ⟨w.heap.size + 1, 0, none⟩ = some (.int .i64 r.lo) := B1.c 0 _ rfl
  have q1_1 : U14.cell? ⟨w.heap.size + 1, 1, none⟩ = some (.int .i64 r.hi) := B1.c 1 _ rfl
  have q1_2 : U14.cell? ⟨w.heap.size + 1, 2, none⟩ = some (.int .i64 r.step) := B1.c 2 _ rfl
  have q1_3 : U14.cell? ⟨w.heap.size + 1, 3, none⟩ = some (.int .i64 r.min) := B1.c 3 _ rfl
  have q1_4 : U14.cell? ⟨w.heap.size + 1, 4, none⟩ = some (.int .i64 r.max) := B1.c 4 _ rfl
  have f1 := B1.f
  have q2_0 : U14.cell? ⟨U5.heap.size, 0, none⟩ = some (.int .i64 x.tick) := B2.c 0 _ rfl
  have q2_1 : U14.cell? ⟨U5.heap.size, 1, none⟩ = some (.int .i64 x.next) := B2.c 1 _ rfl
  have q2_2 : U14.cell? ⟨U5.heap.size, 2, none⟩ = some (.int .i64 x.wallet) := B2.c 2 _ rfl
  have q2_3 : U14.cell? ⟨U5.heap.size, 3, none⟩ = some (.slice A5_0 x.chans.length C5_0) := B2.c 3 _ rfl
  have q2_4 : U14.cell? ⟨U5.heap.size, 4, none⟩ = some (.slice A5_1 x.htlcs.length C5_1) := B2.c 4 _ rfl
  have q2_5 : U14.cell? ⟨U5.heap.size, 5, none⟩ = some (.slice A5_2 x.circles.length C5_2) := B2.c 5 _ rfl
  have f2 := B2.f
  go_wp2_with fail
  have KH0_0 := (H0_0.out.grow' repChan_stable (Grow.below G))
  have KH0_1 := (H0_1.out.grow' repHtlc_stable (Grow.below G))
  have KH0_2 := (H0_2.out.grow' repCircle_stable (Grow.below G))
  have KS4_0 := (S4_0.all repEvent_stable (by omega))
  go_region_held3 (fun W => W.cell? ⟨w.heap.size, 0, none⟩ = some (.int .i64 x.tick) ∧ W.cell? ⟨w.heap.size, 1, none⟩ = some (.int .i64 x.next) ∧ W.cell? ⟨w.heap.size, 2, none⟩ = some (.int .i64 x.wallet) ∧ W.cell? ⟨w.heap.size, 3, none⟩ = some (.slice a0_0 x.chans.length c0_0) ∧ W.cell? ⟨w.heap.size, 4, none⟩ = some (.slice a0_1 x.htlcs.length c0_1) ∧ W.cell? ⟨w.heap.size, 5, none⟩ = some (.slice a0_2 x.circles.length c0_2) ∧ W.cell? ⟨w.heap.size + 1, 0, none⟩ = some (.int .i64 r.lo) ∧ W.cell? ⟨w.heap.size + 1, 1, none⟩ = some (.int .i64 r.hi) ∧ W.cell? ⟨w.heap.size + 1, 2, none⟩ = some (.int .i64 r.step) ∧ W.cell? ⟨w.heap.size + 1, 3, none⟩ = some (.int .i64 r.min) ∧ W.cell? ⟨w.heap.size + 1, 4, none⟩ = some (.int .i64 r.max))
    (first
      | exact ⟨q0_0, q0_1, q0_2, q0_3, q0_4, q0_5, q1_0, q1_1, q1_2, q1_3, q1_4⟩
      | exact ⟨(cellGrow g15 q0_0), (cellGrow g15 q0_1), (cellGrow g15 q0_2), (cellGrow g15 q0_3), (cellGrow g15 q0_4), (cellGrow g15 q0_5), (cellGrow g15 q1_0), (cellGrow g15 q1_1), (cellGrow g15 q1_2), (cellGrow g15 q1_3), (cellGrow g15 q1_4)⟩
      | exact ⟨(cellGrow g16 (cellGrow g15 q0_0)), (cellGrow g16 (cellGrow g15 q0_1)), (cellGrow g16 (cellGrow g15 q0_2)), (cellGrow g16 (cellGrow g15 q0_3)), (cellGrow g16 (cellGrow g15 q0_4)), (cellGrow g16 (cellGrow g15 q0_5)), (cellGrow g16 (cellGrow g15 q1_0)), (cellGrow g16 (cellGrow g15 q1_1)), (cellGrow g16 (cellGrow g15 q1_2)), (cellGrow g16 (cellGrow g15 q1_3)), (cellGrow g16 (cellGrow g15 q1_4))⟩
      | exact ⟨(cellGrow g17 (cellGrow g16 (cellGrow g15 q0_0))), (cellGrow g17 (cellGrow g16 (cellGrow g15 q0_1))), (cellGrow g17 (cellGrow g16 (cellGrow g15 q0_2))), (cellGrow g17 (cellGrow g16 (cellGrow g15 q0_3))), (cellGrow g17 (cellGrow g16 (cellGrow g15 q0_4))), (cellGrow g17 (cellGrow g16 (cellGrow g15 q0_5))), (cellGrow g17 (cellGrow g16 (cellGrow g15 q1_0))), (cellGrow g17 (cellGrow g16 (cellGrow g15 q1_1))), (cellGrow g17 (cellGrow g16 (cellGrow g15 q1_2))), (cellGrow g17 (cellGrow g16 (cellGrow g15 q1_3))), (cellGrow g17 (cellGrow g16 (cellGrow g15 q1_4)))⟩)
    (first
      | (go_at_call 20; with_reducible show Calls _ 20 #[.agg #[.int .i64 x.tick, .int .i64 x.next, .int .i64 x.wallet, .slice a0_0 x.chans.length c0_0, .slice a0_1 x.htlcs.length c0_1, .slice a0_2 x.circles.length c0_2]] _ _; refine (toBook_c x _ _ _ _ _ _ _ (KH0_0.grow' repChan_stable (Grow.below (by repeat (first | exact Grow.refl _ | (refine Grow.alloc ?_ _ _) | (refine Grow.drew ?_) | (refine Grow.trans ?_ (by assumption)))))) (KH0_1.grow' repHtlc_stable (Grow.below (by repeat (first | exact Grow.refl _ | (refine Grow.alloc ?_ _ _) | (refine Grow.drew ?_) | (refine Grow.trans ?_ (by assumption)))))) (KH0_2.grow' repCircle_stable (Grow.below (by repeat (first | exact Grow.refl _ | (refine Grow.alloc ?_ _ _) | (refine Grow.drew ?_) | (refine Grow.trans ?_ (by assumption)))))) Bx_0 Bx_1 Bx_2).mono ?_; rintro e U15 ⟨A15_0, C15_0, P15_0, Q15_0, A15_1, C15_1, P15_1, Q15_1, A15_2, C15_2, P15_2, Q15_2, rfl, g15, O15, S15_0, S15_1, S15_2⟩; have y15 := Grow.size g15; have KS15_0 : SlR 7 repChan U15 0 U15.heap.size (.slice A15_0 x.chans.length C15_0) x.chans := S15_0.all repChan_stable (by omega); have KS15_1 : SlR 7 repHtlc U15 0 U15.heap.size (.slice A15_1 x.htlcs.length C15_1) x.htlcs := S15_1.all repHtlc_stable (by omega); have KS15_2 : SlR 5 repCircle U15 0 U15.heap.size (.slice A15_2 x.circles.length C15_2) x.circles := S15_2.all repCircle_stable (by omega))
      | (go_at_call 38; with_reducible show Calls _ 38 #[.agg #[.int .i64 r.lo, .int .i64 r.hi, .int .i64 r.step, .int .i64 r.min, .int .i64 r.max]] _ _; refine (toRule_c r _).mono ?_; rintro e U16 ⟨rfl, g16⟩; have y16 := Grow.size g16)
      | (go_at_call 41; with_reducible show Calls _ 41 #[.agg #[.int .i64 x.tick, .int .i64 x.next, .int .i64 x.wallet, .slice A15_0 x.chans.length C15_0, .slice A15_1 x.htlcs.length C15_1, .slice A15_2 x.circles.length C15_2], .agg #[.int .i64 r.lo, .int .i64 r.hi, .int .i64 r.step, .int .i64 r.min, .int .i64 r.max]] _ _; refine (impl_Turns_c x _ _ _ _ _ _ r _ (KS15_0.grow' repChan_stable (Grow.below (by repeat (first | exact Grow.refl _ | (refine Grow.alloc ?_ _ _) | (refine Grow.drew ?_) | (refine Grow.trans ?_ (by assumption)))))) (KS15_1.grow' repHtlc_stable (Grow.below (by repeat (first | exact Grow.refl _ | (refine Grow.alloc ?_ _ _) | (refine Grow.drew ?_) | (refine Grow.trans ?_ (by assumption)))))) (KS15_2.grow' repCircle_stable (Grow.below (by repeat (first | exact Grow.refl _ | (refine Grow.alloc ?_ _ _) | (refine Grow.drew ?_) | (refine Grow.trans ?_ (by assumption)))))) Bx_0).mono ?_; rintro e U17 ⟨A17_0, C17_0, rfl, g17, S17_0⟩; have y17 := Grow.size g17; have WS17_0 : SlR 7 repEvent U17 U14.heap.size U17.heap.size (.slice A17_0 (turnsOf x r).length C17_0) (turnsOf x r) := S17_0.stable repEvent_stable (Same.refl _ _ _) (Grow.size (w := U14) (by repeat (first | exact Grow.refl _ | (refine Grow.alloc ?_ _ _) | (refine Grow.drew ?_) | (refine Grow.trans ?_ (by assumption))))) (Nat.le_refl _); have KS17_0 : SlR 7 repEvent U17 0 U17.heap.size (.slice A17_0 (turnsOf x r).length C17_0) (turnsOf x r) := S17_0.all repEvent_stable (by omega)))
  have gs : Grow U14 U17 := by repeat (first | exact Grow.refl _ | (refine Grow.alloc ?_ _ _) | (refine Grow.drew ?_) | (refine Grow.trans ?_ (by assumption)))
  replace S17_0 := WS17_0
  clear g15 g16 g17
  clear z0 z1 z2 q0_0 q0_1 q0_2 q0_3 q0_4 q0_5 f0 q1_0 q1_1 q1_2 q1_3 q1_4 f1 q2_0 q2_1 q2_2 q2_3 q2_4 q2_5 f2
  have ys := Grow.size gs
  replace B0 : Box U17 (w.heap.size) [.int .i64 x.tick, .int .i64 x.next, .int .i64 x.wallet, .slice a0_0 x.chans.length c0_0, .slice a0_1 x.htlcs.length c0_1, .slice a0_2 x.circles.length c0_2] := Box.grow B0 gs
  replace B1 : Box U17 (w.heap.size + 1) [.int .i64 r.lo, .int .i64 r.hi, .int .i64 r.step, .int .i64 r.min, .int .i64 r.max] := Box.grow B1 gs
  replace B2 : Box U17 (U5.heap.size) [.int .i64 x.tick, .int .i64 x.next, .int .i64 x.wallet, .slice A5_0 x.chans.length C5_0, .slice A5_1 x.htlcs.length C5_1, .slice A5_2 x.circles.length C5_2] := Box.grow B2 gs
  replace S4_0 := S4_0.same repEvent_stable (gs.same (by omega))
  replace M11_0 := M11_0.same (gs.same (by omega))
  replace M11_1 := M11_1.same (gs.same (by omega))
  replace M11_2 := M11_2.same (gs.same (by omega))
  replace M13_0 := M13_0.same (gs.same (by omega))
  replace G : Grow w U17 := Grow.trans G gs
  clear gs
  have z0 := B0.lt
  have z1 := B1.lt
  have z2 := B2.lt
  have q0_0 : U17.cell? ⟨w.heap.size, 0, none⟩ = some (.int .i64 x.tick) := B0.c 0 _ rfl
  have q0_1 : U17.cell? ⟨w.heap.size, 1, none⟩ = some (.int .i64 x.next) := B0.c 1 _ rfl
  have q0_2 : U17.cell? ⟨w.heap.size, 2, none⟩ = some (.int .i64 x.wallet) := B0.c 2 _ rfl
  have q0_3 : U17.cell? ⟨w.heap.size, 3, none⟩ = some (.slice a0_0 x.chans.length c0_0) := B0.c 3 _ rfl
  have q0_4 : U17.cell? ⟨w.heap.size, 4, none⟩ = some (.slice a0_1 x.htlcs.length c0_1) := B0.c 4 _ rfl
  have q0_5 : U17.cell? ⟨w.heap.size, 5, none⟩ = some (.slice a0_2 x.circles.length c0_2) := B0.c 5 _ rfl
  have f0 := B0.f
  have q1_0 : U17.cell? ⟨w.heap.size + 1, 0, none⟩ = some (.int .i64 r.lo) := B1.c 0 _ rfl
  have q1_1 : U17.cell? ⟨w.heap.size + 1, 1, none⟩ = some (.int .i64 r.hi) := B1.c 1 _ rfl
  have q1_2 : U17.cell? ⟨w.heap.size + 1, 2, none⟩ = some (.int .i64 r.step) := B1.c 2 _ rfl
  have q1_3 : U17.cell? ⟨w.heap.size + 1, 3, none⟩ = some (.int .i64 r.min) := B1.c 3 _ rfl
  have q1_4 : U17.cell? ⟨w.heap.size + 1, 4, none⟩ = some (.int .i64 r.max) := B1.c 4 _ rfl
  have f1 := B1.f
  have q2_0 : U17.cell? ⟨U5.heap.size, 0, none⟩ = some (.int .i64 x.tick) := B2.c 0 _ rfl
  have q2_1 : U17.cell? ⟨U5.heap.size, 1, none⟩ = some (.int .i64 x.next) := B2.c 1 _ rfl
  have q2_2 : U17.cell? ⟨U5.heap.size, 2, none⟩ = some (.int .i64 x.wallet) := B2.c 2 _ rfl
  have q2_3 : U17.cell? ⟨U5.heap.size, 3, none⟩ = some (.slice A5_0 x.chans.length C5_0) := B2.c 3 _ rfl
  have q2_4 : U17.cell? ⟨U5.heap.size, 4, none⟩ = some (.slice A5_1 x.htlcs.length C5_1) := B2.c 4 _ rfl
  have q2_5 : U17.cell? ⟨U5.heap.size, 5, none⟩ = some (.slice A5_2 x.circles.length C5_2) := B2.c 5 _ rfl
  have f2 := B2.f
  go_wp2_with fail
  refine (eqEventS_c (turnsOf x r) _ _ _ _ _ (S17_0.all repEvent_stable (by omega)) (S4_0.all repEvent_stable (by omega))).mono ?_
  rintro e U18 ⟨rfl, gs⟩
  clear z0 z1 z2 q0_0 q0_1 q0_2 q0_3 q0_4 q0_5 f0 q1_0 q1_1 q1_2 q1_3 q1_4 f1 q2_0 q2_1 q2_2 q2_3 q2_4 q2_5 f2
  have ys := Grow.size gs
  replace B0 : Box U18 (w.heap.size) [.int .i64 x.tick, .int .i64 x.next, .int .i64 x.wallet, .slice a0_0 x.chans.length c0_0, .slice a0_1 x.htlcs.length c0_1, .slice a0_2 x.circles.length c0_2] := Box.grow B0 gs
  replace B1 : Box U18 (w.heap.size + 1) [.int .i64 r.lo, .int .i64 r.hi, .int .i64 r.step, .int .i64 r.min, .int .i64 r.max] := Box.grow B1 gs
  replace B2 : Box U18 (U5.heap.size) [.int .i64 x.tick, .int .i64 x.next, .int .i64 x.wallet, .slice A5_0 x.chans.length C5_0, .slice A5_1 x.htlcs.length C5_1, .slice A5_2 x.circles.length C5_2] := Box.grow B2 gs
  replace S4_0 := S4_0.same repEvent_stable (gs.same (by omega))
  replace S17_0 := S17_0.same repEvent_stable (gs.same (by omega))
  replace M11_0 := M11_0.same (gs.same (by omega))
  replace M11_1 := M11_1.same (gs.same (by omega))
  replace M11_2 := M11_2.same (gs.same (by omega))
  replace M13_0 := M13_0.same (gs.same (by omega))
  replace G : Grow w U18 := Grow.trans G gs
  clear gs
  have z0 := B0.lt
  have z1 := B1.lt
  have z2 := B2.lt
  have q0_0 : U18.cell? ⟨w.heap.size, 0, none⟩ = some (.int .i64 x.tick) := B0.c 0 _ rfl
  have q0_1 : U18.cell? ⟨w.heap.size, 1, none⟩ = some (.int .i64 x.next) := B0.c 1 _ rfl
  have q0_2 : U18.cell? ⟨w.heap.size, 2, none⟩ = some (.int .i64 x.wallet) := B0.c 2 _ rfl
  have q0_3 : U18.cell? ⟨w.heap.size, 3, none⟩ = some (.slice a0_0 x.chans.length c0_0) := B0.c 3 _ rfl
  have q0_4 : U18.cell? ⟨w.heap.size, 4, none⟩ = some (.slice a0_1 x.htlcs.length c0_1) := B0.c 4 _ rfl
  have q0_5 : U18.cell? ⟨w.heap.size, 5, none⟩ = some (.slice a0_2 x.circles.length c0_2) := B0.c 5 _ rfl
  have f0 := B0.f
  have q1_0 : U18.cell? ⟨w.heap.size + 1, 0, none⟩ = some (.int .i64 r.lo) := B1.c 0 _ rfl
  have q1_1 : U18.cell? ⟨w.heap.size + 1, 1, none⟩ = some (.int .i64 r.hi) := B1.c 1 _ rfl
  have q1_2 : U18.cell? ⟨w.heap.size + 1, 2, none⟩ = some (.int .i64 r.step) := B1.c 2 _ rfl
  have q1_3 : U18.cell? ⟨w.heap.size + 1, 3, none⟩ = some (.int .i64 r.min) := B1.c 3 _ rfl
  have q1_4 : U18.cell? ⟨w.heap.size + 1, 4, none⟩ = some (.int .i64 r.max) := B1.c 4 _ rfl
  have f1 := B1.f
  have q2_0 : U18.cell? ⟨U5.heap.size, 0, none⟩ = some (.int .i64 x.tick) := B2.c 0 _ rfl
  have q2_1 : U18.cell? ⟨U5.heap.size, 1, none⟩ = some (.int .i64 x.next) := B2.c 1 _ rfl
  have q2_2 : U18.cell? ⟨U5.heap.size, 2, none⟩ = some (.int .i64 x.wallet) := B2.c 2 _ rfl
  have q2_3 : U18.cell? ⟨U5.heap.size, 3, none⟩ = some (.slice A5_0 x.chans.length C5_0) := B2.c 3 _ rfl
  have q2_4 : U18.cell? ⟨U5.heap.size, 4, none⟩ = some (.slice A5_1 x.htlcs.length C5_1) := B2.c 4 _ rfl
  have q2_5 : U18.cell? ⟨U5.heap.size, 5, none⟩ = some (.slice A5_2 x.circles.length C5_2) := B2.c 5 _ rfl
  have f2 := B2.f
  go_wp2_with fail
  refine (heldEventS_c _ _ _ 1 V2.heap.size U7.heap.size _ M13_0 cap_S7_0 (by have := turnsOf_len (x := x) (r := r); omega) (by omega) (by omega)).mono ?_
  rintro e U19 ⟨rfl, gs⟩
  clear z0 z1 z2 q0_0 q0_1 q0_2 q0_3 q0_4 q0_5 f0 q1_0 q1_1 q1_2 q1_3 q1_4 f1 q2_0 q2_1 q2_2 q2_3 q2_4 q2_5 f2
  have ys := Grow.size gs
  replace B0 : Box U19 (w.heap.size) [.int .i64 x.tick, .int .i64 x.next, .int .i64 x.wallet, .slice a0_0 x.chans.length c0_0, .slice a0_1 x.htlcs.length c0_1, .slice a0_2 x.circles.length c0_2] := Box.grow B0 gs
  replace B1 : Box U19 (w.heap.size + 1) [.int .i64 r.lo, .int .i64 r.hi, .int .i64 r.step, .int .i64 r.min, .int .i64 r.max] := Box.grow B1 gs
  replace B2 : Box U19 (U5.heap.size) [.int .i64 x.tick, .int .i64 x.next, .int .i64 x.wallet, .slice A5_0 x.chans.length C5_0, .slice A5_1 x.htlcs.length C5_1, .slice A5_2 x.circles.length C5_2] := Box.grow B2 gs
  replace S4_0 := S4_0.same repEvent_stable (gs.same (by omega))
  replace S17_0 := S17_0.same repEvent_stable (gs.same (by omega))
  replace M11_0 := M11_0.same (gs.same (by omega))
  replace M11_1 := M11_1.same (gs.same (by omega))
  replace M11_2 := M11_2.same (gs.same (by omega))
  replace M13_0 := M13_0.same (gs.same (by omega))
  replace G : Grow w U19 := Grow.trans G gs
  clear gs
  have z0 := B0.lt
  have z1 := B1.lt
  have z2 := B2.lt
  have q0_0 : U19.cell? ⟨w.heap.size, 0, none⟩ = some (.int .i64 x.tick) := B0.c 0 _ rfl
  have q0_1 : U19.cell? ⟨w.heap.size, 1, none⟩ = some (.int .i64 x.next) := B0.c 1 _ rfl
  have q0_2 : U19.cell? ⟨w.heap.size, 2, none⟩ = some (.int .i64 x.wallet) := B0.c 2 _ rfl
  have q0_3 : U19.cell? ⟨w.heap.size, 3, none⟩ = some (.slice a0_0 x.chans.length c0_0) := B0.c 3 _ rfl
  have q0_4 : U19.cell? ⟨w.heap.size, 4, none⟩ = some (.slice a0_1 x.htlcs.length c0_1) := B0.c 4 _ rfl
  have q0_5 : U19.cell? ⟨w.heap.size, 5, none⟩ = some (.slice a0_2 x.circles.length c0_2) := B0.c 5 _ rfl
  have f0 := B0.f
  have q1_0 : U19.cell? ⟨w.heap.size + 1, 0, none⟩ = some (.int .i64 r.lo) := B1.c 0 _ rfl
  have q1_1 : U19.cell? ⟨w.heap.size + 1, 1, none⟩ = some (.int .i64 r.hi) := B1.c 1 _ rfl
  have q1_2 : U19.cell? ⟨w.heap.size + 1, 2, none⟩ = some (.int .i64 r.step) := B1.c 2 _ rfl
  have q1_3 : U19.cell? ⟨w.heap.size + 1, 3, none⟩ = some (.int .i64 r.min) := B1.c 3 _ rfl
  have q1_4 : U19.cell? ⟨w.heap.size + 1, 4, none⟩ = some (.int .i64 r.max) := B1.c 4 _ rfl
  have f1 := B1.f
  have q2_0 : U19.cell? ⟨U5.heap.size, 0, none⟩ = some (.int .i64 x.tick) := B2.c 0 _ rfl
  have q2_1 : U19.cell? ⟨U5.heap.size, 1, none⟩ = some (.int .i64 x.next) := B2.c 1 _ rfl
  have q2_2 : U19.cell? ⟨U5.heap.size, 2, none⟩ = some (.int .i64 x.wallet) := B2.c 2 _ rfl
  have q2_3 : U19.cell? ⟨U5.heap.size, 3, none⟩ = some (.slice A5_0 x.chans.length C5_0) := B2.c 3 _ rfl
  have q2_4 : U19.cell? ⟨U5.heap.size, 4, none⟩ = some (.slice A5_1 x.htlcs.length C5_1) := B2.c 4 _ rfl
  have q2_5 : U19.cell? ⟨U5.heap.size, 5, none⟩ = some (.slice A5_2 x.circles.length C5_2) := B2.c 5 _ rfl
  have f2 := B2.f
  go_wp2_with fail
  go_ret
  exact ⟨rfl, by repeat (first | exact G | (refine Grow.alloc ?_ _ _) | (refine Grow.drew ?_) | (refine Grow.drewN ?_ _))⟩
end Go.Proofs.Ytigbjpllckgilaa
