/- The law FnExactSteady, walked over the contracts. -/
import Derived.Test.YtigbjpllckgilaaSteady
import Derived.Test.YtigbjpllckgilaaHBook
import Derived.Test.YtigbjpllckgilaaHRule
import Derived.Test.YtigbjpllckgilaaMk
import Derived.Deep.RegionHeld3
namespace Go.Proofs.Ytigbjpllckgilaa
open Go.RowKit
set_option linter.unusedSimpArgs false
set_option linter.unusedVariables false

set_option maxHeartbeats 8000000 in
set_option maxRecDepth 100000 in
theorem FnExactSteady_walk (x : Book) (a0_0 : Option Addr) (c0_0 : Nat) (a0_1 : Option Addr) (c0_1 : Nat) (a0_2 : Option Addr) (c0_2 : Nat) (r : Rule)  (w : World) (h0_0 : SlR 7 repChan w 0 w.heap.size (.slice a0_0 x.chans.length c0_0) x.chans) (h0_1 : SlR 7 repHtlc w 0 w.heap.size (.slice a0_1 x.htlcs.length c0_1) x.htlcs) (h0_2 : SlR 5 repCircle w 0 w.heap.size (.slice a0_2 x.circles.length c0_2) x.circles) (wf0 : wfBook x) (wf1 : wfRule r) :
    Calls Try.prog 9 #[.agg #[.int .i64 x.tick, .int .i64 x.next, .int .i64 x.wallet, .slice a0_0 x.chans.length c0_0, .slice a0_1 x.htlcs.length c0_1, .slice a0_2 x.circles.length c0_2], .agg #[.int .i64 r.lo, .int .i64 r.hi, .int .i64 r.step, .int .i64 r.min, .int .i64 r.max]] w fun e w' => e = .returned (.bool true) ∧ Grow w w' := by
  have H0_0 := Lib.hid h0_0
  have H0_1 := Lib.hid h0_1
  have H0_2 := Lib.hid h0_2
  clear h0_0 h0_1 h0_2
  by_cases t0 : szBook x (1048576 : Int) < 0
  · go_enter Try.func9, Try.ntmps9
    go_wp2_with fail
    obtain ⟨V1, hV⟩ : ∃ V, V = ((w.alloc (.cells #[.int .i64 x.tick, .int .i64 x.next, .int .i64 x.wallet, .slice a0_0 x.chans.length c0_0, .slice a0_1 x.htlcs.length c0_1, .slice a0_2 x.circles.length c0_2] 35)).alloc (.cells #[.int .i64 r.lo, .int .i64 r.hi, .int .i64 r.step, .int .i64 r.min, .int .i64 r.max] 66)) := ⟨_, rfl⟩
    have G' : Grow w V1 := by rw [hV]; exact (((Grow.refl w).alloc _ _).alloc _ _)
    have gs : Grow w V1 := by rw [hV]; exact (((Grow.refl w).alloc _ _).alloc _ _)
    have B0 : Box V1 (w.heap.size) [.int .i64 x.tick, .int .i64 x.next, .int .i64 x.wallet, .slice a0_0 x.chans.length c0_0, .slice a0_1 x.htlcs.length c0_1, .slice a0_2 x.circles.length c0_2] := by rw [hV]; exact (Box.newAt (by simp) _ _).alloc _ _
    have B1 : Box V1 (w.heap.size + 1) [.int .i64 r.lo, .int .i64 r.hi, .int .i64 r.step, .int .i64 r.min, .int .i64 r.max] := by rw [hV]; exact Box.newAt (by simp) _ _
    have ys : V1.heap.size = w.heap.size + 2 := by rw [hV]; simp
    have G := G'
    clear G'
    rw [← hV]
    clear hV
    clear gs
    have z0 := B0.lt
    have z1 := B1.lt
    have q0_0 : V1.cell? ⟨w.heap.size, 0, none⟩ = some (.int .i64 x.tick) := B0.c 0 _ rfl
    have q0_1 : V1.cell? ⟨w.heap.size, 1, none⟩ = some (.int .i64 x.next) := B0.c 1 _ rfl
    have q0_2 : V1.cell? ⟨w.heap.size, 2, none⟩ = some (.int .i64 x.wallet) := B0.c 2 _ rfl
    have q0_3 : V1.cell? ⟨w.heap.size, 3, none⟩ = some (.slice a0_0 x.chans.length c0_0) := B0.c 3 _ rfl
    have q0_4 : V1.cell? ⟨w.heap.size, 4, none⟩ = some (.slice a0_1 x.htlcs.length c0_1) := B0.c 4 _ rfl
    have q0_5 : V1.cell? ⟨w.heap.size, 5, none⟩ = some (.slice a0_2 x.circles.length c0_2) := B0.c 5 _ rfl
    have f0 := B0.f
    have q1_0 : V1.cell? ⟨w.heap.size + 1, 0, none⟩ = some (.int .i64 r.lo) := B1.c 0 _ rfl
    have q1_1 : V1.cell? ⟨w.heap.size + 1, 1, none⟩ = some (.int .i64 r.hi) := B1.c 1 _ rfl
    have q1_2 : V1.cell? ⟨w.heap.size + 1, 2, none⟩ = some (.int .i64 r.step) := B1.c 2 _ rfl
    have q1_3 : V1.cell? ⟨w.heap.size + 1, 3, none⟩ = some (.int .i64 r.min) := B1.c 3 _ rfl
    have q1_4 : V1.cell? ⟨w.heap.size + 1, 4, none⟩ = some (.int .i64 r.max) := B1.c 4 _ rfl
    have f1 := B1.f
    refine (szBook_c x _ _ _ _ _ _ _ _ (H0_0.out.grow' repChan_stable (Grow.below G)) (H0_1.out.grow' repHtlc_stable (Grow.below G)) (H0_2.out.grow' repCircle_stable (Grow.below G)) (by omega) (by omega)).mono ?_
    rintro e U1 ⟨rfl, gs⟩
    clear z0 z1 q0_0 q0_1 q0_2 q0_3 q0_4 q0_5 f0 q1_0 q1_1 q1_2 q1_3 q1_4 f1
    have ys := Grow.size gs
    replace B0 : Box U1 (w.heap.size) [.int .i64 x.tick, .int .i64 x.next, .int .i64 x.wallet, .slice a0_0 x.chans.length c0_0, .slice a0_1 x.htlcs.length c0_1, .slice a0_2 x.circles.length c0_2] := Box.grow B0 gs
    replace B1 : Box U1 (w.heap.size + 1) [.int .i64 r.lo, .int .i64 r.hi, .int .i64 r.step, .int .i64 r.min, .int .i64 r.max] := Box.grow B1 gs
    replace G : Grow w U1 := Grow.trans G gs
    clear gs
    have z0 := B0.lt
    have z1 := B1.lt
    have q0_0 : U1.cell? ⟨w.heap.size, 0, none⟩ = some (.int .i64 x.tick) := B0.c 0 _ rfl
    have q0_1 : U1.cell? ⟨w.heap.size, 1, none⟩ = some (.int .i64 x.next) := B0.c 1 _ rfl
    have q0_2 : U1.cell? ⟨w.heap.size, 2, none⟩ = some (.int .i64 x.wallet) := B0.c 2 _ rfl
    have q0_3 : U1.cell? ⟨w.heap.size, 3, none⟩ = some (.slice a0_0 x.chans.length c0_0) := B0.c 3 _ rfl
    have q0_4 : U1.cell? ⟨w.heap.size, 4, none⟩ = some (.slice a0_1 x.htlcs.length c0_1) := B0.c 4 _ rfl
    have q0_5 : U1.cell? ⟨w.heap.size, 5, none⟩ = some (.slice a0_2 x.circles.length c0_2) := B0.c 5 _ rfl
    have f0 := B0.f
    have q1_0 : U1.cell? ⟨w.heap.size + 1, 0, none⟩ = some (.int .i64 r.lo) := B1.c 0 _ rfl
    have q1_1 : U1.cell? ⟨w.heap.size + 1, 1, none⟩ = some (.int .i64 r.hi) := B1.c 1 _ rfl
    have q1_2 : U1.cell? ⟨w.heap.size + 1, 2, none⟩ = some (.int .i64 r.step) := B1.c 2 _ rfl
    have q1_3 : U1.cell? ⟨w.heap.size + 1, 3, none⟩ = some (.int .i64 r.min) := B1.c 3 _ rfl
    have q1_4 : U1.cell? ⟨w.heap.size + 1, 4, none⟩ = some (.int .i64 r.max) := B1.c 4 _ rfl
    have f1 := B1.f
    go_wp2_with fail
    go_ret
    exact ⟨rfl, by repeat (first | exact G | (refine Grow.alloc ?_ _ _) | (refine Grow.drew ?_) | (refine Grow.drewN ?_ _))⟩
  obtain ⟨L0, Bx_0, Bx_1, Bx_2⟩ := szBook_le x (1048576 : Int) (by omega) (by omega)
  go_enter Try.func9, Try.ntmps9
  go_wp2_with fail
  obtain ⟨V1, hV⟩ : ∃ V, V = ((w.alloc (.cells #[.int .i64 x.tick, .int .i64 x.next, .int .i64 x.wallet, .slice a0_0 x.chans.length c0_0, .slice a0_1 x.htlcs.length c0_1, .slice a0_2 x.circles.length c0_2] 35)).alloc (.cells #[.int .i64 r.lo, .int .i64 r.hi, .int .i64 r.step, .int .i64 r.min, .int .i64 r.max] 66)) := ⟨_, rfl⟩
  have G' : Grow w V1 := by rw [hV]; exact (((Grow.refl w).alloc _ _).alloc _ _)
  have gs : Grow w V1 := by rw [hV]; exact (((Grow.refl w).alloc _ _).alloc _ _)
  have B0 : Box V1 (w.heap.size) [.int .i64 x.tick, .int .i64 x.next, .int .i64 x.wallet, .slice a0_0 x.chans.length c0_0, .slice a0_1 x.htlcs.length c0_1, .slice a0_2 x.circles.length c0_2] := by rw [hV]; exact (Box.newAt (by simp) _ _).alloc _ _
  have B1 : Box V1 (w.heap.size + 1) [.int .i64 r.lo, .int .i64 r.hi, .int .i64 r.step, .int .i64 r.min, .int .i64 r.max] := by rw [hV]; exact Box.newAt (by simp) _ _
  have ys : V1.heap.size = w.heap.size + 2 := by rw [hV]; simp
  have G := G'
  clear G'
  rw [← hV]
  clear hV
  clear gs
  have z0 := B0.lt
  have z1 := B1.lt
  have q0_0 : V1.cell? ⟨w.heap.size, 0, none⟩ = some (.int .i64 x.tick) := B0.c 0 _ rfl
  have q0_1 : V1.cell? ⟨w.heap.size, 1, none⟩ = some (.int .i64 x.next) := B0.c 1 _ rfl
  have q0_2 : V1.cell? ⟨w.heap.size, 2, none⟩ = some (.int .i64 x.wallet) := B0.c 2 _ rfl
  have q0_3 : V1.cell? ⟨w.heap.size, 3, none⟩ = some (.slice a0_0 x.chans.length c0_0) := B0.c 3 _ rfl
  have q0_4 : V1.cell? ⟨w.heap.size, 4, none⟩ = some (.slice a0_1 x.htlcs.length c0_1) := B0.c 4 _ rfl
  have q0_5 : V1.cell? ⟨w.heap.size, 5, none⟩ = some (.slice a0_2 x.circles.length c0_2) := B0.c 5 _ rfl
  have f0 := B0.f
  have q1_0 : V1.cell? ⟨w.heap.size + 1, 0, none⟩ = some (.int .i64 r.lo) := B1.c 0 _ rfl
  have q1_1 : V1.cell? ⟨w.heap.size + 1, 1, none⟩ = some (.int .i64 r.hi) := B1.c 1 _ rfl
  have q1_2 : V1.cell? ⟨w.heap.size + 1, 2, none⟩ = some (.int .i64 r.step) := B1.c 2 _ rfl
  have q1_3 : V1.cell? ⟨w.heap.size + 1, 3, none⟩ = some (.int .i64 r.min) := B1.c 3 _ rfl
  have q1_4 : V1.cell? ⟨w.heap.size + 1, 4, none⟩ = some (.int .i64 r.max) := B1.c 4 _ rfl
  have f1 := B1.f
  refine (szBook_c x _ _ _ _ _ _ _ _ (H0_0.out.grow' repChan_stable (Grow.below G)) (H0_1.out.grow' repHtlc_stable (Grow.below G)) (H0_2.out.grow' repCircle_stable (Grow.below G)) (by omega) (by omega)).mono ?_
  rintro e U1 ⟨rfl, gs⟩
  clear z0 z1 q0_0 q0_1 q0_2 q0_3 q0_4 q0_5 f0 q1_0 q1_1 q1_2 q1_3 q1_4 f1
  have ys := Grow.size gs
  replace B0 : Box U1 (w.heap.size) [.int .i64 x.tick, .int .i64 x.next, .int .i64 x.wallet, .slice a0_0 x.chans.length c0_0, .slice a0_1 x.htlcs.length c0_1, .slice a0_2 x.circles.length c0_2] := Box.grow B0 gs
  replace B1 : Box U1 (w.heap.size + 1) [.int .i64 r.lo, .int .i64 r.hi, .int .i64 r.step, .int .i64 r.min, .int .i64 r.max] := Box.grow B1 gs
  replace G : Grow w U1 := Grow.trans G gs
  clear gs
  have z0 := B0.lt
  have z1 := B1.lt
  have q0_0 : U1.cell? ⟨w.heap.size, 0, none⟩ = some (.int .i64 x.tick) := B0.c 0 _ rfl
  have q0_1 : U1.cell? ⟨w.heap.size, 1, none⟩ = some (.int .i64 x.next) := B0.c 1 _ rfl
  have q0_2 : U1.cell? ⟨w.heap.size, 2, none⟩ = some (.int .i64 x.wallet) := B0.c 2 _ rfl
  have q0_3 : U1.cell? ⟨w.heap.size, 3, none⟩ = some (.slice a0_0 x.chans.length c0_0) := B0.c 3 _ rfl
  have q0_4 : U1.cell? ⟨w.heap.size, 4, none⟩ = some (.slice a0_1 x.htlcs.length c0_1) := B0.c 4 _ rfl
  have q0_5 : U1.cell? ⟨w.heap.size, 5, none⟩ = some (.slice a0_2 x.circles.length c0_2) := B0.c 5 _ rfl
  have f0 := B0.f
  have q1_0 : U1.cell? ⟨w.heap.size + 1, 0, none⟩ = some (.int .i64 r.lo) := B1.c 0 _ rfl
  have q1_1 : U1.cell? ⟨w.heap.size + 1, 1, none⟩ = some (.int .i64 r.hi) := B1.c 1 _ rfl
  have q1_2 : U1.cell? ⟨w.heap.size + 1, 2, none⟩ = some (.int .i64 r.step) := B1.c 2 _ rfl
  have q1_3 : U1.cell? ⟨w.heap.size + 1, 3, none⟩ = some (.int .i64 r.min) := B1.c 3 _ rfl
  have q1_4 : U1.cell? ⟨w.heap.size + 1, 4, none⟩ = some (.int .i64 r.max) := B1.c 4 _ rfl
  have f1 := B1.f
  go_wp2_with fail
  have KH0_0 := (H0_0.out.grow' repChan_stable (Grow.below G))
  have KH0_1 := (H0_1.out.grow' repHtlc_stable (Grow.below G))
  have KH0_2 := (H0_2.out.grow' repCircle_stable (Grow.below G))
  go_region_held3 (fun W => W.cell? ⟨w.heap.size, 0, none⟩ = some (.int .i64 x.tick) ∧ W.cell? ⟨w.heap.size, 1, none⟩ = some (.int .i64 x.next) ∧ W.cell? ⟨w.heap.size, 2, none⟩ = some (.int .i64 x.wallet) ∧ W.cell? ⟨w.heap.size, 3, none⟩ = some (.slice a0_0 x.chans.length c0_0) ∧ W.cell? ⟨w.heap.size, 4, none⟩ = some (.slice a0_1 x.htlcs.length c0_1) ∧ W.cell? ⟨w.heap.size, 5, none⟩ = some (.slice a0_2 x.circles.length c0_2) ∧ W.cell? ⟨w.heap.size + 1, 0, none⟩ = some (.int .i64 r.lo) ∧ W.cell? ⟨w.heap.size + 1, 1, none⟩ = some (.int .i64 r.hi) ∧ W.cell? ⟨w.heap.size + 1, 2, none⟩ = some (.int .i64 r.step) ∧ W.cell? ⟨w.heap.size + 1, 3, none⟩ = some (.int .i64 r.min) ∧ W.cell? ⟨w.heap.size + 1, 4, none⟩ = some (.int .i64 r.max))
    (first
      | exact ⟨q0_0, q0_1, q0_2, q0_3, q0_4, q0_5, q1_0, q1_1, q1_2, q1_3, q1_4⟩
      | exact ⟨(cellGrow g2 q0_0), (cellGrow g2 q0_1), (cellGrow g2 q0_2), (cellGrow g2 q0_3), (cellGrow g2 q0_4), (cellGrow g2 q0_5), (cellGrow g2 q1_0), (cellGrow g2 q1_1), (cellGrow g2 q1_2), (cellGrow g2 q1_3), (cellGrow g2 q1_4)⟩
      | exact ⟨(cellGrow g3 (cellGrow g2 q0_0)), (cellGrow g3 (cellGrow g2 q0_1)), (cellGrow g3 (cellGrow g2 q0_2)), (cellGrow g3 (cellGrow g2 q0_3)), (cellGrow g3 (cellGrow g2 q0_4)), (cellGrow g3 (cellGrow g2 q0_5)), (cellGrow g3 (cellGrow g2 q1_0)), (cellGrow g3 (cellGrow g2 q1_1)), (cellGrow g3 (cellGrow g2 q1_2)), (cellGrow g3 (cellGrow g2 q1_3)), (cellGrow g3 (cellGrow g2 q1_4))⟩
      | exact ⟨(cellGrow g4 (cellGrow g3 (cellGrow g2 q0_0))), (cellGrow g4 (cellGrow g3 (cellGrow g2 q0_1))), (cellGrow g4 (cellGrow g3 (cellGrow g2 q0_2))), (cellGrow g4 (cellGrow g3 (cellGrow g2 q0_3))), (cellGrow g4 (cellGrow g3 (cellGrow g2 q0_4))), (cellGrow g4 (cellGrow g3 (cellGrow g2 q0_5))), (cellGrow g4 (cellGrow g3 (cellGrow g2 q1_0))), (cellGrow g4 (cellGrow g3 (cellGrow g2 q1_1))), (cellGrow g4 (cellGrow g3 (cellGrow g2 q1_2))), (cellGrow g4 (cellGrow g3 (cellGrow g2 q1_3))), (cellGrow g4 (cellGrow g3 (cellGrow g2 q1_4)))⟩)
    (first
      | (go_at_call 20; with_reducible show Calls _ 20 #[.agg #[.int .i64 x.tick, .int .i64 x.next, .int .i64 x.wallet, .slice a0_0 x.chans.length c0_0, .slice a0_1 x.htlcs.length c0_1, .slice a0_2 x.circles.length c0_2]] _ _; refine (toBook_c x _ _ _ _ _ _ _ (KH0_0.grow' repChan_stable (Grow.below (by repeat (first | exact Grow.refl _ | (refine Grow.alloc ?_ _ _) | (refine Grow.drew ?_) | (refine Grow.trans ?_ (by assumption)))))) (KH0_1.grow' repHtlc_stable (Grow.below (by repeat (first | exact Grow.refl _ | (refine Grow.alloc ?_ _ _) | (refine Grow.drew ?_) | (refine Grow.trans ?_ (by assumption)))))) (KH0_2.grow' repCircle_stable (Grow.below (by repeat (first | exact Grow.refl _ | (refine Grow.alloc ?_ _ _) | (refine Grow.drew ?_) | (refine Grow.trans ?_ (by assumption)))))) Bx_0 Bx_1 Bx_2).mono ?_; rintro e U2 ⟨A2_0, C2_0, P2_0, Q2_0, A2_1, C2_1, P2_1, Q2_1, A2_2, C2_2, P2_2, Q2_2, rfl, g2, O2, S2_0, S2_1, S2_2⟩; have y2 := Grow.size g2; have KS2_0 : SlR 7 repChan U2 0 U2.heap.size (.slice A2_0 x.chans.length C2_0) x.chans := S2_0.all repChan_stable (by omega); have KS2_1 : SlR 7 repHtlc U2 0 U2.heap.size (.slice A2_1 x.htlcs.length C2_1) x.htlcs := S2_1.all repHtlc_stable (by omega); have KS2_2 : SlR 5 repCircle U2 0 U2.heap.size (.slice A2_2 x.circles.length C2_2) x.circles := S2_2.all repCircle_stable (by omega))
      | (go_at_call 38; with_reducible show Calls _ 38 #[.agg #[.int .i64 r.lo, .int .i64 r.hi, .int .i64 r.step, .int .i64 r.min, .int .i64 r.max]] _ _; refine (toRule_c r _).mono ?_; rintro e U3 ⟨rfl, g3⟩; have y3 := Grow.size g3)
      | (go_at_call 37; with_reducible show Calls _ 37 #[.agg #[.int .i64 x.tick, .int .i64 x.next, .int .i64 x.wallet, .slice A2_0 x.chans.length C2_0, .slice A2_1 x.htlcs.length C2_1, .slice A2_2 x.circles.length C2_2], .agg #[.int .i64 r.lo, .int .i64 r.hi, .int .i64 r.step, .int .i64 r.min, .int .i64 r.max]] _ _; refine (spec_Steady_c x _ _ _ _ _ _ r _ (KS2_0.grow' repChan_stable (Grow.below (by repeat (first | exact Grow.refl _ | (refine Grow.alloc ?_ _ _) | (refine Grow.drew ?_) | (refine Grow.trans ?_ (by assumption)))))) (KS2_1.grow' repHtlc_stable (Grow.below (by repeat (first | exact Grow.refl _ | (refine Grow.alloc ?_ _ _) | (refine Grow.drew ?_) | (refine Grow.trans ?_ (by assumption)))))) (KS2_2.grow' repCircle_stable (Grow.below (by repeat (first | exact Grow.refl _ | (refine Grow.alloc ?_ _ _) | (refine Grow.drew ?_) | (refine Grow.trans ?_ (by assumption)))))) Bx_0).mono ?_; rintro e U4 ⟨rfl, g4⟩; have y4 := Grow.size g4))
  have gs : Grow U1 U4 := by repeat (first | exact Grow.refl _ | (refine Grow.alloc ?_ _ _) | (refine Grow.drew ?_) | (refine Grow.trans ?_ (by assumption)))
  clear g2 g3 g4
  clear z0 z1 q0_0 q0_1 q0_2 q0_3 q0_4 q0_5 f0 q1_0 q1_1 q1_2 q1_3 q1_4 f1
  have ys := Grow.size gs
  replace B0 : Box U4 (w.heap.size) [.int .i64 x.tick, .int .i64 x.next, .int .i64 x.wallet, .slice a0_0 x.chans.length c0_0, .slice a0_1 x.htlcs.length c0_1, .slice a0_2 x.circles.length c0_2] := Box.grow B0 gs
  replace B1 : Box U4 (w.heap.size + 1) [.int .i64 r.lo, .int .i64 r.hi, .int .i64 r.step, .int .i64 r.min, .int .i64 r.max] := Box.grow B1 gs
  replace G : Grow w U4 := Grow.trans G gs
  clear gs
  have z0 := B0.lt
  have z1 := B1.lt
  have q0_0 : U4.cell? ⟨w.heap.size, 0, none⟩ = some (.int .i64 x.tick) := B0.c 0 _ rfl
  have q0_1 : U4.cell? ⟨w.heap.size, 1, none⟩ = some (.int .i64 x.next) := B0.c 1 _ rfl
  have q0_2 : U4.cell? ⟨w.heap.size, 2, none⟩ = some (.int .i64 x.wallet) := B0.c 2 _ rfl
  have q0_3 : U4.cell? ⟨w.heap.size, 3, none⟩ = some (.slice a0_0 x.chans.length c0_0) := B0.c 3 _ rfl
  have q0_4 : U4.cell? ⟨w.heap.size, 4, none⟩ = some (.slice a0_1 x.htlcs.length c0_1) := B0.c 4 _ rfl
  have q0_5 : U4.cell? ⟨w.heap.size, 5, none⟩ = some (.slice a0_2 x.circles.length c0_2) := B0.c 5 _ rfl
  have f0 := B0.f
  have q1_0 : U4.cell? ⟨w.heap.size + 1, 0, none⟩ = some (.int .i64 r.lo) := B1.c 0 _ rfl
  have q1_1 : U4.cell? ⟨w.heap.size + 1, 1, none⟩ = some (.int .i64 r.hi) := B1.c 1 _ rfl
  have q1_2 : U4.cell? ⟨w.heap.size + 1, 2, none⟩ = some (.int .i64 r.step) := B1.c 2 _ rfl
  have q1_3 : U4.cell? ⟨w.heap.size + 1, 3, none⟩ = some (.int .i64 r.min) := B1.c 3 _ rfl
  have q1_4 : U4.cell? ⟨w.heap.size + 1, 4, none⟩ = some (.int .i64 r.max) := B1.c 4 _ rfl
  have f1 := B1.f
  go_wp2_with fail
  refine (toBook_c x _ _ _ _ _ _ _ (H0_0.out.grow' repChan_stable (Grow.below G)) (H0_1.out.grow' repHtlc_stable (Grow.below G)) (H0_2.out.grow' repCircle_stable (Grow.below G)) Bx_0 Bx_1 Bx_2).mono ?_
  rintro e U5 ⟨A5_0, C5_0, P5_0, Q5_0, A5_1, C5_1, P5_1, Q5_1, A5_2, C5_2, P5_2, Q5_2, rfl, gs, O5, S5_0, S5_1, S5_2⟩
  clear z0 z1 q0_0 q0_1 q0_2 q0_3 q0_4 q0_5 f0 q1_0 q1_1 q1_2 q1_3 q1_4 f1
  have ys := Grow.size gs
  replace B0 : Box U5 (w.heap.size) [.int .i64 x.tick, .int .i64 x.next, .int .i64 x.wallet, .slice a0_0 x.chans.length c0_0, .slice a0_1 x.htlcs.length c0_1, .slice a0_2 x.circles.length c0_2] := Box.grow B0 gs
  replace B1 : Box U5 (w.heap.size + 1) [.int .i64 r.lo, .int .i64 r.hi, .int .i64 r.step, .int .i64 r.min, .int .i64 r.max] := Box.grow B1 gs
  replace G : Grow w U5 := Grow.trans G gs
  clear gs
  have z0 := B0.lt
  have z1 := B1.lt
  have q0_0 : U5.cell? ⟨w.heap.size, 0, none⟩ = some (.int .i64 x.tick) := B0.c 0 _ rfl
  have q0_1 : U5.cell? ⟨w.heap.size, 1, none⟩ = some (.int .i64 x.next) := B0.c 1 _ rfl
  have q0_2 : U5.cell? ⟨w.heap.size, 2, none⟩ = some (.int .i64 x.wallet) := B0.c 2 _ rfl
  have q0_3 : U5.cell? ⟨w.heap.size, 3, none⟩ = some (.slice a0_0 x.chans.length c0_0) := B0.c 3 _ rfl
  have q0_4 : U5.cell? ⟨w.heap.size, 4, none⟩ = some (.slice a0_1 x.htlcs.length c0_1) := B0.c 4 _ rfl
  have q0_5 : U5.cell? ⟨w.heap.size, 5, none⟩ = some (.slice a0_2 x.circles.length c0_2) := B0.c 5 _ rfl
  have f0 := B0.f
  have q1_0 : U5.cell? ⟨w.heap.size + 1, 0, none⟩ = some (.int .i64 r.lo) := B1.c 0 _ rfl
  have q1_1 : U5.cell? ⟨w.heap.size + 1, 1, none⟩ = some (.int .i64 r.hi) := B1.c 1 _ rfl
  have q1_2 : U5.cell? ⟨w.heap.size + 1, 2, none⟩ = some (.int .i64 r.step) := B1.c 2 _ rfl
  have q1_3 : U5.cell? ⟨w.heap.size + 1, 3, none⟩ = some (.int .i64 r.min) := B1.c 3 _ rfl
  have q1_4 : U5.cell? ⟨w.heap.size + 1, 4, none⟩ = some (.int .i64 r.max) := B1.c 4 _ rfl
  have f1 := B1.f
  go_wp2_with fail
  obtain ⟨V2, hV⟩ : ∃ V, V = (U5.alloc (.cells #[.int .i64 x.tick, .int .i64 x.next, .int .i64 x.wallet, .slice A5_0 x.chans.length C5_0, .slice A5_1 x.htlcs.length C5_1, .slice A5_2 x.circles.length C5_2] 26)) := ⟨_, rfl⟩
  have G' : Grow w V2 := by rw [hV]; exact (G.alloc _ _)
  have gs : Grow U5 V2 := by rw [hV]; exact ((Grow.refl U5).alloc _ _)
  replace B0 : Box V2 (w.heap.size) [.int .i64 x.tick, .int .i64 x.next, .int .i64 x.wallet, .slice a0_0 x.chans.length c0_0, .slice a0_1 x.htlcs.length c0_1, .slice a0_2 x.circles.length c0_2] := by rw [hV]; exact (B0.alloc _ _)
  replace B1 : Box V2 (w.heap.size + 1) [.int .i64 r.lo, .int .i64 r.hi, .int .i64 r.step, .int .i64 r.min, .int .i64 r.max] := by rw [hV]; exact (B1.alloc _ _)
  have B2 : Box V2 (U5.heap.size) [.int .i64 x.tick, .int .i64 x.next, .int .i64 x.wallet, .slice A5_0 x.chans.length C5_0, .slice A5_1 x.htlcs.length C5_1, .slice A5_2 x.circles.length C5_2] := by rw [hV]; exact Box.newAt (by simp) _ _
  have ys : V2.heap.size = U5.heap.size + 1 := by rw [hV]; simp
  replace S5_0 := S5_0.same repChan_stable (gs.same (by omega))
  replace S5_1 := S5_1.same repHtlc_stable (gs.same (by omega))
  replace S5_2 := S5_2.same repCircle_stable (gs.same (by omega))
  replace G := G'
  clear G'
  rw [← hV]
  clear hV
  clear gs
  clear z0 z1 q0_0 q0_1 q0_2 q0_3 q0_4 q0_5 f0 q1_0 q1_1 q1_2 q1_3 q1_4 f1
  have z0 := B0.lt
  have z1 := B1.lt
  have z2 := B2.lt
  have q0_0 : V2.cell? ⟨w.heap.size, 0, none⟩ = some (.int .i64 x.tick) := B0.c 0 _ rfl
  have q0_1 : V2.cell? ⟨w.heap.size, 1, none⟩ = some (.int .i64 x.next) := B0.c 1 _ rfl
  have q0_2 : V2.cell? ⟨w.heap.size, 2, none⟩ = some (.int .i64 x.wallet) := B0.c 2 _ rfl
  have q0_3 : V2.cell? ⟨w.heap.size, 3, none⟩ = some (.slice a0_0 x.chans.length c0_0) := B0.c 3 _ rfl
  have q0_4 : V2.cell? ⟨w.heap.size, 4, none⟩ = some (.slice a0_1 x.htlcs.length c0_1) := B0.c 4 _ rfl
  have q0_5 : V2.cell? ⟨w.heap.size, 5, none⟩ = some (.slice a0_2 x.circles.length c0_2) := B0.c 5 _ rfl
  have f0 := B0.f
  have q1_0 : V2.cell? ⟨w.heap.size + 1, 0, none⟩ = some (.int .i64 r.lo) := B1.c 0 _ rfl
  have q1_1 : V2.cell? ⟨w.heap.size + 1, 1, none⟩ = some (.int .i64 r.hi) := B1.c 1 _ rfl
  have q1_2 : V2.cell? ⟨w.heap.size + 1, 2, none⟩ = some (.int .i64 r.step) := B1.c 2 _ rfl
  have q1_3 : V2.cell? ⟨w.heap.size + 1, 3, none⟩ = some (.int .i64 r.min) := B1.c 3 _ rfl
  have q1_4 : V2.cell? ⟨w.heap.size + 1, 4, none⟩ = some (.int .i64 r.max) := B1.c 4 _ rfl
  have f1 := B1.f
  have q2_0 : V2.cell? ⟨U5.heap.size, 0, none⟩ = some (.int .i64 x.tick) := B2.c 0 _ rfl
  have q2_1 : V2.cell? ⟨U5.heap.size, 1, none⟩ = some (.int .i64 x.next) := B2.c 1 _ rfl
  have q2_2 : V2.cell? ⟨U5.heap.size, 2, none⟩ = some (.int .i64 x.wallet) := B2.c 2 _ rfl
  have q2_3 : V2.cell? ⟨U5.heap.size, 3, none⟩ = some (.slice A5_0 x.chans.length C5_0) := B2.c 3 _ rfl
  have q2_4 : V2.cell? ⟨U5.heap.size, 4, none⟩ = some (.slice A5_1 x.htlcs.length C5_1) := B2.c 4 _ rfl
  have q2_5 : V2.cell? ⟨U5.heap.size, 5, none⟩ = some (.slice A5_2 x.circles.length C5_2) := B2.c 5 _ rfl
  have f2 := B2.f
  have KH0_0 := (H0_0.out.grow' repChan_stable (Grow.below G))
  have KH0_1 := (H0_1.out.grow' repHtlc_stable (Grow.below G))
  have KH0_2 := (H0_2.out.grow' repCircle_stable (Grow.below G))
  have KS5_0 := (S5_0.all repChan_stable (by omega))
  have KS5_1 := (S5_1.all repHtlc_stable (by omega))
  have KS5_2 := (S5_2.all repCircle_stable (by omega))
  go_region_held3 (fun W => W.cell? ⟨U5.heap.size, 0, none⟩ = some (.int .i64 x.tick) ∧ W.cell? ⟨U5.heap.size, 1, none⟩ = some (.int .i64 x.next) ∧ W.cell? ⟨U5.heap.size, 2, none⟩ = some (.int .i64 x.wallet) ∧ W.cell? ⟨U5.heap.size, 3, none⟩ = some (.slice A5_0 x.chans.length C5_0) ∧ W.cell? ⟨U5.heap.size, 4, none⟩ = some (.slice A5_1 x.htlcs.length C5_1) ∧ W.cell? ⟨U5.heap.size, 5, none⟩ = some (.slice A5_2 x.circles.length C5_2) ∧ W.cell? ⟨w.heap.size + 1, 0, none⟩ = some (.int .i64 r.lo) ∧ W.cell? ⟨w.heap.size + 1, 1, none⟩ = some (.int .i64 r.hi) ∧ W.cell? ⟨w.heap.size + 1, 2, none⟩ = some (.int .i64 r.step) ∧ W.cell? ⟨w.heap.size + 1, 3, none⟩ = some (.int .i64 r.min) ∧ W.cell? ⟨w.heap.size + 1, 4, none⟩ = some (.int .i64 r.max))
    (first
      | exact ⟨q2_0, q2_1, q2_2, q2_3, q2_4, q2_5, q1_0, q1_1, q1_2, q1_3, q1_4⟩
      | exact ⟨(cellGrow g6 q2_0), (cellGrow g6 q2_1), (cellGrow g6 q2_2), (cellGrow g6 q2_3), (cellGrow g6 q2_4), (cellGrow g6 q2_5), (cellGrow g6 q1_0), (cellGrow g6 q1_1), (cellGrow g6 q1_2), (cellGrow g6 q1_3), (cellGrow g6 q1_4)⟩
      | exact ⟨(cellGrow g7 (cellGrow g6 q2_0)), (cellGrow g7 (cellGrow g6 q2_1)), (cellGrow g7 (cellGrow g6 q2_2)), (cellGrow g7 (cellGrow g6 q2_3)), (cellGrow g7 (cellGrow g6 q2_4)), (cellGrow g7 (cellGrow g6 q2_5)), (cellGrow g7 (cellGrow g6 q1_0)), (cellGrow g7 (cellGrow g6 q1_1)), (cellGrow g7 (cellGrow g6 q1_2)), (cellGrow g7 (cellGrow g6 q1_3)), (cellGrow g7 (cellGrow g6 q1_4))⟩)
    (first
      | (go_at_call 38; with_reducible show Calls _ 38 #[.agg #[.int .i64 r.lo, .int .i64 r.hi, .int .i64 r.step, .int .i64 r.min, .int .i64 r.max]] _ _; refine (toRule_c r _).mono ?_; rintro e U6 ⟨rfl, g6⟩; have y6 := Grow.size g6)
      | (go_at_call 39; with_reducible show Calls _ 39 #[.agg #[.int .i64 x.tick, .int .i64 x.next, .int .i64 x.wallet, .slice A5_0 x.chans.length C5_0, .slice A5_1 x.htlcs.length C5_1, .slice A5_2 x.circles.length C5_2], .agg #[.int .i64 r.lo, .int .i64 r.hi, .int .i64 r.step, .int .i64 r.min, .int .i64 r.max]] _ _; refine (impl_Steady_c x _ _ _ _ _ _ r _ (KS5_0.grow' repChan_stable (Grow.below (by repeat (first | exact Grow.refl _ | (refine Grow.alloc ?_ _ _) | (refine Grow.drew ?_) | (refine Grow.trans ?_ (by assumption)))))) (KS5_1.grow' repHtlc_stable (Grow.below (by repeat (first | exact Grow.refl _ | (refine Grow.alloc ?_ _ _) | (refine Grow.drew ?_) | (refine Grow.trans ?_ (by assumption)))))) (KS5_2.grow' repCircle_stable (Grow.below (by repeat (first | exact Grow.refl _ | (refine Grow.alloc ?_ _ _) | (refine Grow.drew ?_) | (refine Grow.trans ?_ (by assumption)))))) Bx_0).mono ?_; rintro e U7 ⟨rfl, g7⟩; have y7 := Grow.size g7))
  have gs : Grow V2 U7 := by repeat (first | exact Grow.refl _ | (refine Grow.alloc ?_ _ _) | (refine Grow.drew ?_) | (refine Grow.trans ?_ (by assumption)))
  clear g6 g7
  clear z0 z1 z2 q0_0 q0_1 q0_2 q0_3 q0_4 q0_5 f0 q1_0 q1_1 q1_2 q1_3 q1_4 f1 q2_0 q2_1 q2_2 q2_3 q2_4 q2_5 f2
  have ys := Grow.size gs
  replace B0 : Box U7 (w.heap.size) [.int .i64 x.tick, .int .i64 x.next, .int .i64 x.wallet, .slice a0_0 x.chans.length c0_0, .slice a0_1 x.htlcs.length c0_1, .slice a0_2 x.circles.length c0_2] := Box.grow B0 gs
  replace B1 : Box U7 (w.heap.size + 1) [.int .i64 r.lo, .int .i64 r.hi, .int .i64 r.step, .int .i64 r.min, .int .i64 r.max] := Box.grow B1 gs
  replace B2 : Box U7 (U5.heap.size) [.int .i64 x.tick, .int .i64 x.next, .int .i64 x.wallet, .slice A5_0 x.chans.length C5_0, .slice A5_1 x.htlcs.length C5_1, .slice A5_2 x.circles.length C5_2] := Box.grow B2 gs
  replace S5_0 := S5_0.same repChan_stable (gs.same (by omega))
  replace S5_1 := S5_1.same repHtlc_stable (gs.same (by omega))
  replace S5_2 := S5_2.same repCircle_stable (gs.same (by omega))
  replace G : Grow w U7 := Grow.trans G gs
  clear gs
  have z0 := B0.lt
  have z1 := B1.lt
  have z2 := B2.lt
  have q0_0 : U7.cell? ⟨w.heap.size, 0, none⟩ = some (.int .i64 x.tick) := B0.c 0 _ rfl
  have q0_1 : U7.cell? ⟨w.heap.size, 1, none⟩ = some (.int .i64 x.next) := B0.c 1 _ rfl
  have q0_2 : U7.cell? ⟨w.heap.size, 2, none⟩ = some (.int .i64 x.wallet) := B0.c 2 _ rfl
  have q0_3 : U7.cell? ⟨w.heap.size, 3, none⟩ = some (.slice a0_0 x.chans.length c0_0) := B0.c 3 _ rfl
  have q0_4 : U7.cell? ⟨w.heap.size, 4, none⟩ = some (.slice a0_1 x.htlcs.length c0_1) := B0.c 4 _ rfl
  have q0_5 : U7.cell? ⟨w.heap.size, 5, none⟩ = some (.slice a0_2 x.circles.length c0_2) := B0.c 5 _ rfl
  have f0 := B0.f
  have q1_0 : U7.cell? ⟨w.heap.size + 1, 0, none⟩ = some (.int .i64 r.lo) := B1.c 0 _ rfl
  have q1_1 : U7.cell? ⟨w.heap.size + 1, 1, none⟩ = some (.int .i64 r.hi) := B1.c 1 _ rfl
  have q1_2 : U7.cell? ⟨w.heap.size + 1, 2, none⟩ = some (.int .i64 r.step) := B1.c 2 _ rfl
  have q1_3 : U7.cell? ⟨w.heap.size + 1, 3, none⟩ = some (.int .i64 r.min) := B1.c 3 _ rfl
  have q1_4 : U7.cell? ⟨w.heap.size + 1, 4, none⟩ = some (.int .i64 r.max) := B1.c 4 _ rfl
  have f1 := B1.f
  have q2_0 : U7.cell? ⟨U5.heap.size, 0, none⟩ = some (.int .i64 x.tick) := B2.c 0 _ rfl
  have q2_1 : U7.cell? ⟨U5.heap.size, 1, none⟩ = some (.int .i64 x.next) := B2.c 1 _ rfl
  have q2_2 : U7.cell? ⟨U5.heap.size, 2, none⟩ = some (.int .i64 x.wallet) := B2.c 2 _ rfl
  have q2_3 : U7.cell? ⟨U5.heap.size, 3, none⟩ = some (.slice A5_0 x.chans.length C5_0) := B2.c 3 _ rfl
  have q2_4 : U7.cell? ⟨U5.heap.size, 4, none⟩ = some (.slice A5_1 x.htlcs.length C5_1) := B2.c 4 _ rfl
  have q2_5 : U7.cell? ⟨U5.heap.size, 5, none⟩ = some (.slice A5_2 x.circles.length C5_2) := B2.c 5 _ rfl
  have f2 := B2.f
  go_wp2_with fail
  have KH0_0 := (H0_0.out.grow' repChan_stable (Grow.below G))
  have KH0_1 := (H0_1.out.grow' repHtlc_stable (Grow.below G))
  have KH0_2 := (H0_2.out.grow' repCircle_stable (Grow.below G))
  have KS5_0 := (S5_0.all repChan_stable (by omega))
  have KS5_1 := (S5_1.all repHtlc_stable (by omega))
  have KS5_2 := (S5_2.all repCircle_stable (by omega))
  go_region_held3 (fun W => W.cell? ⟨U5.heap.size, 0, none⟩ = some (.int .i64 x.tick) ∧ W.cell? ⟨U5.heap.size, 1, none⟩ = some (.int .i64 x.next) ∧ W.cell? ⟨U5.heap.size, 2, none⟩ = some (.int .i64 x.wallet) ∧ W.cell? ⟨U5.heap.size, 3, none⟩ = some (.slice A5_0 x.chans.length C5_0) ∧ W.cell? ⟨U5.heap.size, 4, none⟩ = some (.slice A5_1 x.htlcs.length C5_1) ∧ W.cell? ⟨U5.heap.size, 5, none⟩ = some (.slice A5_2 x.circles.length C5_2) ∧ W.cell? ⟨w.heap.size, 0, none⟩ = some (.int .i64 x.tick) ∧ W.cell? ⟨w.heap.size, 1, none⟩ = some (.int .i64 x.next) ∧ W.cell? ⟨w.heap.size, 2, none⟩ = some (.int .i64 x.wallet) ∧ W.cell? ⟨w.heap.size, 3, none⟩ = some (.slice a0_0 x.chans.length c0_0) ∧ W.cell? ⟨w.heap.size, 4, none⟩ = some (.slice a0_1 x.htlcs.length c0_1) ∧ W.cell? ⟨w.heap.size, 5, none⟩ = some (.slice a0_2 x.circles.length c0_2))
    (first
      | exact ⟨q2_0, q2_1, q2_2, q2_3, q2_4, q2_5, q0_0, q0_1, q0_2, q0_3, q0_4, q0_5⟩
      | exact ⟨(cellGrow g8 q2_0), (cellGrow g8 q2_1), (cellGrow g8 q2_2), (cellGrow g8 q2_3), (cellGrow g8 q2_4), (cellGrow g8 q2_5), (cellGrow g8 q0_0), (cellGrow g8 q0_1), (cellGrow g8 q0_2), (cellGrow g8 q0_3), (cellGrow g8 q0_4), (cellGrow g8 q0_5)⟩
      | exact ⟨(cellGrow g9 (cellGrow g8 q2_0)), (cellGrow g9 (cellGrow g8 q2_1)), (cellGrow g9 (cellGrow g8 q2_2)), (cellGrow g9 (cellGrow g8 q2_3)), (cellGrow g9 (cellGrow g8 q2_4)), (cellGrow g9 (cellGrow g8 q2_5)), (cellGrow g9 (cellGrow g8 q0_0)), (cellGrow g9 (cellGrow g8 q0_1)), (cellGrow g9 (cellGrow g8 q0_2)), (cellGrow g9 (cellGrow g8 q0_3)), (cellGrow g9 (cellGrow g8 q0_4)), (cellGrow g9 (cellGrow g8 q0_5))⟩)
    (first
      | (go_at_call 20; with_reducible show Calls _ 20 #[.agg #[.int .i64 x.tick, .int .i64 x.next, .int .i64 x.wallet, .slice a0_0 x.chans.length c0_0, .slice a0_1 x.htlcs.length c0_1, .slice a0_2 x.circles.length c0_2]] _ _; refine (toBook_c x _ _ _ _ _ _ _ (KH0_0.grow' repChan_stable (Grow.below (by repeat (first | exact Grow.refl _ | (refine Grow.alloc ?_ _ _) | (refine Grow.drew ?_) | (refine Grow.trans ?_ (by assumption)))))) (KH0_1.grow' repHtlc_stable (Grow.below (by repeat (first | exact Grow.refl _ | (refine Grow.alloc ?_ _ _) | (refine Grow.drew ?_) | (refine Grow.trans ?_ (by assumption)))))) (KH0_2.grow' repCircle_stable (Grow.below (by repeat (first | exact Grow.refl _ | (refine Grow.alloc ?_ _ _) | (refine Grow.drew ?_) | (refine Grow.trans ?_ (by assumption)))))) Bx_0 Bx_1 Bx_2).mono ?_; rintro e U8 ⟨A8_0, C8_0, P8_0, Q8_0, A8_1, C8_1, P8_1, Q8_1, A8_2, C8_2, P8_2, Q8_2, rfl, g8, O8, S8_0, S8_1, S8_2⟩; have y8 := Grow.size g8; have KS8_0 : SlR 7 repChan U8 0 U8.heap.size (.slice A8_0 x.chans.length C8_0) x.chans := S8_0.all repChan_stable (by omega); have KS8_1 : SlR 7 repHtlc U8 0 U8.heap.size (.slice A8_1 x.htlcs.length C8_1) x.htlcs := S8_1.all repHtlc_stable (by omega); have KS8_2 : SlR 5 repCircle U8 0 U8.heap.size (.slice A8_2 x.circles.length C8_2) x.circles := S8_2.all repCircle_stable (by omega))
      | (go_at_call 15; with_reducible show Calls _ 15 #[.agg #[.int .i64 x.tick, .int .i64 x.next, .int .i64 x.wallet, .slice A5_0 x.chans.length C5_0, .slice A5_1 x.htlcs.length C5_1, .slice A5_2 x.circles.length C5_2], .agg #[.int .i64 x.tick, .int .i64 x.next, .int .i64 x.wallet, .slice A8_0 x.chans.length C8_0, .slice A8_1 x.htlcs.length C8_1, .slice A8_2 x.circles.length C8_2]] _ _; refine (eqBook_c x _ _ _ _ _ _ _ _ _ _ _ _ _ (KS5_0.grow' repChan_stable (Grow.below (by repeat (first | exact Grow.refl _ | (refine Grow.alloc ?_ _ _) | (refine Grow.drew ?_) | (refine Grow.trans ?_ (by assumption)))))) (KS8_0.grow' repChan_stable (Grow.below (by repeat (first | exact Grow.refl _ | (refine Grow.alloc ?_ _ _) | (refine Grow.drew ?_) | (refine Grow.trans ?_ (by assumption)))))) (KS5_1.grow' repHtlc_stable (Grow.below (by repeat (first | exact Grow.refl _ | (refine Grow.alloc ?_ _ _) | (refine Grow.drew ?_) | (refine Grow.trans ?_ (by assumption)))))) (KS8_1.grow' repHtlc_stable (Grow.below (by repeat (first | exact Grow.refl _ | (refine Grow.alloc ?_ _ _) | (refine Grow.drew ?_) | (refine Grow.trans ?_ (by assumption)))))) (KS5_2.grow' repCircle_stable (Grow.below (by repeat (first | exact Grow.refl _ | (refine Grow.alloc ?_ _ _) | (refine Grow.drew ?_) | (refine Grow.trans ?_ (by assumption)))))) (KS8_2.grow' repCircle_stable (Grow.below (by repeat (first | exact Grow.refl _ | (refine Grow.alloc ?_ _ _) | (refine Grow.drew ?_) | (refine Grow.trans ?_ (by assumption))))))).mono ?_; rintro e U9 ⟨rfl, g9⟩; have y9 := Grow.size g9))
  have gs : Grow U7 U9 := by repeat (first | exact Grow.refl _ | (refine Grow.alloc ?_ _ _) | (refine Grow.drew ?_) | (refine Grow.trans ?_ (by assumption)))
  clear g8 g9
  clear z0 z1 z2 q0_0 q0_1 q0_2 q0_3 q0_4 q0_5 f0 q1_0 q1_1 q1_2 q1_3 q1_4 f1 q2_0 q2_1 q2_2 q2_3 q2_4 q2_5 f2
  have ys := Grow.size gs
  replace B0 : Box U9 (w.heap.size) [.int .i64 x.tick, .int .i64 x.next, .int .i64 x.wallet, .slice a0_0 x.chans.length c0_0, .slice a0_1 x.htlcs.length c0_1, .slice a0_2 x.circles.length c0_2] := Box.grow B0 gs
  replace B1 : Box U9 (w.heap.size + 1) [.int .i64 r.lo, .int .i64 r.hi, .int .i64 r.step, .int .i64 r.min, .int .i64 r.max] := Box.grow B1 gs
  replace B2 : Box U9 (U5.heap.size) [.int .i64 x.tick, .int .i64 x.next, .int .i64 x.wallet, .slice A5_0 x.chans.length C5_0, .slice A5_1 x.htlcs.length C5_1, .slice A5_2 x.circles.length C5_2] := Box.grow B2 gs
  replace S5_0 := S5_0.same repChan_stable (gs.same (by omega))
  replace S5_1 := S5_1.same repHtlc_stable (gs.same (by omega))
  replace S5_2 := S5_2.same repCircle_stable (gs.same (by omega))
  replace G : Grow w U9 := Grow.trans G gs
  clear gs
  have z0 := B0.lt
  have z1 := B1.lt
  have z2 := B2.lt
  have q0_0 : U9.cell? ⟨w.heap.size, 0, none⟩ = some (.int .i64 x.tick) := B0.c 0 _ rfl
  have q0_1 : U9.cell? ⟨w.heap.size, 1, none⟩ = some (.int .i64 x.next) := B0.c 1 _ rfl
  have q0_2 : U9.cell? ⟨w.heap.size, 2, none⟩ = some (.int .i64 x.wallet) := B0.c 2 _ rfl
  have q0_3 : U9.cell? ⟨w.heap.size, 3, none⟩ = some (.slice a0_0 x.chans.length c0_0) := B0.c 3 _ rfl
  have q0_4 : U9.cell? ⟨w.heap.size, 4, none⟩ = some (.slice a0_1 x.htlcs.length c0_1) := B0.c 4 _ rfl
  have q0_5 : U9.cell? ⟨w.heap.size, 5, none⟩ = some (.slice a0_2 x.circles.length c0_2) := B0.c 5 _ rfl
  have f0 := B0.f
  have q1_0 : U9.cell? ⟨w.heap.size + 1, 0, none⟩ = some (.int .i64 r.lo) := B1.c 0 _ rfl
  have q1_1 : U9.cell? ⟨w.heap.size + 1, 1, none⟩ = some (.int .i64 r.hi) := B1.c 1 _ rfl
  have q1_2 : U9.cell? ⟨w.heap.size + 1, 2, none⟩ = some (.int .i64 r.step) := B1.c 2 _ rfl
  have q1_3 : U9.cell? ⟨w.heap.size + 1, 3, none⟩ = some (.int .i64 r.min) := B1.c 3 _ rfl
  have q1_4 : U9.cell? ⟨w.heap.size + 1, 4, none⟩ = some (.int .i64 r.max) := B1.c 4 _ rfl
  have f1 := B1.f
  have q2_0 : U9.cell? ⟨U5.heap.size, 0, none⟩ = some (.int .i64 x.tick) := B2.c 0 _ rfl
  have q2_1 : U9.cell? ⟨U5.heap.size, 1, none⟩ = some (.int .i64 x.next) := B2.c 1 _ rfl
  have q2_2 : U9.cell? ⟨U5.heap.size, 2, none⟩ = some (.int .i64 x.wallet) := B2.c 2 _ rfl
  have q2_3 : U9.cell? ⟨U5.heap.size, 3, none⟩ = some (.slice A5_0 x.chans.length C5_0) := B2.c 3 _ rfl
  have q2_4 : U9.cell? ⟨U5.heap.size, 4, none⟩ = some (.slice A5_1 x.htlcs.length C5_1) := B2.c 4 _ rfl
  have q2_5 : U9.cell? ⟨U5.heap.size, 5, none⟩ = some (.slice A5_2 x.circles.length C5_2) := B2.c 5 _ rfl
  have f2 := B2.f
  go_wp2_with fail
  go_ret
  exact ⟨rfl, by repeat (first | exact G | (refine Grow.alloc ?_ _ _) | (refine Grow.drew ?_) | (refine Grow.drewN ?_ _))⟩
end Go.Proofs.Ytigbjpllckgilaa
