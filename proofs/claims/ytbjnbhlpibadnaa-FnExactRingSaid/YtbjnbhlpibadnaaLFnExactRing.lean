/- The law FnExactRing, walked over the contracts. -/
import Derived.Test.YtbjnbhlpibadnaaRing
import Derived.Test.YtbjnbhlpibadnaaHGraph
import Derived.Test.YtbjnbhlpibadnaaMInt
import Derived.Test.YtbjnbhlpibadnaaMGraph
import Derived.Test.YtbjnbhlpibadnaaMk
import Derived.Deep.RegionHeld3
namespace Go.Proofs.Ytbjnbhlpibadnaa
open Go.RowKit
set_option linter.unusedSimpArgs false
set_option linter.unusedVariables false

set_option maxHeartbeats 8000000 in
set_option maxRecDepth 100000 in
theorem FnExactRing_walk (x : Graph) (a0_0 : Option Addr) (c0_0 : Nat) (f : List Int) (a1 : Option Addr) (c1 : Nat) (w : World) (h0_0 : SlR 4 repEdge w 0 w.heap.size (.slice a0_0 x.edges.length c0_0) x.edges) (wf0 : wfGraph x) (h1 : SlR 1 repInt w 0 w.heap.size (.slice a1 f.length c1) f) :
    Calls Try.prog 4 #[.agg #[.int .i64 x.n, .slice a0_0 x.edges.length c0_0], .slice a1 f.length c1] w fun e w' => e = .returned (.bool true) ∧ Grow w w' := by
  have H0_0 := Lib.hid h0_0
  have H1 := Lib.hid h1
  clear h0_0 h1
  by_cases l1 : 1048576 < f.length
  · have q1 : decide ((1048576 : Int) < (f.length : Int)) = true := by simp; omega
    go_enter Try.func4, Try.ntmps4
    go_wp2_with fail
    all_goals
      go_ret
      exact ⟨rfl, by repeat (first | exact Grow.refl _ | (refine Grow.alloc ?_ _ _) | (refine Grow.drew ?_) | (refine Grow.trans ?_ (by assumption)))⟩
  have q1 : decide ((1048576 : Int) < (f.length : Int)) = false := by simp; omega
  have Bf : f.length ≤ 1048576 := by omega
  by_cases t0 : szGraph x (1048576 : Int) < 0
  · go_enter Try.func4, Try.ntmps4
    go_wp2_with fail
    obtain ⟨V1, hV⟩ : ∃ V, V = (w.alloc (.cells #[.int .i64 x.n, .slice a0_0 x.edges.length c0_0] 24)) := ⟨_, rfl⟩
    have G' : Grow w V1 := by rw [hV]; exact ((Grow.refl w).alloc _ _)
    have gs : Grow w V1 := by rw [hV]; exact ((Grow.refl w).alloc _ _)
    have B0 : Box V1 (w.heap.size) [.int .i64 x.n, .slice a0_0 x.edges.length c0_0] := by rw [hV]; exact Box.newAt (by simp) _ _
    have ys : V1.heap.size = w.heap.size + 1 := by rw [hV]; simp
    have G := G'
    clear G'
    rw [← hV]
    clear hV
    clear gs
    have z0 := B0.lt
    have q0_0 : V1.cell? ⟨w.heap.size, 0, none⟩ = some (.int .i64 x.n) := B0.c 0 _ rfl
    have q0_1 : V1.cell? ⟨w.heap.size, 1, none⟩ = some (.slice a0_0 x.edges.length c0_0) := B0.c 1 _ rfl
    have f0 := B0.f
    refine (szGraph_c x _ _ _ _ (H0_0.out.grow' repEdge_stable (Grow.below G)) (by omega) (by omega)).mono ?_
    rintro e U1 ⟨rfl, gs⟩
    clear z0 q0_0 q0_1 f0
    have ys := Grow.size gs
    replace B0 : Box U1 (w.heap.size) [.int .i64 x.n, .slice a0_0 x.edges.length c0_0] := Box.grow B0 gs
    replace G : Grow w U1 := Grow.trans G gs
    clear gs
    have z0 := B0.lt
    have q0_0 : U1.cell? ⟨w.heap.size, 0, none⟩ = some (.int .i64 x.n) := B0.c 0 _ rfl
    have q0_1 : U1.cell? ⟨w.heap.size, 1, none⟩ = some (.slice a0_0 x.edges.length c0_0) := B0.c 1 _ rfl
    have f0 := B0.f
    go_wp2_with fail
    go_ret
    exact ⟨rfl, by repeat (first | exact G | (refine Grow.alloc ?_ _ _) | (refine Grow.drew ?_) | (refine Grow.drewN ?_ _))⟩
  obtain ⟨L0, Bx_0⟩ := szGraph_le x (1048576 : Int) (by omega) (by omega)
  go_enter Try.func4, Try.ntmps4
  go_wp2_with fail
  obtain ⟨V1, hV⟩ : ∃ V, V = (w.alloc (.cells #[.int .i64 x.n, .slice a0_0 x.edges.length c0_0] 24)) := ⟨_, rfl⟩
  have G' : Grow w V1 := by rw [hV]; exact ((Grow.refl w).alloc _ _)
  have gs : Grow w V1 := by rw [hV]; exact ((Grow.refl w).alloc _ _)
  have B0 : Box V1 (w.heap.size) [.int .i64 x.n, .slice a0_0 x.edges.length c0_0] := by rw [hV]; exact Box.newAt (by simp) _ _
  have ys : V1.heap.size = w.heap.size + 1 := by rw [hV]; simp
  have G := G'
  clear G'
  rw [← hV]
  clear hV
  clear gs
  have z0 := B0.lt
  have q0_0 : V1.cell? ⟨w.heap.size, 0, none⟩ = some (.int .i64 x.n) := B0.c 0 _ rfl
  have q0_1 : V1.cell? ⟨w.heap.size, 1, none⟩ = some (.slice a0_0 x.edges.length c0_0) := B0.c 1 _ rfl
  have f0 := B0.f
  refine (szGraph_c x _ _ _ _ (H0_0.out.grow' repEdge_stable (Grow.below G)) (by omega) (by omega)).mono ?_
  rintro e U1 ⟨rfl, gs⟩
  clear z0 q0_0 q0_1 f0
  have ys := Grow.size gs
  replace B0 : Box U1 (w.heap.size) [.int .i64 x.n, .slice a0_0 x.edges.length c0_0] := Box.grow B0 gs
  replace G : Grow w U1 := Grow.trans G gs
  clear gs
  have z0 := B0.lt
  have q0_0 : U1.cell? ⟨w.heap.size, 0, none⟩ = some (.int .i64 x.n) := B0.c 0 _ rfl
  have q0_1 : U1.cell? ⟨w.heap.size, 1, none⟩ = some (.slice a0_0 x.edges.length c0_0) := B0.c 1 _ rfl
  have f0 := B0.f
  go_wp2_with fail
  refine (toGraph_c x _ _ _ (H0_0.out.grow' repEdge_stable (Grow.below G)) Bx_0).mono ?_
  rintro e U2 ⟨A2_0, C2_0, P2_0, Q2_0, rfl, gs, O2, S2_0⟩
  clear z0 q0_0 q0_1 f0
  have ys := Grow.size gs
  replace B0 : Box U2 (w.heap.size) [.int .i64 x.n, .slice a0_0 x.edges.length c0_0] := Box.grow B0 gs
  replace G : Grow w U2 := Grow.trans G gs
  clear gs
  have z0 := B0.lt
  have q0_0 : U2.cell? ⟨w.heap.size, 0, none⟩ = some (.int .i64 x.n) := B0.c 0 _ rfl
  have q0_1 : U2.cell? ⟨w.heap.size, 1, none⟩ = some (.slice a0_0 x.edges.length c0_0) := B0.c 1 _ rfl
  have f0 := B0.f
  go_wp2_with fail
  refine (toIntS_c f _ _ _ (H1.out.grow' repInt_stable (Grow.below G)) Bf).mono ?_
  rintro e U3 ⟨A3_0, C3_0, rfl, gs, S3_0⟩
  clear z0 q0_0 q0_1 f0
  have ys := Grow.size gs
  replace B0 : Box U3 (w.heap.size) [.int .i64 x.n, .slice a0_0 x.edges.length c0_0] := Box.grow B0 gs
  replace S2_0 := S2_0.same repEdge_stable (gs.same (by omega))
  replace G : Grow w U3 := Grow.trans G gs
  clear gs
  have z0 := B0.lt
  have q0_0 : U3.cell? ⟨w.heap.size, 0, none⟩ = some (.int .i64 x.n) := B0.c 0 _ rfl
  have q0_1 : U3.cell? ⟨w.heap.size, 1, none⟩ = some (.slice a0_0 x.edges.length c0_0) := B0.c 1 _ rfl
  have f0 := B0.f
  go_wp2_with fail
  refine (spec_Ring_c x _ _ f _ _ _ (S2_0.all repEdge_stable (by omega)) (S3_0.all repInt_stable (by omega)) ).mono ?_
  rintro e U4 ⟨A4_0, C4_0, rfl, gs, S4_0⟩
  clear z0 q0_0 q0_1 f0
  have ys := Grow.size gs
  replace B0 : Box U4 (w.heap.size) [.int .i64 x.n, .slice a0_0 x.edges.length c0_0] := Box.grow B0 gs
  replace S2_0 := S2_0.same repEdge_stable (gs.same (by omega))
  replace S3_0 := S3_0.same repInt_stable (gs.same (by omega))
  replace G : Grow w U4 := Grow.trans G gs
  clear gs
  have z0 := B0.lt
  have q0_0 : U4.cell? ⟨w.heap.size, 0, none⟩ = some (.int .i64 x.n) := B0.c 0 _ rfl
  have q0_1 : U4.cell? ⟨w.heap.size, 1, none⟩ = some (.slice a0_0 x.edges.length c0_0) := B0.c 1 _ rfl
  have f0 := B0.f
  go_wp2_with fail
  refine (toGraph_c x _ _ _ (H0_0.out.grow' repEdge_stable (Grow.below G)) Bx_0).mono ?_
  rintro e U5 ⟨A5_0, C5_0, P5_0, Q5_0, rfl, gs, O5, S5_0⟩
  clear z0 q0_0 q0_1 f0
  have ys := Grow.size gs
  replace B0 : Box U5 (w.heap.size) [.int .i64 x.n, .slice a0_0 x.edges.length c0_0] := Box.grow B0 gs
  replace S2_0 := S2_0.same repEdge_stable (gs.same (by omega))
  replace S3_0 := S3_0.same repInt_stable (gs.same (by omega))
  replace S4_0 := S4_0.same repInt_stable (gs.same (by omega))
  replace G : Grow w U5 := Grow.trans G gs
  clear gs
  have z0 := B0.lt
  have q0_0 : U5.cell? ⟨w.heap.size, 0, none⟩ = some (.int .i64 x.n) := B0.c 0 _ rfl
  have q0_1 : U5.cell? ⟨w.heap.size, 1, none⟩ = some (.slice a0_0 x.edges.length c0_0) := B0.c 1 _ rfl
  have f0 := B0.f
  go_wp2_with fail
  obtain ⟨V2, hV⟩ : ∃ V, V = (U5.alloc (.cells #[.int .i64 x.n, .slice A5_0 x.edges.length C5_0] 31)) := ⟨_, rfl⟩
  have G' : Grow w V2 := by rw [hV]; exact (G.alloc _ _)
  have gs : Grow U5 V2 := by rw [hV]; exact ((Grow.refl U5).alloc _ _)
  replace B0 : Box V2 (w.heap.size) [.int .i64 x.n, .slice a0_0 x.edges.length c0_0] := by rw [hV]; exact (B0.alloc _ _)
  have B1 : Box V2 (U5.heap.size) [.int .i64 x.n, .slice A5_0 x.edges.length C5_0] := by rw [hV]; exact Box.newAt (by simp) _ _
  have ys : V2.heap.size = U5.heap.size + 1 := by rw [hV]; simp
  replace S2_0 := S2_0.same repEdge_stable (gs.same (by omega))
  replace S3_0 := S3_0.same repInt_stable (gs.same (by omega))
  replace S4_0 := S4_0.same repInt_stable (gs.same (by omega))
  replace S5_0 := S5_0.same repEdge_stable (gs.same (by omega))
  replace G := G'
  clear G'
  rw [← hV]
  clear hV
  clear gs
  clear z0 q0_0 q0_1 f0
  have z0 := B0.lt
  have z1 := B1.lt
  have q0_0 : V2.cell? ⟨w.heap.size, 0, none⟩ = some (.int .i64 x.n) := B0.c 0 _ rfl
  have q0_1 : V2.cell? ⟨w.heap.size, 1, none⟩ = some (.slice a0_0 x.edges.length c0_0) := B0.c 1 _ rfl
  have f0 := B0.f
  have q1_0 : V2.cell? ⟨U5.heap.size, 0, none⟩ = some (.int .i64 x.n) := B1.c 0 _ rfl
  have q1_1 : V2.cell? ⟨U5.heap.size, 1, none⟩ = some (.slice A5_0 x.edges.length C5_0) := B1.c 1 _ rfl
  have f1 := B1.f
  refine (toIntS_c f _ _ _ (H1.out.grow' repInt_stable (Grow.below G)) Bf).mono ?_
  rintro e U6 ⟨A6_0, C6_0, rfl, gs, S6_0⟩
  clear z0 z1 q0_0 q0_1 f0 q1_0 q1_1 f1
  have ys := Grow.size gs
  replace B0 : Box U6 (w.heap.size) [.int .i64 x.n, .slice a0_0 x.edges.length c0_0] := Box.grow B0 gs
  replace B1 : Box U6 (U5.heap.size) [.int .i64 x.n, .slice A5_0 x.edges.length C5_0] := Box.grow B1 gs
  replace S2_0 := S2_0.same repEdge_stable (gs.same (by omega))
  replace S3_0 := S3_0.same repInt_stable (gs.same (by omega))
  replace S4_0 := S4_0.same repInt_stable (gs.same (by omega))
  replace S5_0 := S5_0.same repEdge_stable (gs.same (by omega))
  replace G : Grow w U6 := Grow.trans G gs
  clear gs
  have z0 := B0.lt
  have z1 := B1.lt
  have q0_0 : U6.cell? ⟨w.heap.size, 0, none⟩ = some (.int .i64 x.n) := B0.c 0 _ rfl
  have q0_1 : U6.cell? ⟨w.heap.size, 1, none⟩ = some (.slice a0_0 x.edges.length c0_0) := B0.c 1 _ rfl
  have f0 := B0.f
  have q1_0 : U6.cell? ⟨U5.heap.size, 0, none⟩ = some (.int .i64 x.n) := B1.c 0 _ rfl
  have q1_1 : U6.cell? ⟨U5.heap.size, 1, none⟩ = some (.slice A5_0 x.edges.length C5_0) := B1.c 1 _ rfl
  have f1 := B1.f
  go_wp2_with fail
  refine (impl_Ring_c x _ _ f _ _ _ (S5_0.all repEdge_stable (by omega)) (S6_0.all repInt_stable (by omega)) ).mono ?_
  rintro e U7 ⟨A7_0, C7_0, rfl, gs, S7_0⟩
  clear z0 z1 q0_0 q0_1 f0 q1_0 q1_1 f1
  have ys := Grow.size gs
  replace B0 : Box U7 (w.heap.size) [.int .i64 x.n, .slice a0_0 x.edges.length c0_0] := Box.grow B0 gs
  replace B1 : Box U7 (U5.heap.size) [.int .i64 x.n, .slice A5_0 x.edges.length C5_0] := Box.grow B1 gs
  replace S2_0 := S2_0.same repEdge_stable (gs.same (by omega))
  replace S3_0 := S3_0.same repInt_stable (gs.same (by omega))
  replace S4_0 := S4_0.same repInt_stable (gs.same (by omega))
  replace S5_0 := S5_0.same repEdge_stable (gs.same (by omega))
  replace S6_0 := S6_0.same repInt_stable (gs.same (by omega))
  replace G : Grow w U7 := Grow.trans G gs
  clear gs
  have z0 := B0.lt
  have z1 := B1.lt
  have q0_0 : U7.cell? ⟨w.heap.size, 0, none⟩ = some (.int .i64 x.n) := B0.c 0 _ rfl
  have q0_1 : U7.cell? ⟨w.heap.size, 1, none⟩ = some (.slice a0_0 x.edges.length c0_0) := B0.c 1 _ rfl
  have f0 := B0.f
  have q1_0 : U7.cell? ⟨U5.heap.size, 0, none⟩ = some (.int .i64 x.n) := B1.c 0 _ rfl
  have q1_1 : U7.cell? ⟨U5.heap.size, 1, none⟩ = some (.slice A5_0 x.edges.length C5_0) := B1.c 1 _ rfl
  have f1 := B1.f
  go_wp2_with fail
  refine (eqIntS_c (ringL x f) _ _ _ _ _ (S7_0.all repInt_stable (by omega)) (S4_0.all repInt_stable (by omega))).mono ?_
  rintro e U8 ⟨rfl, gs⟩
  clear z0 z1 q0_0 q0_1 f0 q1_0 q1_1 f1
  have ys := Grow.size gs
  replace B0 : Box U8 (w.heap.size) [.int .i64 x.n, .slice a0_0 x.edges.length c0_0] := Box.grow B0 gs
  replace B1 : Box U8 (U5.heap.size) [.int .i64 x.n, .slice A5_0 x.edges.length C5_0] := Box.grow B1 gs
  replace S2_0 := S2_0.same repEdge_stable (gs.same (by omega))
  replace S3_0 := S3_0.same repInt_stable (gs.same (by omega))
  replace S4_0 := S4_0.same repInt_stable (gs.same (by omega))
  replace S5_0 := S5_0.same repEdge_stable (gs.same (by omega))
  replace S6_0 := S6_0.same repInt_stable (gs.same (by omega))
  replace S7_0 := S7_0.same repInt_stable (gs.same (by omega))
  replace G : Grow w U8 := Grow.trans G gs
  clear gs
  have z0 := B0.lt
  have z1 := B1.lt
  have q0_0 : U8.cell? ⟨w.heap.size, 0, none⟩ = some (.int .i64 x.n) := B0.c 0 _ rfl
  have q0_1 : U8.cell? ⟨w.heap.size, 1, none⟩ = some (.slice a0_0 x.edges.length c0_0) := B0.c 1 _ rfl
  have f0 := B0.f
  have q1_0 : U8.cell? ⟨U5.heap.size, 0, none⟩ = some (.int .i64 x.n) := B1.c 0 _ rfl
  have q1_1 : U8.cell? ⟨U5.heap.size, 1, none⟩ = some (.slice A5_0 x.edges.length C5_0) := B1.c 1 _ rfl
  have f1 := B1.f
  go_wp2_with fail
  have KH0_0 := (H0_0.out.grow' repEdge_stable (Grow.below G))
  have KH1 := (H1.out.grow' repInt_stable (Grow.below G))
  have KS2_0 := (S2_0.all repEdge_stable (by omega))
  have KS3_0 := (S3_0.all repInt_stable (by omega))
  have KS4_0 := (S4_0.all repInt_stable (by omega))
  have KS5_0 := (S5_0.all repEdge_stable (by omega))
  have KS6_0 := (S6_0.all repInt_stable (by omega))
  have KS7_0 := (S7_0.all repInt_stable (by omega))
  go_region_held3 (fun W => W.cell? ⟨U5.heap.size, 0, none⟩ = some (.int .i64 x.n) ∧ W.cell? ⟨U5.heap.size, 1, none⟩ = some (.slice A5_0 x.edges.length C5_0) ∧ W.cell? ⟨w.heap.size, 0, none⟩ = some (.int .i64 x.n) ∧ W.cell? ⟨w.heap.size, 1, none⟩ = some (.slice a0_0 x.edges.length c0_0))
    (first
      | exact ⟨q1_0, q1_1, q0_0, q0_1⟩
      | exact ⟨(cellGrow g9 q1_0), (cellGrow g9 q1_1), (cellGrow g9 q0_0), (cellGrow g9 q0_1)⟩
      | exact ⟨(cellGrow g10 (cellGrow g9 q1_0)), (cellGrow g10 (cellGrow g9 q1_1)), (cellGrow g10 (cellGrow g9 q0_0)), (cellGrow g10 (cellGrow g9 q0_1))⟩)
    (first
      | (go_at_call 11; with_reducible show Calls _ 11 #[.agg #[.int .i64 x.n, .slice a0_0 x.edges.length c0_0]] _ _; refine (toGraph_c x _ _ _ (KH0_0.grow' repEdge_stable (Grow.below (by repeat (first | exact Grow.refl _ | (refine Grow.alloc ?_ _ _) | (refine Grow.drew ?_) | (refine Grow.trans ?_ (by assumption)))))) Bx_0).mono ?_; rintro e U9 ⟨A9_0, C9_0, P9_0, Q9_0, rfl, g9, O9, S9_0⟩; have y9 := Grow.size g9; have KS9_0 : SlR 4 repEdge U9 0 U9.heap.size (.slice A9_0 x.edges.length C9_0) x.edges := S9_0.all repEdge_stable (by omega))
      | (go_at_call 15; with_reducible show Calls _ 15 #[.agg #[.int .i64 x.n, .slice A5_0 x.edges.length C5_0], .agg #[.int .i64 x.n, .slice A9_0 x.edges.length C9_0]] _ _; refine (eqGraph_c x _ _ _ _ _ (KS5_0.grow' repEdge_stable (Grow.below (by repeat (first | exact Grow.refl _ | (refine Grow.alloc ?_ _ _) | (refine Grow.drew ?_) | (refine Grow.trans ?_ (by assumption)))))) (KS9_0.grow' repEdge_stable (Grow.below (by repeat (first | exact Grow.refl _ | (refine Grow.alloc ?_ _ _) | (refine Grow.drew ?_) | (refine Grow.trans ?_ (by assumption))))))).mono ?_; rintro e U10 ⟨rfl, g10⟩; have y10 := Grow.size g10))
  have gs : Grow U8 U10 := by repeat (first | exact Grow.refl _ | (refine Grow.alloc ?_ _ _) | (refine Grow.drew ?_) | (refine Grow.trans ?_ (by assumption)))
  clear g9 g10
  clear z0 z1 q0_0 q0_1 f0 q1_0 q1_1 f1
  have ys := Grow.size gs
  replace B0 : Box U10 (w.heap.size) [.int .i64 x.n, .slice a0_0 x.edges.length c0_0] := Box.grow B0 gs
  replace B1 : Box U10 (U5.heap.size) [.int .i64 x.n, .slice A5_0 x.edges.length C5_0] := Box.grow B1 gs
  replace S2_0 := S2_0.same repEdge_stable (gs.same (by omega))
  replace S3_0 := S3_0.same repInt_stable (gs.same (by omega))
  replace S4_0 := S4_0.same repInt_stable (gs.same (by omega))
  replace S5_0 := S5_0.same repEdge_stable (gs.same (by omega))
  replace S6_0 := S6_0.same repInt_stable (gs.same (by omega))
  replace S7_0 := S7_0.same repInt_stable (gs.same (by omega))
  replace G : Grow w U10 := Grow.trans G gs
  clear gs
  have z0 := B0.lt
  have z1 := B1.lt
  have q0_0 : U10.cell? ⟨w.heap.size, 0, none⟩ = some (.int .i64 x.n) := B0.c 0 _ rfl
  have q0_1 : U10.cell? ⟨w.heap.size, 1, none⟩ = some (.slice a0_0 x.edges.length c0_0) := B0.c 1 _ rfl
  have f0 := B0.f
  have q1_0 : U10.cell? ⟨U5.heap.size, 0, none⟩ = some (.int .i64 x.n) := B1.c 0 _ rfl
  have q1_1 : U10.cell? ⟨U5.heap.size, 1, none⟩ = some (.slice A5_0 x.edges.length C5_0) := B1.c 1 _ rfl
  have f1 := B1.f
  go_wp2_with fail
  refine (toIntS_c f _ _ _ (H1.out.grow' repInt_stable (Grow.below G)) Bf).mono ?_
  rintro e U11 ⟨A11_0, C11_0, rfl, gs, S11_0⟩
  clear z0 z1 q0_0 q0_1 f0 q1_0 q1_1 f1
  have ys := Grow.size gs
  replace B0 : Box U11 (w.heap.size) [.int .i64 x.n, .slice a0_0 x.edges.length c0_0] := Box.grow B0 gs
  replace B1 : Box U11 (U5.heap.size) [.int .i64 x.n, .slice A5_0 x.edges.length C5_0] := Box.grow B1 gs
  replace S2_0 := S2_0.same repEdge_stable (gs.same (by omega))
  replace S3_0 := S3_0.same repInt_stable (gs.same (by omega))
  replace S4_0 := S4_0.same repInt_stable (gs.same (by omega))
  replace S5_0 := S5_0.same repEdge_stable (gs.same (by omega))
  replace S6_0 := S6_0.same repInt_stable (gs.same (by omega))
  replace S7_0 := S7_0.same repInt_stable (gs.same (by omega))
  replace G : Grow w U11 := Grow.trans G gs
  clear gs
  have z0 := B0.lt
  have z1 := B1.lt
  have q0_0 : U11.cell? ⟨w.heap.size, 0, none⟩ = some (.int .i64 x.n) := B0.c 0 _ rfl
  have q0_1 : U11.cell? ⟨w.heap.size, 1, none⟩ = some (.slice a0_0 x.edges.length c0_0) := B0.c 1 _ rfl
  have f0 := B0.f
  have q1_0 : U11.cell? ⟨U5.heap.size, 0, none⟩ = some (.int .i64 x.n) := B1.c 0 _ rfl
  have q1_1 : U11.cell? ⟨U5.heap.size, 1, none⟩ = some (.slice A5_0 x.edges.length C5_0) := B1.c 1 _ rfl
  have f1 := B1.f
  go_wp2_with fail
  refine (eqIntS_c f _ _ _ _ _ (S6_0.all repInt_stable (by omega)) (S11_0.all repInt_stable (by omega))).mono ?_
  rintro e U12 ⟨rfl, gs⟩
  clear z0 z1 q0_0 q0_1 f0 q1_0 q1_1 f1
  have ys := Grow.size gs
  replace B0 : Box U12 (w.heap.size) [.int .i64 x.n, .slice a0_0 x.edges.length c0_0] := Box.grow B0 gs
  replace B1 : Box U12 (U5.heap.size) [.int .i64 x.n, .slice A5_0 x.edges.length C5_0] := Box.grow B1 gs
  replace S2_0 := S2_0.same repEdge_stable (gs.same (by omega))
  replace S3_0 := S3_0.same repInt_stable (gs.same (by omega))
  replace S4_0 := S4_0.same repInt_stable (gs.same (by omega))
  replace S5_0 := S5_0.same repEdge_stable (gs.same (by omega))
  replace S6_0 := S6_0.same repInt_stable (gs.same (by omega))
  replace S7_0 := S7_0.same repInt_stable (gs.same (by omega))
  replace S11_0 := S11_0.same repInt_stable (gs.same (by omega))
  replace G : Grow w U12 := Grow.trans G gs
  clear gs
  have z0 := B0.lt
  have z1 := B1.lt
  have q0_0 : U12.cell? ⟨w.heap.size, 0, none⟩ = some (.int .i64 x.n) := B0.c 0 _ rfl
  have q0_1 : U12.cell? ⟨w.heap.size, 1, none⟩ = some (.slice a0_0 x.edges.length c0_0) := B0.c 1 _ rfl
  have f0 := B0.f
  have q1_0 : U12.cell? ⟨U5.heap.size, 0, none⟩ = some (.int .i64 x.n) := B1.c 0 _ rfl
  have q1_1 : U12.cell? ⟨U5.heap.size, 1, none⟩ = some (.slice A5_0 x.edges.length C5_0) := B1.c 1 _ rfl
  have f1 := B1.f
  go_wp2_with fail
  refine (markGraph_c x _ _ 1 P5_0 Q5_0 P5_0 Q5_0 _ S5_0  (by omega) ((Grow.nf G).mono (by omega) (by omega)) (by omega) (by omega) (by omega) (by omega)).mono ?_
  rintro e U13 ⟨rfl, gp, M13_0⟩
  have kb := mkGraph_bd (x := x) (k := 1) (B := 1) (by omega) (by omega) (by omega)
  obtain ⟨kb1, kb2⟩ := kb
  have cap_S5_0 := SlR.cap S5_0
  clear z0 z1 q0_0 q0_1 f0 q1_0 q1_1 f1
  have ys := Put.size gp
  replace B0 : Box U13 (w.heap.size) [.int .i64 x.n, .slice a0_0 x.edges.length c0_0] := Box.put B0 gp (by omega)
  replace B1 : Box U13 (U5.heap.size) [.int .i64 x.n, .slice A5_0 x.edges.length C5_0] := Box.put B1 gp (by omega)
  replace S2_0 := S2_0.same repEdge_stable (Put.same gp (by omega) (by omega))
  replace S3_0 := S3_0.same repInt_stable (Put.same gp (by omega) (by omega))
  replace S4_0 := S4_0.same repInt_stable (Put.same gp (by omega) (by omega))
  replace S6_0 := S6_0.same repInt_stable (Put.same gp (by omega) (by omega))
  replace S7_0 := S7_0.same repInt_stable (Put.same gp (by omega) (by omega))
  replace S11_0 := S11_0.same repInt_stable (Put.same gp (by omega) (by omega))
  replace G : Grow w U13 := Grow.put G gp (by omega)
  clear gp
  have z0 := B0.lt
  have z1 := B1.lt
  have q0_0 : U13.cell? ⟨w.heap.size, 0, none⟩ = some (.int .i64 x.n) := B0.c 0 _ rfl
  have q0_1 : U13.cell? ⟨w.heap.size, 1, none⟩ = some (.slice a0_0 x.edges.length c0_0) := B0.c 1 _ rfl
  have f0 := B0.f
  have q1_0 : U13.cell? ⟨U5.heap.size, 0, none⟩ = some (.int .i64 x.n) := B1.c 0 _ rfl
  have q1_1 : U13.cell? ⟨U5.heap.size, 1, none⟩ = some (.slice A5_0 x.edges.length C5_0) := B1.c 1 _ rfl
  have f1 := B1.f
  go_wp2_with fail
  refine (markIntS_c f _ _ (mkGraph x 1) V2.heap.size U6.heap.size _ S6_0 ((Grow.nf G).mono (by omega) (by omega)) (by omega) (by omega) (by omega)).mono ?_
  rintro e U14 ⟨rfl, gp, M14_0⟩
  have kb := mkEnd_bd (n := 1) (m := f.length) (k := (mkGraph x 1)) (B := 10000000000) (by omega) (by omega) (by omega) (by omega)
  obtain ⟨kb1, kb2⟩ := kb
  have cap_S6_0 := SlR.cap S6_0
  clear z0 z1 q0_0 q0_1 f0 q1_0 q1_1 f1
  have ys := Put.size gp
  replace B0 : Box U14 (w.heap.size) [.int .i64 x.n, .slice a0_0 x.edges.length c0_0] := Box.put B0 gp (by omega)
  replace B1 : Box U14 (U5.heap.size) [.int .i64 x.n, .slice A5_0 x.edges.length C5_0] := Box.put B1 gp (by omega)
  replace S2_0 := S2_0.same repEdge_stable (Put.same gp (by omega) (by omega))
  replace S3_0 := S3_0.same repInt_stable (Put.same gp (by omega) (by omega))
  replace S4_0 := S4_0.same repInt_stable (Put.same gp (by omega) (by omega))
  replace S7_0 := S7_0.same repInt_stable (Put.same gp (by omega) (by omega))
  replace S11_0 := S11_0.same repInt_stable (Put.same gp (by omega) (by omega))
  replace M13_0 := M13_0.same (Put.same gp (by omega) (by omega))
  replace G : Grow w U14 := Grow.put G gp (by omega)
  clear gp
  have z0 := B0.lt
  have z1 := B1.lt
  have q0_0 : U14.cell? ⟨w.heap.size, 0, none⟩ = some (.int .i64 x.n) := B0.c 0 _ rfl
  have q0_1 : U14.cell? ⟨w.heap.size, 1, none⟩ = some (.slice a0_0 x.edges.length c0_0) := B0.c 1 _ rfl
  have f0 := B0.f
  have q1_0 : U14.cell? ⟨U5.heap.size, 0, none⟩ = some (.int .i64 x.n) := B1.c 0 _ rfl
  have q1_1 : U14.cell? ⟨U5.heap.size, 1, none⟩ = some (.slice A5_0 x.edges.length C5_0) := B1.c 1 _ rfl
  have f1 := B1.f
  go_wp2_with fail
  refine (eqIntS_c (ringL x f) _ _ _ _ _ (S7_0.all repInt_stable (by omega)) (S4_0.all repInt_stable (by omega))).mono ?_
  rintro e U15 ⟨rfl, gs⟩
  clear z0 z1 q0_0 q0_1 f0 q1_0 q1_1 f1
  have ys := Grow.size gs
  replace B0 : Box U15 (w.heap.size) [.int .i64 x.n, .slice a0_0 x.edges.length c0_0] := Box.grow B0 gs
  replace B1 : Box U15 (U5.heap.size) [.int .i64 x.n, .slice A5_0 x.edges.length C5_0] := Box.grow B1 gs
  replace S2_0 := S2_0.same repEdge_stable (gs.same (by omega))
  replace S3_0 := S3_0.same repInt_stable (gs.same (by omega))
  replace S4_0 := S4_0.same repInt_stable (gs.same (by omega))
  replace S7_0 := S7_0.same repInt_stable (gs.same (by omega))
  replace S11_0 := S11_0.same repInt_stable (gs.same (by omega))
  replace M13_0 := M13_0.same (gs.same (by omega))
  replace M14_0 := M14_0.same (gs.same (by omega))
  replace G : Grow w U15 := Grow.trans G gs
  clear gs
  have z0 := B0.lt
  have z1 := B1.lt
  have q0_0 : U15.cell? ⟨w.heap.size, 0, none⟩ = some (.int .i64 x.n) := B0.c 0 _ rfl
  have q0_1 : U15.cell? ⟨w.heap.size, 1, none⟩ = some (.slice a0_0 x.edges.length c0_0) := B0.c 1 _ rfl
  have f0 := B0.f
  have q1_0 : U15.cell? ⟨U5.heap.size, 0, none⟩ = some (.int .i64 x.n) := B1.c 0 _ rfl
  have q1_1 : U15.cell? ⟨U5.heap.size, 1, none⟩ = some (.slice A5_0 x.edges.length C5_0) := B1.c 1 _ rfl
  have f1 := B1.f
  go_wp2_with fail
  refine (markIntS_c (ringL x f) _ _ 1 U6.heap.size U7.heap.size _ S7_0 ((Grow.nf G).mono (by omega) (by omega)) (by have := ringL_len x f; omega) (by omega) (by omega)).mono ?_
  rintro e U16 ⟨rfl, gp, M16_0⟩
  have kb := mkEnd_bd (n := 1) (m := (ringL x f).length) (k := 1) (B := 1) (by omega) (by omega) (by omega) (by have := ringL_len x f; omega)
  obtain ⟨kb1, kb2⟩ := kb
  have cap_S7_0 := SlR.cap S7_0
  clear z0 z1 q0_0 q0_1 f0 q1_0 q1_1 f1
  have ys := Put.size gp
  replace B0 : Box U16 (w.heap.size) [.int .i64 x.n, .slice a0_0 x.edges.length c0_0] := Box.put B0 gp (by omega)
  replace B1 : Box U16 (U5.heap.size) [.int .i64 x.n, .slice A5_0 x.edges.length C5_0] := Box.put B1 gp (by omega)
  replace S2_0 := S2_0.same repEdge_stable (Put.same gp (by omega) (by omega))
  replace S3_0 := S3_0.same repInt_stable (Put.same gp (by omega) (by omega))
  replace S4_0 := S4_0.same repInt_stable (Put.same gp (by omega) (by omega))
  replace S11_0 := S11_0.same repInt_stable (Put.same gp (by omega) (by omega))
  replace M13_0 := M13_0.same (Put.same gp (by omega) (by omega))
  replace M14_0 := M14_0.same (Put.same gp (by omega) (by omega))
  replace G : Grow w U16 := Grow.put G gp (by omega)
  clear gp
  have z0 := B0.lt
  have z1 := B1.lt
  have q0_0 : U16.cell? ⟨w.heap.size, 0, none⟩ = some (.int .i64 x.n) := B0.c 0 _ rfl
  have q0_1 : U16.cell? ⟨w.heap.size, 1, none⟩ = some (.slice a0_0 x.edges.length c0_0) := B0.c 1 _ rfl
  have f0 := B0.f
  have q1_0 : U16.cell? ⟨U5.heap.size, 0, none⟩ = some (.int .i64 x.n) := B1.c 0 _ rfl
  have q1_1 : U16.cell? ⟨U5.heap.size, 1, none⟩ = some (.slice A5_0 x.edges.length C5_0) := B1.c 1 _ rfl
  have f1 := B1.f
  go_wp2_with fail
  refine (heldIntS_c _ _ _ 1 U6.heap.size U7.heap.size _ M16_0 cap_S7_0 (by have := ringL_len x f; omega) (by omega) (by omega)).mono ?_
  rintro e U17 ⟨rfl, gs⟩
  clear z0 z1 q0_0 q0_1 f0 q1_0 q1_1 f1
  have ys := Grow.size gs
  replace B0 : Box U17 (w.heap.size) [.int .i64 x.n, .slice a0_0 x.edges.length c0_0] := Box.grow B0 gs
  replace B1 : Box U17 (U5.heap.size) [.int .i64 x.n, .slice A5_0 x.edges.length C5_0] := Box.grow B1 gs
  replace S2_0 := S2_0.same repEdge_stable (gs.same (by omega))
  replace S3_0 := S3_0.same repInt_stable (gs.same (by omega))
  replace S4_0 := S4_0.same repInt_stable (gs.same (by omega))
  replace S11_0 := S11_0.same repInt_stable (gs.same (by omega))
  replace M13_0 := M13_0.same (gs.same (by omega))
  replace M14_0 := M14_0.same (gs.same (by omega))
  replace M16_0 := M16_0.same (gs.same (by omega))
  replace G : Grow w U17 := Grow.trans G gs
  clear gs
  have z0 := B0.lt
  have z1 := B1.lt
  have q0_0 : U17.cell? ⟨w.heap.size, 0, none⟩ = some (.int .i64 x.n) := B0.c 0 _ rfl
  have q0_1 : U17.cell? ⟨w.heap.size, 1, none⟩ = some (.slice a0_0 x.edges.length c0_0) := B0.c 1 _ rfl
  have f0 := B0.f
  have q1_0 : U17.cell? ⟨U5.heap.size, 0, none⟩ = some (.int .i64 x.n) := B1.c 0 _ rfl
  have q1_1 : U17.cell? ⟨U5.heap.size, 1, none⟩ = some (.slice A5_0 x.edges.length C5_0) := B1.c 1 _ rfl
  have f1 := B1.f
  go_wp2_with fail
  refine (toGraph_c x _ _ _ (H0_0.out.grow' repEdge_stable (Grow.below G)) Bx_0).mono ?_
  rintro e U18 ⟨A18_0, C18_0, P18_0, Q18_0, rfl, gs, O18, S18_0⟩
  clear z0 z1 q0_0 q0_1 f0 q1_0 q1_1 f1
  have ys := Grow.size gs
  replace B0 : Box U18 (w.heap.size) [.int .i64 x.n, .slice a0_0 x.edges.length c0_0] := Box.grow B0 gs
  replace B1 : Box U18 (U5.heap.size) [.int .i64 x.n, .slice A5_0 x.edges.length C5_0] := Box.grow B1 gs
  replace S2_0 := S2_0.same repEdge_stable (gs.same (by omega))
  replace S3_0 := S3_0.same repInt_stable (gs.same (by omega))
  replace S4_0 := S4_0.same repInt_stable (gs.same (by omega))
  replace S11_0 := S11_0.same repInt_stable (gs.same (by omega))
  replace M13_0 := M13_0.same (gs.same (by omega))
  replace M14_0 := M14_0.same (gs.same (by omega))
  replace M16_0 := M16_0.same (gs.same (by omega))
  replace G : Grow w U18 := Grow.trans G gs
  clear gs
  have z0 := B0.lt
  have z1 := B1.lt
  have q0_0 : U18.cell? ⟨w.heap.size, 0, none⟩ = some (.int .i64 x.n) := B0.c 0 _ rfl
  have q0_1 : U18.cell? ⟨w.heap.size, 1, none⟩ = some (.slice a0_0 x.edges.length c0_0) := B0.c 1 _ rfl
  have f0 := B0.f
  have q1_0 : U18.cell? ⟨U5.heap.size, 0, none⟩ = some (.int .i64 x.n) := B1.c 0 _ rfl
  have q1_1 : U18.cell? ⟨U5.heap.size, 1, none⟩ = some (.slice A5_0 x.edges.length C5_0) := B1.c 1 _ rfl
  have f1 := B1.f
  go_wp2_with fail
  refine (toIntS_c f _ _ _ (H1.out.grow' repInt_stable (Grow.below G)) Bf).mono ?_
  rintro e U19 ⟨A19_0, C19_0, rfl, gs, S19_0⟩
  clear z0 z1 q0_0 q0_1 f0 q1_0 q1_1 f1
  have ys := Grow.size gs
  replace B0 : Box U19 (w.heap.size) [.int .i64 x.n, .slice a0_0 x.edges.length c0_0] := Box.grow B0 gs
  replace B1 : Box U19 (U5.heap.size) [.int .i64 x.n, .slice A5_0 x.edges.length C5_0] := Box.grow B1 gs
  replace S2_0 := S2_0.same repEdge_stable (gs.same (by omega))
  replace S3_0 := S3_0.same repInt_stable (gs.same (by omega))
  replace S4_0 := S4_0.same repInt_stable (gs.same (by omega))
  replace S11_0 := S11_0.same repInt_stable (gs.same (by omega))
  replace S18_0 := S18_0.same repEdge_stable (gs.same (by omega))
  replace M13_0 := M13_0.same (gs.same (by omega))
  replace M14_0 := M14_0.same (gs.same (by omega))
  replace M16_0 := M16_0.same (gs.same (by omega))
  replace G : Grow w U19 := Grow.trans G gs
  clear gs
  have z0 := B0.lt
  have z1 := B1.lt
  have q0_0 : U19.cell? ⟨w.heap.size, 0, none⟩ = some (.int .i64 x.n) := B0.c 0 _ rfl
  have q0_1 : U19.cell? ⟨w.heap.size, 1, none⟩ = some (.slice a0_0 x.edges.length c0_0) := B0.c 1 _ rfl
  have f0 := B0.f
  have q1_0 : U19.cell? ⟨U5.heap.size, 0, none⟩ = some (.int .i64 x.n) := B1.c 0 _ rfl
  have q1_1 : U19.cell? ⟨U5.heap.size, 1, none⟩ = some (.slice A5_0 x.edges.length C5_0) := B1.c 1 _ rfl
  have f1 := B1.f
  go_wp2_with fail
  refine (impl_Ring_c x _ _ f _ _ _ (S18_0.all repEdge_stable (by omega)) (S19_0.all repInt_stable (by omega)) ).mono ?_
  rintro e U20 ⟨A20_0, C20_0, rfl, gs, S20_0⟩
  clear z0 z1 q0_0 q0_1 f0 q1_0 q1_1 f1
  have ys := Grow.size gs
  replace B0 : Box U20 (w.heap.size) [.int .i64 x.n, .slice a0_0 x.edges.length c0_0] := Box.grow B0 gs
  replace B1 : Box U20 (U5.heap.size) [.int .i64 x.n, .slice A5_0 x.edges.length C5_0] := Box.grow B1 gs
  replace S2_0 := S2_0.same repEdge_stable (gs.same (by omega))
  replace S3_0 := S3_0.same repInt_stable (gs.same (by omega))
  replace S4_0 := S4_0.same repInt_stable (gs.same (by omega))
  replace S11_0 := S11_0.same repInt_stable (gs.same (by omega))
  replace S18_0 := S18_0.same repEdge_stable (gs.same (by omega))
  replace S19_0 := S19_0.same repInt_stable (gs.same (by omega))
  replace M13_0 := M13_0.same (gs.same (by omega))
  replace M14_0 := M14_0.same (gs.same (by omega))
  replace M16_0 := M16_0.same (gs.same (by omega))
  replace G : Grow w U20 := Grow.trans G gs
  clear gs
  have z0 := B0.lt
  have z1 := B1.lt
  have q0_0 : U20.cell? ⟨w.heap.size, 0, none⟩ = some (.int .i64 x.n) := B0.c 0 _ rfl
  have q0_1 : U20.cell? ⟨w.heap.size, 1, none⟩ = some (.slice a0_0 x.edges.length c0_0) := B0.c 1 _ rfl
  have f0 := B0.f
  have q1_0 : U20.cell? ⟨U5.heap.size, 0, none⟩ = some (.int .i64 x.n) := B1.c 0 _ rfl
  have q1_1 : U20.cell? ⟨U5.heap.size, 1, none⟩ = some (.slice A5_0 x.edges.length C5_0) := B1.c 1 _ rfl
  have f1 := B1.f
  go_wp2_with fail
  refine (eqIntS_c (ringL x f) _ _ _ _ _ (S20_0.all repInt_stable (by omega)) (S4_0.all repInt_stable (by omega))).mono ?_
  rintro e U21 ⟨rfl, gs⟩
  clear z0 z1 q0_0 q0_1 f0 q1_0 q1_1 f1
  have ys := Grow.size gs
  replace B0 : Box U21 (w.heap.size) [.int .i64 x.n, .slice a0_0 x.edges.length c0_0] := Box.grow B0 gs
  replace B1 : Box U21 (U5.heap.size) [.int .i64 x.n, .slice A5_0 x.edges.length C5_0] := Box.grow B1 gs
  replace S2_0 := S2_0.same repEdge_stable (gs.same (by omega))
  replace S3_0 := S3_0.same repInt_stable (gs.same (by omega))
  replace S4_0 := S4_0.same repInt_stable (gs.same (by omega))
  replace S11_0 := S11_0.same repInt_stable (gs.same (by omega))
  replace S18_0 := S18_0.same repEdge_stable (gs.same (by omega))
  replace S19_0 := S19_0.same repInt_stable (gs.same (by omega))
  replace S20_0 := S20_0.same repInt_stable (gs.same (by omega))
  replace M13_0 := M13_0.same (gs.same (by omega))
  replace M14_0 := M14_0.same (gs.same (by omega))
  replace M16_0 := M16_0.same (gs.same (by omega))
  replace G : Grow w U21 := Grow.trans G gs
  clear gs
  have z0 := B0.lt
  have z1 := B1.lt
  have q0_0 : U21.cell? ⟨w.heap.size, 0, none⟩ = some (.int .i64 x.n) := B0.c 0 _ rfl
  have q0_1 : U21.cell? ⟨w.heap.size, 1, none⟩ = some (.slice a0_0 x.edges.length c0_0) := B0.c 1 _ rfl
  have f0 := B0.f
  have q1_0 : U21.cell? ⟨U5.heap.size, 0, none⟩ = some (.int .i64 x.n) := B1.c 0 _ rfl
  have q1_1 : U21.cell? ⟨U5.heap.size, 1, none⟩ = some (.slice A5_0 x.edges.length C5_0) := B1.c 1 _ rfl
  have f1 := B1.f
  go_wp2_with fail
  refine (heldIntS_c _ _ _ 1 U6.heap.size U7.heap.size _ M16_0 cap_S7_0 (by have := ringL_len x f; omega) (by omega) (by omega)).mono ?_
  rintro e U22 ⟨rfl, gs⟩
  clear z0 z1 q0_0 q0_1 f0 q1_0 q1_1 f1
  have ys := Grow.size gs
  replace B0 : Box U22 (w.heap.size) [.int .i64 x.n, .slice a0_0 x.edges.length c0_0] := Box.grow B0 gs
  replace B1 : Box U22 (U5.heap.size) [.int .i64 x.n, .slice A5_0 x.edges.length C5_0] := Box.grow B1 gs
  replace S2_0 := S2_0.same repEdge_stable (gs.same (by omega))
  replace S3_0 := S3_0.same repInt_stable (gs.same (by omega))
  replace S4_0 := S4_0.same repInt_stable (gs.same (by omega))
  replace S11_0 := S11_0.same repInt_stable (gs.same (by omega))
  replace S18_0 := S18_0.same repEdge_stable (gs.same (by omega))
  replace S19_0 := S19_0.same repInt_stable (gs.same (by omega))
  replace S20_0 := S20_0.same repInt_stable (gs.same (by omega))
  replace M13_0 := M13_0.same (gs.same (by omega))
  replace M14_0 := M14_0.same (gs.same (by omega))
  replace M16_0 := M16_0.same (gs.same (by omega))
  replace G : Grow w U22 := Grow.trans G gs
  clear gs
  have z0 := B0.lt
  have z1 := B1.lt
  have q0_0 : U22.cell? ⟨w.heap.size, 0, none⟩ = some (.int .i64 x.n) := B0.c 0 _ rfl
  have q0_1 : U22.cell? ⟨w.heap.size, 1, none⟩ = some (.slice a0_0 x.edges.length c0_0) := B0.c 1 _ rfl
  have f0 := B0.f
  have q1_0 : U22.cell? ⟨U5.heap.size, 0, none⟩ = some (.int .i64 x.n) := B1.c 0 _ rfl
  have q1_1 : U22.cell? ⟨U5.heap.size, 1, none⟩ = some (.slice A5_0 x.edges.length C5_0) := B1.c 1 _ rfl
  have f1 := B1.f
  go_wp2_with fail
  go_ret
  exact ⟨rfl, by repeat (first | exact G | (refine Grow.alloc ?_ _ _) | (refine Grow.drew ?_) | (refine Grow.drewN ?_ _))⟩
end Go.Proofs.Ytbjnbhlpibadnaa
