/- The law FnExactCheapest, walked over the contracts. -/
import Derived.Test.YtbjnbhlpibadnaaCheap
import Derived.Test.YtbjnbhlpibadnaaHGraph
import Derived.Test.YtbjnbhlpibadnaaMInt
import Derived.Test.YtbjnbhlpibadnaaMGraph
import Derived.Test.YtbjnbhlpibadnaaMk
import Derived.Deep.RegionHeld3
namespace Go.Proofs.Ytbjnbhlpibadnaa
open Go.RowKit
set_option linter.unusedSimpArgs false
set_option linter.unusedVariables false

set_option maxHeartbeats 8000000 in
set_option maxRecDepth 100000 in
theorem FnExactCheapest_walk (x : Graph) (a0_0 : Option Addr) (c0_0 : Nat) (w : World) (h0_0 : SlR 4 repEdge w 0 w.heap.size (.slice a0_0 x.edges.length c0_0) x.edges) (wf0 : wfGraph x) :
    Calls Try.prog 5 #[.agg #[.int .i64 x.n, .slice a0_0 x.edges.length c0_0]] w fun e w' => e = .returned (.bool true) ∧ Grow w w' := by
  have H0_0 := Lib.hid h0_0
  clear h0_0
  by_cases t0 : szGraph x (1048576 : Int) < 0
  · go_enter Try.func5, Try.ntmps5
    go_wp2_with fail
    obtain ⟨V1, hV⟩ : ∃ V, V = (w.alloc (.cells #[.int .i64 x.n, .slice a0_0 x.edges.length c0_0] 24)) := ⟨_, rfl⟩
    have G' : Grow w V1 := by rw [hV]; exact ((Grow.refl w).alloc _ _)
    have gs : Grow w V1 := by rw [hV]; exact ((Grow.refl w).alloc _ _)
    have B0 : Box V1 (w.heap.size) [.int .i64 x.n, .slice a0_0 x.edges.length c0_0] := by rw [hV]; exact Box.newAt (by simp) _ _
    have ys : V1.heap.size = w.heap.size + 1 := by rw [hV]; simp
    have G := G'
    clear G'
    rw [← hV]
    clear hV
    clear gs
    have z0 := B0.lt
    have q0_0 : V1.cell? ⟨w.heap.size, 0, none⟩ = some (.int .i64 x.n) := B0.c 0 _ rfl
    have q0_1 : V1.cell? ⟨w.heap.size, 1, none⟩ = some (.slice a0_0 x.edges.length c0_0) := B0.c 1 _ rfl
    have f0 := B0.f
    refine (szGraph_c x _ _ _ _ (H0_0.out.grow' repEdge_stable (Grow.below G)) (by omega) (by omega)).mono ?_
    rintro e U1 ⟨rfl, gs⟩
    clear z0 q0_0 q0_1 f0
    have ys := Grow.size gs
    replace B0 : Box U1 (w.heap.size) [.int .i64 x.n, .slice a0_0 x.edges.length c0_0] := Box.grow B0 gs
    replace G : Grow w U1 := Grow.trans G gs
    clear gs
    have z0 := B0.lt
    have q0_0 : U1.cell? ⟨w.heap.size, 0, none⟩ = some (.int .i64 x.n) := B0.c 0 _ rfl
    have q0_1 : U1.cell? ⟨w.heap.size, 1, none⟩ = some (.slice a0_0 x.edges.length c0_0) := B0.c 1 _ rfl
    have f0 := B0.f
    go_wp2_with fail
    go_ret
    exact ⟨rfl, by repeat (first | exact G | (refine Grow.alloc ?_ _ _) | (refine Grow.drew ?_) | (refine Grow.drewN ?_ _))⟩
  obtain ⟨L0, Bx_0⟩ := szGraph_le x (1048576 : Int) (by omega) (by omega)
  go_enter Try.func5, Try.ntmps5
  go_wp2_with fail
  obtain ⟨V1, hV⟩ : ∃ V, V = (w.alloc (.cells #[.int .i64 x.n, .slice a0_0 x.edges.length c0_0] 24)) := ⟨_, rfl⟩
  have G' : Grow w V1 := by rw [hV]; exact ((Grow.refl w).alloc _ _)
  have gs : Grow w V1 := by rw [hV]; exact ((Grow.refl w).alloc _ _)
  have B0 : Box V1 (w.heap.size) [.int .i64 x.n, .slice a0_0 x.edges.length c0_0] := by rw [hV]; exact Box.newAt (by simp) _ _
  have ys : V1.heap.size = w.heap.size + 1 := by rw [hV]; simp
  have G := G'
  clear G'
  rw [← hV]
  clear hV
  clear gs
  have z0 := B0.lt
  have q0_0 : V1.cell? ⟨w.heap.size, 0, none⟩ = some (.int .i64 x.n) := B0.c 0 _ rfl
  have q0_1 : V1.cell? ⟨w.heap.size, 1, none⟩ = some (.slice a0_0 x.edges.length c0_0) := B0.c 1 _ rfl
  have f0 := B0.f
  refine (szGraph_c x _ _ _ _ (H0_0.out.grow' repEdge_stable (Grow.below G)) (by omega) (by omega)).mono ?_
  rintro e U1 ⟨rfl, gs⟩
  clear z0 q0_0 q0_1 f0
  have ys := Grow.size gs
  replace B0 : Box U1 (w.heap.size) [.int .i64 x.n, .slice a0_0 x.edges.length c0_0] := Box.grow B0 gs
  replace G : Grow w U1 := Grow.trans G gs
  clear gs
  have z0 := B0.lt
  have q0_0 : U1.cell? ⟨w.heap.size, 0, none⟩ = some (.int .i64 x.n) := B0.c 0 _ rfl
  have q0_1 : U1.cell? ⟨w.heap.size, 1, none⟩ = some (.slice a0_0 x.edges.length c0_0) := B0.c 1 _ rfl
  have f0 := B0.f
  go_wp2_with fail
  refine (toGraph_c x _ _ _ (H0_0.out.grow' repEdge_stable (Grow.below G)) Bx_0).mono ?_
  rintro e U2 ⟨A2_0, C2_0, P2_0, Q2_0, rfl, gs, O2, S2_0⟩
  clear z0 q0_0 q0_1 f0
  have ys := Grow.size gs
  replace B0 : Box U2 (w.heap.size) [.int .i64 x.n, .slice a0_0 x.edges.length c0_0] := Box.grow B0 gs
  replace G : Grow w U2 := Grow.trans G gs
  clear gs
  have z0 := B0.lt
  have q0_0 : U2.cell? ⟨w.heap.size, 0, none⟩ = some (.int .i64 x.n) := B0.c 0 _ rfl
  have q0_1 : U2.cell? ⟨w.heap.size, 1, none⟩ = some (.slice a0_0 x.edges.length c0_0) := B0.c 1 _ rfl
  have f0 := B0.f
  go_wp2_with fail
  refine (spec_Cheapest_c x _ _ _ (S2_0.all repEdge_stable (by omega)) ).mono ?_
  rintro e U3 ⟨A3_0, C3_0, rfl, gs, S3_0⟩
  clear z0 q0_0 q0_1 f0
  have ys := Grow.size gs
  replace B0 : Box U3 (w.heap.size) [.int .i64 x.n, .slice a0_0 x.edges.length c0_0] := Box.grow B0 gs
  replace S2_0 := S2_0.same repEdge_stable (gs.same (by omega))
  replace G : Grow w U3 := Grow.trans G gs
  clear gs
  have z0 := B0.lt
  have q0_0 : U3.cell? ⟨w.heap.size, 0, none⟩ = some (.int .i64 x.n) := B0.c 0 _ rfl
  have q0_1 : U3.cell? ⟨w.heap.size, 1, none⟩ = some (.slice a0_0 x.edges.length c0_0) := B0.c 1 _ rfl
  have f0 := B0.f
  go_wp2_with fail
  refine (toGraph_c x _ _ _ (H0_0.out.grow' repEdge_stable (Grow.below G)) Bx_0).mono ?_
  rintro e U4 ⟨A4_0, C4_0, P4_0, Q4_0, rfl, gs, O4, S4_0⟩
  clear z0 q0_0 q0_1 f0
  have ys := Grow.size gs
  replace B0 : Box U4 (w.heap.size) [.int .i64 x.n, .slice a0_0 x.edges.length c0_0] := Box.grow B0 gs
  replace S2_0 := S2_0.same repEdge_stable (gs.same (by omega))
  replace S3_0 := S3_0.same repInt_stable (gs.same (by omega))
  replace G : Grow w U4 := Grow.trans G gs
  clear gs
  have z0 := B0.lt
  have q0_0 : U4.cell? ⟨w.heap.size, 0, none⟩ = some (.int .i64 x.n) := B0.c 0 _ rfl
  have q0_1 : U4.cell? ⟨w.heap.size, 1, none⟩ = some (.slice a0_0 x.edges.length c0_0) := B0.c 1 _ rfl
  have f0 := B0.f
  go_wp2_with fail
  obtain ⟨V2, hV⟩ : ∃ V, V = (U4.alloc (.cells #[.int .i64 x.n, .slice A4_0 x.edges.length C4_0] 31)) := ⟨_, rfl⟩
  have G' : Grow w V2 := by rw [hV]; exact (G.alloc _ _)
  have gs : Grow U4 V2 := by rw [hV]; exact ((Grow.refl U4).alloc _ _)
  replace B0 : Box V2 (w.heap.size) [.int .i64 x.n, .slice a0_0 x.edges.length c0_0] := by rw [hV]; exact (B0.alloc _ _)
  have B1 : Box V2 (U4.heap.size) [.int .i64 x.n, .slice A4_0 x.edges.length C4_0] := by rw [hV]; exact Box.newAt (by simp) _ _
  have ys : V2.heap.size = U4.heap.size + 1 := by rw [hV]; simp
  replace S2_0 := S2_0.same repEdge_stable (gs.same (by omega))
  replace S3_0 := S3_0.same repInt_stable (gs.same (by omega))
  replace S4_0 := S4_0.same repEdge_stable (gs.same (by omega))
  replace G := G'
  clear G'
  rw [← hV]
  clear hV
  clear gs
  clear z0 q0_0 q0_1 f0
  have z0 := B0.lt
  have z1 := B1.lt
  have q0_0 : V2.cell? ⟨w.heap.size, 0, none⟩ = some (.int .i64 x.n) := B0.c 0 _ rfl
  have q0_1 : V2.cell? ⟨w.heap.size, 1, none⟩ = some (.slice a0_0 x.edges.length c0_0) := B0.c 1 _ rfl
  have f0 := B0.f
  have q1_0 : V2.cell? ⟨U4.heap.size, 0, none⟩ = some (.int .i64 x.n) := B1.c 0 _ rfl
  have q1_1 : V2.cell? ⟨U4.heap.size, 1, none⟩ = some (.slice A4_0 x.edges.length C4_0) := B1.c 1 _ rfl
  have f1 := B1.f
  refine (impl_Cheapest_c x _ _ _ (S4_0.all repEdge_stable (by omega)) ).mono ?_
  rintro e U5 ⟨A5_0, C5_0, rfl, gs, S5_0⟩
  clear z0 z1 q0_0 q0_1 f0 q1_0 q1_1 f1
  have ys := Grow.size gs
  replace B0 : Box U5 (w.heap.size) [.int .i64 x.n, .slice a0_0 x.edges.length c0_0] := Box.grow B0 gs
  replace B1 : Box U5 (U4.heap.size) [.int .i64 x.n, .slice A4_0 x.edges.length C4_0] := Box.grow B1 gs
  replace S2_0 := S2_0.same repEdge_stable (gs.same (by omega))
  replace S3_0 := S3_0.same repInt_stable (gs.same (by omega))
  replace S4_0 := S4_0.same repEdge_stable (gs.same (by omega))
  replace G : Grow w U5 := Grow.trans G gs
  clear gs
  have z0 := B0.lt
  have z1 := B1.lt
  have q0_0 : U5.cell? ⟨w.heap.size, 0, none⟩ = some (.int .i64 x.n) := B0.c 0 _ rfl
  have q0_1 : U5.cell? ⟨w.heap.size, 1, none⟩ = some (.slice a0_0 x.edges.length c0_0) := B0.c 1 _ rfl
  have f0 := B0.f
  have q1_0 : U5.cell? ⟨U4.heap.size, 0, none⟩ = some (.int .i64 x.n) := B1.c 0 _ rfl
  have q1_1 : U5.cell? ⟨U4.heap.size, 1, none⟩ = some (.slice A4_0 x.edges.length C4_0) := B1.c 1 _ rfl
  have f1 := B1.f
  go_wp2_with fail
  refine (eqIntS_c (cheapL x) _ _ _ _ _ (S5_0.all repInt_stable (by omega)) (S3_0.all repInt_stable (by omega))).mono ?_
  rintro e U6 ⟨rfl, gs⟩
  clear z0 z1 q0_0 q0_1 f0 q1_0 q1_1 f1
  have ys := Grow.size gs
  replace B0 : Box U6 (w.heap.size) [.int .i64 x.n, .slice a0_0 x.edges.length c0_0] := Box.grow B0 gs
  replace B1 : Box U6 (U4.heap.size) [.int .i64 x.n, .slice A4_0 x.edges.length C4_0] := Box.grow B1 gs
  replace S2_0 := S2_0.same repEdge_stable (gs.same (by omega))
  replace S3_0 := S3_0.same repInt_stable (gs.same (by omega))
  replace S4_0 := S4_0.same repEdge_stable (gs.same (by omega))
  replace S5_0 := S5_0.same repInt_stable (gs.same (by omega))
  replace G : Grow w U6 := Grow.trans G gs
  clear gs
  have z0 := B0.lt
  have z1 := B1.lt
  have q0_0 : U6.cell? ⟨w.heap.size, 0, none⟩ = some (.int .i64 x.n) := B0.c 0 _ rfl
  have q0_1 : U6.cell? ⟨w.heap.size, 1, none⟩ = some (.slice a0_0 x.edges.length c0_0) := B0.c 1 _ rfl
  have f0 := B0.f
  have q1_0 : U6.cell? ⟨U4.heap.size, 0, none⟩ = some (.int .i64 x.n) := B1.c 0 _ rfl
  have q1_1 : U6.cell? ⟨U4.heap.size, 1, none⟩ = some (.slice A4_0 x.edges.length C4_0) := B1.c 1 _ rfl
  have f1 := B1.f
  go_wp2_with fail
  have KH0_0 := (H0_0.out.grow' repEdge_stable (Grow.below G))
  have KS2_0 := (S2_0.all repEdge_stable (by omega))
  have KS3_0 := (S3_0.all repInt_stable (by omega))
  have KS4_0 := (S4_0.all repEdge_stable (by omega))
  have KS5_0 := (S5_0.all repInt_stable (by omega))
  go_region_held3 (fun W => W.cell? ⟨U4.heap.size, 0, none⟩ = some (.int .i64 x.n) ∧ W.cell? ⟨U4.heap.size, 1, none⟩ = some (.slice A4_0 x.edges.length C4_0) ∧ W.cell? ⟨w.heap.size, 0, none⟩ = some (.int .i64 x.n) ∧ W.cell? ⟨w.heap.size, 1, none⟩ = some (.slice a0_0 x.edges.length c0_0))
    (first
      | exact ⟨q1_0, q1_1, q0_0, q0_1⟩
      | exact ⟨(cellGrow g7 q1_0), (cellGrow g7 q1_1), (cellGrow g7 q0_0), (cellGrow g7 q0_1)⟩
      | exact ⟨(cellGrow g8 (cellGrow g7 q1_0)), (cellGrow g8 (cellGrow g7 q1_1)), (cellGrow g8 (cellGrow g7 q0_0)), (cellGrow g8 (cellGrow g7 q0_1))⟩)
    (first
      | (go_at_call 11; with_reducible show Calls _ 11 #[.agg #[.int .i64 x.n, .slice a0_0 x.edges.length c0_0]] _ _; refine (toGraph_c x _ _ _ (KH0_0.grow' repEdge_stable (Grow.below (by repeat (first | exact Grow.refl _ | (refine Grow.alloc ?_ _ _) | (refine Grow.drew ?_) | (refine Grow.trans ?_ (by assumption)))))) Bx_0).mono ?_; rintro e U7 ⟨A7_0, C7_0, P7_0, Q7_0, rfl, g7, O7, S7_0⟩; have y7 := Grow.size g7; have KS7_0 : SlR 4 repEdge U7 0 U7.heap.size (.slice A7_0 x.edges.length C7_0) x.edges := S7_0.all repEdge_stable (by omega))
      | (go_at_call 15; with_reducible show Calls _ 15 #[.agg #[.int .i64 x.n, .slice A4_0 x.edges.length C4_0], .agg #[.int .i64 x.n, .slice A7_0 x.edges.length C7_0]] _ _; refine (eqGraph_c x _ _ _ _ _ (KS4_0.grow' repEdge_stable (Grow.below (by repeat (first | exact Grow.refl _ | (refine Grow.alloc ?_ _ _) | (refine Grow.drew ?_) | (refine Grow.trans ?_ (by assumption)))))) (KS7_0.grow' repEdge_stable (Grow.below (by repeat (first | exact Grow.refl _ | (refine Grow.alloc ?_ _ _) | (refine Grow.drew ?_) | (refine Grow.trans ?_ (by assumption))))))).mono ?_; rintro e U8 ⟨rfl, g8⟩; have y8 := Grow.size g8))
  have gs : Grow U6 U8 := by repeat (first | exact Grow.refl _ | (refine Grow.alloc ?_ _ _) | (refine Grow.drew ?_) | (refine Grow.trans ?_ (by assumption)))
  clear g7 g8
  clear z0 z1 q0_0 q0_1 f0 q1_0 q1_1 f1
  have ys := Grow.size gs
  replace B0 : Box U8 (w.heap.size) [.int .i64 x.n, .slice a0_0 x.edges.length c0_0] := Box.grow B0 gs
  replace B1 : Box U8 (U4.heap.size) [.int .i64 x.n, .slice A4_0 x.edges.length C4_0] := Box.grow B1 gs
  replace S2_0 := S2_0.same repEdge_stable (gs.same (by omega))
  replace S3_0 := S3_0.same repInt_stable (gs.same (by omega))
  replace S4_0 := S4_0.same repEdge_stable (gs.same (by omega))
  replace S5_0 := S5_0.same repInt_stable (gs.same (by omega))
  replace G : Grow w U8 := Grow.trans G gs
  clear gs
  have z0 := B0.lt
  have z1 := B1.lt
  have q0_0 : U8.cell? ⟨w.heap.size, 0, none⟩ = some (.int .i64 x.n) := B0.c 0 _ rfl
  have q0_1 : U8.cell? ⟨w.heap.size, 1, none⟩ = some (.slice a0_0 x.edges.length c0_0) := B0.c 1 _ rfl
  have f0 := B0.f
  have q1_0 : U8.cell? ⟨U4.heap.size, 0, none⟩ = some (.int .i64 x.n) := B1.c 0 _ rfl
  have q1_1 : U8.cell? ⟨U4.heap.size, 1, none⟩ = some (.slice A4_0 x.edges.length C4_0) := B1.c 1 _ rfl
  have f1 := B1.f
  go_wp2_with fail
  refine (markGraph_c x _ _ 1 P4_0 Q4_0 P4_0 Q4_0 _ S4_0  (by omega) ((Grow.nf G).mono (by omega) (by omega)) (by omega) (by omega) (by omega) (by omega)).mono ?_
  rintro e U9 ⟨rfl, gp, M9_0⟩
  have kb := mkGraph_bd (x := x) (k := 1) (B := 1) (by omega) (by omega) (by omega)
  obtain ⟨kb1, kb2⟩ := kb
  have cap_S4_0 := SlR.cap S4_0
  clear z0 z1 q0_0 q0_1 f0 q1_0 q1_1 f1
  have ys := Put.size gp
  replace B0 : Box U9 (w.heap.size) [.int .i64 x.n, .slice a0_0 x.edges.length c0_0] := Box.put B0 gp (by omega)
  replace B1 : Box U9 (U4.heap.size) [.int .i64 x.n, .slice A4_0 x.edges.length C4_0] := Box.put B1 gp (by omega)
  replace S2_0 := S2_0.same repEdge_stable (Put.same gp (by omega) (by omega))
  replace S3_0 := S3_0.same repInt_stable (Put.same gp (by omega) (by omega))
  replace S5_0 := S5_0.same repInt_stable (Put.same gp (by omega) (by omega))
  replace G : Grow w U9 := Grow.put G gp (by omega)
  clear gp
  have z0 := B0.lt
  have z1 := B1.lt
  have q0_0 : U9.cell? ⟨w.heap.size, 0, none⟩ = some (.int .i64 x.n) := B0.c 0 _ rfl
  have q0_1 : U9.cell? ⟨w.heap.size, 1, none⟩ = some (.slice a0_0 x.edges.length c0_0) := B0.c 1 _ rfl
  have f0 := B0.f
  have q1_0 : U9.cell? ⟨U4.heap.size, 0, none⟩ = some (.int .i64 x.n) := B1.c 0 _ rfl
  have q1_1 : U9.cell? ⟨U4.heap.size, 1, none⟩ = some (.slice A4_0 x.edges.length C4_0) := B1.c 1 _ rfl
  have f1 := B1.f
  go_wp2_with fail
  refine (eqIntS_c (cheapL x) _ _ _ _ _ (S5_0.all repInt_stable (by omega)) (S3_0.all repInt_stable (by omega))).mono ?_
  rintro e U10 ⟨rfl, gs⟩
  clear z0 z1 q0_0 q0_1 f0 q1_0 q1_1 f1
  have ys := Grow.size gs
  replace B0 : Box U10 (w.heap.size) [.int .i64 x.n, .slice a0_0 x.edges.length c0_0] := Box.grow B0 gs
  replace B1 : Box U10 (U4.heap.size) [.int .i64 x.n, .slice A4_0 x.edges.length C4_0] := Box.grow B1 gs
  replace S2_0 := S2_0.same repEdge_stable (gs.same (by omega))
  replace S3_0 := S3_0.same repInt_stable (gs.same (by omega))
  replace S5_0 := S5_0.same repInt_stable (gs.same (by omega))
  replace M9_0 := M9_0.same (gs.same (by omega))
  replace G : Grow w U10 := Grow.trans G gs
  clear gs
  have z0 := B0.lt
  have z1 := B1.lt
  have q0_0 : U10.cell? ⟨w.heap.size, 0, none⟩ = some (.int .i64 x.n) := B0.c 0 _ rfl
  have q0_1 : U10.cell? ⟨w.heap.size, 1, none⟩ = some (.slice a0_0 x.edges.length c0_0) := B0.c 1 _ rfl
  have f0 := B0.f
  have q1_0 : U10.cell? ⟨U4.heap.size, 0, none⟩ = some (.int .i64 x.n) := B1.c 0 _ rfl
  have q1_1 : U10.cell? ⟨U4.heap.size, 1, none⟩ = some (.slice A4_0 x.edges.length C4_0) := B1.c 1 _ rfl
  have f1 := B1.f
  go_wp2_with fail
  refine (markIntS_c (cheapL x) _ _ 1 V2.heap.size U5.heap.size _ S5_0 ((Grow.nf G).mono (by omega) (by omega)) (by have := cheapL_len x; omega) (by omega) (by omega)).mono ?_
  rintro e U11 ⟨rfl, gp, M11_0⟩
  have kb := mkEnd_bd (n := 1) (m := (cheapL x).length) (k := 1) (B := 1) (by omega) (by omega) (by omega) (by have := cheapL_len x; omega)
  obtain ⟨kb1, kb2⟩ := kb
  have cap_S5_0 := SlR.cap S5_0
  clear z0 z1 q0_0 q0_1 f0 q1_0 q1_1 f1
  have ys := Put.size gp
  replace B0 : Box U11 (w.heap.size) [.int .i64 x.n, .slice a0_0 x.edges.length c0_0] := Box.put B0 gp (by omega)
  replace B1 : Box U11 (U4.heap.size) [.int .i64 x.n, .slice A4_0 x.edges.length C4_0] := Box.put B1 gp (by omega)
  replace S2_0 := S2_0.same repEdge_stable (Put.same gp (by omega) (by omega))
  replace S3_0 := S3_0.same repInt_stable (Put.same gp (by omega) (by omega))
  replace M9_0 := M9_0.same (Put.same gp (by omega) (by omega))
  replace G : Grow w U11 := Grow.put G gp (by omega)
  clear gp
  have z0 := B0.lt
  have z1 := B1.lt
  have q0_0 : U11.cell? ⟨w.heap.size, 0, none⟩ = some (.int .i64 x.n) := B0.c 0 _ rfl
  have q0_1 : U11.cell? ⟨w.heap.size, 1, none⟩ = some (.slice a0_0 x.edges.length c0_0) := B0.c 1 _ rfl
  have f0 := B0.f
  have q1_0 : U11.cell? ⟨U4.heap.size, 0, none⟩ = some (.int .i64 x.n) := B1.c 0 _ rfl
  have q1_1 : U11.cell? ⟨U4.heap.size, 1, none⟩ = some (.slice A4_0 x.edges.length C4_0) := B1.c 1 _ rfl
  have f1 := B1.f
  go_wp2_with fail
  refine (heldIntS_c _ _ _ 1 V2.heap.size U5.heap.size _ M11_0 cap_S5_0 (by have := cheapL_len x; omega) (by omega) (by omega)).mono ?_
  rintro e U12 ⟨rfl, gs⟩
  clear z0 z1 q0_0 q0_1 f0 q1_0 q1_1 f1
  have ys := Grow.size gs
  replace B0 : Box U12 (w.heap.size) [.int .i64 x.n, .slice a0_0 x.edges.length c0_0] := Box.grow B0 gs
  replace B1 : Box U12 (U4.heap.size) [.int .i64 x.n, .slice A4_0 x.edges.length C4_0] := Box.grow B1 gs
  replace S2_0 := S2_0.same repEdge_stable (gs.same (by omega))
  replace S3_0 := S3_0.same repInt_stable (gs.same (by omega))
  replace M9_0 := M9_0.same (gs.same (by omega))
  replace M11_0 := M11_0.same (gs.same (by omega))
  replace G : Grow w U12 := Grow.trans G gs
  clear gs
  have z0 := B0.lt
  have z1 := B1.lt
  have q0_0 : U12.cell? ⟨w.heap.size, 0, none⟩ = some (.int .i64 x.n) := B0.c 0 _ rfl
  have q0_1 : U12.cell? ⟨w.heap.size, 1, none⟩ = some (.slice a0_0 x.edges.length c0_0) := B0.c 1 _ rfl
  have f0 := B0.f
  have q1_0 : U12.cell? ⟨U4.heap.size, 0, none⟩ = some (.int .i64 x.n) := B1.c 0 _ rfl
  have q1_1 : U12.cell? ⟨U4.heap.size, 1, none⟩ = some (.slice A4_0 x.edges.length C4_0) := B1.c 1 _ rfl
  have f1 := B1.f
  go_wp2_with fail
  refine (toGraph_c x _ _ _ (H0_0.out.grow' repEdge_stable (Grow.below G)) Bx_0).mono ?_
  rintro e U13 ⟨A13_0, C13_0, P13_0, Q13_0, rfl, gs, O13, S13_0⟩
  clear z0 z1 q0_0 q0_1 f0 q1_0 q1_1 f1
  have ys := Grow.size gs
  replace B0 : Box U13 (w.heap.size) [.int .i64 x.n, .slice a0_0 x.edges.length c0_0] := Box.grow B0 gs
  replace B1 : Box U13 (U4.heap.size) [.int .i64 x.n, .slice A4_0 x.edges.length C4_0] := Box.grow B1 gs
  replace S2_0 := S2_0.same repEdge_stable (gs.same (by omega))
  replace S3_0 := S3_0.same repInt_stable (gs.same (by omega))
  replace M9_0 := M9_0.same (gs.same (by omega))
  replace M11_0 := M11_0.same (gs.same (by omega))
  replace G : Grow w U13 := Grow.trans G gs
  clear gs
  have z0 := B0.lt
  have z1 := B1.lt
  have q0_0 : U13.cell? ⟨w.heap.size, 0, none⟩ = some (.int .i64 x.n) := B0.c 0 _ rfl
  have q0_1 : U13.cell? ⟨w.heap.size, 1, none⟩ = some (.slice a0_0 x.edges.length c0_0) := B0.c 1 _ rfl
  have f0 := B0.f
  have q1_0 : U13.cell? ⟨U4.heap.size, 0, none⟩ = some (.int .i64 x.n) := B1.c 0 _ rfl
  have q1_1 : U13.cell? ⟨U4.heap.size, 1, none⟩ = some (.slice A4_0 x.edges.length C4_0) := B1.c 1 _ rfl
  have f1 := B1.f
  go_wp2_with fail
  refine (impl_Cheapest_c x _ _ _ (S13_0.all repEdge_stable (by omega)) ).mono ?_
  rintro e U14 ⟨A14_0, C14_0, rfl, gs, S14_0⟩
  clear z0 z1 q0_0 q0_1 f0 q1_0 q1_1 f1
  have ys := Grow.size gs
  replace B0 : Box U14 (w.heap.size) [.int .i64 x.n, .slice a0_0 x.edges.length c0_0] := Box.grow B0 gs
  replace B1 : Box U14 (U4.heap.size) [.int .i64 x.n, .slice A4_0 x.edges.length C4_0] := Box.grow B1 gs
  replace S2_0 := S2_0.same repEdge_stable (gs.same (by omega))
  replace S3_0 := S3_0.same repInt_stable (gs.same (by omega))
  replace S13_0 := S13_0.same repEdge_stable (gs.same (by omega))
  replace M9_0 := M9_0.same (gs.same (by omega))
  replace M11_0 := M11_0.same (gs.same (by omega))
  replace G : Grow w U14 := Grow.trans G gs
  clear gs
  have z0 := B0.lt
  have z1 := B1.lt
  have q0_0 : U14.cell? ⟨w.heap.size, 0, none⟩ = some (.int .i64 x.n) := B0.c 0 _ rfl
  have q0_1 : U14.cell? ⟨w.heap.size, 1, none⟩ = some (.slice a0_0 x.edges.length c0_0) := B0.c 1 _ rfl
  have f0 := B0.f
  have q1_0 : U14.cell? ⟨U4.heap.size, 0, none⟩ = some (.int .i64 x.n) := B1.c 0 _ rfl
  have q1_1 : U14.cell? ⟨U4.heap.size, 1, none⟩ = some (.slice A4_0 x.edges.length C4_0) := B1.c 1 _ rfl
  have f1 := B1.f
  go_wp2_with fail
  refine (eqIntS_c (cheapL x) _ _ _ _ _ (S14_0.all repInt_stable (by omega)) (S3_0.all repInt_stable (by omega))).mono ?_
  rintro e U15 ⟨rfl, gs⟩
  clear z0 z1 q0_0 q0_1 f0 q1_0 q1_1 f1
  have ys := Grow.size gs
  replace B0 : Box U15 (w.heap.size) [.int .i64 x.n, .slice a0_0 x.edges.length c0_0] := Box.grow B0 gs
  replace B1 : Box U15 (U4.heap.size) [.int .i64 x.n, .slice A4_0 x.edges.length C4_0] := Box.grow B1 gs
  replace S2_0 := S2_0.same repEdge_stable (gs.same (by omega))
  replace S3_0 := S3_0.same repInt_stable (gs.same (by omega))
  replace S13_0 := S13_0.same repEdge_stable (gs.same (by omega))
  replace S14_0 := S14_0.same repInt_stable (gs.same (by omega))
  replace M9_0 := M9_0.same (gs.same (by omega))
  replace M11_0 := M11_0.same (gs.same (by omega))
  replace G : Grow w U15 := Grow.trans G gs
  clear gs
  have z0 := B0.lt
  have z1 := B1.lt
  have q0_0 : U15.cell? ⟨w.heap.size, 0, none⟩ = some (.int .i64 x.n) := B0.c 0 _ rfl
  have q0_1 : U15.cell? ⟨w.heap.size, 1, none⟩ = some (.slice a0_0 x.edges.length c0_0) := B0.c 1 _ rfl
  have f0 := B0.f
  have q1_0 : U15.cell? ⟨U4.heap.size, 0, none⟩ = some (.int .i64 x.n) := B1.c 0 _ rfl
  have q1_1 : U15.cell? ⟨U4.heap.size, 1, none⟩ = some (.slice A4_0 x.edges.length C4_0) := B1.c 1 _ rfl
  have f1 := B1.f
  go_wp2_with fail
  refine (heldIntS_c _ _ _ 1 V2.heap.size U5.heap.size _ M11_0 cap_S5_0 (by have := cheapL_len x; omega) (by omega) (by omega)).mono ?_
  rintro e U16 ⟨rfl, gs⟩
  clear z0 z1 q0_0 q0_1 f0 q1_0 q1_1 f1
  have ys := Grow.size gs
  replace B0 : Box U16 (w.heap.size) [.int .i64 x.n, .slice a0_0 x.edges.length c0_0] := Box.grow B0 gs
  replace B1 : Box U16 (U4.heap.size) [.int .i64 x.n, .slice A4_0 x.edges.length C4_0] := Box.grow B1 gs
  replace S2_0 := S2_0.same repEdge_stable (gs.same (by omega))
  replace S3_0 := S3_0.same repInt_stable (gs.same (by omega))
  replace S13_0 := S13_0.same repEdge_stable (gs.same (by omega))
  replace S14_0 := S14_0.same repInt_stable (gs.same (by omega))
  replace M9_0 := M9_0.same (gs.same (by omega))
  replace M11_0 := M11_0.same (gs.same (by omega))
  replace G : Grow w U16 := Grow.trans G gs
  clear gs
  have z0 := B0.lt
  have z1 := B1.lt
  have q0_0 : U16.cell? ⟨w.heap.size, 0, none⟩ = some (.int .i64 x.n) := B0.c 0 _ rfl
  have q0_1 : U16.cell? ⟨w.heap.size, 1, none⟩ = some (.slice a0_0 x.edges.length c0_0) := B0.c 1 _ rfl
  have f0 := B0.f
  have q1_0 : U16.cell? ⟨U4.heap.size, 0, none⟩ = some (.int .i64 x.n) := B1.c 0 _ rfl
  have q1_1 : U16.cell? ⟨U4.heap.size, 1, none⟩ = some (.slice A4_0 x.edges.length C4_0) := B1.c 1 _ rfl
  have f1 := B1.f
  go_wp2_with fail
  go_ret
  exact ⟨rfl, by repeat (first | exact G | (refine Grow.alloc ?_ _ _) | (refine Grow.drew ?_) | (refine Grow.drewN ?_ _))⟩
end Go.Proofs.Ytbjnbhlpibadnaa
