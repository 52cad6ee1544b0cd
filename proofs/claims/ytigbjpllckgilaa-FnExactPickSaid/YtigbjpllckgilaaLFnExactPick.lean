/- The law FnExactPick, walked over the contracts. -/
import Derived.Test.YtigbjpllckgilaaPick
import Derived.Test.YtigbjpllckgilaaHBook
import Derived.Test.YtigbjpllckgilaaMk
import Derived.Deep.RegionHeld3
namespace Go.Proofs.Ytigbjpllckgilaa
open Go.RowKit
set_option linter.unusedSimpArgs false
set_option linter.unusedVariables false

set_option maxHeartbeats 8000000 in
set_option maxRecDepth 100000 in
theorem FnExactPick_walk (x : Book) (a0_0 : Option Addr) (c0_0 : Nat) (a0_1 : Option Addr) (c0_1 : Nat) (a0_2 : Option Addr) (c0_2 : Nat) (ch : Int) (w : World) (h0_0 : SlR 7 repChan w 0 w.heap.size (.slice a0_0 x.chans.length c0_0) x.chans) (h0_1 : SlR 7 repHtlc w 0 w.heap.size (.slice a0_1 x.htlcs.length c0_1) x.htlcs) (h0_2 : SlR 5 repCircle w 0 w.heap.size (.slice a0_2 x.circles.length c0_2) x.circles) (wf0 : wfBook x) (i1 : i64 ch) :
    Calls Try.prog 5 #[.agg #[.int .i64 x.tick, .int .i64 x.next, .int .i64 x.wallet, .slice a0_0 x.chans.length c0_0, .slice a0_1 x.htlcs.length c0_1, .slice a0_2 x.circles.length c0_2], .int .i64 ch] w fun e w' => e = .returned (.bool true) ∧ Grow w w' := by
  have H0_0 := Lib.hid h0_0
  have H0_1 := Lib.hid h0_1
  have H0_2 := Lib.hid h0_2
  clear h0_0 h0_1 h0_2
  by_cases t0 : szBook x (1048576 : Int) < 0
  · go_enter Try.func5, Try.ntmps5
    go_wp2_with fail
    obtain ⟨V1, hV⟩ : ∃ V, V = (w.alloc (.cells #[.int .i64 x.tick, .int .i64 x.next, .int .i64 x.wallet, .slice a0_0 x.chans.length c0_0, .slice a0_1 x.htlcs.length c0_1, .slice a0_2 x.circles.length c0_2] 35)) := ⟨_, rfl⟩
    have G' : Grow w V1 := by rw [hV]; exact ((Grow.refl w).alloc _ _)
    have gs : Grow w V1 := by rw [hV]; exact ((Grow.refl w).alloc _ _)
    have B0 : Box V1 (w.heap.size) [.int .i64 x.tick, .int .i64 x.next, .int .i64 x.wallet, .slice a0_0 x.chans.length c0_0, .slice a0_1 x.htlcs.length c0_1, .slice a0_2 x.circles.length c0_2] := by rw [hV]; exact Box.newAt (by simp) _ _
    have ys : V1.heap.size = w.heap.size + 1 := by rw [hV]; simp
    have G := G'
    clear G'
    rw [← hV]
    clear hV
    clear gs
    have z0 := B0.lt
    have q0_0 : V1.cell? ⟨w.heap.size, 0, none⟩ = some (.int .i64 x.tick) := B0.c 0 _ rfl
    have q0_1 : V1.cell? ⟨w.heap.size, 1, none⟩ = some (.int .i64 x.next) := B0.c 1 _ rfl
    have q0_2 : V1.cell? ⟨w.heap.size, 2, none⟩ = some (.int .i64 x.wallet) := B0.c 2 _ rfl
    have q0_3 : V1.cell? ⟨w.heap.size, 3, none⟩ = some (.slice a0_0 x.chans.length c0_0) := B0.c 3 _ rfl
    have q0_4 : V1.cell? ⟨w.heap.size, 4, none⟩ = some (.slice a0_1 x.htlcs.length c0_1) := B0.c 4 _ rfl
    have q0_5 : V1.cell? ⟨w.heap.size, 5, none⟩ = some (.slice a0_2 x.circles.length c0_2) := B0.c 5 _ rfl
    have f0 := B0.f
    refine (szBook_c x _ _ _ _ _ _ _ _ (H0_0.out.grow' repChan_stable (Grow.below G)) (H0_1.out.grow' repHtlc_stable (Grow.below G)) (H0_2.out.grow' repCircle_stable (Grow.below G)) (by omega) (by omega)).mono ?_
    rintro e U1 ⟨rfl, gs⟩
    clear z0 q0_0 q0_1 q0_2 q0_3 q0_4 q0_5 f0
    have ys := Grow.size gs
    replace B0 : Box U1 (w.heap.size) [.int .i64 x.tick, .int .i64 x.next, .int .i64 x.wallet, .slice a0_0 x.chans.length c0_0, .slice a0_1 x.htlcs.length c0_1, .slice a0_2 x.circles.length c0_2] := Box.grow B0 gs
    replace G : Grow w U1 := Grow.trans G gs
    clear gs
    have z0 := B0.lt
    have q0_0 : U1.cell? ⟨w.heap.size, 0, none⟩ = some (.int .i64 x.tick) := B0.c 0 _ rfl
    have q0_1 : U1.cell? ⟨w.heap.size, 1, none⟩ = some (.int .i64 x.next) := B0.c 1 _ rfl
    have q0_2 : U1.cell? ⟨w.heap.size, 2, none⟩ = some (.int .i64 x.wallet) := B0.c 2 _ rfl
    have q0_3 : U1.cell? ⟨w.heap.size, 3, none⟩ = some (.slice a0_0 x.chans.length c0_0) := B0.c 3 _ rfl
    have q0_4 : U1.cell? ⟨w.heap.size, 4, none⟩ = some (.slice a0_1 x.htlcs.length c0_1) := B0.c 4 _ rfl
    have q0_5 : U1.cell? ⟨w.heap.size, 5, none⟩ = some (.slice a0_2 x.circles.length c0_2) := B0.c 5 _ rfl
    have f0 := B0.f
    go_wp2_with fail
    go_ret
    exact ⟨rfl, by repeat (first | exact G | (refine Grow.alloc ?_ _ _) | (refine Grow.drew ?_) | (refine Grow.drewN ?_ _))⟩
  obtain ⟨L0, Bx_0, Bx_1, Bx_2⟩ := szBook_le x (1048576 : Int) (by omega) (by omega)
  obtain ⟨y, b, hpv⟩ : ∃ (y : Chan) (b : Bool), pickV (pickOf x ch) = .tuple #[.agg #[.int .i64 y.id, .int .i64 y.size, .int .i64 y.loc, .int .i64 y.remote, .int .i64 y.base, .int .i64 y.ppm, .int .i64 y.score], .bool b] := ⟨_, _, rfl⟩
  go_enter Try.func5, Try.ntmps5
  go_wp2_with fail
  obtain ⟨V1, hV⟩ : ∃ V, V = (w.alloc (.cells #[.int .i64 x.tick, .int .i64 x.next, .int .i64 x.wallet, .slice a0_0 x.chans.length c0_0, .slice a0_1 x.htlcs.length c0_1, .slice a0_2 x.circles.length c0_2] 35)) := ⟨_, rfl⟩
  have G' : Grow w V1 := by rw [hV]; exact ((Grow.refl w).alloc _ _)
  have gs : Grow w V1 := by rw [hV]; exact ((Grow.refl w).alloc _ _)
  have B0 : Box V1 (w.heap.size) [.int .i64 x.tick, .int .i64 x.next, .int .i64 x.wallet, .slice a0_0 x.chans.length c0_0, .slice a0_1 x.htlcs.length c0_1, .slice a0_2 x.circles.length c0_2] := by rw [hV]; exact Box.newAt (by simp) _ _
  have ys : V1.heap.size = w.heap.size + 1 := by rw [hV]; simp
  have G := G'
  clear G'
  rw [← hV]
  clear hV
  clear gs
  have z0 := B0.lt
  have q0_0 : V1.cell? ⟨w.heap.size, 0, none⟩ = some (.int .i64 x.tick) := B0.c 0 _ rfl
  have q0_1 : V1.cell? ⟨w.heap.size, 1, none⟩ = some (.int .i64 x.next) := B0.c 1 _ rfl
  have q0_2 : V1.cell? ⟨w.heap.size, 2, none⟩ = some (.int .i64 x.wallet) := B0.c 2 _ rfl
  have q0_3 : V1.cell? ⟨w.heap.size, 3, none⟩ = some (.slice a0_0 x.chans.length c0_0) := B0.c 3 _ rfl
  have q0_4 : V1.cell? ⟨w.heap.size, 4, none⟩ = some (.slice a0_1 x.htlcs.length c0_1) := B0.c 4 _ rfl
  have q0_5 : V1.cell? ⟨w.heap.size, 5, none⟩ = some (.slice a0_2 x.circles.length c0_2) := B0.c 5 _ rfl
  have f0 := B0.f
  refine (szBook_c x _ _ _ _ _ _ _ _ (H0_0.out.grow' repChan_stable (Grow.below G)) (H0_1.out.grow' repHtlc_stable (Grow.below G)) (H0_2.out.grow' repCircle_stable (Grow.below G)) (by omega) (by omega)).mono ?_
  rintro e U1 ⟨rfl, gs⟩
  clear z0 q0_0 q0_1 q0_2 q0_3 q0_4 q0_5 f0
  have ys := Grow.size gs
  replace B0 : Box U1 (w.heap.size) [.int .i64 x.tick, .int .i64 x.next, .int .i64 x.wallet, .slice a0_0 x.chans.length c0_0, .slice a0_1 x.htlcs.length c0_1, .slice a0_2 x.circles.length c0_2] := Box.grow B0 gs
  replace G : Grow w U1 := Grow.trans G gs
  clear gs
  have z0 := B0.lt
  have q0_0 : U1.cell? ⟨w.heap.size, 0, none⟩ = some (.int .i64 x.tick) := B0.c 0 _ rfl
  have q0_1 : U1.cell? ⟨w.heap.size, 1, none⟩ = some (.int .i64 x.next) := B0.c 1 _ rfl
  have q0_2 : U1.cell? ⟨w.heap.size, 2, none⟩ = some (.int .i64 x.wallet) := B0.c 2 _ rfl
  have q0_3 : U1.cell? ⟨w.heap.size, 3, none⟩ = some (.slice a0_0 x.chans.length c0_0) := B0.c 3 _ rfl
  have q0_4 : U1.cell? ⟨w.heap.size, 4, none⟩ = some (.slice a0_1 x.htlcs.length c0_1) := B0.c 4 _ rfl
  have q0_5 : U1.cell? ⟨w.heap.size, 5, none⟩ = some (.slice a0_2 x.circles.length c0_2) := B0.c 5 _ rfl
  have f0 := B0.f
  go_wp2_with fail
  refine (toBook_c x _ _ _ _ _ _ _ (H0_0.out.grow' repChan_stable (Grow.below G)) (H0_1.out.grow' repHtlc_stable (Grow.below G)) (H0_2.out.grow' repCircle_stable (Grow.below G)) Bx_0 Bx_1 Bx_2).mono ?_
  rintro e U2 ⟨A2_0, C2_0, P2_0, Q2_0, A2_1, C2_1, P2_1, Q2_1, A2_2, C2_2, P2_2, Q2_2, rfl, gs, O2, S2_0, S2_1, S2_2⟩
  clear z0 q0_0 q0_1 q0_2 q0_3 q0_4 q0_5 f0
  have ys := Grow.size gs
  replace B0 : Box U2 (w.heap.size) [.int .i64 x.tick, .int .i64 x.next, .int .i64 x.wallet, .slice a0_0 x.chans.length c0_0, .slice a0_1 x.htlcs.length c0_1, .slice a0_2 x.circles.length c0_2] := Box.grow B0 gs
  replace G : Grow w U2 := Grow.trans G gs
  clear gs
  have z0 := B0.lt
  have q0_0 : U2.cell? ⟨w.heap.size, 0, none⟩ = some (.int .i64 x.tick) := B0.c 0 _ rfl
  have q0_1 : U2.cell? ⟨w.heap.size, 1, none⟩ = some (.int .i64 x.next) := B0.c 1 _ rfl
  have q0_2 : U2.cell? ⟨w.heap.size, 2, none⟩ = some (.int .i64 x.wallet) := B0.c 2 _ rfl
  have q0_3 : U2.cell? ⟨w.heap.size, 3, none⟩ = some (.slice a0_0 x.chans.length c0_0) := B0.c 3 _ rfl
  have q0_4 : U2.cell? ⟨w.heap.size, 4, none⟩ = some (.slice a0_1 x.htlcs.length c0_1) := B0.c 4 _ rfl
  have q0_5 : U2.cell? ⟨w.heap.size, 5, none⟩ = some (.slice a0_2 x.circles.length c0_2) := B0.c 5 _ rfl
  have f0 := B0.f
  go_wp2_with fail
  refine (spec_Pick_c x _ _ _ _ _ _ ch _ (S2_0.all repChan_stable (by omega)) (S2_1.all repHtlc_stable (by omega)) (S2_2.all repCircle_stable (by omega)) Bx_0).mono ?_
  rintro e U3 ⟨rfl, gs⟩
  simp only [hpv]
  clear z0 q0_0 q0_1 q0_2 q0_3 q0_4 q0_5 f0
  have ys := Grow.size gs
  replace B0 : Box U3 (w.heap.size) [.int .i64 x.tick, .int .i64 x.next, .int .i64 x.wallet, .slice a0_0 x.chans.length c0_0, .slice a0_1 x.htlcs.length c0_1, .slice a0_2 x.circles.length c0_2] := Box.grow B0 gs
  replace S2_0 := S2_0.same repChan_stable (gs.same (by omega))
  replace S2_1 := S2_1.same repHtlc_stable (gs.same (by omega))
  replace S2_2 := S2_2.same repCircle_stable (gs.same (by omega))
  replace G : Grow w U3 := Grow.trans G gs
  clear gs
  have z0 := B0.lt
  have q0_0 : U3.cell? ⟨w.heap.size, 0, none⟩ = some (.int .i64 x.tick) := B0.c 0 _ rfl
  have q0_1 : U3.cell? ⟨w.heap.size, 1, none⟩ = some (.int .i64 x.next) := B0.c 1 _ rfl
  have q0_2 : U3.cell? ⟨w.heap.size, 2, none⟩ = some (.int .i64 x.wallet) := B0.c 2 _ rfl
  have q0_3 : U3.cell? ⟨w.heap.size, 3, none⟩ = some (.slice a0_0 x.chans.length c0_0) := B0.c 3 _ rfl
  have q0_4 : U3.cell? ⟨w.heap.size, 4, none⟩ = some (.slice a0_1 x.htlcs.length c0_1) := B0.c 4 _ rfl
  have q0_5 : U3.cell? ⟨w.heap.size, 5, none⟩ = some (.slice a0_2 x.circles.length c0_2) := B0.c 5 _ rfl
  have f0 := B0.f
  go_wp2_with fail
  obtain ⟨V2, hV⟩ : ∃ V, V = (U3.alloc (.cells #[.int .i64 y.id, .int .i64 y.size, .int .i64 y.loc, .int .i64 y.remote, .int .i64 y.base, .int .i64 y.ppm, .int .i64 y.score] 41)) := ⟨_, rfl⟩
  have G' : Grow w V2 := by rw [hV]; exact (G.alloc _ _)
  have gs : Grow U3 V2 := by rw [hV]; exact ((Grow.refl U3).alloc _ _)
  replace B0 : Box V2 (w.heap.size) [.int .i64 x.tick, .int .i64 x.next, .int .i64 x.wallet, .slice a0_0 x.chans.length c0_0, .slice a0_1 x.htlcs.length c0_1, .slice a0_2 x.circles.length c0_2] := by rw [hV]; exact (B0.alloc _ _)
  have B1 : Box V2 (U3.heap.size) [.int .i64 y.id, .int .i64 y.size, .int .i64 y.loc, .int .i64 y.remote, .int .i64 y.base, .int .i64 y.ppm, .int .i64 y.score] := by rw [hV]; exact Box.newAt (by simp) _ _
  have ys : V2.heap.size = U3.heap.size + 1 := by rw [hV]; simp
  replace S2_0 := S2_0.same repChan_stable (gs.same (by omega))
  replace S2_1 := S2_1.same repHtlc_stable (gs.same (by omega))
  replace S2_2 := S2_2.same repCircle_stable (gs.same (by omega))
  replace G := G'
  clear G'
  rw [← hV]
  clear hV
  clear gs
  clear z0 q0_0 q0_1 q0_2 q0_3 q0_4 q0_5 f0
  have z0 := B0.lt
  have z1 := B1.lt
  have q0_0 : V2.cell? ⟨w.heap.size, 0, none⟩ = some (.int .i64 x.tick) := B0.c 0 _ rfl
  have q0_1 : V2.cell? ⟨w.heap.size, 1, none⟩ = some (.int .i64 x.next) := B0.c 1 _ rfl
  have q0_2 : V2.cell? ⟨w.heap.size, 2, none⟩ = some (.int .i64 x.wallet) := B0.c 2 _ rfl
  have q0_3 : V2.cell? ⟨w.heap.size, 3, none⟩ = some (.slice a0_0 x.chans.length c0_0) := B0.c 3 _ rfl
  have q0_4 : V2.cell? ⟨w.heap.size, 4, none⟩ = some (.slice a0_1 x.htlcs.length c0_1) := B0.c 4 _ rfl
  have q0_5 : V2.cell? ⟨w.heap.size, 5, none⟩ = some (.slice a0_2 x.circles.length c0_2) := B0.c 5 _ rfl
  have f0 := B0.f
  have q1_0 : V2.cell? ⟨U3.heap.size, 0, none⟩ = some (.int .i64 y.id) := B1.c 0 _ rfl
  have q1_1 : V2.cell? ⟨U3.heap.size, 1, none⟩ = some (.int .i64 y.size) := B1.c 1 _ rfl
  have q1_2 : V2.cell? ⟨U3.heap.size, 2, none⟩ = some (.int .i64 y.loc) := B1.c 2 _ rfl
  have q1_3 : V2.cell? ⟨U3.heap.size, 3, none⟩ = some (.int .i64 y.remote) := B1.c 3 _ rfl
  have q1_4 : V2.cell? ⟨U3.heap.size, 4, none⟩ = some (.int .i64 y.base) := B1.c 4 _ rfl
  have q1_5 : V2.cell? ⟨U3.heap.size, 5, none⟩ = some (.int .i64 y.ppm) := B1.c 5 _ rfl
  have q1_6 : V2.cell? ⟨U3.heap.size, 6, none⟩ = some (.int .i64 y.score) := B1.c 6 _ rfl
  have f1 := B1.f
  refine (toBook_c x _ _ _ _ _ _ _ (H0_0.out.grow' repChan_stable (Grow.below G)) (H0_1.out.grow' repHtlc_stable (Grow.below G)) (H0_2.out.grow' repCircle_stable (Grow.below G)) Bx_0 Bx_1 Bx_2).mono ?_
  rintro e U4 ⟨A4_0, C4_0, P4_0, Q4_0, A4_1, C4_1, P4_1, Q4_1, A4_2, C4_2, P4_2, Q4_2, rfl, gs, O4, S4_0, S4_1, S4_2⟩
  clear z0 z1 q0_0 q0_1 q0_2 q0_3 q0_4 q0_5 f0 q1_0 q1_1 q1_2 q1_3 q1_4 q1_5 q1_6 f1
  have ys := Grow.size gs
  replace B0 : Box U4 (w.heap.size) [.int .i64 x.tick, .int .i64 x.next, .int .i64 x.wallet, .slice a0_0 x.chans.length c0_0, .slice a0_1 x.htlcs.length c0_1, .slice a0_2 x.circles.length c0_2] := Box.grow B0 gs
  replace B1 : Box U4 (U3.heap.size) [.int .i64 y.id, .int .i64 y.size, .int .i64 y.loc, .int .i64 y.remote, .int .i64 y.base, .int .i64 y.ppm, .int .i64 y.score] := Box.grow B1 gs
  replace S2_0 := S2_0.same repChan_stable (gs.same (by omega))
  replace S2_1 := S2_1.same repHtlc_stable (gs.same (by omega))
  replace S2_2 := S2_2.same repCircle_stable (gs.same (by omega))
  replace G : Grow w U4 := Grow.trans G gs
  clear gs
  have z0 := B0.lt
  have z1 := B1.lt
  have q0_0 : U4.cell? ⟨w.heap.size, 0, none⟩ = some (.int .i64 x.tick) := B0.c 0 _ rfl
  have q0_1 : U4.cell? ⟨w.heap.size, 1, none⟩ = some (.int .i64 x.next) := B0.c 1 _ rfl
  have q0_2 : U4.cell? ⟨w.heap.size, 2, none⟩ = some (.int .i64 x.wallet) := B0.c 2 _ rfl
  have q0_3 : U4.cell? ⟨w.heap.size, 3, none⟩ = some (.slice a0_0 x.chans.length c0_0) := B0.c 3 _ rfl
  have q0_4 : U4.cell? ⟨w.heap.size, 4, none⟩ = some (.slice a0_1 x.htlcs.length c0_1) := B0.c 4 _ rfl
  have q0_5 : U4.cell? ⟨w.heap.size, 5, none⟩ = some (.slice a0_2 x.circles.length c0_2) := B0.c 5 _ rfl
  have f0 := B0.f
  have q1_0 : U4.cell? ⟨U3.heap.size, 0, none⟩ = some (.int .i64 y.id) := B1.c 0 _ rfl
  have q1_1 : U4.cell? ⟨U3.heap.size, 1, none⟩ = some (.int .i64 y.size) := B1.c 1 _ rfl
  have q1_2 : U4.cell? ⟨U3.heap.size, 2, none⟩ = some (.int .i64 y.loc) := B1.c 2 _ rfl
  have q1_3 : U4.cell? ⟨U3.heap.size, 3, none⟩ = some (.int .i64 y.remote) := B1.c 3 _ rfl
  have q1_4 : U4.cell? ⟨U3.heap.size, 4, none⟩ = some (.int .i64 y.base) := B1.c 4 _ rfl
  have q1_5 : U4.cell? ⟨U3.heap.size, 5, none⟩ = some (.int .i64 y.ppm) := B1.c 5 _ rfl
  have q1_6 : U4.cell? ⟨U3.heap.size, 6, none⟩ = some (.int .i64 y.score) := B1.c 6 _ rfl
  have f1 := B1.f
  go_wp2_with fail
  obtain ⟨V3, hV⟩ : ∃ V, V = (U4.alloc (.cells #[.int .i64 x.tick, .int .i64 x.next, .int .i64 x.wallet, .slice A4_0 x.chans.length C4_0, .slice A4_1 x.htlcs.length C4_1, .slice A4_2 x.circles.length C4_2] 26)) := ⟨_, rfl⟩
  have G' : Grow w V3 := by rw [hV]; exact (G.alloc _ _)
  have gs : Grow U4 V3 := by rw [hV]; exact ((Grow.refl U4).alloc _ _)
  replace B0 : Box V3 (w.heap.size) [.int .i64 x.tick, .int .i64 x.next, .int .i64 x.wallet, .slice a0_0 x.chans.length c0_0, .slice a0_1 x.htlcs.length c0_1, .slice a0_2 x.circles.length c0_2] := by rw [hV]; exact (B0.alloc _ _)
  replace B1 : Box V3 (U3.heap.size) [.int .i64 y.id, .int .i64 y.size, .int .i64 y.loc, .int .i64 y.remote, .int .i64 y.base, .int .i64 y.ppm, .int .i64 y.score] := by rw [hV]; exact (B1.alloc _ _)
  have B2 : Box V3 (U4.heap.size) [.int .i64 x.tick, .int .i64 x.next, .int .i64 x.wallet, .slice A4_0 x.chans.length C4_0, .slice A4_1 x.htlcs.length C4_1, .slice A4_2 x.circles.length C4_2] := by rw [hV]; exact Box.newAt (by simp) _ _
  have ys : V3.heap.size = U4.heap.size + 1 := by rw [hV]; simp
  replace S2_0 := S2_0.same repChan_stable (gs.same (by omega))
  replace S2_1 := S2_1.same repHtlc_stable (gs.same (by omega))
  replace S2_2 := S2_2.same repCircle_stable (gs.same (by omega))
  replace S4_0 := S4_0.same repChan_stable (gs.same (by omega))
  replace S4_1 := S4_1.same repHtlc_stable (gs.same (by omega))
  replace S4_2 := S4_2.same repCircle_stable (gs.same (by omega))
  replace G := G'
  clear G'
  rw [← hV]
  clear hV
  clear gs
  clear z0 z1 q0_0 q0_1 q0_2 q0_3 q0_4 q0_5 f0 q1_0 q1_1 q1_2 q1_3 q1_4 q1_5 q1_6 f1
  have z0 := B0.lt
  have z1 := B1.lt
  have z2 := B2.lt
  have q0_0 : V3.cell? ⟨w.heap.size, 0, none⟩ = some (.int .i64 x.tick) := B0.c 0 _ rfl
  have q0_1 : V3.cell? ⟨w.heap.size, 1, none⟩ = some (.int .i64 x.next) := B0.c 1 _ rfl
  have q0_2 : V3.cell? ⟨w.heap.size, 2, none⟩ = some (.int .i64 x.wallet) := B0.c 2 _ rfl
  have q0_3 : V3.cell? ⟨w.heap.size, 3, none⟩ = some (.slice a0_0 x.chans.length c0_0) := B0.c 3 _ rfl
  have q0_4 : V3.cell? ⟨w.heap.size, 4, none⟩ = some (.slice a0_1 x.htlcs.length c0_1) := B0.c 4 _ rfl
  have q0_5 : V3.cell? ⟨w.heap.size, 5, none⟩ = some (.slice a0_2 x.circles.length c0_2) := B0.c 5 _ rfl
  have f0 := B0.f
  have q1_0 : V3.cell? ⟨U3.heap.size, 0, none⟩ = some (.int .i64 y.id) := B1.c 0 _ rfl
  have q1_1 : V3.cell? ⟨U3.heap.size, 1, none⟩ = some (.int .i64 y.size) := B1.c 1 _ rfl
  have q1_2 : V3.cell? ⟨U3.heap.size, 2, none⟩ = some (.int .i64 y.loc) := B1.c 2 _ rfl
  have q1_3 : V3.cell? ⟨U3.heap.size, 3, none⟩ = some (.int .i64 y.remote) := B1.c 3 _ rfl
  have q1_4 : V3.cell? ⟨U3.heap.size, 4, none⟩ = some (.int .i64 y.base) := B1.c 4 _ rfl
  have q1_5 : V3.cell? ⟨U3.heap.size, 5, none⟩ = some (.int .i64 y.ppm) := B1.c 5 _ rfl
  have q1_6 : V3.cell? ⟨U3.heap.size, 6, none⟩ = some (.int .i64 y.score) := B1.c 6 _ rfl
  have f1 := B1.f
  have q2_0 : V3.cell? ⟨U4.heap.size, 0, none⟩ = some (.int .i64 x.tick) := B2.c 0 _ rfl
  have q2_1 : V3.cell? ⟨U4.heap.size, 1, none⟩ = some (.int .i64 x.next) := B2.c 1 _ rfl
  have q2_2 : V3.cell? ⟨U4.heap.size, 2, none⟩ = some (.int .i64 x.wallet) := B2.c 2 _ rfl
  have q2_3 : V3.cell? ⟨U4.heap.size, 3, none⟩ = some (.slice A4_0 x.chans.length C4_0) := B2.c 3 _ rfl
  have q2_4 : V3.cell? ⟨U4.heap.size, 4, none⟩ = some (.slice A4_1 x.htlcs.length C4_1) := B2.c 4 _ rfl
  have q2_5 : V3.cell? ⟨U4.heap.size, 5, none⟩ = some (.slice A4_2 x.circles.length C4_2) := B2.c 5 _ rfl
  have f2 := B2.f
  refine (impl_Pick_c x _ _ _ _ _ _ ch _ (S4_0.all repChan_stable (by omega)) (S4_1.all repHtlc_stable (by omega)) (S4_2.all repCircle_stable (by omega)) Bx_0).mono ?_
  rintro e U5 ⟨rfl, gs⟩
  simp only [hpv]
  clear z0 z1 z2 q0_0 q0_1 q0_2 q0_3 q0_4 q0_5 f0 q1_0 q1_1 q1_2 q1_3 q1_4 q1_5 q1_6 f1 q2_0 q2_1 q2_2 q2_3 q2_4 q2_5 f2
  have ys := Grow.size gs
  replace B0 : Box U5 (w.heap.size) [.int .i64 x.tick, .int .i64 x.next, .int .i64 x.wallet, .slice a0_0 x.chans.length c0_0, .slice a0_1 x.htlcs.length c0_1, .slice a0_2 x.circles.length c0_2] := Box.grow B0 gs
  replace B1 : Box U5 (U3.heap.size) [.int .i64 y.id, .int .i64 y.size, .int .i64 y.loc, .int .i64 y.remote, .int .i64 y.base, .int .i64 y.ppm, .int .i64 y.score] := Box.grow B1 gs
  replace B2 : Box U5 (U4.heap.size) [.int .i64 x.tick, .int .i64 x.next, .int .i64 x.wallet, .slice A4_0 x.chans.length C4_0, .slice A4_1 x.htlcs.length C4_1, .slice A4_2 x.circles.length C4_2] := Box.grow B2 gs
  replace S2_0 := S2_0.same repChan_stable (gs.same (by omega))
  replace S2_1 := S2_1.same repHtlc_stable (gs.same (by omega))
  replace S2_2 := S2_2.same repCircle_stable (gs.same (by omega))
  replace S4_0 := S4_0.same repChan_stable (gs.same (by omega))
  replace S4_1 := S4_1.same repHtlc_stable (gs.same (by omega))
  replace S4_2 := S4_2.same repCircle_stable (gs.same (by omega))
  replace G : Grow w U5 := Grow.trans G gs
  clear gs
  have z0 := B0.lt
  have z1 := B1.lt
  have z2 := B2.lt
  have q0_0 : U5.cell? ⟨w.heap.size, 0, none⟩ = some (.int .i64 x.tick) := B0.c 0 _ rfl
  have q0_1 : U5.cell? ⟨w.heap.size, 1, none⟩ = some (.int .i64 x.next) := B0.c 1 _ rfl
  have q0_2 : U5.cell? ⟨w.heap.size, 2, none⟩ = some (.int .i64 x.wallet) := B0.c 2 _ rfl
  have q0_3 : U5.cell? ⟨w.heap.size, 3, none⟩ = some (.slice a0_0 x.chans.length c0_0) := B0.c 3 _ rfl
  have q0_4 : U5.cell? ⟨w.heap.size, 4, none⟩ = some (.slice a0_1 x.htlcs.length c0_1) := B0.c 4 _ rfl
  have q0_5 : U5.cell? ⟨w.heap.size, 5, none⟩ = some (.slice a0_2 x.circles.length c0_2) := B0.c 5 _ rfl
  have f0 := B0.f
  have q1_0 : U5.cell? ⟨U3.heap.size, 0, none⟩ = some (.int .i64 y.id) := B1.c 0 _ rfl
  have q1_1 : U5.cell? ⟨U3.heap.size, 1, none⟩ = some (.int .i64 y.size) := B1.c 1 _ rfl
  have q1_2 : U5.cell? ⟨U3.heap.size, 2, none⟩ = some (.int .i64 y.loc) := B1.c 2 _ rfl
  have q1_3 : U5.cell? ⟨U3.heap.size, 3, none⟩ = some (.int .i64 y.remote) := B1.c 3 _ rfl
  have q1_4 : U5.cell? ⟨U3.heap.size, 4, none⟩ = some (.int .i64 y.base) := B1.c 4 _ rfl
  have q1_5 : U5.cell? ⟨U3.heap.size, 5, none⟩ = some (.int .i64 y.ppm) := B1.c 5 _ rfl
  have q1_6 : U5.cell? ⟨U3.heap.size, 6, none⟩ = some (.int .i64 y.score) := B1.c 6 _ rfl
  have f1 := B1.f
  have q2_0 : U5.cell? ⟨U4.heap.size, 0, none⟩ = some (.int .i64 x.tick) := B2.c 0 _ rfl
  have q2_1 : U5.cell? ⟨U4.heap.size, 1, none⟩ = some (.int .i64 x.next) := B2.c 1 _ rfl
  have q2_2 : U5.cell? ⟨U4.heap.size, 2, none⟩ = some (.int .i64 x.wallet) := B2.c 2 _ rfl
  have q2_3 : U5.cell? ⟨U4.heap.size, 3, none⟩ = some (.slice A4_0 x.chans.length C4_0) := B2.c 3 _ rfl
  have q2_4 : U5.cell? ⟨U4.heap.size, 4, none⟩ = some (.slice A4_1 x.htlcs.length C4_1) := B2.c 4 _ rfl
  have q2_5 : U5.cell? ⟨U4.heap.size, 5, none⟩ = some (.slice A4_2 x.circles.length C4_2) := B2.c 5 _ rfl
  have f2 := B2.f
  go_wp2_with fail
  obtain ⟨V4, hV⟩ : ∃ V, V = (U5.alloc (.cells #[.int .i64 y.id, .int .i64 y.size, .int .i64 y.loc, .int .i64 y.remote, .int .i64 y.base, .int .i64 y.ppm, .int .i64 y.score] 41)) := ⟨_, rfl⟩
  have G' : Grow w V4 := by rw [hV]; exact (G.alloc _ _)
  have gs : Grow U5 V4 := by rw [hV]; exact ((Grow.refl U5).alloc _ _)
  replace B0 : Box V4 (w.heap.size) [.int .i64 x.tick, .int .i64 x.next, .int .i64 x.wallet, .slice a0_0 x.chans.length c0_0, .slice a0_1 x.htlcs.length c0_1, .slice a0_2 x.circles.length c0_2] := by rw [hV]; exact (B0.alloc _ _)
  replace B1 : Box V4 (U3.heap.size) [.int .i64 y.id, .int .i64 y.size, .int .i64 y.loc, .int .i64 y.remote, .int .i64 y.base, .int .i64 y.ppm, .int .i64 y.score] := by rw [hV]; exact (B1.alloc _ _)
  replace B2 : Box V4 (U4.heap.size) [.int .i64 x.tick, .int .i64 x.next, .int .i64 x.wallet, .slice A4_0 x.chans.length C4_0, .slice A4_1 x.htlcs.length C4_1, .slice A4_2 x.circles.length C4_2] := by rw [hV]; exact (B2.alloc _ _)
  have B3 : Box V4 (U5.heap.size) [.int .i64 y.id, .int .i64 y.size, .int .i64 y.loc, .int .i64 y.remote, .int .i64 y.base, .int .i64 y.ppm, .int .i64 y.score] := by rw [hV]; exact Box.newAt (by simp) _ _
  have ys : V4.heap.size = U5.heap.size + 1 := by rw [hV]; simp
  replace S2_0 := S2_0.same repChan_stable (gs.same (by omega))
  replace S2_1 := S2_1.same repHtlc_stable (gs.same (by omega))
  replace S2_2 := S2_2.same repCircle_stable (gs.same (by omega))
  replace S4_0 := S4_0.same repChan_stable (gs.same (by omega))
  replace S4_1 := S4_1.same repHtlc_stable (gs.same (by omega))
  replace S4_2 := S4_2.same repCircle_stable (gs.same (by omega))
  replace G := G'
  clear G'
  rw [← hV]
  clear hV
  clear gs
  clear z0 z1 z2 q0_0 q0_1 q0_2 q0_3 q0_4 q0_5 f0 q1_0 q1_1 q1_2 q1_3 q1_4 q1_5 q1_6 f1 q2_0 q2_1 q2_2 q2_3 q2_4 q2_5 f2
  have z0 := B0.lt
  have z1 := B1.lt
  have z2 := B2.lt
  have z3 := B3.lt
  have q0_0 : V4.cell? ⟨w.heap.size, 0, none⟩ = some (.int .i64 x.tick) := B0.c 0 _ rfl
  have q0_1 : V4.cell? ⟨w.heap.size, 1, none⟩ = some (.int .i64 x.next) := B0.c 1 _ rfl
  have q0_2 : V4.cell? ⟨w.heap.size, 2, none⟩ = some (.int .i64 x.wallet) := B0.c 2 _ rfl
  have q0_3 : V4.cell? ⟨w.heap.size, 3, none⟩ = some (.slice a0_0 x.chans.length c0_0) := B0.c 3 _ rfl
  have q0_4 : V4.cell? ⟨w.heap.size, 4, none⟩ = some (.slice a0_1 x.htlcs.length c0_1) := B0.c 4 _ rfl
  have q0_5 : V4.cell? ⟨w.heap.size, 5, none⟩ = some (.slice a0_2 x.circles.length c0_2) := B0.c 5 _ rfl
  have f0 := B0.f
  have q1_0 : V4.cell? ⟨U3.heap.size, 0, none⟩ = some (.int .i64 y.id) := B1.c 0 _ rfl
  have q1_1 : V4.cell? ⟨U3.heap.size, 1, none⟩ = some (.int .i64 y.size) := B1.c 1 _ rfl
  have q1_2 : V4.cell? ⟨U3.heap.size, 2, none⟩ = some (.int .i64 y.loc) := B1.c 2 _ rfl
  have q1_3 : V4.cell? ⟨U3.heap.size, 3, none⟩ = some (.int .i64 y.remote) := B1.c 3 _ rfl
  have q1_4 : V4.cell? ⟨U3.heap.size, 4, none⟩ = some (.int .i64 y.base) := B1.c 4 _ rfl
  have q1_5 : V4.cell? ⟨U3.heap.size, 5, none⟩ = some (.int .i64 y.ppm) := B1.c 5 _ rfl
  have q1_6 : V4.cell? ⟨U3.heap.size, 6, none⟩ = some (.int .i64 y.score) := B1.c 6 _ rfl
  have f1 := B1.f
  have q2_0 : V4.cell? ⟨U4.heap.size, 0, none⟩ = some (.int .i64 x.tick) := B2.c 0 _ rfl
  have q2_1 : V4.cell? ⟨U4.heap.size, 1, none⟩ = some (.int .i64 x.next) := B2.c 1 _ rfl
  have q2_2 : V4.cell? ⟨U4.heap.size, 2, none⟩ = some (.int .i64 x.wallet) := B2.c 2 _ rfl
  have q2_3 : V4.cell? ⟨U4.heap.size, 3, none⟩ = some (.slice A4_0 x.chans.length C4_0) := B2.c 3 _ rfl
  have q2_4 : V4.cell? ⟨U4.heap.size, 4, none⟩ = some (.slice A4_1 x.htlcs.length C4_1) := B2.c 4 _ rfl
  have q2_5 : V4.cell? ⟨U4.heap.size, 5, none⟩ = some (.slice A4_2 x.circles.length C4_2) := B2.c 5 _ rfl
  have f2 := B2.f
  have q3_0 : V4.cell? ⟨U5.heap.size, 0, none⟩ = some (.int .i64 y.id) := B3.c 0 _ rfl
  have q3_1 : V4.cell? ⟨U5.heap.size, 1, none⟩ = some (.int .i64 y.size) := B3.c 1 _ rfl
  have q3_2 : V4.cell? ⟨U5.heap.size, 2, none⟩ = some (.int .i64 y.loc) := B3.c 2 _ rfl
  have q3_3 : V4.cell? ⟨U5.heap.size, 3, none⟩ = some (.int .i64 y.remote) := B3.c 3 _ rfl
  have q3_4 : V4.cell? ⟨U5.heap.size, 4, none⟩ = some (.int .i64 y.base) := B3.c 4 _ rfl
  have q3_5 : V4.cell? ⟨U5.heap.size, 5, none⟩ = some (.int .i64 y.ppm) := B3.c 5 _ rfl
  have q3_6 : V4.cell? ⟨U5.heap.size, 6, none⟩ = some (.int .i64 y.score) := B3.c 6 _ rfl
  have f3 := B3.f
  refine (eqChan_c y _).mono ?_
  rintro e U6 ⟨rfl, gs⟩
  clear z0 z1 z2 z3 q0_0 q0_1 q0_2 q0_3 q0_4 q0_5 f0 q1_0 q1_1 q1_2 q1_3 q1_4 q1_5 q1_6 f1 q2_0 q2_1 q2_2 q2_3 q2_4 q2_5 f2 q3_0 q3_1 q3_2 q3_3 q3_4 q3_5 q3_6 f3
  have ys := Grow.size gs
  replace B0 : Box U6 (w.heap.size) [.int .i64 x.tick, .int .i64 x.next, .int .i64 x.wallet, .slice a0_0 x.chans.length c0_0, .slice a0_1 x.htlcs.length c0_1, .slice a0_2 x.circles.length c0_2] := Box.grow B0 gs
  replace B1 : Box U6 (U3.heap.size) [.int .i64 y.id, .int .i64 y.size, .int .i64 y.loc, .int .i64 y.remote, .int .i64 y.base, .int .i64 y.ppm, .int .i64 y.score] := Box.grow B1 gs
  replace B2 : Box U6 (U4.heap.size) [.int .i64 x.tick, .int .i64 x.next, .int .i64 x.wallet, .slice A4_0 x.chans.length C4_0, .slice A4_1 x.htlcs.length C4_1, .slice A4_2 x.circles.length C4_2] := Box.grow B2 gs
  replace B3 : Box U6 (U5.heap.size) [.int .i64 y.id, .int .i64 y.size, .int .i64 y.loc, .int .i64 y.remote, .int .i64 y.base, .int .i64 y.ppm, .int .i64 y.score] := Box.grow B3 gs
  replace S2_0 := S2_0.same repChan_stable (gs.same (by omega))
  replace S2_1 := S2_1.same repHtlc_stable (gs.same (by omega))
  replace S2_2 := S2_2.same repCircle_stable (gs.same (by omega))
  replace S4_0 := S4_0.same repChan_stable (gs.same (by omega))
  replace S4_1 := S4_1.same repHtlc_stable (gs.same (by omega))
  replace S4_2 := S4_2.same repCircle_stable (gs.same (by omega))
  replace G : Grow w U6 := Grow.trans G gs
  clear gs
  have z0 := B0.lt
  have z1 := B1.lt
  have z2 := B2.lt
  have z3 := B3.lt
  have q0_0 : U6.cell? ⟨w.heap.size, 0, none⟩ = some (.int .i64 x.tick) := B0.c 0 _ rfl
  have q0_1 : U6.cell? ⟨w.heap.size, 1, none⟩ = some (.int .i64 x.next) := B0.c 1 _ rfl
  have q0_2 : U6.cell? ⟨w.heap.size, 2, none⟩ = some (.int .i64 x.wallet) := B0.c 2 _ rfl
  have q0_3 : U6.cell? ⟨w.heap.size, 3, none⟩ = some (.slice a0_0 x.chans.length c0_0) := B0.c 3 _ rfl
  have q0_4 : U6.cell? ⟨w.heap.size, 4, none⟩ = some (.slice a0_1 x.htlcs.length c0_1) := B0.c 4 _ rfl
  have q0_5 : U6.cell? ⟨w.heap.size, 5, none⟩ = some (.slice a0_2 x.circles.length c0_2) := B0.c 5 _ rfl
  have f0 := B0.f
  have q1_0 : U6.cell? ⟨U3.heap.size, 0, none⟩ = some (.int .i64 y.id) := B1.c 0 _ rfl
  have q1_1 : U6.cell? ⟨U3.heap.size, 1, none⟩ = some (.int .i64 y.size) := B1.c 1 _ rfl
  have q1_2 : U6.cell? ⟨U3.heap.size, 2, none⟩ = some (.int .i64 y.loc) := B1.c 2 _ rfl
  have q1_3 : U6.cell? ⟨U3.heap.size, 3, none⟩ = some (.int .i64 y.remote) := B1.c 3 _ rfl
  have q1_4 : U6.cell? ⟨U3.heap.size, 4, none⟩ = some (.int .i64 y.base) := B1.c 4 _ rfl
  have q1_5 : U6.cell? ⟨U3.heap.size, 5, none⟩ = some (.int .i64 y.ppm) := B1.c 5 _ rfl
  have q1_6 : U6.cell? ⟨U3.heap.size, 6, none⟩ = some (.int .i64 y.score) := B1.c 6 _ rfl
  have f1 := B1.f
  have q2_0 : U6.cell? ⟨U4.heap.size, 0, none⟩ = some (.int .i64 x.tick) := B2.c 0 _ rfl
  have q2_1 : U6.cell? ⟨U4.heap.size, 1, none⟩ = some (.int .i64 x.next) := B2.c 1 _ rfl
  have q2_2 : U6.cell? ⟨U4.heap.size, 2, none⟩ = some (.int .i64 x.wallet) := B2.c 2 _ rfl
  have q2_3 : U6.cell? ⟨U4.heap.size, 3, none⟩ = some (.slice A4_0 x.chans.length C4_0) := B2.c 3 _ rfl
  have q2_4 : U6.cell? ⟨U4.heap.size, 4, none⟩ = some (.slice A4_1 x.htlcs.length C4_1) := B2.c 4 _ rfl
  have q2_5 : U6.cell? ⟨U4.heap.size, 5, none⟩ = some (.slice A4_2 x.circles.length C4_2) := B2.c 5 _ rfl
  have f2 := B2.f
  have q3_0 : U6.cell? ⟨U5.heap.size, 0, none⟩ = some (.int .i64 y.id) := B3.c 0 _ rfl
  have q3_1 : U6.cell? ⟨U5.heap.size, 1, none⟩ = some (.int .i64 y.size) := B3.c 1 _ rfl
  have q3_2 : U6.cell? ⟨U5.heap.size, 2, none⟩ = some (.int .i64 y.loc) := B3.c 2 _ rfl
  have q3_3 : U6.cell? ⟨U5.heap.size, 3, none⟩ = some (.int .i64 y.remote) := B3.c 3 _ rfl
  have q3_4 : U6.cell? ⟨U5.heap.size, 4, none⟩ = some (.int .i64 y.base) := B3.c 4 _ rfl
  have q3_5 : U6.cell? ⟨U5.heap.size, 5, none⟩ = some (.int .i64 y.ppm) := B3.c 5 _ rfl
  have q3_6 : U6.cell? ⟨U5.heap.size, 6, none⟩ = some (.int .i64 y.score) := B3.c 6 _ rfl
  have f3 := B3.f
  go_wp2_with fail
  have KH0_0 := (H0_0.out.grow' repChan_stable (Grow.below G))
  have KH0_1 := (H0_1.out.grow' repHtlc_stable (Grow.below G))
  have KH0_2 := (H0_2.out.grow' repCircle_stable (Grow.below G))
  have KS2_0 := (S2_0.all repChan_stable (by omega))
  have KS2_1 := (S2_1.all repHtlc_stable (by omega))
  have KS2_2 := (S2_2.all repCircle_stable (by omega))
  have KS4_0 := (S4_0.all repChan_stable (by omega))
  have KS4_1 := (S4_1.all repHtlc_stable (by omega))
  have KS4_2 := (S4_2.all repCircle_stable (by omega))
  go_region_held3 (fun W => W.cell? ⟨U4.heap.size, 0, none⟩ = some (.int .i64 x.tick) ∧ W.cell? ⟨U4.heap.size, 1, none⟩ = some (.int .i64 x.next) ∧ W.cell? ⟨U4.heap.size, 2, none⟩ = some (.int .i64 x.wallet) ∧ W.cell? ⟨U4.heap.size, 3, none⟩ = some (.slice A4_0 x.chans.length C4_0) ∧ W.cell? ⟨U4.heap.size, 4, none⟩ = some (.slice A4_1 x.htlcs.length C4_1) ∧ W.cell? ⟨U4.heap.size, 5, none⟩ = some (.slice A4_2 x.circles.length C4_2) ∧ W.cell? ⟨w.heap.size, 0, none⟩ = some (.int .i64 x.tick) ∧ W.cell? ⟨w.heap.size, 1, none⟩ = some (.int .i64 x.next) ∧ W.cell? ⟨w.heap.size, 2, none⟩ = some (.int .i64 x.wallet) ∧ W.cell? ⟨w.heap.size, 3, none⟩ = some (.slice a0_0 x.chans.length c0_0) ∧ W.cell? ⟨w.heap.size, 4, none⟩ = some (.slice a0_1 x.htlcs.length c0_1) ∧ W.cell? ⟨w.heap.size, 5, none⟩ = some (.slice a0_2 x.circles.length c0_2))
    (first
      | exact ⟨q2_0, q2_1, q2_2, q2_3, q2_4, q2_5, q0_0, q0_1, q0_2, q0_3, q0_4, q0_5⟩
      | exact ⟨(cellGrow g7 q2_0), (cellGrow g7 q2_1), (cellGrow g7 q2_2), (cellGrow g7 q2_3), (cellGrow g7 q2_4), (cellGrow g7 q2_5), (cellGrow g7 q0_0), (cellGrow g7 q0_1), (cellGrow g7 q0_2), (cellGrow g7 q0_3), (cellGrow g7 q0_4), (cellGrow g7 q0_5)⟩
      | exact ⟨(cellGrow g8 (cellGrow g7 q2_0)), (cellGrow g8 (cellGrow g7 q2_1)), (cellGrow g8 (cellGrow g7 q2_2)), (cellGrow g8 (cellGrow g7 q2_3)), (cellGrow g8 (cellGrow g7 q2_4)), (cellGrow g8 (cellGrow g7 q2_5)), (cellGrow g8 (cellGrow g7 q0_0)), (cellGrow g8 (cellGrow g7 q0_1)), (cellGrow g8 (cellGrow g7 q0_2)), (cellGrow g8 (cellGrow g7 q0_3)), (cellGrow g8 (cellGrow g7 q0_4)), (cellGrow g8 (cellGrow g7 q0_5))⟩)
    (first
      | (go_at_call 20; refine (toBook_c x _ _ _ _ _ _ _ (KH0_0.grow' repChan_stable (Grow.below (by repeat (first | exact Grow.refl _ | (refine Grow.alloc ?_ _ _) | (refine Grow.drew ?_) | (refine Grow.trans ?_ (by assumption)))))) (KH0_1.grow' repHtlc_stable (Grow.below (by repeat (first | exact Grow.refl _ | (refine Grow.alloc ?_ _ _) | (refine Grow.drew ?_) | (refine Grow.trans ?_ (by assumption)))))) (KH0_2.grow' repCircle_stable (Grow.below (by repeat (first | exact Grow.refl _ | (refine Grow.alloc ?_ _ _) | (refine Grow.drew ?_) | (refine Grow.trans ?_ (by assumption)))))) Bx_0 Bx_1 Bx_2).mono ?_; rintro e U7 ⟨A7_0, C7_0, P7_0, Q7_0, A7_1, C7_1, P7_1, Q7_1, A7_2, C7_2, P7_2, Q7_2, rfl, g7, O7, S7_0, S7_1, S7_2⟩; have y7 := Grow.size g7; have KS7_0 : SlR 7 repChan U7 0 U7.heap.size (.slice A7_0 x.chans.length C7_0) x.chans := S7_0.all repChan_stable (by omega); have KS7_1 : SlR 7 repHtlc U7 0 U7.heap.size (.slice A7_1 x.htlcs.length C7_1) x.htlcs := S7_1.all repHtlc_stable (by omega); have KS7_2 : SlR 5 repCircle U7 0 U7.heap.size (.slice A7_2 x.circles.length C7_2) x.circles := S7_2.all repCircle_stable (by omega))
      | (go_at_call 15; refine (eqBook_c x _ _ _ _ _ _ _ _ _ _ _ _ _ (KS4_0.grow' repChan_stable (Grow.below (by repeat (first | exact Grow.refl _ | (refine Grow.alloc ?_ _ _) | (refine Grow.drew ?_) | (refine Grow.trans ?_ (by assumption)))))) (KS7_0.grow' repChan_stable (Grow.below (by repeat (first | exact Grow.refl _ | (refine Grow.alloc ?_ _ _) | (refine Grow.drew ?_) | (refine Grow.trans ?_ (by assumption)))))) (KS4_1.grow' repHtlc_stable (Grow.below (by repeat (first | exact Grow.refl _ | (refine Grow.alloc ?_ _ _) | (refine Grow.drew ?_) | (refine Grow.trans ?_ (by assumption)))))) (KS7_1.grow' repHtlc_stable (Grow.below (by repeat (first | exact Grow.refl _ | (refine Grow.alloc ?_ _ _) | (refine Grow.drew ?_) | (refine Grow.trans ?_ (by assumption)))))) (KS4_2.grow' repCircle_stable (Grow.below (by repeat (first | exact Grow.refl _ | (refine Grow.alloc ?_ _ _) | (refine Grow.drew ?_) | (refine Grow.trans ?_ (by assumption)))))) (KS7_2.grow' repCircle_stable (Grow.below (by repeat (first | exact Grow.refl _ | (refine Grow.alloc ?_ _ _) | (refine Grow.drew ?_) | (refine Grow.trans ?_ (by assumption))))))).mono ?_; rintro e U8 ⟨rfl, g8⟩; have y8 := Grow.size g8))
  have gs : Grow U6 U8 := by repeat (first | exact Grow.refl _ | (refine Grow.alloc ?_ _ _) | (refine Grow.drew ?_) | (refine Grow.trans ?_ (by assumption)))
  clear g7 g8
  clear z0 z1 z2 z3 q0_0 q0_1 q0_2 q0_3 q0_4 q0_5 f0 q1_0 q1_1 q1_2 q1_3 q1_4 q1_5 q1_6 f1 q2_0 q2_1 q2_2 q2_3 q2_4 q2_5 f2 q3_0 q3_1 q3_2 q3_3 q3_4 q3_5 q3_6 f3
  have ys := Grow.size gs
  replace B0 : Box U8 (w.heap.size) [.int .i64 x.tick, .int .i64 x.next, .int .i64 x.wallet, .slice a0_0 x.chans.length c0_0, .slice a0_1 x.htlcs.length c0_1, .slice a0_2 x.circles.length c0_2] := Box.grow B0 gs
  replace B1 : Box U8 (U3.heap.size) [.int .i64 y.id, .int .i64 y.size, .int .i64 y.loc, .int .i64 y.remote, .int .i64 y.base, .int .i64 y.ppm, .int .i64 y.score] := Box.grow B1 gs
  replace B2 : Box U8 (U4.heap.size) [.int .i64 x.tick, .int .i64 x.next, .int .i64 x.wallet, .slice A4_0 x.chans.length C4_0, .slice A4_1 x.htlcs.length C4_1, .slice A4_2 x.circles.length C4_2] := Box.grow B2 gs
  replace B3 : Box U8 (U5.heap.size) [.int .i64 y.id, .int .i64 y.size, .int .i64 y.loc, .int .i64 y.remote, .int .i64 y.base, .int .i64 y.ppm, .int .i64 y.score] := Box.grow B3 gs
  replace S2_0 := S2_0.same repChan_stable (gs.same (by omega))
  replace S2_1 := S2_1.same repHtlc_stable (gs.same (by omega))
  replace S2_2 := S2_2.same repCircle_stable (gs.same (by omega))
  replace S4_0 := S4_0.same repChan_stable (gs.same (by omega))
  replace S4_1 := S4_1.same repHtlc_stable (gs.same (by omega))
  replace S4_2 := S4_2.same repCircle_stable (gs.same (by omega))
  replace G : Grow w U8 := Grow.trans G gs
  clear gs
  have z0 := B0.lt
  have z1 := B1.lt
  have z2 := B2.lt
  have z3 := B3.lt
  have q0_0 : U8.cell? ⟨w.heap.size, 0, none⟩ = some (.int .i64 x.tick) := B0.c 0 _ rfl
  have q0_1 : U8.cell? ⟨w.heap.size, 1, none⟩ = some (.int .i64 x.next) := B0.c 1 _ rfl
  have q0_2 : U8.cell? ⟨w.heap.size, 2, none⟩ = some (.int .i64 x.wallet) := B0.c 2 _ rfl
  have q0_3 : U8.cell? ⟨w.heap.size, 3, none⟩ = some (.slice a0_0 x.chans.length c0_0) := B0.c 3 _ rfl
  have q0_4 : U8.cell? ⟨w.heap.size, 4, none⟩ = some (.slice a0_1 x.htlcs.length c0_1) := B0.c 4 _ rfl
  have q0_5 : U8.cell? ⟨w.heap.size, 5, none⟩ = some (.slice a0_2 x.circles.length c0_2) := B0.c 5 _ rfl
  have f0 := B0.f
  have q1_0 : U8.cell? ⟨U3.heap.size, 0, none⟩ = some (.int .i64 y.id) := B1.c 0 _ rfl
  have q1_1 : U8.cell? ⟨U3.heap.size, 1, none⟩ = some (.int .i64 y.size) := B1.c 1 _ rfl
  have q1_2 : U8.cell? ⟨U3.heap.size, 2, none⟩ = some (.int .i64 y.loc) := B1.c 2 _ rfl
  have q1_3 : U8.cell? ⟨U3.heap.size, 3, none⟩ = some (.int .i64 y.remote) := B1.c 3 _ rfl
  have q1_4 : U8.cell? ⟨U3.heap.size, 4, none⟩ = some (.int .i64 y.base) := B1.c 4 _ rfl
  have q1_5 : U8.cell? ⟨U3.heap.size, 5, none⟩ = some (.int .i64 y.ppm) := B1.c 5 _ rfl
  have q1_6 : U8.cell? ⟨U3.heap.size, 6, none⟩ = some (.int .i64 y.score) := B1.c 6 _ rfl
  have f1 := B1.f
  have q2_0 : U8.cell? ⟨U4.heap.size, 0, none⟩ = some (.int .i64 x.tick) := B2.c 0 _ rfl
  have q2_1 : U8.cell? ⟨U4.heap.size, 1, none⟩ = some (.int .i64 x.next) := B2.c 1 _ rfl
  have q2_2 : U8.cell? ⟨U4.heap.size, 2, none⟩ = some (.int .i64 x.wallet) := B2.c 2 _ rfl
  have q2_3 : U8.cell? ⟨U4.heap.size, 3, none⟩ = some (.slice A4_0 x.chans.length C4_0) := B2.c 3 _ rfl
  have q2_4 : U8.cell? ⟨U4.heap.size, 4, none⟩ = some (.slice A4_1 x.htlcs.length C4_1) := B2.c 4 _ rfl
  have q2_5 : U8.cell? ⟨U4.heap.size, 5, none⟩ = some (.slice A4_2 x.circles.length C4_2) := B2.c 5 _ rfl
  have f2 := B2.f
  have q3_0 : U8.cell? ⟨U5.heap.size, 0, none⟩ = some (.int .i64 y.id) := B3.c 0 _ rfl
  have q3_1 : U8.cell? ⟨U5.heap.size, 1, none⟩ = some (.int .i64 y.size) := B3.c 1 _ rfl
  have q3_2 : U8.cell? ⟨U5.heap.size, 2, none⟩ = some (.int .i64 y.loc) := B3.c 2 _ rfl
  have q3_3 : U8.cell? ⟨U5.heap.size, 3, none⟩ = some (.int .i64 y.remote) := B3.c 3 _ rfl
  have q3_4 : U8.cell? ⟨U5.heap.size, 4, none⟩ = some (.int .i64 y.base) := B3.c 4 _ rfl
  have q3_5 : U8.cell? ⟨U5.heap.size, 5, none⟩ = some (.int .i64 y.ppm) := B3.c 5 _ rfl
  have q3_6 : U8.cell? ⟨U5.heap.size, 6, none⟩ = some (.int .i64 y.score) := B3.c 6 _ rfl
  have f3 := B3.f
  go_wp2_with fail
  go_ret
  exact ⟨rfl, by repeat (first | exact G | (refine Grow.alloc ?_ _ _) | (refine Grow.drew ?_) | (refine Grow.drewN ?_ _))⟩
end Go.Proofs.Ytigbjpllckgilaa
