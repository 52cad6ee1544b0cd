/- FnExactMoves is proved: the given statement holds with no condition. Texts joined: LFnExactMoves, CFnExactMoves. -/
import Derived.Test.YtbjnbhlpibadnaaJExactMoves6
import Derived.Test.YtbjnbhlpibadnaaJExactMoves2
import Derived.Deep.RegionHeld3
import Derived.Test.YtbjnbhlpibadnaaRows
import Derived.Test.YtbjnbhlpibadnaaJExactMoves1
/- The law FnExactMoves, walked over the contracts. -/
namespace Go.Proofs.Ytbjnbhlpibadnaa
open Go.RowKit
set_option linter.unusedSimpArgs false
set_option linter.unusedVariables false

set_option maxHeartbeats 8000000 in
set_option maxRecDepth 100000 in
theorem FnExactMoves_walk (x : Book) (a0_0 : Option Addr) (c0_0 : Nat) (a0_1 : Option Addr) (c0_1 : Nat) (a0_2 : Option Addr) (c0_2 : Nat) (lo : Int) (hi : Int) (gain : Int) (l : List Price) (a4 : Option Addr) (c4 : Nat) (w : World) (h0_0 : SlR 7 repChan w 0 w.heap.size (.slice a0_0 x.chans.length c0_0) x.chans) (h0_1 : SlR 7 repHtlc w 0 w.heap.size (.slice a0_1 x.htlcs.length c0_1) x.htlcs) (h0_2 : SlR 5 repCircle w 0 w.heap.size (.slice a0_2 x.circles.length c0_2) x.circles) (wf0 : wfBook x) (i1 : i64 lo) (i2 : i64 hi) (i3 : i64 gain) (h4 : SlR 3 repPrice w 0 w.heap.size (.slice a4 l.length c4) l) :
    Calls Try.prog 8 #[.agg #[.int .i64 x.tick, .int .i64 x.next, .int .i64 x.wallet, .slice a0_0 x.chans.length c0_0, .slice a0_1 x.htlcs.length c0_1, .slice a0_2 x.circles.length c0_2], .int .i64 lo, .int .i64 hi, .int .i64 gain, .slice a4 l.length c4] w fun e w' => e = .returned (.bool true) ∧ Grow w w' := by
  have H0_0 := Lib.hid h0_0
  have H0_1 := Lib.hid h0_1
  have H0_2 := Lib.hid h0_2
  have H4 := Lib.hid h4
  clear h0_0 h0_1 h0_2 h4
  by_cases t0 : szBook x (1048576 : Int) < 0
  · go_enter Try.func8, Try.ntmps8
    go_wp2_with fail
    obtain ⟨V1, hV⟩ : ∃ V, V = (w.alloc (.cells #[.int .i64 x.tick, .int .i64 x.next, .int .i64 x.wallet, .slice a0_0 x.chans.length c0_0, .slice a0_1 x.htlcs.length c0_1, .slice a0_2 x.circles.length c0_2] 47)) := ⟨_, rfl⟩
    have G' : Grow w V1 := by rw [hV]; exact ((Grow.refl w).alloc _ _)
    have gs : Grow w V1 := by rw [hV]; exact ((Grow.refl w).alloc _ _)
    have B0 : Box V1 (w.heap.size) [.int .i64 x.tick, .int .i64 x.next, .int .i64 x.wallet, .slice a0_0 x.chans.length c0_0, .slice a0_1 x.htlcs.length c0_1, .slice a0_2 x.circles.length c0_2] := by rw [hV]; exact Box.newAt (by simp) _ _
    have ys : V1.heap.size = w.heap.size + 1 := by rw [hV]; simp
    have G := G'
    clear G'
    rw [← hV]
    clear hV
    clear gs
    have z0 := B0.lt
    have q0_0 : V1.cell? ⟨w.heap.size, 0, none⟩ = some (.int .i64 x.tick) := B0.c 0 _ rfl
    have q0_1 : V1.cell? ⟨w.heap.size, 1, none⟩ = some (.int .i64 x.next) := B0.c 1 _ rfl
    have q0_2 : V1.cell? ⟨w.heap.size, 2, none⟩ = some (.int .i64 x.wallet) := B0.c 2 _ rfl
    have q0_3 : V1.cell? ⟨w.heap.size, 3, none⟩ = some (.slice a0_0 x.chans.length c0_0) := B0.c 3 _ rfl
    have q0_4 : V1.cell? ⟨w.heap.size, 4, none⟩ = some (.slice a0_1 x.htlcs.length c0_1) := B0.c 4 _ rfl
    have q0_5 : V1.cell? ⟨w.heap.size, 5, none⟩ = some (.slice a0_2 x.circles.length c0_2) := B0.c 5 _ rfl
    have f0 := B0.f
    refine (szBook_c x _ _ _ _ _ _ _ _ (H0_0.out.grow' repChan_stable (Grow.below G)) (H0_1.out.grow' repHtlc_stable (Grow.below G)) (H0_2.out.grow' repCircle_stable (Grow.below G)) (by omega) (by omega)).mono ?_
    rintro e U1 ⟨rfl, gs⟩
    clear z0 q0_0 q0_1 q0_2 q0_3 q0_4 q0_5 f0
    have ys := Grow.size gs
    replace B0 : Box U1 (w.heap.size) [.int .i64 x.tick, .int .i64 x.next, .int .i64 x.wallet, .slice a0_0 x.chans.length c0_0, .slice a0_1 x.htlcs.length c0_1, .slice a0_2 x.circles.length c0_2] := Box.grow B0 gs
    replace G : Grow w U1 := Grow.trans G gs
    clear gs
    have z0 := B0.lt
    have q0_0 : U1.cell? ⟨w.heap.size, 0, none⟩ = some (.int .i64 x.tick) := B0.c 0 _ rfl
    have q0_1 : U1.cell? ⟨w.heap.size, 1, none⟩ = some (.int .i64 x.next) := B0.c 1 _ rfl
    have q0_2 : U1.cell? ⟨w.heap.size, 2, none⟩ = some (.int .i64 x.wallet) := B0.c 2 _ rfl
    have q0_3 : U1.cell? ⟨w.heap.size, 3, none⟩ = some (.slice a0_0 x.chans.length c0_0) := B0.c 3 _ rfl
    have q0_4 : U1.cell? ⟨w.heap.size, 4, none⟩ = some (.slice a0_1 x.htlcs.length c0_1) := B0.c 4 _ rfl
    have q0_5 : U1.cell? ⟨w.heap.size, 5, none⟩ = some (.slice a0_2 x.circles.length c0_2) := B0.c 5 _ rfl
    have f0 := B0.f
    go_wp2_with fail
    go_ret
    exact ⟨rfl, by repeat (first | exact G | (refine Grow.alloc ?_ _ _) | (refine Grow.drew ?_) | (refine Grow.drewN ?_ _))⟩
  obtain ⟨L0, Bx_0, Bx_1, Bx_2⟩ := szBook_le x (1048576 : Int) (by omega) (by omega)
  by_cases t1 : szL l.length (szBook x (1048576 : Int)) < 0
  · go_enter Try.func8, Try.ntmps8
    go_wp2_with fail
    obtain ⟨V1, hV⟩ : ∃ V, V = (w.alloc (.cells #[.int .i64 x.tick, .int .i64 x.next, .int .i64 x.wallet, .slice a0_0 x.chans.length c0_0, .slice a0_1 x.htlcs.length c0_1, .slice a0_2 x.circles.length c0_2] 47)) := ⟨_, rfl⟩
    have G' : Grow w V1 := by rw [hV]; exact ((Grow.refl w).alloc _ _)
    have gs : Grow w V1 := by rw [hV]; exact ((Grow.refl w).alloc _ _)
    have B0 : Box V1 (w.heap.size) [.int .i64 x.tick, .int .i64 x.next, .int .i64 x.wallet, .slice a0_0 x.chans.length c0_0, .slice a0_1 x.htlcs.length c0_1, .slice a0_2 x.circles.length c0_2] := by rw [hV]; exact Box.newAt (by simp) _ _
    have ys : V1.heap.size = w.heap.size + 1 := by rw [hV]; simp
    have G := G'
    clear G'
    rw [← hV]
    clear hV
    clear gs
    have z0 := B0.lt
    have q0_0 : V1.cell? ⟨w.heap.size, 0, none⟩ = some (.int .i64 x.tick) := B0.c 0 _ rfl
    have q0_1 : V1.cell? ⟨w.heap.size, 1, none⟩ = some (.int .i64 x.next) := B0.c 1 _ rfl
    have q0_2 : V1.cell? ⟨w.heap.size, 2, none⟩ = some (.int .i64 x.wallet) := B0.c 2 _ rfl
    have q0_3 : V1.cell? ⟨w.heap.size, 3, none⟩ = some (.slice a0_0 x.chans.length c0_0) := B0.c 3 _ rfl
    have q0_4 : V1.cell? ⟨w.heap.size, 4, none⟩ = some (.slice a0_1 x.htlcs.length c0_1) := B0.c 4 _ rfl
    have q0_5 : V1.cell? ⟨w.heap.size, 5, none⟩ = some (.slice a0_2 x.circles.length c0_2) := B0.c 5 _ rfl
    have f0 := B0.f
    refine (szBook_c x _ _ _ _ _ _ _ _ (H0_0.out.grow' repChan_stable (Grow.below G)) (H0_1.out.grow' repHtlc_stable (Grow.below G)) (H0_2.out.grow' repCircle_stable (Grow.below G)) (by omega) (by omega)).mono ?_
    rintro e U1 ⟨rfl, gs⟩
    clear z0 q0_0 q0_1 q0_2 q0_3 q0_4 q0_5 f0
    have ys := Grow.size gs
    replace B0 : Box U1 (w.heap.size) [.int .i64 x.tick, .int .i64 x.next, .int .i64 x.wallet, .slice a0_0 x.chans.length c0_0, .slice a0_1 x.htlcs.length c0_1, .slice a0_2 x.circles.length c0_2] := Box.grow B0 gs
    replace G : Grow w U1 := Grow.trans G gs
    clear gs
    have z0 := B0.lt
    have q0_0 : U1.cell? ⟨w.heap.size, 0, none⟩ = some (.int .i64 x.tick) := B0.c 0 _ rfl
    have q0_1 : U1.cell? ⟨w.heap.size, 1, none⟩ = some (.int .i64 x.next) := B0.c 1 _ rfl
    have q0_2 : U1.cell? ⟨w.heap.size, 2, none⟩ = some (.int .i64 x.wallet) := B0.c 2 _ rfl
    have q0_3 : U1.cell? ⟨w.heap.size, 3, none⟩ = some (.slice a0_0 x.chans.length c0_0) := B0.c 3 _ rfl
    have q0_4 : U1.cell? ⟨w.heap.size, 4, none⟩ = some (.slice a0_1 x.htlcs.length c0_1) := B0.c 4 _ rfl
    have q0_5 : U1.cell? ⟨w.heap.size, 5, none⟩ = some (.slice a0_2 x.circles.length c0_2) := B0.c 5 _ rfl
    have f0 := B0.f
    go_wp2_with fail
    refine (szPriceS_c _ _ _ _ _ (by have hh := (H4.out.grow' repPrice_stable (Grow.below G)); obtain ⟨_, _, _, _, hh2, _⟩ := hh; unfold maxLen at hh2; omega) (by omega) (by omega)).mono ?_
    rintro e U2 ⟨rfl, gs⟩
    clear z0 q0_0 q0_1 q0_2 q0_3 q0_4 q0_5 f0
    have ys := Grow.size gs
    replace B0 : Box U2 (w.heap.size) [.int .i64 x.tick, .int .i64 x.next, .int .i64 x.wallet, .slice a0_0 x.chans.length c0_0, .slice a0_1 x.htlcs.length c0_1, .slice a0_2 x.circles.length c0_2] := Box.grow B0 gs
    replace G : Grow w U2 := Grow.trans G gs
    clear gs
    have z0 := B0.lt
    have q0_0 : U2.cell? ⟨w.heap.size, 0, none⟩ = some (.int .i64 x.tick) := B0.c 0 _ rfl
    have q0_1 : U2.cell? ⟨w.heap.size, 1, none⟩ = some (.int .i64 x.next) := B0.c 1 _ rfl
    have q0_2 : U2.cell? ⟨w.heap.size, 2, none⟩ = some (.int .i64 x.wallet) := B0.c 2 _ rfl
    have q0_3 : U2.cell? ⟨w.heap.size, 3, none⟩ = some (.slice a0_0 x.chans.length c0_0) := B0.c 3 _ rfl
    have q0_4 : U2.cell? ⟨w.heap.size, 4, none⟩ = some (.slice a0_1 x.htlcs.length c0_1) := B0.c 4 _ rfl
    have q0_5 : U2.cell? ⟨w.heap.size, 5, none⟩ = some (.slice a0_2 x.circles.length c0_2) := B0.c 5 _ rfl
    have f0 := B0.f
    go_wp2_with fail
    go_ret
    exact ⟨rfl, by repeat (first | exact G | (refine Grow.alloc ?_ _ _) | (refine Grow.drew ?_) | (refine Grow.drewN ?_ _))⟩
  obtain ⟨L1, Bl⟩ := szL_le l.length (szBook x (1048576 : Int)) (by omega)
  have Bl : l.length ≤ 1048576 := by omega
  go_enter Try.func8, Try.ntmps8
  go_wp2_with fail
  obtain ⟨V1, hV⟩ : ∃ V, V = (w.alloc (.cells #[.int .i64 x.tick, .int .i64 x.next, .int .i64 x.wallet, .slice a0_0 x.chans.length c0_0, .slice a0_1 x.htlcs.length c0_1, .slice a0_2 x.circles.length c0_2] 47)) := ⟨_, rfl⟩
  have G' : Grow w V1 := by rw [hV]; exact ((Grow.refl w).alloc _ _)
  have gs : Grow w V1 := by rw [hV]; exact ((Grow.refl w).alloc _ _)
  have B0 : Box V1 (w.heap.size) [.int .i64 x.tick, .int .i64 x.next, .int .i64 x.wallet, .slice a0_0 x.chans.length c0_0, .slice a0_1 x.htlcs.length c0_1, .slice a0_2 x.circles.length c0_2] := by rw [hV]; exact Box.newAt (by simp) _ _
  have ys : V1.heap.size = w.heap.size + 1 := by rw [hV]; simp
  have G := G'
  clear G'
  rw [← hV]
  clear hV
  clear gs
  have z0 := B0.lt
  have q0_0 : V1.cell? ⟨w.heap.size, 0, none⟩ = some (.int .i64 x.tick) := B0.c 0 _ rfl
  have q0_1 : V1.cell? ⟨w.heap.size, 1, none⟩ = some (.int .i64 x.next) := B0.c 1 _ rfl
  have q0_2 : V1.cell? ⟨w.heap.size, 2, none⟩ = some (.int .i64 x.wallet) := B0.c 2 _ rfl
  have q0_3 : V1.cell? ⟨w.heap.size, 3, none⟩ = some (.slice a0_0 x.chans.length c0_0) := B0.c 3 _ rfl
  have q0_4 : V1.cell? ⟨w.heap.size, 4, none⟩ = some (.slice a0_1 x.htlcs.length c0_1) := B0.c 4 _ rfl
  have q0_5 : V1.cell? ⟨w.heap.size, 5, none⟩ = some (.slice a0_2 x.circles.length c0_2) := B0.c 5 _ rfl
  have f0 := B0.f
  refine (szBook_c x _ _ _ _ _ _ _ _ (H0_0.out.grow' repChan_stable (Grow.below G)) (H0_1.out.grow' repHtlc_stable (Grow.below G)) (H0_2.out.grow' repCircle_stable (Grow.below G)) (by omega) (by omega)).mono ?_
  rintro e U1 ⟨rfl, gs⟩
  clear z0 q0_0 q0_1 q0_2 q0_3 q0_4 q0_5 f0
  have ys := Grow.size gs
  replace B0 : Box U1 (w.heap.size) [.int .i64 x.tick, .int .i64 x.next, .int .i64 x.wallet, .slice a0_0 x.chans.length c0_0, .slice a0_1 x.htlcs.length c0_1, .slice a0_2 x.circles.length c0_2] := Box.grow B0 gs
  replace G : Grow w U1 := Grow.trans G gs
  clear gs
  have z0 := B0.lt
  have q0_0 : U1.cell? ⟨w.heap.size, 0, none⟩ = some (.int .i64 x.tick) := B0.c 0 _ rfl
  have q0_1 : U1.cell? ⟨w.heap.size, 1, none⟩ = some (.int .i64 x.next) := B0.c 1 _ rfl
  have q0_2 : U1.cell? ⟨w.heap.size, 2, none⟩ = some (.int .i64 x.wallet) := B0.c 2 _ rfl
  have q0_3 : U1.cell? ⟨w.heap.size, 3, none⟩ = some (.slice a0_0 x.chans.length c0_0) := B0.c 3 _ rfl
  have q0_4 : U1.cell? ⟨w.heap.size, 4, none⟩ = some (.slice a0_1 x.htlcs.length c0_1) := B0.c 4 _ rfl
  have q0_5 : U1.cell? ⟨w.heap.size, 5, none⟩ = some (.slice a0_2 x.circles.length c0_2) := B0.c 5 _ rfl
  have f0 := B0.f
  go_wp2_with fail
  refine (szPriceS_c _ _ _ _ _ (by have hh := (H4.out.grow' repPrice_stable (Grow.below G)); obtain ⟨_, _, _, _, hh2, _⟩ := hh; unfold maxLen at hh2; omega) (by omega) (by omega)).mono ?_
  rintro e U2 ⟨rfl, gs⟩
  clear z0 q0_0 q0_1 q0_2 q0_3 q0_4 q0_5 f0
  have ys := Grow.size gs
  replace B0 : Box U2 (w.heap.size) [.int .i64 x.tick, .int .i64 x.next, .int .i64 x.wallet, .slice a0_0 x.chans.length c0_0, .slice a0_1 x.htlcs.length c0_1, .slice a0_2 x.circles.length c0_2] := Box.grow B0 gs
  replace G : Grow w U2 := Grow.trans G gs
  clear gs
  have z0 := B0.lt
  have q0_0 : U2.cell? ⟨w.heap.size, 0, none⟩ = some (.int .i64 x.tick) := B0.c 0 _ rfl
  have q0_1 : U2.cell? ⟨w.heap.size, 1, none⟩ = some (.int .i64 x.next) := B0.c 1 _ rfl
  have q0_2 : U2.cell? ⟨w.heap.size, 2, none⟩ = some (.int .i64 x.wallet) := B0.c 2 _ rfl
  have q0_3 : U2.cell? ⟨w.heap.size, 3, none⟩ = some (.slice a0_0 x.chans.length c0_0) := B0.c 3 _ rfl
  have q0_4 : U2.cell? ⟨w.heap.size, 4, none⟩ = some (.slice a0_1 x.htlcs.length c0_1) := B0.c 4 _ rfl
  have q0_5 : U2.cell? ⟨w.heap.size, 5, none⟩ = some (.slice a0_2 x.circles.length c0_2) := B0.c 5 _ rfl
  have f0 := B0.f
  go_wp2_with fail
  refine (toBook_c x _ _ _ _ _ _ _ (H0_0.out.grow' repChan_stable (Grow.below G)) (H0_1.out.grow' repHtlc_stable (Grow.below G)) (H0_2.out.grow' repCircle_stable (Grow.below G)) Bx_0 Bx_1 Bx_2).mono ?_
  rintro e U3 ⟨A3_0, C3_0, P3_0, Q3_0, A3_1, C3_1, P3_1, Q3_1, A3_2, C3_2, P3_2, Q3_2, rfl, gs, O3, S3_0, S3_1, S3_2⟩
  clear z0 q0_0 q0_1 q0_2 q0_3 q0_4 q0_5 f0
  have ys := Grow.size gs
  replace B0 : Box U3 (w.heap.size) [.int .i64 x.tick, .int .i64 x.next, .int .i64 x.wallet, .slice a0_0 x.chans.length c0_0, .slice a0_1 x.htlcs.length c0_1, .slice a0_2 x.circles.length c0_2] := Box.grow B0 gs
  replace G : Grow w U3 := Grow.trans G gs
  clear gs
  have z0 := B0.lt
  have q0_0 : U3.cell? ⟨w.heap.size, 0, none⟩ = some (.int .i64 x.tick) := B0.c 0 _ rfl
  have q0_1 : U3.cell? ⟨w.heap.size, 1, none⟩ = some (.int .i64 x.next) := B0.c 1 _ rfl
  have q0_2 : U3.cell? ⟨w.heap.size, 2, none⟩ = some (.int .i64 x.wallet) := B0.c 2 _ rfl
  have q0_3 : U3.cell? ⟨w.heap.size, 3, none⟩ = some (.slice a0_0 x.chans.length c0_0) := B0.c 3 _ rfl
  have q0_4 : U3.cell? ⟨w.heap.size, 4, none⟩ = some (.slice a0_1 x.htlcs.length c0_1) := B0.c 4 _ rfl
  have q0_5 : U3.cell? ⟨w.heap.size, 5, none⟩ = some (.slice a0_2 x.circles.length c0_2) := B0.c 5 _ rfl
  have f0 := B0.f
  go_wp2_with fail
  refine (toPriceS_c l _ _ _ (H4.out.grow' repPrice_stable (Grow.below G)) Bl).mono ?_
  rintro e U4 ⟨A4_0, C4_0, rfl, gs, S4_0⟩
  clear z0 q0_0 q0_1 q0_2 q0_3 q0_4 q0_5 f0
  have ys := Grow.size gs
  replace B0 : Box U4 (w.heap.size) [.int .i64 x.tick, .int .i64 x.next, .int .i64 x.wallet, .slice a0_0 x.chans.length c0_0, .slice a0_1 x.htlcs.length c0_1, .slice a0_2 x.circles.length c0_2] := Box.grow B0 gs
  replace S3_0 := S3_0.same repChan_stable (gs.same (by omega))
  replace S3_1 := S3_1.same repHtlc_stable (gs.same (by omega))
  replace S3_2 := S3_2.same repCircle_stable (gs.same (by omega))
  replace G : Grow w U4 := Grow.trans G gs
  clear gs
  have z0 := B0.lt
  have q0_0 : U4.cell? ⟨w.heap.size, 0, none⟩ = some (.int .i64 x.tick) := B0.c 0 _ rfl
  have q0_1 : U4.cell? ⟨w.heap.size, 1, none⟩ = some (.int .i64 x.next) := B0.c 1 _ rfl
  have q0_2 : U4.cell? ⟨w.heap.size, 2, none⟩ = some (.int .i64 x.wallet) := B0.c 2 _ rfl
  have q0_3 : U4.cell? ⟨w.heap.size, 3, none⟩ = some (.slice a0_0 x.chans.length c0_0) := B0.c 3 _ rfl
  have q0_4 : U4.cell? ⟨w.heap.size, 4, none⟩ = some (.slice a0_1 x.htlcs.length c0_1) := B0.c 4 _ rfl
  have q0_5 : U4.cell? ⟨w.heap.size, 5, none⟩ = some (.slice a0_2 x.circles.length c0_2) := B0.c 5 _ rfl
  have f0 := B0.f
  go_wp2_with fail
  refine (spec_Moves_c x _ _ _ _ _ _ lo hi gain l _ _ _ (S3_0.all repChan_stable (by omega)) (S3_1.all repHtlc_stable (by omega)) (S3_2.all repCircle_stable (by omega)) (S4_0.all repPrice_stable (by omega)) Bx_0 Bl).mono ?_
  rintro e U5 ⟨A5_0, C5_0, rfl, gs, S5_0⟩
  clear z0 q0_0 q0_1 q0_2 q0_3 q0_4 q0_5 f0
  have ys := Grow.size gs
  replace B0 : Box U5 (w.heap.size) [.int .i64 x.tick, .int .i64 x.next, .int .i64 x.wallet, .slice a0_0 x.chans.length c0_0, .slice a0_1 x.htlcs.length c0_1, .slice a0_2 x.circles.length c0_2] := Box.grow B0 gs
  replace S3_0 := S3_0.same repChan_stable (gs.same (by omega))
  replace S3_1 := S3_1.same repHtlc_stable (gs.same (by omega))
  replace S3_2 := S3_2.same repCircle_stable (gs.same (by omega))
  replace S4_0 := S4_0.same repPrice_stable (gs.same (by omega))
  replace G : Grow w U5 := Grow.trans G gs
  clear gs
  have z0 := B0.lt
  have q0_0 : U5.cell? ⟨w.heap.size, 0, none⟩ = some (.int .i64 x.tick) := B0.c 0 _ rfl
  have q0_1 : U5.cell? ⟨w.heap.size, 1, none⟩ = some (.int .i64 x.next) := B0.c 1 _ rfl
  have q0_2 : U5.cell? ⟨w.heap.size, 2, none⟩ = some (.int .i64 x.wallet) := B0.c 2 _ rfl
  have q0_3 : U5.cell? ⟨w.heap.size, 3, none⟩ = some (.slice a0_0 x.chans.length c0_0) := B0.c 3 _ rfl
  have q0_4 : U5.cell? ⟨w.heap.size, 4, none⟩ = some (.slice a0_1 x.htlcs.length c0_1) := B0.c 4 _ rfl
  have q0_5 : U5.cell? ⟨w.heap.size, 5, none⟩ = some (.slice a0_2 x.circles.length c0_2) := B0.c 5 _ rfl
  have f0 := B0.f
  go_wp2_with fail
  refine (toBook_c x _ _ _ _ _ _ _ (H0_0.out.grow' repChan_stable (Grow.below G)) (H0_1.out.grow' repHtlc_stable (Grow.below G)) (H0_2.out.grow' repCircle_stable (Grow.below G)) Bx_0 Bx_1 Bx_2).mono ?_
  rintro e U6 ⟨A6_0, C6_0, P6_0, Q6_0, A6_1, C6_1, P6_1, Q6_1, A6_2, C6_2, P6_2, Q6_2, rfl, gs, O6, S6_0, S6_1, S6_2⟩
  clear z0 q0_0 q0_1 q0_2 q0_3 q0_4 q0_5 f0
  have ys := Grow.size gs
  replace B0 : Box U6 (w.heap.size) [.int .i64 x.tick, .int .i64 x.next, .int .i64 x.wallet, .slice a0_0 x.chans.length c0_0, .slice a0_1 x.htlcs.length c0_1, .slice a0_2 x.circles.length c0_2] := Box.grow B0 gs
  replace S3_0 := S3_0.same repChan_stable (gs.same (by omega))
  replace S3_1 := S3_1.same repHtlc_stable (gs.same (by omega))
  replace S3_2 := S3_2.same repCircle_stable (gs.same (by omega))
  replace S4_0 := S4_0.same repPrice_stable (gs.same (by omega))
  replace S5_0 := S5_0.same repMove_stable (gs.same (by omega))
  replace G : Grow w U6 := Grow.trans G gs
  clear gs
  have z0 := B0.lt
  have q0_0 : U6.cell? ⟨w.heap.size, 0, none⟩ = some (.int .i64 x.tick) := B0.c 0 _ rfl
  have q0_1 : U6.cell? ⟨w.heap.size, 1, none⟩ = some (.int .i64 x.next) := B0.c 1 _ rfl
  have q0_2 : U6.cell? ⟨w.heap.size, 2, none⟩ = some (.int .i64 x.wallet) := B0.c 2 _ rfl
  have q0_3 : U6.cell? ⟨w.heap.size, 3, none⟩ = some (.slice a0_0 x.chans.length c0_0) := B0.c 3 _ rfl
  have q0_4 : U6.cell? ⟨w.heap.size, 4, none⟩ = some (.slice a0_1 x.htlcs.length c0_1) := B0.c 4 _ rfl
  have q0_5 : U6.cell? ⟨w.heap.size, 5, none⟩ = some (.slice a0_2 x.circles.length c0_2) := B0.c 5 _ rfl
  have f0 := B0.f
  go_wp2_with fail
  obtain ⟨V2, hV⟩ : ∃ V, V = (U6.alloc (.cells #[.int .i64 x.tick, .int .i64 x.next, .int .i64 x.wallet, .slice A6_0 x.chans.length C6_0, .slice A6_1 x.htlcs.length C6_1, .slice A6_2 x.circles.length C6_2] 58)) := ⟨_, rfl⟩
  have G' : Grow w V2 := by rw [hV]; exact (G.alloc _ _)
  have gs : Grow U6 V2 := by rw [hV]; exact ((Grow.refl U6).alloc _ _)
  replace B0 : Box V2 (w.heap.size) [.int .i64 x.tick, .int .i64 x.next, .int .i64 x.wallet, .slice a0_0 x.chans.length c0_0, .slice a0_1 x.htlcs.length c0_1, .slice a0_2 x.circles.length c0_2] := by rw [hV]; exact (B0.alloc _ _)
  have B1 : Box V2 (U6.heap.size) [.int .i64 x.tick, .int .i64 x.next, .int .i64 x.wallet, .slice A6_0 x.chans.length C6_0, .slice A6_1 x.htlcs.length C6_1, .slice A6_2 x.circles.length C6_2] := by rw [hV]; exact Box.newAt (by simp) _ _
  have ys : V2.heap.size = U6.heap.size + 1 := by rw [hV]; simp
  replace S3_0 := S3_0.same repChan_stable (gs.same (by omega))
  replace S3_1 := S3_1.same repHtlc_stable (gs.same (by omega))
  replace S3_2 := S3_2.same repCircle_stable (gs.same (by omega))
  replace S4_0 := S4_0.same repPrice_stable (gs.same (by omega))
  replace S5_0 := S5_0.same repMove_stable (gs.same (by omega))
  replace S6_0 := S6_0.same repChan_stable (gs.same (by omega))
  replace S6_1 := S6_1.same repHtlc_stable (gs.same (by omega))
  replace S6_2 := S6_2.same repCircle_stable (gs.same (by omega))
  replace G := G'
  clear G'
  rw [← hV]
  clear hV
  clear gs
  clear z0 q0_0 q0_1 q0_2 q0_3 q0_4 q0_5 f0
  have z0 := B0.lt
  have z1 := B1.lt
  have q0_0 : V2.cell? ⟨w.heap.size, 0, none⟩ = some (.int .i64 x.tick) := B0.c 0 _ rfl
  have q0_1 : V2.cell? ⟨w.heap.size, 1, none⟩ = some (.int .i64 x.next) := B0.c 1 _ rfl
  have q0_2 : V2.cell? ⟨w.heap.size, 2, none⟩ = some (.int .i64 x.wallet) := B0.c 2 _ rfl
  have q0_3 : V2.cell? ⟨w.heap.size, 3, none⟩ = some (.slice a0_0 x.chans.length c0_0) := B0.c 3 _ rfl
  have q0_4 : V2.cell? ⟨w.heap.size, 4, none⟩ = some (.slice a0_1 x.htlcs.length c0_1) := B0.c 4 _ rfl
  have q0_5 : V2.cell? ⟨w.heap.size, 5, none⟩ = some (.slice a0_2 x.circles.length c0_2) := B0.c 5 _ rfl
  have f0 := B0.f
  have q1_0 : V2.cell? ⟨U6.heap.size, 0, none⟩ = some (.int .i64 x.tick) := B1.c 0 _ rfl
  have q1_1 : V2.cell? ⟨U6.heap.size, 1, none⟩ = some (.int .i64 x.next) := B1.c 1 _ rfl
  have q1_2 : V2.cell? ⟨U6.heap.size, 2, none⟩ = some (.int .i64 x.wallet) := B1.c 2 _ rfl
  have q1_3 : V2.cell? ⟨U6.heap.size, 3, none⟩ = some (.slice A6_0 x.chans.length C6_0) := B1.c 3 _ rfl
  have q1_4 : V2.cell? ⟨U6.heap.size, 4, none⟩ = some (.slice A6_1 x.htlcs.length C6_1) := B1.c 4 _ rfl
  have q1_5 : V2.cell? ⟨U6.heap.size, 5, none⟩ = some (.slice A6_2 x.circles.length C6_2) := B1.c 5 _ rfl
  have f1 := B1.f
  refine (toPriceS_c l _ _ _ (H4.out.grow' repPrice_stable (Grow.below G)) Bl).mono ?_
  rintro e U7 ⟨A7_0, C7_0, rfl, gs, S7_0⟩
  clear z0 z1 q0_0 q0_1 q0_2 q0_3 q0_4 q0_5 f0 q1_0 q1_1 q1_2 q1_3 q1_4 q1_5 f1
  have ys := Grow.size gs
  replace B0 : Box U7 (w.heap.size) [.int .i64 x.tick, .int .i64 x.next, .int .i64 x.wallet, .slice a0_0 x.chans.length c0_0, .slice a0_1 x.htlcs.length c0_1, .slice a0_2 x.circles.length c0_2] := Box.grow B0 gs
  replace B1 : Box U7 (U6.heap.size) [.int .i64 x.tick, .int .i64 x.next, .int .i64 x.wallet, .slice A6_0 x.chans.length C6_0, .slice A6_1 x.htlcs.length C6_1, .slice A6_2 x.circles.length C6_2] := Box.grow B1 gs
  replace S3_0 := S3_0.same repChan_stable (gs.same (by omega))
  replace S3_1 := S3_1.same repHtlc_stable (gs.same (by omega))
  replace S3_2 := S3_2.same repCircle_stable (gs.same (by omega))
  replace S4_0 := S4_0.same repPrice_stable (gs.same (by omega))
  replace S5_0 := S5_0.same repMove_stable (gs.same (by omega))
  replace S6_0 := S6_0.same repChan_stable (gs.same (by omega))
  replace S6_1 := S6_1.same repHtlc_stable (gs.same (by omega))
  replace S6_2 := S6_2.same repCircle_stable (gs.same (by omega))
  replace G : Grow w U7 := Grow.trans G gs
  clear gs
  have z0 := B0.lt
  have z1 := B1.lt
  have q0_0 : U7.cell? ⟨w.heap.size, 0, none⟩ = some (.int .i64 x.tick) := B0.c 0 _ rfl
  have q0_1 : U7.cell? ⟨w.heap.size, 1, none⟩ = some (.int .i64 x.next) := B0.c 1 _ rfl
  have q0_2 : U7.cell? ⟨w.heap.size, 2, none⟩ = some (.int .i64 x.wallet) := B0.c 2 _ rfl
  have q0_3 : U7.cell? ⟨w.heap.size, 3, none⟩ = some (.slice a0_0 x.chans.length c0_0) := B0.c 3 _ rfl
  have q0_4 : U7.cell? ⟨w.heap.size, 4, none⟩ = some (.slice a0_1 x.htlcs.length c0_1) := B0.c 4 _ rfl
  have q0_5 : U7.cell? ⟨w.heap.size, 5, none⟩ = some (.slice a0_2 x.circles.length c0_2) := B0.c 5 _ rfl
  have f0 := B0.f
  have q1_0 : U7.cell? ⟨U6.heap.size, 0, none⟩ = some (.int .i64 x.tick) := B1.c 0 _ rfl
  have q1_1 : U7.cell? ⟨U6.heap.size, 1, none⟩ = some (.int .i64 x.next) := B1.c 1 _ rfl
  have q1_2 : U7.cell? ⟨U6.heap.size, 2, none⟩ = some (.int .i64 x.wallet) := B1.c 2 _ rfl
  have q1_3 : U7.cell? ⟨U6.heap.size, 3, none⟩ = some (.slice A6_0 x.chans.length C6_0) := B1.c 3 _ rfl
  have q1_4 : U7.cell? ⟨U6.heap.size, 4, none⟩ = some (.slice A6_1 x.htlcs.length C6_1) := B1.c 4 _ rfl
  have q1_5 : U7.cell? ⟨U6.heap.size, 5, none⟩ = some (.slice A6_2 x.circles.length C6_2) := B1.c 5 _ rfl
  have f1 := B1.f
  go_wp2_with fail
  refine (impl_Moves_c x _ _ _ _ _ _ lo hi gain l _ _ _ (S6_0.all repChan_stable (by omega)) (S6_1.all repHtlc_stable (by omega)) (S6_2.all repCircle_stable (by omega)) (S7_0.all repPrice_stable (by omega)) Bx_0 Bl).mono ?_
  rintro e U8 ⟨A8_0, C8_0, rfl, gs, S8_0⟩
  clear z0 z1 q0_0 q0_1 q0_2 q0_3 q0_4 q0_5 f0 q1_0 q1_1 q1_2 q1_3 q1_4 q1_5 f1
  have ys := Grow.size gs
  replace B0 : Box U8 (w.heap.size) [.int .i64 x.tick, .int .i64 x.next, .int .i64 x.wallet, .slice a0_0 x.chans.length c0_0, .slice a0_1 x.htlcs.length c0_1, .slice a0_2 x.circles.length c0_2] := Box.grow B0 gs
  replace B1 : Box U8 (U6.heap.size) [.int .i64 x.tick, .int .i64 x.next, .int .i64 x.wallet, .slice A6_0 x.chans.length C6_0, .slice A6_1 x.htlcs.length C6_1, .slice A6_2 x.circles.length C6_2] := Box.grow B1 gs
  replace S3_0 := S3_0.same repChan_stable (gs.same (by omega))
  replace S3_1 := S3_1.same repHtlc_stable (gs.same (by omega))
  replace S3_2 := S3_2.same repCircle_stable (gs.same (by omega))
  replace S4_0 := S4_0.same repPrice_stable (gs.same (by omega))
  replace S5_0 := S5_0.same repMove_stable (gs.same (by omega))
  replace S6_0 := S6_0.same repChan_stable (gs.same (by omega))
  replace S6_1 := S6_1.same repHtlc_stable (gs.same (by omega))
  replace S6_2 := S6_2.same repCircle_stable (gs.same (by omega))
  replace S7_0 := S7_0.same repPrice_stable (gs.same (by omega))
  replace G : Grow w U8 := Grow.trans G gs
  clear gs
  have z0 := B0.lt
  have z1 := B1.lt
  have q0_0 : U8.cell? ⟨w.heap.size, 0, none⟩ = some (.int .i64 x.tick) := B0.c 0 _ rfl
  have q0_1 : U8.cell? ⟨w.heap.size, 1, none⟩ = some (.int .i64 x.next) := B0.c 1 _ rfl
  have q0_2 : U8.cell? ⟨w.heap.size, 2, none⟩ = some (.int .i64 x.wallet) := B0.c 2 _ rfl
  have q0_3 : U8.cell? ⟨w.heap.size, 3, none⟩ = some (.slice a0_0 x.chans.length c0_0) := B0.c 3 _ rfl
  have q0_4 : U8.cell? ⟨w.heap.size, 4, none⟩ = some (.slice a0_1 x.htlcs.length c0_1) := B0.c 4 _ rfl
  have q0_5 : U8.cell? ⟨w.heap.size, 5, none⟩ = some (.slice a0_2 x.circles.length c0_2) := B0.c 5 _ rfl
  have f0 := B0.f
  have q1_0 : U8.cell? ⟨U6.heap.size, 0, none⟩ = some (.int .i64 x.tick) := B1.c 0 _ rfl
  have q1_1 : U8.cell? ⟨U6.heap.size, 1, none⟩ = some (.int .i64 x.next) := B1.c 1 _ rfl
  have q1_2 : U8.cell? ⟨U6.heap.size, 2, none⟩ = some (.int .i64 x.wallet) := B1.c 2 _ rfl
  have q1_3 : U8.cell? ⟨U6.heap.size, 3, none⟩ = some (.slice A6_0 x.chans.length C6_0) := B1.c 3 _ rfl
  have q1_4 : U8.cell? ⟨U6.heap.size, 4, none⟩ = some (.slice A6_1 x.htlcs.length C6_1) := B1.c 4 _ rfl
  have q1_5 : U8.cell? ⟨U6.heap.size, 5, none⟩ = some (.slice A6_2 x.circles.length C6_2) := B1.c 5 _ rfl
  have f1 := B1.f
  go_wp2_with fail
  refine (eqMoveS_c (movesL x lo hi gain l) _ _ _ _ _ (S8_0.all repMove_stable (by omega)) (S5_0.all repMove_stable (by omega))).mono ?_
  rintro e U9 ⟨rfl, gs⟩
  clear z0 z1 q0_0 q0_1 q0_2 q0_3 q0_4 q0_5 f0 q1_0 q1_1 q1_2 q1_3 q1_4 q1_5 f1
  have ys := Grow.size gs
  replace B0 : Box U9 (w.heap.size) [.int .i64 x.tick, .int .i64 x.next, .int .i64 x.wallet, .slice a0_0 x.chans.length c0_0, .slice a0_1 x.htlcs.length c0_1, .slice a0_2 x.circles.length c0_2] := Box.grow B0 gs
  replace B1 : Box U9 (U6.heap.size) [.int .i64 x.tick, .int .i64 x.next, .int .i64 x.wallet, .slice A6_0 x.chans.length C6_0, .slice A6_1 x.htlcs.length C6_1, .slice A6_2 x.circles.length C6_2] := Box.grow B1 gs
  replace S3_0 := S3_0.same repChan_stable (gs.same (by omega))
  replace S3_1 := S3_1.same repHtlc_stable (gs.same (by omega))
  replace S3_2 := S3_2.same repCircle_stable (gs.same (by omega))
  replace S4_0 := S4_0.same repPrice_stable (gs.same (by omega))
  replace S5_0 := S5_0.same repMove_stable (gs.same (by omega))
  replace S6_0 := S6_0.same repChan_stable (gs.same (by omega))
  replace S6_1 := S6_1.same repHtlc_stable (gs.same (by omega))
  replace S6_2 := S6_2.same repCircle_stable (gs.same (by omega))
  replace S7_0 := S7_0.same repPrice_stable (gs.same (by omega))
  replace S8_0 := S8_0.same repMove_stable (gs.same (by omega))
  replace G : Grow w U9 := Grow.trans G gs
  clear gs
  have z0 := B0.lt
  have z1 := B1.lt
  have q0_0 : U9.cell? ⟨w.heap.size, 0, none⟩ = some (.int .i64 x.tick) := B0.c 0 _ rfl
  have q0_1 : U9.cell? ⟨w.heap.size, 1, none⟩ = some (.int .i64 x.next) := B0.c 1 _ rfl
  have q0_2 : U9.cell? ⟨w.heap.size, 2, none⟩ = some (.int .i64 x.wallet) := B0.c 2 _ rfl
  have q0_3 : U9.cell? ⟨w.heap.size, 3, none⟩ = some (.slice a0_0 x.chans.length c0_0) := B0.c 3 _ rfl
  have q0_4 : U9.cell? ⟨w.heap.size, 4, none⟩ = some (.slice a0_1 x.htlcs.length c0_1) := B0.c 4 _ rfl
  have q0_5 : U9.cell? ⟨w.heap.size, 5, none⟩ = some (.slice a0_2 x.circles.length c0_2) := B0.c 5 _ rfl
  have f0 := B0.f
  have q1_0 : U9.cell? ⟨U6.heap.size, 0, none⟩ = some (.int .i64 x.tick) := B1.c 0 _ rfl
  have q1_1 : U9.cell? ⟨U6.heap.size, 1, none⟩ = some (.int .i64 x.next) := B1.c 1 _ rfl
  have q1_2 : U9.cell? ⟨U6.heap.size, 2, none⟩ = some (.int .i64 x.wallet) := B1.c 2 _ rfl
  have q1_3 : U9.cell? ⟨U6.heap.size, 3, none⟩ = some (.slice A6_0 x.chans.length C6_0) := B1.c 3 _ rfl
  have q1_4 : U9.cell? ⟨U6.heap.size, 4, none⟩ = some (.slice A6_1 x.htlcs.length C6_1) := B1.c 4 _ rfl
  have q1_5 : U9.cell? ⟨U6.heap.size, 5, none⟩ = some (.slice A6_2 x.circles.length C6_2) := B1.c 5 _ rfl
  have f1 := B1.f
  go_wp2_with fail
  have KH0_0 := (H0_0.out.grow' repChan_stable (Grow.below G))
  have KH0_1 := (H0_1.out.grow' repHtlc_stable (Grow.below G))
  have KH0_2 := (H0_2.out.grow' repCircle_stable (Grow.below G))
  have KH4 := (H4.out.grow' repPrice_stable (Grow.below G))
  have KS3_0 := (S3_0.all repChan_stable (by omega))
  have KS3_1 := (S3_1.all repHtlc_stable (by omega))
  have KS3_2 := (S3_2.all repCircle_stable (by omega))
  have KS4_0 := (S4_0.all repPrice_stable (by omega))
  have KS5_0 := (S5_0.all repMove_stable (by omega))
  have KS6_0 := (S6_0.all repChan_stable (by omega))
  have KS6_1 := (S6_1.all repHtlc_stable (by omega))
  have KS6_2 := (S6_2.all repCircle_stable (by omega))
  have KS7_0 := (S7_0.all repPrice_stable (by omega))
  have KS8_0 := (S8_0.all repMove_stable (by omega))
  go_region_held3 (fun W => W.cell? ⟨U6.heap.size, 0, none⟩ = some (.int .i64 x.tick) ∧ W.cell? ⟨U6.heap.size, 1, none⟩ = some (.int .i64 x.next) ∧ W.cell? ⟨U6.heap.size, 2, none⟩ = some (.int .i64 x.wallet) ∧ W.cell? ⟨U6.heap.size, 3, none⟩ = some (.slice A6_0 x.chans.length C6_0) ∧ W.cell? ⟨U6.heap.size, 4, none⟩ = some (.slice A6_1 x.htlcs.length C6_1) ∧ W.cell? ⟨U6.heap.size, 5, none⟩ = some (.slice A6_2 x.circles.length C6_2) ∧ W.cell? ⟨w.heap.size, 0, none⟩ = some (.int .i64 x.tick) ∧ W.cell? ⟨w.heap.size, 1, none⟩ = some (.int .i64 x.next) ∧ W.cell? ⟨w.heap.size, 2, none⟩ = some (.int .i64 x.wallet) ∧ W.cell? ⟨w.heap.size, 3, none⟩ = some (.slice a0_0 x.chans.length c0_0) ∧ W.cell? ⟨w.heap.size, 4, none⟩ = some (.slice a0_1 x.htlcs.length c0_1) ∧ W.cell? ⟨w.heap.size, 5, none⟩ = some (.slice a0_2 x.circles.length c0_2))
    (first
      | exact ⟨q1_0, q1_1, q1_2, q1_3, q1_4, q1_5, q0_0, q0_1, q0_2, q0_3, q0_4, q0_5⟩
      | exact ⟨(cellGrow g10 q1_0), (cellGrow g10 q1_1), (cellGrow g10 q1_2), (cellGrow g10 q1_3), (cellGrow g10 q1_4), (cellGrow g10 q1_5), (cellGrow g10 q0_0), (cellGrow g10 q0_1), (cellGrow g10 q0_2), (cellGrow g10 q0_3), (cellGrow g10 q0_4), (cellGrow g10 q0_5)⟩
      | exact ⟨(cellGrow g11 (cellGrow g10 q1_0)), (cellGrow g11 (cellGrow g10 q1_1)), (cellGrow g11 (cellGrow g10 q1_2)), (cellGrow g11 (cellGrow g10 q1_3)), (cellGrow g11 (cellGrow g10 q1_4)), (cellGrow g11 (cellGrow g10 q1_5)), (cellGrow g11 (cellGrow g10 q0_0)), (cellGrow g11 (cellGrow g10 q0_1)), (cellGrow g11 (cellGrow g10 q0_2)), (cellGrow g11 (cellGrow g10 q0_3)), (cellGrow g11 (cellGrow g10 q0_4)), (cellGrow g11 (cellGrow g10 q0_5))⟩)
    (first
      | (go_at_call 26; with_reducible show Calls _ 26 #[.agg #[.int .i64 x.tick, .int .i64 x.next, .int .i64 x.wallet, .slice a0_0 x.chans.length c0_0, .slice a0_1 x.htlcs.length c0_1, .slice a0_2 x.circles.length c0_2]] _ _; refine (toBook_c x _ _ _ _ _ _ _ (KH0_0.grow' repChan_stable (Grow.below (by repeat (first | exact Grow.refl _ | (refine Grow.alloc ?_ _ _) | (refine Grow.drew ?_) | (refine Grow.trans ?_ (by assumption)))))) (KH0_1.grow' repHtlc_stable (Grow.below (by repeat (first | exact Grow.refl _ | (refine Grow.alloc ?_ _ _) | (refine Grow.drew ?_) | (refine Grow.trans ?_ (by assumption)))))) (KH0_2.grow' repCircle_stable (Grow.below (by repeat (first | exact Grow.refl _ | (refine Grow.alloc ?_ _ _) | (refine Grow.drew ?_) | (refine Grow.trans ?_ (by assumption)))))) Bx_0 Bx_1 Bx_2).mono ?_; rintro e U10 ⟨A10_0, C10_0, P10_0, Q10_0, A10_1, C10_1, P10_1, Q10_1, A10_2, C10_2, P10_2, Q10_2, rfl, g10, O10, S10_0, S10_1, S10_2⟩; have y10 := Grow.size g10; have KS10_0 : SlR 7 repChan U10 0 U10.heap.size (.slice A10_0 x.chans.length C10_0) x.chans := S10_0.all repChan_stable (by omega); have KS10_1 : SlR 7 repHtlc U10 0 U10.heap.size (.slice A10_1 x.htlcs.length C10_1) x.htlcs := S10_1.all repHtlc_stable (by omega); have KS10_2 : SlR 5 repCircle U10 0 U10.heap.size (.slice A10_2 x.circles.length C10_2) x.circles := S10_2.all repCircle_stable (by omega))
      | (go_at_call 29; with_reducible show Calls _ 29 #[.agg #[.int .i64 x.tick, .int .i64 x.next, .int .i64 x.wallet, .slice A6_0 x.chans.length C6_0, .slice A6_1 x.htlcs.length C6_1, .slice A6_2 x.circles.length C6_2], .agg #[.int .i64 x.tick, .int .i64 x.next, .int .i64 x.wallet, .slice A10_0 x.chans.length C10_0, .slice A10_1 x.htlcs.length C10_1, .slice A10_2 x.circles.length C10_2]] _ _; refine (eqBook_c x _ _ _ _ _ _ _ _ _ _ _ _ _ (KS6_0.grow' repChan_stable (Grow.below (by repeat (first | exact Grow.refl _ | (refine Grow.alloc ?_ _ _) | (refine Grow.drew ?_) | (refine Grow.trans ?_ (by assumption)))))) (KS10_0.grow' repChan_stable (Grow.below (by repeat (first | exact Grow.refl _ | (refine Grow.alloc ?_ _ _) | (refine Grow.drew ?_) | (refine Grow.trans ?_ (by assumption)))))) (KS6_1.grow' repHtlc_stable (Grow.below (by repeat (first | exact Grow.refl _ | (refine Grow.alloc ?_ _ _) | (refine Grow.drew ?_) | (refine Grow.trans ?_ (by assumption)))))) (KS10_1.grow' repHtlc_stable (Grow.below (by repeat (first | exact Grow.refl _ | (refine Grow.alloc ?_ _ _) | (refine Grow.drew ?_) | (refine Grow.trans ?_ (by assumption)))))) (KS6_2.grow' repCircle_stable (Grow.below (by repeat (first | exact Grow.refl _ | (refine Grow.alloc ?_ _ _) | (refine Grow.drew ?_) | (refine Grow.trans ?_ (by assumption)))))) (KS10_2.grow' repCircle_stable (Grow.below (by repeat (first | exact Grow.refl _ | (refine Grow.alloc ?_ _ _) | (refine Grow.drew ?_) | (refine Grow.trans ?_ (by assumption))))))).mono ?_; rintro e U11 ⟨rfl, g11⟩; have y11 := Grow.size g11))
  have gs : Grow U9 U11 := by repeat (first | exact Grow.refl _ | (refine Grow.alloc ?_ _ _) | (refine Grow.drew ?_) | (refine Grow.trans ?_ (by assumption)))
  clear g10 g11
  clear z0 z1 q0_0 q0_1 q0_2 q0_3 q0_4 q0_5 f0 q1_0 q1_1 q1_2 q1_3 q1_4 q1_5 f1
  have ys := Grow.size gs
  replace B0 : Box U11 (w.heap.size) [.int .i64 x.tick, .int .i64 x.next, .int .i64 x.wallet, .slice a0_0 x.chans.length c0_0, .slice a0_1 x.htlcs.length c0_1, .slice a0_2 x.circles.length c0_2] := Box.grow B0 gs
  replace B1 : Box U11 (U6.heap.size) [.int .i64 x.tick, .int .i64 x.next, .int .i64 x.wallet, .slice A6_0 x.chans.length C6_0, .slice A6_1 x.htlcs.length C6_1, .slice A6_2 x.circles.length C6_2] := Box.grow B1 gs
  replace S3_0 := S3_0.same repChan_stable (gs.same (by omega))
  replace S3_1 := S3_1.same repHtlc_stable (gs.same (by omega))
  replace S3_2 := S3_2.same repCircle_stable (gs.same (by omega))
  replace S4_0 := S4_0.same repPrice_stable (gs.same (by omega))
  replace S5_0 := S5_0.same repMove_stable (gs.same (by omega))
  replace S6_0 := S6_0.same repChan_stable (gs.same (by omega))
  replace S6_1 := S6_1.same repHtlc_stable (gs.same (by omega))
  replace S6_2 := S6_2.same repCircle_stable (gs.same (by omega))
  replace S7_0 := S7_0.same repPrice_stable (gs.same (by omega))
  replace S8_0 := S8_0.same repMove_stable (gs.same (by omega))
  replace G : Grow w U11 := Grow.trans G gs
  clear gs
  have z0 := B0.lt
  have z1 := B1.lt
  have q0_0 : U11.cell? ⟨w.heap.size, 0, none⟩ = some (.int .i64 x.tick) := B0.c 0 _ rfl
  have q0_1 : U11.cell? ⟨w.heap.size, 1, none⟩ = some (.int .i64 x.next) := B0.c 1 _ rfl
  have q0_2 : U11.cell? ⟨w.heap.size, 2, none⟩ = some (.int .i64 x.wallet) := B0.c 2 _ rfl
  have q0_3 : U11.cell? ⟨w.heap.size, 3, none⟩ = some (.slice a0_0 x.chans.length c0_0) := B0.c 3 _ rfl
  have q0_4 : U11.cell? ⟨w.heap.size, 4, none⟩ = some (.slice a0_1 x.htlcs.length c0_1) := B0.c 4 _ rfl
  have q0_5 : U11.cell? ⟨w.heap.size, 5, none⟩ = some (.slice a0_2 x.circles.length c0_2) := B0.c 5 _ rfl
  have f0 := B0.f
  have q1_0 : U11.cell? ⟨U6.heap.size, 0, none⟩ = some (.int .i64 x.tick) := B1.c 0 _ rfl
  have q1_1 : U11.cell? ⟨U6.heap.size, 1, none⟩ = some (.int .i64 x.next) := B1.c 1 _ rfl
  have q1_2 : U11.cell? ⟨U6.heap.size, 2, none⟩ = some (.int .i64 x.wallet) := B1.c 2 _ rfl
  have q1_3 : U11.cell? ⟨U6.heap.size, 3, none⟩ = some (.slice A6_0 x.chans.length C6_0) := B1.c 3 _ rfl
  have q1_4 : U11.cell? ⟨U6.heap.size, 4, none⟩ = some (.slice A6_1 x.htlcs.length C6_1) := B1.c 4 _ rfl
  have q1_5 : U11.cell? ⟨U6.heap.size, 5, none⟩ = some (.slice A6_2 x.circles.length C6_2) := B1.c 5 _ rfl
  have f1 := B1.f
  go_wp2_with fail
  refine (toPriceS_c l _ _ _ (H4.out.grow' repPrice_stable (Grow.below G)) Bl).mono ?_
  rintro e U12 ⟨A12_0, C12_0, rfl, gs, S12_0⟩
  clear z0 z1 q0_0 q0_1 q0_2 q0_3 q0_4 q0_5 f0 q1_0 q1_1 q1_2 q1_3 q1_4 q1_5 f1
  have ys := Grow.size gs
  replace B0 : Box U12 (w.heap.size) [.int .i64 x.tick, .int .i64 x.next, .int .i64 x.wallet, .slice a0_0 x.chans.length c0_0, .slice a0_1 x.htlcs.length c0_1, .slice a0_2 x.circles.length c0_2] := Box.grow B0 gs
  replace B1 : Box U12 (U6.heap.size) [.int .i64 x.tick, .int .i64 x.next, .int .i64 x.wallet, .slice A6_0 x.chans.length C6_0, .slice A6_1 x.htlcs.length C6_1, .slice A6_2 x.circles.length C6_2] := Box.grow B1 gs
  replace S3_0 := S3_0.same repChan_stable (gs.same (by omega))
  replace S3_1 := S3_1.same repHtlc_stable (gs.same (by omega))
  replace S3_2 := S3_2.same repCircle_stable (gs.same (by omega))
  replace S4_0 := S4_0.same repPrice_stable (gs.same (by omega))
  replace S5_0 := S5_0.same repMove_stable (gs.same (by omega))
  replace S6_0 := S6_0.same repChan_stable (gs.same (by omega))
  replace S6_1 := S6_1.same repHtlc_stable (gs.same (by omega))
  replace S6_2 := S6_2.same repCircle_stable (gs.same (by omega))
  replace S7_0 := S7_0.same repPrice_stable (gs.same (by omega))
  replace S8_0 := S8_0.same repMove_stable (gs.same (by omega))
  replace G : Grow w U12 := Grow.trans G gs
  clear gs
  have z0 := B0.lt
  have z1 := B1.lt
  have q0_0 : U12.cell? ⟨w.heap.size, 0, none⟩ = some (.int .i64 x.tick) := B0.c 0 _ rfl
  have q0_1 : U12.cell? ⟨w.heap.size, 1, none⟩ = some (.int .i64 x.next) := B0.c 1 _ rfl
  have q0_2 : U12.cell? ⟨w.heap.size, 2, none⟩ = some (.int .i64 x.wallet) := B0.c 2 _ rfl
  have q0_3 : U12.cell? ⟨w.heap.size, 3, none⟩ = some (.slice a0_0 x.chans.length c0_0) := B0.c 3 _ rfl
  have q0_4 : U12.cell? ⟨w.heap.size, 4, none⟩ = some (.slice a0_1 x.htlcs.length c0_1) := B0.c 4 _ rfl
  have q0_5 : U12.cell? ⟨w.heap.size, 5, none⟩ = some (.slice a0_2 x.circles.length c0_2) := B0.c 5 _ rfl
  have f0 := B0.f
  have q1_0 : U12.cell? ⟨U6.heap.size, 0, none⟩ = some (.int .i64 x.tick) := B1.c 0 _ rfl
  have q1_1 : U12.cell? ⟨U6.heap.size, 1, none⟩ = some (.int .i64 x.next) := B1.c 1 _ rfl
  have q1_2 : U12.cell? ⟨U6.heap.size, 2, none⟩ = some (.int .i64 x.wallet) := B1.c 2 _ rfl
  have q1_3 : U12.cell? ⟨U6.heap.size, 3, none⟩ = some (.slice A6_0 x.chans.length C6_0) := B1.c 3 _ rfl
  have q1_4 : U12.cell? ⟨U6.heap.size, 4, none⟩ = some (.slice A6_1 x.htlcs.length C6_1) := B1.c 4 _ rfl
  have q1_5 : U12.cell? ⟨U6.heap.size, 5, none⟩ = some (.slice A6_2 x.circles.length C6_2) := B1.c 5 _ rfl
  have f1 := B1.f
  go_wp2_with fail
  refine (eqPriceS_c l _ _ _ _ _ (S7_0.all repPrice_stable (by omega)) (S12_0.all repPrice_stable (by omega))).mono ?_
  rintro e U13 ⟨rfl, gs⟩
  clear z0 z1 q0_0 q0_1 q0_2 q0_3 q0_4 q0_5 f0 q1_0 q1_1 q1_2 q1_3 q1_4 q1_5 f1
  have ys := Grow.size gs
  replace B0 : Box U13 (w.heap.size) [.int .i64 x.tick, .int .i64 x.next, .int .i64 x.wallet, .slice a0_0 x.chans.length c0_0, .slice a0_1 x.htlcs.length c0_1, .slice a0_2 x.circles.length c0_2] := Box.grow B0 gs
  replace B1 : Box U13 (U6.heap.size) [.int .i64 x.tick, .int .i64 x.next, .int .i64 x.wallet, .slice A6_0 x.chans.length C6_0, .slice A6_1 x.htlcs.length C6_1, .slice A6_2 x.circles.length C6_2] := Box.grow B1 gs
  replace S3_0 := S3_0.same repChan_stable (gs.same (by omega))
  replace S3_1 := S3_1.same repHtlc_stable (gs.same (by omega))
  replace S3_2 := S3_2.same repCircle_stable (gs.same (by omega))
  replace S4_0 := S4_0.same repPrice_stable (gs.same (by omega))
  replace S5_0 := S5_0.same repMove_stable (gs.same (by omega))
  replace S6_0 := S6_0.same repChan_stable (gs.same (by omega))
  replace S6_1 := S6_1.same repHtlc_stable (gs.same (by omega))
  replace S6_2 := S6_2.same repCircle_stable (gs.same (by omega))
  replace S7_0 := S7_0.same repPrice_stable (gs.same (by omega))
  replace S8_0 := S8_0.same repMove_stable (gs.same (by omega))
  replace S12_0 := S12_0.same repPrice_stable (gs.same (by omega))
  replace G : Grow w U13 := Grow.trans G gs
  clear gs
  have z0 := B0.lt
  have z1 := B1.lt
  have q0_0 : U13.cell? ⟨w.heap.size, 0, none⟩ = some (.int .i64 x.tick) := B0.c 0 _ rfl
  have q0_1 : U13.cell? ⟨w.heap.size, 1, none⟩ = some (.int .i64 x.next) := B0.c 1 _ rfl
  have q0_2 : U13.cell? ⟨w.heap.size, 2, none⟩ = some (.int .i64 x.wallet) := B0.c 2 _ rfl
  have q0_3 : U13.cell? ⟨w.heap.size, 3, none⟩ = some (.slice a0_0 x.chans.length c0_0) := B0.c 3 _ rfl
  have q0_4 : U13.cell? ⟨w.heap.size, 4, none⟩ = some (.slice a0_1 x.htlcs.length c0_1) := B0.c 4 _ rfl
  have q0_5 : U13.cell? ⟨w.heap.size, 5, none⟩ = some (.slice a0_2 x.circles.length c0_2) := B0.c 5 _ rfl
  have f0 := B0.f
  have q1_0 : U13.cell? ⟨U6.heap.size, 0, none⟩ = some (.int .i64 x.tick) := B1.c 0 _ rfl
  have q1_1 : U13.cell? ⟨U6.heap.size, 1, none⟩ = some (.int .i64 x.next) := B1.c 1 _ rfl
  have q1_2 : U13.cell? ⟨U6.heap.size, 2, none⟩ = some (.int .i64 x.wallet) := B1.c 2 _ rfl
  have q1_3 : U13.cell? ⟨U6.heap.size, 3, none⟩ = some (.slice A6_0 x.chans.length C6_0) := B1.c 3 _ rfl
  have q1_4 : U13.cell? ⟨U6.heap.size, 4, none⟩ = some (.slice A6_1 x.htlcs.length C6_1) := B1.c 4 _ rfl
  have q1_5 : U13.cell? ⟨U6.heap.size, 5, none⟩ = some (.slice A6_2 x.circles.length C6_2) := B1.c 5 _ rfl
  have f1 := B1.f
  go_wp2_with fail
  refine (markBook_c x _ _ _ _ _ _ 1 P6_0 Q6_2 P6_0 Q6_0 P6_1 Q6_1 P6_2 Q6_2 _ S6_0 S6_1 S6_2 (by omega) (by omega) (by omega) (by omega) (by omega) (by omega) ((Grow.nf G).mono (by omega) (by omega)) (by omega) (by omega) (by omega) (by omega) (by omega) (by omega)).mono ?_
  rintro e U14 ⟨rfl, gp, M14_0, M14_1, M14_2⟩
  have kb := mkBook_bd (x := x) (k := 1) (B := 1) (by omega) (by omega) (by omega) (by omega) (by omega)
  obtain ⟨kb1, kb2⟩ := kb
  have cap_S6_0 := SlR.cap S6_0
  have cap_S6_1 := SlR.cap S6_1
  have cap_S6_2 := SlR.cap S6_2
  clear z0 z1 q0_0 q0_1 q0_2 q0_3 q0_4 q0_5 f0 q1_0 q1_1 q1_2 q1_3 q1_4 q1_5 f1
  have ys := Put.size gp
  replace B0 : Box U14 (w.heap.size) [.int .i64 x.tick, .int .i64 x.next, .int .i64 x.wallet, .slice a0_0 x.chans.length c0_0, .slice a0_1 x.htlcs.length c0_1, .slice a0_2 x.circles.length c0_2] := Box.put B0 gp (by omega)
  replace B1 : Box U14 (U6.heap.size) [.int .i64 x.tick, .int .i64 x.next, .int .i64 x.wallet, .slice A6_0 x.chans.length C6_0, .slice A6_1 x.htlcs.length C6_1, .slice A6_2 x.circles.length C6_2] := Box.put B1 gp (by omega)
  replace S3_0 := S3_0.same repChan_stable (Put.same gp (by omega) (by omega))
  replace S3_1 := S3_1.same repHtlc_stable (Put.same gp (by omega) (by omega))
  replace S3_2 := S3_2.same repCircle_stable (Put.same gp (by omega) (by omega))
  replace S4_0 := S4_0.same repPrice_stable (Put.same gp (by omega) (by omega))
  replace S5_0 := S5_0.same repMove_stable (Put.same gp (by omega) (by omega))
  replace S7_0 := S7_0.same repPrice_stable (Put.same gp (by omega) (by omega))
  replace S8_0 := S8_0.same repMove_stable (Put.same gp (by omega) (by omega))
  replace S12_0 := S12_0.same repPrice_stable (Put.same gp (by omega) (by omega))
  replace G : Grow w U14 := Grow.put G gp (by omega)
  clear gp
  have z0 := B0.lt
  have z1 := B1.lt
  have q0_0 : U14.cell? ⟨w.heap.size, 0, none⟩ = some (.int .i64 x.tick) := B0.c 0 _ rfl
  have q0_1 : U14.cell? ⟨w.heap.size, 1, none⟩ = some (.int .i64 x.next) := B0.c 1 _ rfl
  have q0_2 : U14.cell? ⟨w.heap.size, 2, none⟩ = some (.int .i64 x.wallet) := B0.c 2 _ rfl
  have q0_3 : U14.cell? ⟨w.heap.size, 3, none⟩ = some (.slice a0_0 x.chans.length c0_0) := B0.c 3 _ rfl
  have q0_4 : U14.cell? ⟨w.heap.size, 4, none⟩ = some (.slice a0_1 x.htlcs.length c0_1) := B0.c 4 _ rfl
  have q0_5 : U14.cell? ⟨w.heap.size, 5, none⟩ = some (.slice a0_2 x.circles.length c0_2) := B0.c 5 _ rfl
  have f0 := B0.f
  have q1_0 : U14.cell? ⟨U6.heap.size, 0, none⟩ = some (.int .i64 x.tick) := B1.c 0 _ rfl
  have q1_1 : U14.cell? ⟨U6.heap.size, 1, none⟩ = some (.int .i64 x.next) := B1.c 1 _ rfl
  have q1_2 : U14.cell? ⟨U6.heap.size, 2, none⟩ = some (.int .i64 x.wallet) := B1.c 2 _ rfl
  have q1_3 : U14.cell? ⟨U6.heap.size, 3, none⟩ = some (.slice A6_0 x.chans.length C6_0) := B1.c 3 _ rfl
  have q1_4 : U14.cell? ⟨U6.heap.size, 4, none⟩ = some (.slice A6_1 x.htlcs.length C6_1) := B1.c 4 _ rfl
  have q1_5 : U14.cell? ⟨U6.heap.size, 5, none⟩ = some (.slice A6_2 x.circles.length C6_2) := B1.c 5 _ rfl
  have f1 := B1.f
  go_wp2_with fail
  refine (markPriceS_c l _ _ (mkBook x 1) V2.heap.size U7.heap.size _ S7_0 ((Grow.nf G).mono (by omega) (by omega)) (by omega) (by omega) (by omega)).mono ?_
  rintro e U15 ⟨rfl, gp, M15_0⟩
  have kb := mkEnd_bd (n := 3) (m := l.length) (k := (mkBook x 1)) (B := 10000000000) (by omega) (by omega) (by omega) (by omega)
  obtain ⟨kb1, kb2⟩ := kb
  have cap_S7_0 := SlR.cap S7_0
  clear z0 z1 q0_0 q0_1 q0_2 q0_3 q0_4 q0_5 f0 q1_0 q1_1 q1_2 q1_3 q1_4 q1_5 f1
  have ys := Put.size gp
  replace B0 : Box U15 (w.heap.size) [.int .i64 x.tick, .int .i64 x.next, .int .i64 x.wallet, .slice a0_0 x.chans.length c0_0, .slice a0_1 x.htlcs.length c0_1, .slice a0_2 x.circles.length c0_2] := Box.put B0 gp (by omega)
  replace B1 : Box U15 (U6.heap.size) [.int .i64 x.tick, .int .i64 x.next, .int .i64 x.wallet, .slice A6_0 x.chans.length C6_0, .slice A6_1 x.htlcs.length C6_1, .slice A6_2 x.circles.length C6_2] := Box.put B1 gp (by omega)
  replace S3_0 := S3_0.same repChan_stable (Put.same gp (by omega) (by omega))
  replace S3_1 := S3_1.same repHtlc_stable (Put.same gp (by omega) (by omega))
  replace S3_2 := S3_2.same repCircle_stable (Put.same gp (by omega) (by omega))
  replace S4_0 := S4_0.same repPrice_stable (Put.same gp (by omega) (by omega))
  replace S5_0 := S5_0.same repMove_stable (Put.same gp (by omega) (by omega))
  replace S8_0 := S8_0.same repMove_stable (Put.same gp (by omega) (by omega))
  replace S12_0 := S12_0.same repPrice_stable (Put.same gp (by omega) (by omega))
  replace M14_0 := M14_0.same (Put.same gp (by omega) (by omega))
  replace M14_1 := M14_1.same (Put.same gp (by omega) (by omega))
  replace M14_2 := M14_2.same (Put.same gp (by omega) (by omega))
  replace G : Grow w U15 := Grow.put G gp (by omega)
  clear gp
  have z0 := B0.lt
  have z1 := B1.lt
  have q0_0 : U15.cell? ⟨w.heap.size, 0, none⟩ = some (.int .i64 x.tick) := B0.c 0 _ rfl
  have q0_1 : U15.cell? ⟨w.heap.size, 1, none⟩ = some (.int .i64 x.next) := B0.c 1 _ rfl
  have q0_2 : U15.cell? ⟨w.heap.size, 2, none⟩ = some (.int .i64 x.wallet) := B0.c 2 _ rfl
  have q0_3 : U15.cell? ⟨w.heap.size, 3, none⟩ = some (.slice a0_0 x.chans.length c0_0) := B0.c 3 _ rfl
  have q0_4 : U15.cell? ⟨w.heap.size, 4, none⟩ = some (.slice a0_1 x.htlcs.length c0_1) := B0.c 4 _ rfl
  have q0_5 : U15.cell? ⟨w.heap.size, 5, none⟩ = some (.slice a0_2 x.circles.length c0_2) := B0.c 5 _ rfl
  have f0 := B0.f
  have q1_0 : U15.cell? ⟨U6.heap.size, 0, none⟩ = some (.int .i64 x.tick) := B1.c 0 _ rfl
  have q1_1 : U15.cell? ⟨U6.heap.size, 1, none⟩ = some (.int .i64 x.next) := B1.c 1 _ rfl
  have q1_2 : U15.cell? ⟨U6.heap.size, 2, none⟩ = some (.int .i64 x.wallet) := B1.c 2 _ rfl
  have q1_3 : U15.cell? ⟨U6.heap.size, 3, none⟩ = some (.slice A6_0 x.chans.length C6_0) := B1.c 3 _ rfl
  have q1_4 : U15.cell? ⟨U6.heap.size, 4, none⟩ = some (.slice A6_1 x.htlcs.length C6_1) := B1.c 4 _ rfl
  have q1_5 : U15.cell? ⟨U6.heap.size, 5, none⟩ = some (.slice A6_2 x.circles.length C6_2) := B1.c 5 _ rfl
  have f1 := B1.f
  go_wp2_with fail
  refine (eqMoveS_c (movesL x lo hi gain l) _ _ _ _ _ (S8_0.all repMove_stable (by omega)) (S5_0.all repMove_stable (by omega))).mono ?_
  rintro e U16 ⟨rfl, gs⟩
  clear z0 z1 q0_0 q0_1 q0_2 q0_3 q0_4 q0_5 f0 q1_0 q1_1 q1_2 q1_3 q1_4 q1_5 f1
  have ys := Grow.size gs
  replace B0 : Box U16 (w.heap.size) [.int .i64 x.tick, .int .i64 x.next, .int .i64 x.wallet, .slice a0_0 x.chans.length c0_0, .slice a0_1 x.htlcs.length c0_1, .slice a0_2 x.circles.length c0_2] := Box.grow B0 gs
  replace B1 : Box U16 (U6.heap.size) [.int .i64 x.tick, .int .i64 x.next, .int .i64 x.wallet, .slice A6_0 x.chans.length C6_0, .slice A6_1 x.htlcs.length C6_1, .slice A6_2 x.circles.length C6_2] := Box.grow B1 gs
  replace S3_0 := S3_0.same repChan_stable (gs.same (by omega))
  replace S3_1 := S3_1.same repHtlc_stable (gs.same (by omega))
  replace S3_2 := S3_2.same repCircle_stable (gs.same (by omega))
  replace S4_0 := S4_0.same repPrice_stable (gs.same (by omega))
  replace S5_0 := S5_0.same repMove_stable (gs.same (by omega))
  replace S8_0 := S8_0.same repMove_stable (gs.same (by omega))
  replace S12_0 := S12_0.same repPrice_stable (gs.same (by omega))
  replace M14_0 := M14_0.same (gs.same (by omega))
  replace M14_1 := M14_1.same (gs.same (by omega))
  replace M14_2 := M14_2.same (gs.same (by omega))
  replace M15_0 := M15_0.same (gs.same (by omega))
  replace G : Grow w U16 := Grow.trans G gs
  clear gs
  have z0 := B0.lt
  have z1 := B1.lt
  have q0_0 : U16.cell? ⟨w.heap.size, 0, none⟩ = some (.int .i64 x.tick) := B0.c 0 _ rfl
  have q0_1 : U16.cell? ⟨w.heap.size, 1, none⟩ = some (.int .i64 x.next) := B0.c 1 _ rfl
  have q0_2 : U16.cell? ⟨w.heap.size, 2, none⟩ = some (.int .i64 x.wallet) := B0.c 2 _ rfl
  have q0_3 : U16.cell? ⟨w.heap.size, 3, none⟩ = some (.slice a0_0 x.chans.length c0_0) := B0.c 3 _ rfl
  have q0_4 : U16.cell? ⟨w.heap.size, 4, none⟩ = some (.slice a0_1 x.htlcs.length c0_1) := B0.c 4 _ rfl
  have q0_5 : U16.cell? ⟨w.heap.size, 5, none⟩ = some (.slice a0_2 x.circles.length c0_2) := B0.c 5 _ rfl
  have f0 := B0.f
  have q1_0 : U16.cell? ⟨U6.heap.size, 0, none⟩ = some (.int .i64 x.tick) := B1.c 0 _ rfl
  have q1_1 : U16.cell? ⟨U6.heap.size, 1, none⟩ = some (.int .i64 x.next) := B1.c 1 _ rfl
  have q1_2 : U16.cell? ⟨U6.heap.size, 2, none⟩ = some (.int .i64 x.wallet) := B1.c 2 _ rfl
  have q1_3 : U16.cell? ⟨U6.heap.size, 3, none⟩ = some (.slice A6_0 x.chans.length C6_0) := B1.c 3 _ rfl
  have q1_4 : U16.cell? ⟨U6.heap.size, 4, none⟩ = some (.slice A6_1 x.htlcs.length C6_1) := B1.c 4 _ rfl
  have q1_5 : U16.cell? ⟨U6.heap.size, 5, none⟩ = some (.slice A6_2 x.circles.length C6_2) := B1.c 5 _ rfl
  have f1 := B1.f
  go_wp2_with fail
  refine (markMoveS_c (movesL x lo hi gain l) _ _ 1 U7.heap.size U8.heap.size _ S8_0 ((Grow.nf G).mono (by omega) (by omega)) (by have := movesL_len x lo hi gain l; omega) (by omega) (by omega)).mono ?_
  rintro e U17 ⟨rfl, gp, M17_0⟩
  have kb := mkEnd_bd (n := 4) (m := (movesL x lo hi gain l).length) (k := 1) (B := 1) (by omega) (by omega) (by omega) (by have := movesL_len x lo hi gain l; omega)
  obtain ⟨kb1, kb2⟩ := kb
  have cap_S8_0 := SlR.cap S8_0
  clear z0 z1 q0_0 q0_1 q0_2 q0_3 q0_4 q0_5 f0 q1_0 q1_1 q1_2 q1_3 q1_4 q1_5 f1
  have ys := Put.size gp
  replace B0 : Box U17 (w.heap.size) [.int .i64 x.tick, .int .i64 x.next, .int .i64 x.wallet, .slice a0_0 x.chans.length c0_0, .slice a0_1 x.htlcs.length c0_1, .slice a0_2 x.circles.length c0_2] := Box.put B0 gp (by omega)
  replace B1 : Box U17 (U6.heap.size) [.int .i64 x.tick, .int .i64 x.next, .int .i64 x.wallet, .slice A6_0 x.chans.length C6_0, .slice A6_1 x.htlcs.length C6_1, .slice A6_2 x.circles.length C6_2] := Box.put B1 gp (by omega)
  replace S3_0 := S3_0.same repChan_stable (Put.same gp (by omega) (by omega))
  replace S3_1 := S3_1.same repHtlc_stable (Put.same gp (by omega) (by omega))
  replace S3_2 := S3_2.same repCircle_stable (Put.same gp (by omega) (by omega))
  replace S4_0 := S4_0.same repPrice_stable (Put.same gp (by omega) (by omega))
  replace S5_0 := S5_0.same repMove_stable (Put.same gp (by omega) (by omega))
  replace S12_0 := S12_0.same repPrice_stable (Put.same gp (by omega) (by omega))
  replace M14_0 := M14_0.same (Put.same gp (by omega) (by omega))
  replace M14_1 := M14_1.same (Put.same gp (by omega) (by omega))
  replace M14_2 := M14_2.same (Put.same gp (by omega) (by omega))
  replace M15_0 := M15_0.same (Put.same gp (by omega) (by omega))
  replace G : Grow w U17 := Grow.put G gp (by omega)
  clear gp
  have z0 := B0.lt
  have z1 := B1.lt
  have q0_0 : U17.cell? ⟨w.heap.size, 0, none⟩ = some (.int .i64 x.tick) := B0.c 0 _ rfl
  have q0_1 : U17.cell? ⟨w.heap.size, 1, none⟩ = some (.int .i64 x.next) := B0.c 1 _ rfl
  have q0_2 : U17.cell? ⟨w.heap.size, 2, none⟩ = some (.int .i64 x.wallet) := B0.c 2 _ rfl
  have q0_3 : U17.cell? ⟨w.heap.size, 3, none⟩ = some (.slice a0_0 x.chans.length c0_0) := B0.c 3 _ rfl
  have q0_4 : U17.cell? ⟨w.heap.size, 4, none⟩ = some (.slice a0_1 x.htlcs.length c0_1) := B0.c 4 _ rfl
  have q0_5 : U17.cell? ⟨w.heap.size, 5, none⟩ = some (.slice a0_2 x.circles.length c0_2) := B0.c 5 _ rfl
  have f0 := B0.f
  have q1_0 : U17.cell? ⟨U6.heap.size, 0, none⟩ = some (.int .i64 x.tick) := B1.c 0 _ rfl
  have q1_1 : U17.cell? ⟨U6.heap.size, 1, none⟩ = some (.int .i64 x.next) := B1.c 1 _ rfl
  have q1_2 : U17.cell? ⟨U6.heap.size, 2, none⟩ = some (.int .i64 x.wallet) := B1.c 2 _ rfl
  have q1_3 : U17.cell? ⟨U6.heap.size, 3, none⟩ = some (.slice A6_0 x.chans.length C6_0) := B1.c 3 _ rfl
  have q1_4 : U17.cell? ⟨U6.heap.size, 4, none⟩ = some (.slice A6_1 x.htlcs.length C6_1) := B1.c 4 _ rfl
  have q1_5 : U17.cell? ⟨U6.heap.size, 5, none⟩ = some (.slice A6_2 x.circles.length C6_2) := B1.c 5 _ rfl
  have f1 := B1.f
  go_wp2_with fail
  refine (heldMoveS_c _ _ _ 1 U7.heap.size U8.heap.size _ M17_0 cap_S8_0 (by have := movesL_len x lo hi gain l; omega) (by omega) (by omega)).mono ?_
  rintro e U18 ⟨rfl, gs⟩
  clear z0 z1 q0_0 q0_1 q0_2 q0_3 q0_4 q0_5 f0 q1_0 q1_1 q1_2 q1_3 q1_4 q1_5 f1
  have ys := Grow.size gs
  replace B0 : Box U18 (w.heap.size) [.int .i64 x.tick, .int .i64 x.next, .int .i64 x.wallet, .slice a0_0 x.chans.length c0_0, .slice a0_1 x.htlcs.length c0_1, .slice a0_2 x.circles.length c0_2] := Box.grow B0 gs
  replace B1 : Box U18 (U6.heap.size) [.int .i64 x.tick, .int .i64 x.next, .int .i64 x.wallet, .slice A6_0 x.chans.length C6_0, .slice A6_1 x.htlcs.length C6_1, .slice A6_2 x.circles.length C6_2] := Box.grow B1 gs
  replace S3_0 := S3_0.same repChan_stable (gs.same (by omega))
  replace S3_1 := S3_1.same repHtlc_stable (gs.same (by omega))
  replace S3_2 := S3_2.same repCircle_stable (gs.same (by omega))
  replace S4_0 := S4_0.same repPrice_stable (gs.same (by omega))
  replace S5_0 := S5_0.same repMove_stable (gs.same (by omega))
  replace S12_0 := S12_0.same repPrice_stable (gs.same (by omega))
  replace M14_0 := M14_0.same (gs.same (by omega))
  replace M14_1 := M14_1.same (gs.same (by omega))
  replace M14_2 := M14_2.same (gs.same (by omega))
  replace M15_0 := M15_0.same (gs.same (by omega))
  replace M17_0 := M17_0.same (gs.same (by omega))
  replace G : Grow w U18 := Grow.trans G gs
  clear gs
  have z0 := B0.lt
  have z1 := B1.lt
  have q0_0 : U18.cell? ⟨w.heap.size, 0, none⟩ = some (.int .i64 x.tick) := B0.c 0 _ rfl
  have q0_1 : U18.cell? ⟨w.heap.size, 1, none⟩ = some (.int .i64 x.next) := B0.c 1 _ rfl
  have q0_2 : U18.cell? ⟨w.heap.size, 2, none⟩ = some (.int .i64 x.wallet) := B0.c 2 _ rfl
  have q0_3 : U18.cell? ⟨w.heap.size, 3, none⟩ = some (.slice a0_0 x.chans.length c0_0) := B0.c 3 _ rfl
  have q0_4 : U18.cell? ⟨w.heap.size, 4, none⟩ = some (.slice a0_1 x.htlcs.length c0_1) := B0.c 4 _ rfl
  have q0_5 : U18.cell? ⟨w.heap.size, 5, none⟩ = some (.slice a0_2 x.circles.length c0_2) := B0.c 5 _ rfl
  have f0 := B0.f
  have q1_0 : U18.cell? ⟨U6.heap.size, 0, none⟩ = some (.int .i64 x.tick) := B1.c 0 _ rfl
  have q1_1 : U18.cell? ⟨U6.heap.size, 1, none⟩ = some (.int .i64 x.next) := B1.c 1 _ rfl
  have q1_2 : U18.cell? ⟨U6.heap.size, 2, none⟩ = some (.int .i64 x.wallet) := B1.c 2 _ rfl
  have q1_3 : U18.cell? ⟨U6.heap.size, 3, none⟩ = some (.slice A6_0 x.chans.length C6_0) := B1.c 3 _ rfl
  have q1_4 : U18.cell? ⟨U6.heap.size, 4, none⟩ = some (.slice A6_1 x.htlcs.length C6_1) := B1.c 4 _ rfl
  have q1_5 : U18.cell? ⟨U6.heap.size, 5, none⟩ = some (.slice A6_2 x.circles.length C6_2) := B1.c 5 _ rfl
  have f1 := B1.f
  go_wp2_with fail
  refine (toBook_c x _ _ _ _ _ _ _ (H0_0.out.grow' repChan_stable (Grow.below G)) (H0_1.out.grow' repHtlc_stable (Grow.below G)) (H0_2.out.grow' repCircle_stable (Grow.below G)) Bx_0 Bx_1 Bx_2).mono ?_
  rintro e U19 ⟨A19_0, C19_0, P19_0, Q19_0, A19_1, C19_1, P19_1, Q19_1, A19_2, C19_2, P19_2, Q19_2, rfl, gs, O19, S19_0, S19_1, S19_2⟩
  clear z0 z1 q0_0 q0_1 q0_2 q0_3 q0_4 q0_5 f0 q1_0 q1_1 q1_2 q1_3 q1_4 q1_5 f1
  have ys := Grow.size gs
  replace B0 : Box U19 (w.heap.size) [.int .i64 x.tick, .int .i64 x.next, .int .i64 x.wallet, .slice a0_0 x.chans.length c0_0, .slice a0_1 x.htlcs.length c0_1, .slice a0_2 x.circles.length c0_2] := Box.grow B0 gs
  replace B1 : Box U19 (U6.heap.size) [.int .i64 x.tick, .int .i64 x.next, .int .i64 x.wallet, .slice A6_0 x.chans.length C6_0, .slice A6_1 x.htlcs.length C6_1, .slice A6_2 x.circles.length C6_2] := Box.grow B1 gs
  replace S3_0 := S3_0.same repChan_stable (gs.same (by omega))
  replace S3_1 := S3_1.same repHtlc_stable (gs.same (by omega))
  replace S3_2 := S3_2.same repCircle_stable (gs.same (by omega))
  replace S4_0 := S4_0.same repPrice_stable (gs.same (by omega))
  replace S5_0 := S5_0.same repMove_stable (gs.same (by omega))
  replace S12_0 := S12_0.same repPrice_stable (gs.same (by omega))
  replace M14_0 := M14_0.same (gs.same (by omega))
  replace M14_1 := M14_1.same (gs.same (by omega))
  replace M14_2 := M14_2.same (gs.same (by omega))
  replace M15_0 := M15_0.same (gs.same (by omega))
  replace M17_0 := M17_0.same (gs.same (by omega))
  replace G : Grow w U19 := Grow.trans G gs
  clear gs
  have z0 := B0.lt
  have z1 := B1.lt
  have q0_0 : U19.cell? ⟨w.heap.size, 0, none⟩ = some (.int .i64 x.tick) := B0.c 0 _ rfl
  have q0_1 : U19.cell? ⟨w.heap.size, 1, none⟩ = some (.int .i64 x.next) := B0.c 1 _ rfl
  have q0_2 : U19.cell? ⟨w.heap.size, 2, none⟩ = some (.int .i64 x.wallet) := B0.c 2 _ rfl
  have q0_3 : U19.cell? ⟨w.heap.size, 3, none⟩ = some (.slice a0_0 x.chans.length c0_0) := B0.c 3 _ rfl
  have q0_4 : U19.cell? ⟨w.heap.size, 4, none⟩ = some (.slice a0_1 x.htlcs.length c0_1) := B0.c 4 _ rfl
  have q0_5 : U19.cell? ⟨w.heap.size, 5, none⟩ = some (.slice a0_2 x.circles.length c0_2) := B0.c 5 _ rfl
  have f0 := B0.f
  have q1_0 : U19.cell? ⟨U6.heap.size, 0, none⟩ = some (.int .i64 x.tick) := B1.c 0 _ rfl
  have q1_1 : U19.cell? ⟨U6.heap.size, 1, none⟩ = some (.int .i64 x.next) := B1.c 1 _ rfl
  have q1_2 : U19.cell? ⟨U6.heap.size, 2, none⟩ = some (.int .i64 x.wallet) := B1.c 2 _ rfl
  have q1_3 : U19.cell? ⟨U6.heap.size, 3, none⟩ = some (.slice A6_0 x.chans.length C6_0) := B1.c 3 _ rfl
  have q1_4 : U19.cell? ⟨U6.heap.size, 4, none⟩ = some (.slice A6_1 x.htlcs.length C6_1) := B1.c 4 _ rfl
  have q1_5 : U19.cell? ⟨U6.heap.size, 5, none⟩ = some (.slice A6_2 x.circles.length C6_2) := B1.c 5 _ rfl
  have f1 := B1.f
  go_wp2_with fail
  refine (toPriceS_c l _ _ _ (H4.out.grow' repPrice_stable (Grow.below G)) Bl).mono ?_
  rintro e U20 ⟨A20_0, C20_0, rfl, gs, S20_0⟩
  clear z0 z1 q0_0 q0_1 q0_2 q0_3 q0_4 q0_5 f0 q1_0 q1_1 q1_2 q1_3 q1_4 q1_5 f1
  have ys := Grow.size gs
  replace B0 : Box U20 (w.heap.size) [.int .i64 x.tick, .int .i64 x.next, .int .i64 x.wallet, .slice a0_0 x.chans.length c0_0, .slice a0_1 x.htlcs.length c0_1, .slice a0_2 x.circles.length c0_2] := Box.grow B0 gs
  replace B1 : Box U20 (U6.heap.size) [.int .i64 x.tick, .int .i64 x.next, .int .i64 x.wallet, .slice A6_0 x.chans.length C6_0, .slice A6_1 x.htlcs.length C6_1, .slice A6_2 x.circles.length C6_2] := Box.grow B1 gs
  replace S3_0 := S3_0.same repChan_stable (gs.same (by omega))
  replace S3_1 := S3_1.same repHtlc_stable (gs.same (by omega))
  replace S3_2 := S3_2.same repCircle_stable (gs.same (by omega))
  replace S4_0 := S4_0.same repPrice_stable (gs.same (by omega))
  replace S5_0 := S5_0.same repMove_stable (gs.same (by omega))
  replace S12_0 := S12_0.same repPrice_stable (gs.same (by omega))
  replace S19_0 := S19_0.same repChan_stable (gs.same (by omega))
  replace S19_1 := S19_1.same repHtlc_stable (gs.same (by omega))
  replace S19_2 := S19_2.same repCircle_stable (gs.same (by omega))
  replace M14_0 := M14_0.same (gs.same (by omega))
  replace M14_1 := M14_1.same (gs.same (by omega))
  replace M14_2 := M14_2.same (gs.same (by omega))
  replace M15_0 := M15_0.same (gs.same (by omega))
  replace M17_0 := M17_0.same (gs.same (by omega))
  replace G : Grow w U20 := Grow.trans G gs
  clear gs
  have z0 := B0.lt
  have z1 := B1.lt
  have q0_0 : U20.cell? ⟨w.heap.size, 0, none⟩ = some (.int .i64 x.tick) := B0.c 0 _ rfl
  have q0_1 : U20.cell? ⟨w.heap.size, 1, none⟩ = some (.int .i64 x.next) := B0.c 1 _ rfl
  have q0_2 : U20.cell? ⟨w.heap.size, 2, none⟩ = some (.int .i64 x.wallet) := B0.c 2 _ rfl
  have q0_3 : U20.cell? ⟨w.heap.size, 3, none⟩ = some (.slice a0_0 x.chans.length c0_0) := B0.c 3 _ rfl
  have q0_4 : U20.cell? ⟨w.heap.size, 4, none⟩ = some (.slice a0_1 x.htlcs.length c0_1) := B0.c 4 _ rfl
  have q0_5 : U20.cell? ⟨w.heap.size, 5, none⟩ = some (.slice a0_2 x.circles.length c0_2) := B0.c 5 _ rfl
  have f0 := B0.f
  have q1_0 : U20.cell? ⟨U6.heap.size, 0, none⟩ = some (.int .i64 x.tick) := B1.c 0 _ rfl
  have q1_1 : U20.cell? ⟨U6.heap.size, 1, none⟩ = some (.int .i64 x.next) := B1.c 1 _ rfl
  have q1_2 : U20.cell? ⟨U6.heap.size, 2, none⟩ = some (.int .i64 x.wallet) := B1.c 2 _ rfl
  have q1_3 : U20.cell? ⟨U6.heap.size, 3, none⟩ = some (.slice A6_0 x.chans.length C6_0) := B1.c 3 _ rfl
  have q1_4 : U20.cell? ⟨U6.heap.size, 4, none⟩ = some (.slice A6_1 x.htlcs.length C6_1) := B1.c 4 _ rfl
  have q1_5 : U20.cell? ⟨U6.heap.size, 5, none⟩ = some (.slice A6_2 x.circles.length C6_2) := B1.c 5 _ rfl
  have f1 := B1.f
  go_wp2_with fail
  refine (impl_Moves_c x _ _ _ _ _ _ lo hi gain l _ _ _ (S19_0.all repChan_stable (by omega)) (S19_1.all repHtlc_stable (by omega)) (S19_2.all repCircle_stable (by omega)) (S20_0.all repPrice_stable (by omega)) Bx_0 Bl).mono ?_
  rintro e U21 ⟨A21_0, C21_0, rfl, gs, S21_0⟩
  clear z0 z1 q0_0 q0_1 q0_2 q0_3 q0_4 q0_5 f0 q1_0 q1_1 q1_2 q1_3 q1_4 q1_5 f1
  have ys := Grow.size gs
  replace B0 : Box U21 (w.heap.size) [.int .i64 x.tick, .int .i64 x.next, .int .i64 x.wallet, .slice a0_0 x.chans.length c0_0, .slice a0_1 x.htlcs.length c0_1, .slice a0_2 x.circles.length c0_2] := Box.grow B0 gs
  replace B1 : Box U21 (U6.heap.size) [.int .i64 x.tick, .int .i64 x.next, .int .i64 x.wallet, .slice A6_0 x.chans.length C6_0, .slice A6_1 x.htlcs.length C6_1, .slice A6_2 x.circles.length C6_2] := Box.grow B1 gs
  replace S3_0 := S3_0.same repChan_stable (gs.same (by omega))
  replace S3_1 := S3_1.same repHtlc_stable (gs.same (by omega))
  replace S3_2 := S3_2.same repCircle_stable (gs.same (by omega))
  replace S4_0 := S4_0.same repPrice_stable (gs.same (by omega))
  replace S5_0 := S5_0.same repMove_stable (gs.same (by omega))
  replace S12_0 := S12_0.same repPrice_stable (gs.same (by omega))
  replace S19_0 := S19_0.same repChan_stable (gs.same (by omega))
  replace S19_1 := S19_1.same repHtlc_stable (gs.same (by omega))
  replace S19_2 := S19_2.same repCircle_stable (gs.same (by omega))
  replace S20_0 := S20_0.same repPrice_stable (gs.same (by omega))
  replace M14_0 := M14_0.same (gs.same (by omega))
  replace M14_1 := M14_1.same (gs.same (by omega))
  replace M14_2 := M14_2.same (gs.same (by omega))
  replace M15_0 := M15_0.same (gs.same (by omega))
  replace M17_0 := M17_0.same (gs.same (by omega))
  replace G : Grow w U21 := Grow.trans G gs
  clear gs
  have z0 := B0.lt
  have z1 := B1.lt
  have q0_0 : U21.cell? ⟨w.heap.size, 0, none⟩ = some (.int .i64 x.tick) := B0.c 0 _ rfl
  have q0_1 : U21.cell? ⟨w.heap.size, 1, none⟩ = some (.int .i64 x.next) := B0.c 1 _ rfl
  have q0_2 : U21.cell? ⟨w.heap.size, 2, none⟩ = some (.int .i64 x.wallet) := B0.c 2 _ rfl
  have q0_3 : U21.cell? ⟨w.heap.size, 3, none⟩ = some (.slice a0_0 x.chans.length c0_0) := B0.c 3 _ rfl
  have q0_4 : U21.cell? ⟨w.heap.size, 4, none⟩ = some (.slice a0_1 x.htlcs.length c0_1) := B0.c 4 _ rfl
  have q0_5 : U21.cell? ⟨w.heap.size, 5, none⟩ = some (.slice a0_2 x.circles.length c0_2) := B0.c 5 _ rfl
  have f0 := B0.f
  have q1_0 : U21.cell? ⟨U6.heap.size, 0, none⟩ = some (.int .i64 x.tick) := B1.c 0 _ rfl
  have q1_1 : U21.cell? ⟨U6.heap.size, 1, none⟩ = some (.int .i64 x.next) := B1.c 1 _ rfl
  have q1_2 : U21.cell? ⟨U6.heap.size, 2, none⟩ = some (.int .i64 x.wallet) := B1.c 2 _ rfl
  have q1_3 : U21.cell? ⟨U6.heap.size, 3, none⟩ = some (.slice A6_0 x.chans.length C6_0) := B1.c 3 _ rfl
  have q1_4 : U21.cell? ⟨U6.heap.size, 4, none⟩ = some (.slice A6_1 x.htlcs.length C6_1) := B1.c 4 _ rfl
  have q1_5 : U21.cell? ⟨U6.heap.size, 5, none⟩ = some (.slice A6_2 x.circles.length C6_2) := B1.c 5 _ rfl
  have f1 := B1.f
  go_wp2_with fail
  refine (eqMoveS_c (movesL x lo hi gain l) _ _ _ _ _ (S21_0.all repMove_stable (by omega)) (S5_0.all repMove_stable (by omega))).mono ?_
  rintro e U22 ⟨rfl, gs⟩
  clear z0 z1 q0_0 q0_1 q0_2 q0_3 q0_4 q0_5 f0 q1_0 q1_1 q1_2 q1_3 q1_4 q1_5 f1
  have ys := Grow.size gs
  replace B0 : Box U22 (w.heap.size) [.int .i64 x.tick, .int .i64 x.next, .int .i64 x.wallet, .slice a0_0 x.chans.length c0_0, .slice a0_1 x.htlcs.length c0_1, .slice a0_2 x.circles.length c0_2] := Box.grow B0 gs
  replace B1 : Box U22 (U6.heap.size) [.int .i64 x.tick, .int .i64 x.next, .int .i64 x.wallet, .slice A6_0 x.chans.length C6_0, .slice A6_1 x.htlcs.length C6_1, .slice A6_2 x.circles.length C6_2] := Box.grow B1 gs
  replace S3_0 := S3_0.same repChan_stable (gs.same (by omega))
  replace S3_1 := S3_1.same repHtlc_stable (gs.same (by omega))
  replace S3_2 := S3_2.same repCircle_stable (gs.same (by omega))
  replace S4_0 := S4_0.same repPrice_stable (gs.same (by omega))
  replace S5_0 := S5_0.same repMove_stable (gs.same (by omega))
  replace S12_0 := S12_0.same repPrice_stable (gs.same (by omega))
  replace S19_0 := S19_0.same repChan_stable (gs.same (by omega))
  replace S19_1 := S19_1.same repHtlc_stable (gs.same (by omega))
  replace S19_2 := S19_2.same repCircle_stable (gs.same (by omega))
  replace S20_0 := S20_0.same repPrice_stable (gs.same (by omega))
  replace S21_0 := S21_0.same repMove_stable (gs.same (by omega))
  replace M14_0 := M14_0.same (gs.same (by omega))
  replace M14_1 := M14_1.same (gs.same (by omega))
  replace M14_2 := M14_2.same (gs.same (by omega))
  replace M15_0 := M15_0.same (gs.same (by omega))
  replace M17_0 := M17_0.same (gs.same (by omega))
  replace G : Grow w U22 := Grow.trans G gs
  clear gs
  have z0 := B0.lt
  have z1 := B1.lt
  have q0_0 : U22.cell? ⟨w.heap.size, 0, none⟩ = some (.int .i64 x.tick) := B0.c 0 _ rfl
  have q0_1 : U22.cell? ⟨w.heap.size, 1, none⟩ = some (.int .i64 x.next) := B0.c 1 _ rfl
  have q0_2 : U22.cell? ⟨w.heap.size, 2, none⟩ = some (.int .i64 x.wallet) := B0.c 2 _ rfl
  have q0_3 : U22.cell? ⟨w.heap.size, 3, none⟩ = some (.slice a0_0 x.chans.length c0_0) := B0.c 3 _ rfl
  have q0_4 : U22.cell? ⟨w.heap.size, 4, none⟩ = some (.slice a0_1 x.htlcs.length c0_1) := B0.c 4 _ rfl
  have q0_5 : U22.cell? ⟨w.heap.size, 5, none⟩ = some (.slice a0_2 x.circles.length c0_2) := B0.c 5 _ rfl
  have f0 := B0.f
  have q1_0 : U22.cell? ⟨U6.heap.size, 0, none⟩ = some (.int .i64 x.tick) := B1.c 0 _ rfl
  have q1_1 : U22.cell? ⟨U6.heap.size, 1, none⟩ = some (.int .i64 x.next) := B1.c 1 _ rfl
  have q1_2 : U22.cell? ⟨U6.heap.size, 2, none⟩ = some (.int .i64 x.wallet) := B1.c 2 _ rfl
  have q1_3 : U22.cell? ⟨U6.heap.size, 3, none⟩ = some (.slice A6_0 x.chans.length C6_0) := B1.c 3 _ rfl
  have q1_4 : U22.cell? ⟨U6.heap.size, 4, none⟩ = some (.slice A6_1 x.htlcs.length C6_1) := B1.c 4 _ rfl
  have q1_5 : U22.cell? ⟨U6.heap.size, 5, none⟩ = some (.slice A6_2 x.circles.length C6_2) := B1.c 5 _ rfl
  have f1 := B1.f
  go_wp2_with fail
  refine (heldMoveS_c _ _ _ 1 U7.heap.size U8.heap.size _ M17_0 cap_S8_0 (by have := movesL_len x lo hi gain l; omega) (by omega) (by omega)).mono ?_
  rintro e U23 ⟨rfl, gs⟩
  clear z0 z1 q0_0 q0_1 q0_2 q0_3 q0_4 q0_5 f0 q1_0 q1_1 q1_2 q1_3 q1_4 q1_5 f1
  have ys := Grow.size gs
  replace B0 : Box U23 (w.heap.size) [.int .i64 x.tick, .int .i64 x.next, .int .i64 x.wallet, .slice a0_0 x.chans.length c0_0, .slice a0_1 x.htlcs.length c0_1, .slice a0_2 x.circles.length c0_2] := Box.grow B0 gs
  replace B1 : Box U23 (U6.heap.size) [.int .i64 x.tick, .int .i64 x.next, .int .i64 x.wallet, .slice A6_0 x.chans.length C6_0, .slice A6_1 x.htlcs.length C6_1, .slice A6_2 x.circles.length C6_2] := Box.grow B1 gs
  replace S3_0 := S3_0.same repChan_stable (gs.same (by omega))
  replace S3_1 := S3_1.same repHtlc_stable (gs.same (by omega))
  replace S3_2 := S3_2.same repCircle_stable (gs.same (by omega))
  replace S4_0 := S4_0.same repPrice_stable (gs.same (by omega))
  replace S5_0 := S5_0.same repMove_stable (gs.same (by omega))
  replace S12_0 := S12_0.same repPrice_stable (gs.same (by omega))
  replace S19_0 := S19_0.same repChan_stable (gs.same (by omega))
  replace S19_1 := S19_1.same repHtlc_stable (gs.same (by omega))
  replace S19_2 := S19_2.same repCircle_stable (gs.same (by omega))
  replace S20_0 := S20_0.same repPrice_stable (gs.same (by omega))
  replace S21_0 := S21_0.same repMove_stable (gs.same (by omega))
  replace M14_0 := M14_0.same (gs.same (by omega))
  replace M14_1 := M14_1.same (gs.same (by omega))
  replace M14_2 := M14_2.same (gs.same (by omega))
  replace M15_0 := M15_0.same (gs.same (by omega))
  replace M17_0 := M17_0.same (gs.same (by omega))
  replace G : Grow w U23 := Grow.trans G gs
  clear gs
  have z0 := B0.lt
  have z1 := B1.lt
  have q0_0 : U23.cell? ⟨w.heap.size, 0, none⟩ = some (.int .i64 x.tick) := B0.c 0 _ rfl
  have q0_1 : U23.cell? ⟨w.heap.size, 1, none⟩ = some (.int .i64 x.next) := B0.c 1 _ rfl
  have q0_2 : U23.cell? ⟨w.heap.size, 2, none⟩ = some (.int .i64 x.wallet) := B0.c 2 _ rfl
  have q0_3 : U23.cell? ⟨w.heap.size, 3, none⟩ = some (.slice a0_0 x.chans.length c0_0) := B0.c 3 _ rfl
  have q0_4 : U23.cell? ⟨w.heap.size, 4, none⟩ = some (.slice a0_1 x.htlcs.length c0_1) := B0.c 4 _ rfl
  have q0_5 : U23.cell? ⟨w.heap.size, 5, none⟩ = some (.slice a0_2 x.circles.length c0_2) := B0.c 5 _ rfl
  have f0 := B0.f
  have q1_0 : U23.cell? ⟨U6.heap.size, 0, none⟩ = some (.int .i64 x.tick) := B1.c 0 _ rfl
  have q1_1 : U23.cell? ⟨U6.heap.size, 1, none⟩ = some (.int .i64 x.next) := B1.c 1 _ rfl
  have q1_2 : U23.cell? ⟨U6.heap.size, 2, none⟩ = some (.int .i64 x.wallet) := B1.c 2 _ rfl
  have q1_3 : U23.cell? ⟨U6.heap.size, 3, none⟩ = some (.slice A6_0 x.chans.length C6_0) := B1.c 3 _ rfl
  have q1_4 : U23.cell? ⟨U6.heap.size, 4, none⟩ = some (.slice A6_1 x.htlcs.length C6_1) := B1.c 4 _ rfl
  have q1_5 : U23.cell? ⟨U6.heap.size, 5, none⟩ = some (.slice A6_2 x.circles.length C6_2) := B1.c 5 _ rfl
  have f1 := B1.f
  go_wp2_with fail
  go_ret
  exact ⟨rfl, by repeat (first | exact G | (refine Grow.alloc ?_ _ _) | (refine Grow.drew ?_) | (refine Grow.drewN ?_ _))⟩
end Go.Proofs.Ytbjnbhlpibadnaa

/- The law FnExactMoves returns true for every input, and each argument reads afterwards as before. No condition. -/
namespace Go.Proofs.Ytbjnbhlpibadnaa.fnExactMoves
open Go.ChangeShapes Go.WideShapes Go.ChangeAt Go.RowKit Go.Proofs.Ytbjnbhlpibadnaa
set_option linter.unusedVariables false

theorem own : ownKnob Try.prog.godebug = none := by kernel_rfl
theorem laid : laidOutB Try.prog = true := by kernel_rfl

theorem readable : ∀ t ∈ [47, 3, 3, 3, 67], Try.prog.readableRec t = true ∧ t < Try.prog.types.size := by
  intro t ht
  simp only [List.mem_cons, List.not_mem_nil, or_false] at ht
  rcases ht with rfl | rfl | rfl | rfl | rfl
  all_goals exact ⟨by kernel_rfl, of_decide_eq_true (by kernel_rfl)⟩

set_option maxRecDepth 100000 in
theorem lifted (os : Os) (started : os.Started) (H : Type) (enc : TypeId × Value → H) :
    ReturnsInHanded {} Try.checked os 8 .any (Rows.fnExactMovesSpec.pre6 enc Try.prog Try.f8 Rows.fnExactMovesRow.domain false) (Rows.fnExactMovesSpec.post enc Try.prog Try.f8 false true false false) := by
  refine returnsInHanded_of_change (C := Try.checked) own started (by kernel_rfl) Try.func8
    (ChangeSpec.witness6 (enc := enc) (C := Try.checked) false ⟨#[], #[.agg #[.int .i64 0, .int .i64 0, .int .i64 0, .slice none 0 0, .slice none 0 0, .slice none 0 0], .int .i64 0, .int .i64 0, .int .i64 0, .slice none 0 0], []⟩ 8 (by kernel_rfl) (by kernel_rfl) (by kernel_rfl) (by kernel_rfl)) ?_
  intro W base args ds gs before hval0 hW hcnd _
  have hval : ∀ (j : Nat) t v, Try.f8.params[j]? = some t → args[j]? = some v → Value.okWide Try.prog W .any base t v := hval0
  have hW' := hW
  obtain ⟨p, q, hA0, hV, rfl, hfz, hnd⟩ := hW
  have hA : DataW.TrodAll enc Try.prog W 0 (fun _ => true) true Try.f8.params.toList args.toList ds p := hA0
  rw [Try.params8] at hA hval
  have hB := hA
  obtain ⟨v0, vs0, d0, ds0, p0, q0, hargs, rfl, rfl, h0, r0⟩ := trodAll_cons hA
  obtain ⟨v1, vs1, d1, ds1, p1, q1, rfl, rfl, rfl, h1, r1⟩ := trodAll_cons r0
  obtain ⟨v2, vs2, d2, ds2, p2, q2, rfl, rfl, rfl, h2, r2⟩ := trodAll_cons r1
  obtain ⟨v3, vs3, d3, ds3, p3, q3, rfl, rfl, rfl, h3, r3⟩ := trodAll_cons r2
  obtain ⟨v4, vs4, d4, ds4, p4, q4, rfl, rfl, rfl, h4, r4⟩ := trodAll_cons r3
  obtain ⟨rfl, rfl, rfl⟩ := trodAll_nil r4
  obtain rfl : args = #[v0, v1, v2, v3, v4] := by cases args; simp_all
  obtain ⟨rfl, rfl⟩ := trodVars_none hV
  obtain ⟨cs0, rfl, _⟩ := okWide_struct Try.underlying47 (hval 0 47 v0 rfl rfl)
  obtain ⟨fu0, t0⟩ := h0
  obtain ⟨x0, u0_0, u0_1, u0_2, e0, s0_0, s0_1, s0_2, w0⟩ := trodBook t0
  have e0 : cs0 = #[.int .i64 x0.tick, .int .i64 x0.next, .int .i64 x0.wallet, u0_0, u0_1, u0_2] := Array.ext' (by simpa [Value.cells] using e0)
  subst e0
  obtain ⟨a0_0, c0_0, rfl⟩ : ∃ a c, u0_0 = Value.slice a x0.chans.length c := let ⟨a, c, h, _⟩ := s0_0; ⟨a, c, h⟩
  obtain ⟨a0_1, c0_1, rfl⟩ : ∃ a c, u0_1 = Value.slice a x0.htlcs.length c := let ⟨a, c, h, _⟩ := s0_1; ⟨a, c, h⟩
  obtain ⟨a0_2, c0_2, rfl⟩ : ∃ a c, u0_2 = Value.slice a x0.circles.length c := let ⟨a, c, h, _⟩ := s0_2; ⟨a, c, h⟩
  obtain ⟨a1, rfl, _, _, w1⟩ := open_int Try.underlying3 (hval 1 3 v1 rfl rfl) h1
  obtain ⟨a2, rfl, _, _, w2⟩ := open_int Try.underlying3 (hval 2 3 v2 rfl rfl) h2
  obtain ⟨a3, rfl, _, _, w3⟩ := open_int Try.underlying3 (hval 3 3 v3 rfl rfl) h3
  obtain ⟨a4, l4, c4, rfl⟩ := okWide_slice Try.underlying67 (hval 4 67 v4 rfl rfl)
  obtain ⟨fu4, t4⟩ := h4
  obtain ⟨x4, s4⟩ := SlR.of_trod (rep := repPrice) Try.underlying67 cellsPrice (by decide) (fun _ _ _ h => trodPrice h) t4
  obtain rfl : l4 = x4.length := by obtain ⟨_, _, he, _⟩ := s4; injection he
  clear hA0 hval0
  simp only [List.append_nil] at hW'
  refine (FnExactMoves_walk x0 a0_0 c0_0 a0_1 c0_1 a0_2 c0_2 a1 a2 a3 x4 a4 c4 W s0_0 s0_1 s0_2 w0 (i64_of_wf w1) (i64_of_wf w2) (i64_of_wf w3) s4).mono fun e W' ⟨he, hg⟩ => ?_
  subst he
  exact ⟨_, rfl, _, _, _, _, _, [], hW', trodAll_mk1 (shut_bool Try.underlying4 true),
    trodAll_below laid hg.below (readable) hB, rfl, hg.below.frame _, fun h => by cases h⟩

theorem over : Rows.fnExactMovesRow.holds Try.pinned (OpenSpec.ofChange Rows.fnExactMovesSpec) :=
  OpenClaim.holds_of_wide 8 Try.f8 rfl rfl rfl rfl rfl rfl rfl ⟨rfl, rfl, rfl, rfl, rfl⟩ rfl rfl rfl rfl rfl (by kernel_rfl) Try.func8 (by kernel_rfl)
    (of_decide_eq_true (by kernel_rfl)) (by unfold Func.isWrapper; first | (rw [if_pos (by decide +kernel)]; kernel_rfl) | (rw [if_neg (by decide +kernel)]; exact ⟨rfl, rfl⟩))
    (fun os started H enc _ => lifted os started H enc)

/-- The statement. -/
theorem proved : Rows.FnExactMovesSaid :=
  over
#print axioms proved
end Go.Proofs.Ytbjnbhlpibadnaa.fnExactMoves
