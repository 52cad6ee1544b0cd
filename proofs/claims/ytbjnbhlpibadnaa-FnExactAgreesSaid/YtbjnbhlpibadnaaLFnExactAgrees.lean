/- The law FnExactAgrees, walked over the contracts. -/
import Derived.Test.YtbjnbhlpibadnaaAgr
import Derived.Test.YtbjnbhlpibadnaaHBook
import Derived.Test.YtbjnbhlpibadnaaHLedger
import Derived.Test.YtbjnbhlpibadnaaMk
import Derived.Deep.RegionHeld3
namespace Go.Proofs.Ytbjnbhlpibadnaa
open Go.RowKit
set_option linter.unusedSimpArgs false
set_option linter.unusedVariables false

set_option maxHeartbeats 8000000 in
set_option maxRecDepth 100000 in
theorem FnExactAgrees_walk (x : Book) (a0_0 : Option Addr) (c0_0 : Nat) (a0_1 : Option Addr) (c0_1 : Nat) (a0_2 : Option Addr) (c0_2 : Nat) (l : Ledger) (a1_0 : Option Addr) (c1_0 : Nat) (w : World) (h0_0 : SlR 7 repChan w 0 w.heap.size (.slice a0_0 x.chans.length c0_0) x.chans) (h0_1 : SlR 7 repHtlc w 0 w.heap.size (.slice a0_1 x.htlcs.length c0_1) x.htlcs) (h0_2 : SlR 5 repCircle w 0 w.heap.size (.slice a0_2 x.circles.length c0_2) x.circles) (wf0 : wfBook x) (h1_0 : SlR 3 repLine w 0 w.heap.size (.slice a1_0 l.lines.length c1_0) l.lines) (wf1 : wfLedger l) :
    Calls Try.prog 6 #[.agg #[.int .i64 x.tick, .int .i64 x.next, .int .i64 x.wallet, .slice a0_0 x.chans.length c0_0, .slice a0_1 x.htlcs.length c0_1, .slice a0_2 x.circles.length c0_2], .agg #[.int .i64 l.last, .slice a1_0 l.lines.length c1_0]] w fun e w' => e = .returned (.bool true) ∧ Grow w w' := by
  have H0_0 := Lib.hid h0_0
  have H0_1 := Lib.hid h0_1
  have H0_2 := Lib.hid h0_2
  have H1_0 := Lib.hid h1_0
  clear h0_0 h0_1 h0_2 h1_0
  by_cases t0 : szBook x (1048576 : Int) < 0
  · go_enter Try.func6, Try.ntmps6
    go_wp2_with fail
    obtain ⟨V1, hV⟩ : ∃ V, V = ((w.alloc (.cells #[.int .i64 x.tick, .int .i64 x.next, .int .i64 x.wallet, .slice a0_0 x.chans.length c0_0, .slice a0_1 x.htlcs.length c0_1, .slice a0_2 x.circles.length c0_2] 47)).alloc (.cells #[.int .i64 l.last, .slice a1_0 l.lines.length c1_0] 50)) := ⟨_, rfl⟩
    have G' : Grow w V1 := by rw [hV]; exact (((Grow.refl w).alloc _ _).alloc _ _)
    have gs : Grow w V1 := by rw [hV]; exact (((Grow.refl w).alloc _ _).alloc _ _)
    have B0 : Box V1 (w.heap.size) [.int .i64 x.tick, .int .i64 x.next, .int .i64 x.wallet, .slice a0_0 x.chans.length c0_0, .slice a0_1 x.htlcs.length c0_1, .slice a0_2 x.circles.length c0_2] := by rw [hV]; exact (Box.newAt (by simp) _ _).alloc _ _
    have B1 : Box V1 (w.heap.size + 1) [.int .i64 l.last, .slice a1_0 l.lines.length c1_0] := by rw [hV]; exact Box.newAt (by simp) _ _
    have ys : V1.heap.size = w.heap.size + 2 := by rw [hV]; simp
    have G := G'
    clear G'
    rw [← hV]
    clear hV
    clear gs
    have z0 := B0.lt
    have z1 := B1.lt
    have q0_0 : V1.cell? ⟨w.heap.size, 0, none⟩ = some (.int .i64 x.tick) := B0.c 0 _ rfl
    have q0_1 : V1.cell? ⟨w.heap.size, 1, none⟩ = some (.int .i64 x.next) := B0.c 1 _ rfl
    have q0_2 : V1.cell? ⟨w.heap.size, 2, none⟩ = some (.int .i64 x.wallet) := B0.c 2 _ rfl
    have q0_3 : V1.cell? ⟨w.heap.size, 3, none⟩ = some (.slice a0_0 x.chans.length c0_0) := B0.c 3 _ rfl
    have q0_4 : V1.cell? ⟨w.heap.size, 4, none⟩ = some (.slice a0_1 x.htlcs.length c0_1) := B0.c 4 _ rfl
    have q0_5 : V1.cell? ⟨w.heap.size, 5, none⟩ = some (.slice a0_2 x.circles.length c0_2) := B0.c 5 _ rfl
    have f0 := B0.f
    have q1_0 : V1.cell? ⟨w.heap.size + 1, 0, none⟩ = some (.int .i64 l.last) := B1.c 0 _ rfl
    have q1_1 : V1.cell? ⟨w.heap.size + 1, 1, none⟩ = some (.slice a1_0 l.lines.length c1_0) := B1.c 1 _ rfl
    have f1 := B1.f
    refine (szBook_c x _ _ _ _ _ _ _ _ (H0_0.out.grow' repChan_stable (Grow.below G)) (H0_1.out.grow' repHtlc_stable (Grow.below G)) (H0_2.out.grow' repCircle_stable (Grow.below G)) (by omega) (by omega)).mono ?_
    rintro e U1 ⟨rfl, gs⟩
    clear z0 z1 q0_0 q0_1 q0_2 q0_3 q0_4 q0_5 f0 q1_0 q1_1 f1
    have ys := Grow.size gs
    replace B0 : Box U1 (w.heap.size) [.int .i64 x.tick, .int .i64 x.next, .int .i64 x.wallet, .slice a0_0 x.chans.length c0_0, .slice a0_1 x.htlcs.length c0_1, .slice a0_2 x.circles.length c0_2] := Box.grow B0 gs
    replace B1 : Box U1 (w.heap.size + 1) [.int .i64 l.last, .slice a1_0 l.lines.length c1_0] := Box.grow B1 gs
    replace G : Grow w U1 := Grow.trans G gs
    clear gs
    have z0 := B0.lt
    have z1 := B1.lt
    have q0_0 : U1.cell? ⟨w.heap.size, 0, none⟩ = some (.int .i64 x.tick) := B0.c 0 _ rfl
    have q0_1 : U1.cell? ⟨w.heap.size, 1, none⟩ = some (.int .i64 x.next) := B0.c 1 _ rfl
    have q0_2 : U1.cell? ⟨w.heap.size, 2, none⟩ = some (.int .i64 x.wallet) := B0.c 2 _ rfl
    have q0_3 : U1.cell? ⟨w.heap.size, 3, none⟩ = some (.slice a0_0 x.chans.length c0_0) := B0.c 3 _ rfl
    have q0_4 : U1.cell? ⟨w.heap.size, 4, none⟩ = some (.slice a0_1 x.htlcs.length c0_1) := B0.c 4 _ rfl
    have q0_5 : U1.cell? ⟨w.heap.size, 5, none⟩ = some (.slice a0_2 x.circles.length c0_2) := B0.c 5 _ rfl
    have f0 := B0.f
    have q1_0 : U1.cell? ⟨w.heap.size + 1, 0, none⟩ = some (.int .i64 l.last) := B1.c 0 _ rfl
    have q1_1 : U1.cell? ⟨w.heap.size + 1, 1, none⟩ = some (.slice a1_0 l.lines.length c1_0) := B1.c 1 _ rfl
    have f1 := B1.f
    go_wp2_with fail
    go_ret
    exact ⟨rfl, by repeat (first | exact G | (refine Grow.alloc ?_ _ _) | (refine Grow.drew ?_) | (refine Grow.drewN ?_ _))⟩
  obtain ⟨L0, Bx_0, Bx_1, Bx_2⟩ := szBook_le x (1048576 : Int) (by omega) (by omega)
  by_cases t1 : szLedger l (szBook x (1048576 : Int)) < 0
  · go_enter Try.func6, Try.ntmps6
    go_wp2_with fail
    obtain ⟨V1, hV⟩ : ∃ V, V = ((w.alloc (.cells #[.int .i64 x.tick, .int .i64 x.next, .int .i64 x.wallet, .slice a0_0 x.chans.length c0_0, .slice a0_1 x.htlcs.length c0_1, .slice a0_2 x.circles.length c0_2] 47)).alloc (.cells #[.int .i64 l.last, .slice a1_0 l.lines.length c1_0] 50)) := ⟨_, rfl⟩
    have G' : Grow w V1 := by rw [hV]; exact (((Grow.refl w).alloc _ _).alloc _ _)
    have gs : Grow w V1 := by rw [hV]; exact (((Grow.refl w).alloc _ _).alloc _ _)
    have B0 : Box V1 (w.heap.size) [.int .i64 x.tick, .int .i64 x.next, .int .i64 x.wallet, .slice a0_0 x.chans.length c0_0, .slice a0_1 x.htlcs.length c0_1, .slice a0_2 x.circles.length c0_2] := by rw [hV]; exact (Box.newAt (by simp) _ _).alloc _ _
    have B1 : Box V1 (w.heap.size + 1) [.int .i64 l.last, .slice a1_0 l.lines.length c1_0] := by rw [hV]; exact Box.newAt (by simp) _ _
    have ys : V1.heap.size = w.heap.size + 2 := by rw [hV]; simp
    have G := G'
    clear G'
    rw [← hV]
    clear hV
    clear gs
    have z0 := B0.lt
    have z1 := B1.lt
    have q0_0 : V1.cell? ⟨w.heap.size, 0, none⟩ = some (.int .i64 x.tick) := B0.c 0 _ rfl
    have q0_1 : V1.cell? ⟨w.heap.size, 1, none⟩ = some (.int .i64 x.next) := B0.c 1 _ rfl
    have q0_2 : V1.cell? ⟨w.heap.size, 2, none⟩ = some (.int .i64 x.wallet) := B0.c 2 _ rfl
    have q0_3 : V1.cell? ⟨w.heap.size, 3, none⟩ = some (.slice a0_0 x.chans.length c0_0) := B0.c 3 _ rfl
    have q0_4 : V1.cell? ⟨w.heap.size, 4, none⟩ = some (.slice a0_1 x.htlcs.length c0_1) := B0.c 4 _ rfl
    have q0_5 : V1.cell? ⟨w.heap.size, 5, none⟩ = some (.slice a0_2 x.circles.length c0_2) := B0.c 5 _ rfl
    have f0 := B0.f
    have q1_0 : V1.cell? ⟨w.heap.size + 1, 0, none⟩ = some (.int .i64 l.last) := B1.c 0 _ rfl
    have q1_1 : V1.cell? ⟨w.heap.size + 1, 1, none⟩ = some (.slice a1_0 l.lines.length c1_0) := B1.c 1 _ rfl
    have f1 := B1.f
    refine (szBook_c x _ _ _ _ _ _ _ _ (H0_0.out.grow' repChan_stable (Grow.below G)) (H0_1.out.grow' repHtlc_stable (Grow.below G)) (H0_2.out.grow' repCircle_stable (Grow.below G)) (by omega) (by omega)).mono ?_
    rintro e U1 ⟨rfl, gs⟩
    clear z0 z1 q0_0 q0_1 q0_2 q0_3 q0_4 q0_5 f0 q1_0 q1_1 f1
    have ys := Grow.size gs
    replace B0 : Box U1 (w.heap.size) [.int .i64 x.tick, .int .i64 x.next, .int .i64 x.wallet, .slice a0_0 x.chans.length c0_0, .slice a0_1 x.htlcs.length c0_1, .slice a0_2 x.circles.length c0_2] := Box.grow B0 gs
    replace B1 : Box U1 (w.heap.size + 1) [.int .i64 l.last, .slice a1_0 l.lines.length c1_0] := Box.grow B1 gs
    replace G : Grow w U1 := Grow.trans G gs
    clear gs
    have z0 := B0.lt
    have z1 := B1.lt
    have q0_0 : U1.cell? ⟨w.heap.size, 0, none⟩ = some (.int .i64 x.tick) := B0.c 0 _ rfl
    have q0_1 : U1.cell? ⟨w.heap.size, 1, none⟩ = some (.int .i64 x.next) := B0.c 1 _ rfl
    have q0_2 : U1.cell? ⟨w.heap.size, 2, none⟩ = some (.int .i64 x.wallet) := B0.c 2 _ rfl
    have q0_3 : U1.cell? ⟨w.heap.size, 3, none⟩ = some (.slice a0_0 x.chans.length c0_0) := B0.c 3 _ rfl
    have q0_4 : U1.cell? ⟨w.heap.size, 4, none⟩ = some (.slice a0_1 x.htlcs.length c0_1) := B0.c 4 _ rfl
    have q0_5 : U1.cell? ⟨w.heap.size, 5, none⟩ = some (.slice a0_2 x.circles.length c0_2) := B0.c 5 _ rfl
    have f0 := B0.f
    have q1_0 : U1.cell? ⟨w.heap.size + 1, 0, none⟩ = some (.int .i64 l.last) := B1.c 0 _ rfl
    have q1_1 : U1.cell? ⟨w.heap.size + 1, 1, none⟩ = some (.slice a1_0 l.lines.length c1_0) := B1.c 1 _ rfl
    have f1 := B1.f
    go_wp2_with fail
    refine (szLedger_c l _ _ _ _ (H1_0.out.grow' repLine_stable (Grow.below G)) (by omega) (by omega)).mono ?_
    rintro e U2 ⟨rfl, gs⟩
    clear z0 z1 q0_0 q0_1 q0_2 q0_3 q0_4 q0_5 f0 q1_0 q1_1 f1
    have ys := Grow.size gs
    replace B0 : Box U2 (w.heap.size) [.int .i64 x.tick, .int .i64 x.next, .int .i64 x.wallet, .slice a0_0 x.chans.length c0_0, .slice a0_1 x.htlcs.length c0_1, .slice a0_2 x.circles.length c0_2] := Box.grow B0 gs
    replace B1 : Box U2 (w.heap.size + 1) [.int .i64 l.last, .slice a1_0 l.lines.length c1_0] := Box.grow B1 gs
    replace G : Grow w U2 := Grow.trans G gs
    clear gs
    have z0 := B0.lt
    have z1 := B1.lt
    have q0_0 : U2.cell? ⟨w.heap.size, 0, none⟩ = some (.int .i64 x.tick) := B0.c 0 _ rfl
    have q0_1 : U2.cell? ⟨w.heap.size, 1, none⟩ = some (.int .i64 x.next) := B0.c 1 _ rfl
    have q0_2 : U2.cell? ⟨w.heap.size, 2, none⟩ = some (.int .i64 x.wallet) := B0.c 2 _ rfl
    have q0_3 : U2.cell? ⟨w.heap.size, 3, none⟩ = some (.slice a0_0 x.chans.length c0_0) := B0.c 3 _ rfl
    have q0_4 : U2.cell? ⟨w.heap.size, 4, none⟩ = some (.slice a0_1 x.htlcs.length c0_1) := B0.c 4 _ rfl
    have q0_5 : U2.cell? ⟨w.heap.size, 5, none⟩ = some (.slice a0_2 x.circles.length c0_2) := B0.c 5 _ rfl
    have f0 := B0.f
    have q1_0 : U2.cell? ⟨w.heap.size + 1, 0, none⟩ = some (.int .i64 l.last) := B1.c 0 _ rfl
    have q1_1 : U2.cell? ⟨w.heap.size + 1, 1, none⟩ = some (.slice a1_0 l.lines.length c1_0) := B1.c 1 _ rfl
    have f1 := B1.f
    go_wp2_with fail
    go_ret
    exact ⟨rfl, by repeat (first | exact G | (refine Grow.alloc ?_ _ _) | (refine Grow.drew ?_) | (refine Grow.drewN ?_ _))⟩
  obtain ⟨L1, Bl_0⟩ := szLedger_le l (szBook x (1048576 : Int)) (by omega) (by omega)
  go_enter Try.func6, Try.ntmps6
  go_wp2_with fail
  obtain ⟨V1, hV⟩ : ∃ V, V = ((w.alloc (.cells #[.int .i64 x.tick, .int .i64 x.next, .int .i64 x.wallet, .slice a0_0 x.chans.length c0_0, .slice a0_1 x.htlcs.length c0_1, .slice a0_2 x.circles.length c0_2] 47)).alloc (.cells #[.int .i64 l.last, .slice a1_0 l.lines.length c1_0] 50)) := ⟨_, rfl⟩
  have G' : Grow w V1 := by rw [hV]; exact (((Grow.refl w).alloc _ _).alloc _ _)
  have gs : Grow w V1 := by rw [hV]; exact (((Grow.refl w).alloc _ _).alloc _ _)
  have B0 : Box V1 (w.heap.size) [.int .i64 x.tick, .int .i64 x.next, .int .i64 x.wallet, .slice a0_0 x.chans.length c0_0, .slice a0_1 x.htlcs.length c0_1, .slice a0_2 x.circles.length c0_2] := by rw [hV]; exact (Box.newAt (by simp) _ _).alloc _ _
  have B1 : Box V1 (w.heap.size + 1) [.int .i64 l.last, .slice a1_0 l.lines.length c1_0] := by rw [hV]; exact Box.newAt (by simp) _ _
  have ys : V1.heap.size = w.heap.size + 2 := by rw [hV]; simp
  have G := G'
  clear G'
  rw [← hV]
  clear hV
  clear gs
  have z0 := B0.lt
  have z1 := B1.lt
  have q0_0 : V1.cell? ⟨w.heap.size, 0, none⟩ = some (.int .i64 x.tick) := B0.c 0 _ rfl
  have q0_1 : V1.cell? ⟨w.heap.size, 1, none⟩ = some (.int .i64 x.next) := B0.c 1 _ rfl
  have q0_2 : V1.cell? ⟨w.heap.size, 2, none⟩ = some (.int .i64 x.wallet) := B0.c 2 _ rfl
  have q0_3 : V1.cell? ⟨w.heap.size, 3, none⟩ = some (.slice a0_0 x.chans.length c0_0) := B0.c 3 _ rfl
  have q0_4 : V1.cell? ⟨w.heap.size, 4, none⟩ = some (.slice a0_1 x.htlcs.length c0_1) := B0.c 4 _ rfl
  have q0_5 : V1.cell? ⟨w.heap.size, 5, none⟩ = some (.slice a0_2 x.circles.length c0_2) := B0.c 5 _ rfl
  have f0 := B0.f
  have q1_0 : V1.cell? ⟨w.heap.size + 1, 0, none⟩ = some (.int .i64 l.last) := B1.c 0 _ rfl
  have q1_1 : V1.cell? ⟨w.heap.size + 1, 1, none⟩ = some (.slice a1_0 l.lines.length c1_0) := B1.c 1 _ rfl
  have f1 := B1.f
  refine (szBook_c x _ _ _ _ _ _ _ _ (H0_0.out.grow' repChan_stable (Grow.below G)) (H0_1.out.grow' repHtlc_stable (Grow.below G)) (H0_2.out.grow' repCircle_stable (Grow.below G)) (by omega) (by omega)).mono ?_
  rintro e U1 ⟨rfl, gs⟩
  clear z0 z1 q0_0 q0_1 q0_2 q0_3 q0_4 q0_5 f0 q1_0 q1_1 f1
  have ys := Grow.size gs
  replace B0 : Box U1 (w.heap.size) [.int .i64 x.tick, .int .i64 x.next, .int .i64 x.wallet, .slice a0_0 x.chans.length c0_0, .slice a0_1 x.htlcs.length c0_1, .slice a0_2 x.circles.length c0_2] := Box.grow B0 gs
  replace B1 : Box U1 (w.heap.size + 1) [.int .i64 l.last, .slice a1_0 l.lines.length c1_0] := Box.grow B1 gs
  replace G : Grow w U1 := Grow.trans G gs
  clear gs
  have z0 := B0.lt
  have z1 := B1.lt
  have q0_0 : U1.cell? ⟨w.heap.size, 0, none⟩ = some (.int .i64 x.tick) := B0.c 0 _ rfl
  have q0_1 : U1.cell? ⟨w.heap.size, 1, none⟩ = some (.int .i64 x.next) := B0.c 1 _ rfl
  have q0_2 : U1.cell? ⟨w.heap.size, 2, none⟩ = some (.int .i64 x.wallet) := B0.c 2 _ rfl
  have q0_3 : U1.cell? ⟨w.heap.size, 3, none⟩ = some (.slice a0_0 x.chans.length c0_0) := B0.c 3 _ rfl
  have q0_4 : U1.cell? ⟨w.heap.size, 4, none⟩ = some (.slice a0_1 x.htlcs.length c0_1) := B0.c 4 _ rfl
  have q0_5 : U1.cell? ⟨w.heap.size, 5, none⟩ = some (.slice a0_2 x.circles.length c0_2) := B0.c 5 _ rfl
  have f0 := B0.f
  have q1_0 : U1.cell? ⟨w.heap.size + 1, 0, none⟩ = some (.int .i64 l.last) := B1.c 0 _ rfl
  have q1_1 : U1.cell? ⟨w.heap.size + 1, 1, none⟩ = some (.slice a1_0 l.lines.length c1_0) := B1.c 1 _ rfl
  have f1 := B1.f
  go_wp2_with fail
  refine (szLedger_c l _ _ _ _ (H1_0.out.grow' repLine_stable (Grow.below G)) (by omega) (by omega)).mono ?_
  rintro e U2 ⟨rfl, gs⟩
  clear z0 z1 q0_0 q0_1 q0_2 q0_3 q0_4 q0_5 f0 q1_0 q1_1 f1
  have ys := Grow.size gs
  replace B0 : Box U2 (w.heap.size) [.int .i64 x.tick, .int .i64 x.next, .int .i64 x.wallet, .slice a0_0 x.chans.length c0_0, .slice a0_1 x.htlcs.length c0_1, .slice a0_2 x.circles.length c0_2] := Box.grow B0 gs
  replace B1 : Box U2 (w.heap.size + 1) [.int .i64 l.last, .slice a1_0 l.lines.length c1_0] := Box.grow B1 gs
  replace G : Grow w U2 := Grow.trans G gs
  clear gs
  have z0 := B0.lt
  have z1 := B1.lt
  have q0_0 : U2.cell? ⟨w.heap.size, 0, none⟩ = some (.int .i64 x.tick) := B0.c 0 _ rfl
  have q0_1 : U2.cell? ⟨w.heap.size, 1, none⟩ = some (.int .i64 x.next) := B0.c 1 _ rfl
  have q0_2 : U2.cell? ⟨w.heap.size, 2, none⟩ = some (.int .i64 x.wallet) := B0.c 2 _ rfl
  have q0_3 : U2.cell? ⟨w.heap.size, 3, none⟩ = some (.slice a0_0 x.chans.length c0_0) := B0.c 3 _ rfl
  have q0_4 : U2.cell? ⟨w.heap.size, 4, none⟩ = some (.slice a0_1 x.htlcs.length c0_1) := B0.c 4 _ rfl
  have q0_5 : U2.cell? ⟨w.heap.size, 5, none⟩ = some (.slice a0_2 x.circles.length c0_2) := B0.c 5 _ rfl
  have f0 := B0.f
  have q1_0 : U2.cell? ⟨w.heap.size + 1, 0, none⟩ = some (.int .i64 l.last) := B1.c 0 _ rfl
  have q1_1 : U2.cell? ⟨w.heap.size + 1, 1, none⟩ = some (.slice a1_0 l.lines.length c1_0) := B1.c 1 _ rfl
  have f1 := B1.f
  go_wp2_with fail
  have KH0_0 := (H0_0.out.grow' repChan_stable (Grow.below G))
  have KH0_1 := (H0_1.out.grow' repHtlc_stable (Grow.below G))
  have KH0_2 := (H0_2.out.grow' repCircle_stable (Grow.below G))
  have KH1_0 := (H1_0.out.grow' repLine_stable (Grow.below G))
  go_region_held3 (fun W => W.cell? ⟨w.heap.size, 0, none⟩ = some (.int .i64 x.tick) ∧ W.cell? ⟨w.heap.size, 1, none⟩ = some (.int .i64 x.next) ∧ W.cell? ⟨w.heap.size, 2, none⟩ = some (.int .i64 x.wallet) ∧ W.cell? ⟨w.heap.size, 3, none⟩ = some (.slice a0_0 x.chans.length c0_0) ∧ W.cell? ⟨w.heap.size, 4, none⟩ = some (.slice a0_1 x.htlcs.length c0_1) ∧ W.cell? ⟨w.heap.size, 5, none⟩ = some (.slice a0_2 x.circles.length c0_2) ∧ W.cell? ⟨w.heap.size + 1, 0, none⟩ = some (.int .i64 l.last) ∧ W.cell? ⟨w.heap.size + 1, 1, none⟩ = some (.slice a1_0 l.lines.length c1_0))
    (first
      | exact ⟨q0_0, q0_1, q0_2, q0_3, q0_4, q0_5, q1_0, q1_1⟩
      | exact ⟨(cellGrow g3 q0_0), (cellGrow g3 q0_1), (cellGrow g3 q0_2), (cellGrow g3 q0_3), (cellGrow g3 q0_4), (cellGrow g3 q0_5), (cellGrow g3 q1_0), (cellGrow g3 q1_1)⟩
      | exact ⟨(cellGrow g4 (cellGrow g3 q0_0)), (cellGrow g4 (cellGrow g3 q0_1)), (cellGrow g4 (cellGrow g3 q0_2)), (cellGrow g4 (cellGrow g3 q0_3)), (cellGrow g4 (cellGrow g3 q0_4)), (cellGrow g4 (cellGrow g3 q0_5)), (cellGrow g4 (cellGrow g3 q1_0)), (cellGrow g4 (cellGrow g3 q1_1))⟩
      | exact ⟨(cellGrow g5 (cellGrow g4 (cellGrow g3 q0_0))), (cellGrow g5 (cellGrow g4 (cellGrow g3 q0_1))), (cellGrow g5 (cellGrow g4 (cellGrow g3 q0_2))), (cellGrow g5 (cellGrow g4 (cellGrow g3 q0_3))), (cellGrow g5 (cellGrow g4 (cellGrow g3 q0_4))), (cellGrow g5 (cellGrow g4 (cellGrow g3 q0_5))), (cellGrow g5 (cellGrow g4 (cellGrow g3 q1_0))), (cellGrow g5 (cellGrow g4 (cellGrow g3 q1_1)))⟩)
    (first
      | (go_at_call 26; with_reducible show Calls _ 26 #[.agg #[.int .i64 x.tick, .int .i64 x.next, .int .i64 x.wallet, .slice a0_0 x.chans.length c0_0, .slice a0_1 x.htlcs.length c0_1, .slice a0_2 x.circles.length c0_2]] _ _; refine (toBook_c x _ _ _ _ _ _ _ (KH0_0.grow' repChan_stable (Grow.below (by repeat (first | exact Grow.refl _ | (refine Grow.alloc ?_ _ _) | (refine Grow.drew ?_) | (refine Grow.trans ?_ (by assumption)))))) (KH0_1.grow' repHtlc_stable (Grow.below (by repeat (first | exact Grow.refl _ | (refine Grow.alloc ?_ _ _) | (refine Grow.drew ?_) | (refine Grow.trans ?_ (by assumption)))))) (KH0_2.grow' repCircle_stable (Grow.below (by repeat (first | exact Grow.refl _ | (refine Grow.alloc ?_ _ _) | (refine Grow.drew ?_) | (refine Grow.trans ?_ (by assumption)))))) Bx_0 Bx_1 Bx_2).mono ?_; rintro e U3 ⟨A3_0, C3_0, P3_0, Q3_0, A3_1, C3_1, P3_1, Q3_1, A3_2, C3_2, P3_2, Q3_2, rfl, g3, O3, S3_0, S3_1, S3_2⟩; have y3 := Grow.size g3; have KS3_0 : SlR 7 repChan U3 0 U3.heap.size (.slice A3_0 x.chans.length C3_0) x.chans := S3_0.all repChan_stable (by omega); have KS3_1 : SlR 7 repHtlc U3 0 U3.heap.size (.slice A3_1 x.htlcs.length C3_1) x.htlcs := S3_1.all repHtlc_stable (by omega); have KS3_2 : SlR 5 repCircle U3 0 U3.heap.size (.slice A3_2 x.circles.length C3_2) x.circles := S3_2.all repCircle_stable (by omega))
      | (go_at_call 27; with_reducible show Calls _ 27 #[.agg #[.int .i64 l.last, .slice a1_0 l.lines.length c1_0]] _ _; refine (toLedger_c l _ _ _ (KH1_0.grow' repLine_stable (Grow.below (by repeat (first | exact Grow.refl _ | (refine Grow.alloc ?_ _ _) | (refine Grow.drew ?_) | (refine Grow.trans ?_ (by assumption)))))) Bl_0).mono ?_; rintro e U4 ⟨A4_0, C4_0, P4_0, Q4_0, rfl, g4, O4, S4_0⟩; have y4 := Grow.size g4; have KS4_0 : SlR 3 repLine U4 0 U4.heap.size (.slice A4_0 l.lines.length C4_0) l.lines := S4_0.all repLine_stable (by omega))
      | (go_at_call 25; with_reducible show Calls _ 25 #[.agg #[.int .i64 x.tick, .int .i64 x.next, .int .i64 x.wallet, .slice A3_0 x.chans.length C3_0, .slice A3_1 x.htlcs.length C3_1, .slice A3_2 x.circles.length C3_2], .agg #[.int .i64 l.last, .slice A4_0 l.lines.length C4_0]] _ _; refine (spec_Agrees_c x _ _ _ _ _ _ l _ _ _ (KS3_0.grow' repChan_stable (Grow.below (by repeat (first | exact Grow.refl _ | (refine Grow.alloc ?_ _ _) | (refine Grow.drew ?_) | (refine Grow.trans ?_ (by assumption)))))) (KS3_1.grow' repHtlc_stable (Grow.below (by repeat (first | exact Grow.refl _ | (refine Grow.alloc ?_ _ _) | (refine Grow.drew ?_) | (refine Grow.trans ?_ (by assumption)))))) (KS3_2.grow' repCircle_stable (Grow.below (by repeat (first | exact Grow.refl _ | (refine Grow.alloc ?_ _ _) | (refine Grow.drew ?_) | (refine Grow.trans ?_ (by assumption)))))) (KS4_0.grow' repLine_stable (Grow.below (by repeat (first | exact Grow.refl _ | (refine Grow.alloc ?_ _ _) | (refine Grow.drew ?_) | (refine Grow.trans ?_ (by assumption)))))) Bx_0 Bl_0).mono ?_; rintro e U5 ⟨rfl, g5⟩; have y5 := Grow.size g5))
  have gs : Grow U2 U5 := by repeat (first | exact Grow.refl _ | (refine Grow.alloc ?_ _ _) | (refine Grow.drew ?_) | (refine Grow.trans ?_ (by assumption)))
  clear g3 g4 g5
  clear z0 z1 q0_0 q0_1 q0_2 q0_3 q0_4 q0_5 f0 q1_0 q1_1 f1
  have ys := Grow.size gs
  replace B0 : Box U5 (w.heap.size) [.int .i64 x.tick, .int .i64 x.next, .int .i64 x.wallet, .slice a0_0 x.chans.length c0_0, .slice a0_1 x.htlcs.length c0_1, .slice a0_2 x.circles.length c0_2] := Box.grow B0 gs
  replace B1 : Box U5 (w.heap.size + 1) [.int .i64 l.last, .slice a1_0 l.lines.length c1_0] := Box.grow B1 gs
  replace G : Grow w U5 := Grow.trans G gs
  clear gs
  have z0 := B0.lt
  have z1 := B1.lt
  have q0_0 : U5.cell? ⟨w.heap.size, 0, none⟩ = some (.int .i64 x.tick) := B0.c 0 _ rfl
  have q0_1 : U5.cell? ⟨w.heap.size, 1, none⟩ = some (.int .i64 x.next) := B0.c 1 _ rfl
  have q0_2 : U5.cell? ⟨w.heap.size, 2, none⟩ = some (.int .i64 x.wallet) := B0.c 2 _ rfl
  have q0_3 : U5.cell? ⟨w.heap.size, 3, none⟩ = some (.slice a0_0 x.chans.length c0_0) := B0.c 3 _ rfl
  have q0_4 : U5.cell? ⟨w.heap.size, 4, none⟩ = some (.slice a0_1 x.htlcs.length c0_1) := B0.c 4 _ rfl
  have q0_5 : U5.cell? ⟨w.heap.size, 5, none⟩ = some (.slice a0_2 x.circles.length c0_2) := B0.c 5 _ rfl
  have f0 := B0.f
  have q1_0 : U5.cell? ⟨w.heap.size + 1, 0, none⟩ = some (.int .i64 l.last) := B1.c 0 _ rfl
  have q1_1 : U5.cell? ⟨w.heap.size + 1, 1, none⟩ = some (.slice a1_0 l.lines.length c1_0) := B1.c 1 _ rfl
  have f1 := B1.f
  go_wp2_with fail
  refine (toBook_c x _ _ _ _ _ _ _ (H0_0.out.grow' repChan_stable (Grow.below G)) (H0_1.out.grow' repHtlc_stable (Grow.below G)) (H0_2.out.grow' repCircle_stable (Grow.below G)) Bx_0 Bx_1 Bx_2).mono ?_
  rintro e U6 ⟨A6_0, C6_0, P6_0, Q6_0, A6_1, C6_1, P6_1, Q6_1, A6_2, C6_2, P6_2, Q6_2, rfl, gs, O6, S6_0, S6_1, S6_2⟩
  clear z0 z1 q0_0 q0_1 q0_2 q0_3 q0_4 q0_5 f0 q1_0 q1_1 f1
  have ys := Grow.size gs
  replace B0 : Box U6 (w.heap.size) [.int .i64 x.tick, .int .i64 x.next, .int .i64 x.wallet, .slice a0_0 x.chans.length c0_0, .slice a0_1 x.htlcs.length c0_1, .slice a0_2 x.circles.length c0_2] := Box.grow B0 gs
  replace B1 : Box U6 (w.heap.size + 1) [.int .i64 l.last, .slice a1_0 l.lines.length c1_0] := Box.grow B1 gs
  replace G : Grow w U6 := Grow.trans G gs
  clear gs
  have z0 := B0.lt
  have z1 := B1.lt
  have q0_0 : U6.cell? ⟨w.heap.size, 0, none⟩ = some (.int .i64 x.tick) := B0.c 0 _ rfl
  have q0_1 : U6.cell? ⟨w.heap.size, 1, none⟩ = some (.int .i64 x.next) := B0.c 1 _ rfl
  have q0_2 : U6.cell? ⟨w.heap.size, 2, none⟩ = some (.int .i64 x.wallet) := B0.c 2 _ rfl
  have q0_3 : U6.cell? ⟨w.heap.size, 3, none⟩ = some (.slice a0_0 x.chans.length c0_0) := B0.c 3 _ rfl
  have q0_4 : U6.cell? ⟨w.heap.size, 4, none⟩ = some (.slice a0_1 x.htlcs.length c0_1) := B0.c 4 _ rfl
  have q0_5 : U6.cell? ⟨w.heap.size, 5, none⟩ = some (.slice a0_2 x.circles.length c0_2) := B0.c 5 _ rfl
  have f0 := B0.f
  have q1_0 : U6.cell? ⟨w.heap.size + 1, 0, none⟩ = some (.int .i64 l.last) := B1.c 0 _ rfl
  have q1_1 : U6.cell? ⟨w.heap.size + 1, 1, none⟩ = some (.slice a1_0 l.lines.length c1_0) := B1.c 1 _ rfl
  have f1 := B1.f
  go_wp2_with fail
  obtain ⟨V2, hV⟩ : ∃ V, V = (U6.alloc (.cells #[.int .i64 x.tick, .int .i64 x.next, .int .i64 x.wallet, .slice A6_0 x.chans.length C6_0, .slice A6_1 x.htlcs.length C6_1, .slice A6_2 x.circles.length C6_2] 58)) := ⟨_, rfl⟩
  have G' : Grow w V2 := by rw [hV]; exact (G.alloc _ _)
  have gs : Grow U6 V2 := by rw [hV]; exact ((Grow.refl U6).alloc _ _)
  replace B0 : Box V2 (w.heap.size) [.int .i64 x.tick, .int .i64 x.next, .int .i64 x.wallet, .slice a0_0 x.chans.length c0_0, .slice a0_1 x.htlcs.length c0_1, .slice a0_2 x.circles.length c0_2] := by rw [hV]; exact (B0.alloc _ _)
  replace B1 : Box V2 (w.heap.size + 1) [.int .i64 l.last, .slice a1_0 l.lines.length c1_0] := by rw [hV]; exact (B1.alloc _ _)
  have B2 : Box V2 (U6.heap.size) [.int .i64 x.tick, .int .i64 x.next, .int .i64 x.wallet, .slice A6_0 x.chans.length C6_0, .slice A6_1 x.htlcs.length C6_1, .slice A6_2 x.circles.length C6_2] := by rw [hV]; exact Box.newAt (by simp) _ _
  have ys : V2.heap.size = U6.heap.size + 1 := by rw [hV]; simp
  replace S6_0 := S6_0.same repChan_stable (gs.same (by omega))
  replace S6_1 := S6_1.same repHtlc_stable (gs.same (by omega))
  replace S6_2 := S6_2.same repCircle_stable (gs.same (by omega))
  replace G := G'
  clear G'
  rw [← hV]
  clear hV
  clear gs
  clear z0 z1 q0_0 q0_1 q0_2 q0_3 q0_4 q0_5 f0 q1_0 q1_1 f1
  have z0 := B0.lt
  have z1 := B1.lt
  have z2 := B2.lt
  have q0_0 : V2.cell? ⟨w.heap.size, 0, none⟩ = some (.int .i64 x.tick) := B0.c 0 _ rfl
  have q0_1 : V2.cell? ⟨w.heap.size, 1, none⟩ = some (.int .i64 x.next) := B0.c 1 _ rfl
  have q0_2 : V2.cell? ⟨w.heap.size, 2, none⟩ = some (.int .i64 x.wallet) := B0.c 2 _ rfl
  have q0_3 : V2.cell? ⟨w.heap.size, 3, none⟩ = some (.slice a0_0 x.chans.length c0_0) := B0.c 3 _ rfl
  have q0_4 : V2.cell? ⟨w.heap.size, 4, none⟩ = some (.slice a0_1 x.htlcs.length c0_1) := B0.c 4 _ rfl
  have q0_5 : V2.cell? ⟨w.heap.size, 5, none⟩ = some (.slice a0_2 x.circles.length c0_2) := B0.c 5 _ rfl
  have f0 := B0.f
  have q1_0 : V2.cell? ⟨w.heap.size + 1, 0, none⟩ = some (.int .i64 l.last) := B1.c 0 _ rfl
  have q1_1 : V2.cell? ⟨w.heap.size + 1, 1, none⟩ = some (.slice a1_0 l.lines.length c1_0) := B1.c 1 _ rfl
  have f1 := B1.f
  have q2_0 : V2.cell? ⟨U6.heap.size, 0, none⟩ = some (.int .i64 x.tick) := B2.c 0 _ rfl
  have q2_1 : V2.cell? ⟨U6.heap.size, 1, none⟩ = some (.int .i64 x.next) := B2.c 1 _ rfl
  have q2_2 : V2.cell? ⟨U6.heap.size, 2, none⟩ = some (.int .i64 x.wallet) := B2.c 2 _ rfl
  have q2_3 : V2.cell? ⟨U6.heap.size, 3, none⟩ = some (.slice A6_0 x.chans.length C6_0) := B2.c 3 _ rfl
  have q2_4 : V2.cell? ⟨U6.heap.size, 4, none⟩ = some (.slice A6_1 x.htlcs.length C6_1) := B2.c 4 _ rfl
  have q2_5 : V2.cell? ⟨U6.heap.size, 5, none⟩ = some (.slice A6_2 x.circles.length C6_2) := B2.c 5 _ rfl
  have f2 := B2.f
  refine (toLedger_c l _ _ _ (H1_0.out.grow' repLine_stable (Grow.below G)) Bl_0).mono ?_
  rintro e U7 ⟨A7_0, C7_0, P7_0, Q7_0, rfl, gs, O7, S7_0⟩
  clear z0 z1 z2 q0_0 q0_1 q0_2 q0_3 q0_4 q0_5 f0 q1_0 q1_1 f1 q2_0 q2_1 q2_2 q2_3 q2_4 q2_5 f2
  have ys := Grow.size gs
  replace B0 : Box U7 (w.heap.size) [.int .i64 x.tick, .int .i64 x.next, .int .i64 x.wallet, .slice a0_0 x.chans.length c0_0, .slice a0_1 x.htlcs.length c0_1, .slice a0_2 x.circles.length c0_2] := Box.grow B0 gs
  replace B1 : Box U7 (w.heap.size + 1) [.int .i64 l.last, .slice a1_0 l.lines.length c1_0] := Box.grow B1 gs
  replace B2 : Box U7 (U6.heap.size) [.int .i64 x.tick, .int .i64 x.next, .int .i64 x.wallet, .slice A6_0 x.chans.length C6_0, .slice A6_1 x.htlcs.length C6_1, .slice A6_2 x.circles.length C6_2] := Box.grow B2 gs
  replace S6_0 := S6_0.same repChan_stable (gs.same (by omega))
  replace S6_1 := S6_1.same repHtlc_stable (gs.same (by omega))
  replace S6_2 := S6_2.same repCircle_stable (gs.same (by omega))
  replace G : Grow w U7 := Grow.trans G gs
  clear gs
  have z0 := B0.lt
  have z1 := B1.lt
  have z2 := B2.lt
  have q0_0 : U7.cell? ⟨w.heap.size, 0, none⟩ = some (.int .i64 x.tick) := B0.c 0 _ rfl
  have q0_1 : U7.cell? ⟨w.heap.size, 1, none⟩ = some (.int .i64 x.next) := B0.c 1 _ rfl
  have q0_2 : U7.cell? ⟨w.heap.size, 2, none⟩ = some (.int .i64 x.wallet) := B0.c 2 _ rfl
  have q0_3 : U7.cell? ⟨w.heap.size, 3, none⟩ = some (.slice a0_0 x.chans.length c0_0) := B0.c 3 _ rfl
  have q0_4 : U7.cell? ⟨w.heap.size, 4, none⟩ = some (.slice a0_1 x.htlcs.length c0_1) := B0.c 4 _ rfl
  have q0_5 : U7.cell? ⟨w.heap.size, 5, none⟩ = some (.slice a0_2 x.circles.length c0_2) := B0.c 5 _ rfl
  have f0 := B0.f
  have q1_0 : U7.cell? ⟨w.heap.size + 1, 0, none⟩ = some (.int .i64 l.last) := B1.c 0 _ rfl
  have q1_1 : U7.cell? ⟨w.heap.size + 1, 1, none⟩ = some (.slice a1_0 l.lines.length c1_0) := B1.c 1 _ rfl
  have f1 := B1.f
  have q2_0 : U7.cell? ⟨U6.heap.size, 0, none⟩ = some (.int .i64 x.tick) := B2.c 0 _ rfl
  have q2_1 : U7.cell? ⟨U6.heap.size, 1, none⟩ = some (.int .i64 x.next) := B2.c 1 _ rfl
  have q2_2 : U7.cell? ⟨U6.heap.size, 2, none⟩ = some (.int .i64 x.wallet) := B2.c 2 _ rfl
  have q2_3 : U7.cell? ⟨U6.heap.size, 3, none⟩ = some (.slice A6_0 x.chans.length C6_0) := B2.c 3 _ rfl
  have q2_4 : U7.cell? ⟨U6.heap.size, 4, none⟩ = some (.slice A6_1 x.htlcs.length C6_1) := B2.c 4 _ rfl
  have q2_5 : U7.cell? ⟨U6.heap.size, 5, none⟩ = some (.slice A6_2 x.circles.length C6_2) := B2.c 5 _ rfl
  have f2 := B2.f
  go_wp2_with fail
  obtain ⟨V3, hV⟩ : ∃ V, V = (U7.alloc (.cells #[.int .i64 l.last, .slice A7_0 l.lines.length C7_0] 62)) := ⟨_, rfl⟩
  have G' : Grow w V3 := by rw [hV]; exact (G.alloc _ _)
  have gs : Grow U7 V3 := by rw [hV]; exact ((Grow.refl U7).alloc _ _)
  replace B0 : Box V3 (w.heap.size) [.int .i64 x.tick, .int .i64 x.next, .int .i64 x.wallet, .slice a0_0 x.chans.length c0_0, .slice a0_1 x.htlcs.length c0_1, .slice a0_2 x.circles.length c0_2] := by rw [hV]; exact (B0.alloc _ _)
  replace B1 : Box V3 (w.heap.size + 1) [.int .i64 l.last, .slice a1_0 l.lines.length c1_0] := by rw [hV]; exact (B1.alloc _ _)
  replace B2 : Box V3 (U6.heap.size) [.int .i64 x.tick, .int .i64 x.next, .int .i64 x.wallet, .slice A6_0 x.chans.length C6_0, .slice A6_1 x.htlcs.length C6_1, .slice A6_2 x.circles.length C6_2] := by rw [hV]; exact (B2.alloc _ _)
  have B3 : Box V3 (U7.heap.size) [.int .i64 l.last, .slice A7_0 l.lines.length C7_0] := by rw [hV]; exact Box.newAt (by simp) _ _
  have ys : V3.heap.size = U7.heap.size + 1 := by rw [hV]; simp
  replace S6_0 := S6_0.same repChan_stable (gs.same (by omega))
  replace S6_1 := S6_1.same repHtlc_stable (gs.same (by omega))
  replace S6_2 := S6_2.same repCircle_stable (gs.same (by omega))
  replace S7_0 := S7_0.same repLine_stable (gs.same (by omega))
  replace G := G'
  clear G'
  rw [← hV]
  clear hV
  clear gs
  clear z0 z1 z2 q0_0 q0_1 q0_2 q0_3 q0_4 q0_5 f0 q1_0 q1_1 f1 q2_0 q2_1 q2_2 q2_3 q2_4 q2_5 f2
  have z0 := B0.lt
  have z1 := B1.lt
  have z2 := B2.lt
  have z3 := B3.lt
  have q0_0 : V3.cell? ⟨w.heap.size, 0, none⟩ = some (.int .i64 x.tick) := B0.c 0 _ rfl
  have q0_1 : V3.cell? ⟨w.heap.size, 1, none⟩ = some (.int .i64 x.next) := B0.c 1 _ rfl
  have q0_2 : V3.cell? ⟨w.heap.size, 2, none⟩ = some (.int .i64 x.wallet) := B0.c 2 _ rfl
  have q0_3 : V3.cell? ⟨w.heap.size, 3, none⟩ = some (.slice a0_0 x.chans.length c0_0) := B0.c 3 _ rfl
  have q0_4 : V3.cell? ⟨w.heap.size, 4, none⟩ = some (.slice a0_1 x.htlcs.length c0_1) := B0.c 4 _ rfl
  have q0_5 : V3.cell? ⟨w.heap.size, 5, none⟩ = some (.slice a0_2 x.circles.length c0_2) := B0.c 5 _ rfl
  have f0 := B0.f
  have q1_0 : V3.cell? ⟨w.heap.size + 1, 0, none⟩ = some (.int .i64 l.last) := B1.c 0 _ rfl
  have q1_1 : V3.cell? ⟨w.heap.size + 1, 1, none⟩ = some (.slice a1_0 l.lines.length c1_0) := B1.c 1 _ rfl
  have f1 := B1.f
  have q2_0 : V3.cell? ⟨U6.heap.size, 0, none⟩ = some (.int .i64 x.tick) := B2.c 0 _ rfl
  have q2_1 : V3.cell? ⟨U6.heap.size, 1, none⟩ = some (.int .i64 x.next) := B2.c 1 _ rfl
  have q2_2 : V3.cell? ⟨U6.heap.size, 2, none⟩ = some (.int .i64 x.wallet) := B2.c 2 _ rfl
  have q2_3 : V3.cell? ⟨U6.heap.size, 3, none⟩ = some (.slice A6_0 x.chans.length C6_0) := B2.c 3 _ rfl
  have q2_4 : V3.cell? ⟨U6.heap.size, 4, none⟩ = some (.slice A6_1 x.htlcs.length C6_1) := B2.c 4 _ rfl
  have q2_5 : V3.cell? ⟨U6.heap.size, 5, none⟩ = some (.slice A6_2 x.circles.length C6_2) := B2.c 5 _ rfl
  have f2 := B2.f
  have q3_0 : V3.cell? ⟨U7.heap.size, 0, none⟩ = some (.int .i64 l.last) := B3.c 0 _ rfl
  have q3_1 : V3.cell? ⟨U7.heap.size, 1, none⟩ = some (.slice A7_0 l.lines.length C7_0) := B3.c 1 _ rfl
  have f3 := B3.f
  refine (impl_Agrees_c x _ _ _ _ _ _ l _ _ _ (S6_0.all repChan_stable (by omega)) (S6_1.all repHtlc_stable (by omega)) (S6_2.all repCircle_stable (by omega)) (S7_0.all repLine_stable (by omega)) Bx_0 Bl_0).mono ?_
  rintro e U8 ⟨rfl, gs⟩
  clear z0 z1 z2 z3 q0_0 q0_1 q0_2 q0_3 q0_4 q0_5 f0 q1_0 q1_1 f1 q2_0 q2_1 q2_2 q2_3 q2_4 q2_5 f2 q3_0 q3_1 f3
  have ys := Grow.size gs
  replace B0 : Box U8 (w.heap.size) [.int .i64 x.tick, .int .i64 x.next, .int .i64 x.wallet, .slice a0_0 x.chans.length c0_0, .slice a0_1 x.htlcs.length c0_1, .slice a0_2 x.circles.length c0_2] := Box.grow B0 gs
  replace B1 : Box U8 (w.heap.size + 1) [.int .i64 l.last, .slice a1_0 l.lines.length c1_0] := Box.grow B1 gs
  replace B2 : Box U8 (U6.heap.size) [.int .i64 x.tick, .int .i64 x.next, .int .i64 x.wallet, .slice A6_0 x.chans.length C6_0, .slice A6_1 x.htlcs.length C6_1, .slice A6_2 x.circles.length C6_2] := Box.grow B2 gs
  replace B3 : Box U8 (U7.heap.size) [.int .i64 l.last, .slice A7_0 l.lines.length C7_0] := Box.grow B3 gs
  replace S6_0 := S6_0.same repChan_stable (gs.same (by omega))
  replace S6_1 := S6_1.same repHtlc_stable (gs.same (by omega))
  replace S6_2 := S6_2.same repCircle_stable (gs.same (by omega))
  replace S7_0 := S7_0.same repLine_stable (gs.same (by omega))
  replace G : Grow w U8 := Grow.trans G gs
  clear gs
  have z0 := B0.lt
  have z1 := B1.lt
  have z2 := B2.lt
  have z3 := B3.lt
  have q0_0 : U8.cell? ⟨w.heap.size, 0, none⟩ = some (.int .i64 x.tick) := B0.c 0 _ rfl
  have q0_1 : U8.cell? ⟨w.heap.size, 1, none⟩ = some (.int .i64 x.next) := B0.c 1 _ rfl
  have q0_2 : U8.cell? ⟨w.heap.size, 2, none⟩ = some (.int .i64 x.wallet) := B0.c 2 _ rfl
  have q0_3 : U8.cell? ⟨w.heap.size, 3, none⟩ = some (.slice a0_0 x.chans.length c0_0) := B0.c 3 _ rfl
  have q0_4 : U8.cell? ⟨w.heap.size, 4, none⟩ = some (.slice a0_1 x.htlcs.length c0_1) := B0.c 4 _ rfl
  have q0_5 : U8.cell? ⟨w.heap.size, 5, none⟩ = some (.slice a0_2 x.circles.length c0_2) := B0.c 5 _ rfl
  have f0 := B0.f
  have q1_0 : U8.cell? ⟨w.heap.size + 1, 0, none⟩ = some (.int .i64 l.last) := B1.c 0 _ rfl
  have q1_1 : U8.cell? ⟨w.heap.size + 1, 1, none⟩ = some (.slice a1_0 l.lines.length c1_0) := B1.c 1 _ rfl
  have f1 := B1.f
  have q2_0 : U8.cell? ⟨U6.heap.size, 0, none⟩ = some (.int .i64 x.tick) := B2.c 0 _ rfl
  have q2_1 : U8.cell? ⟨U6.heap.size, 1, none⟩ = some (.int .i64 x.next) := B2.c 1 _ rfl
  have q2_2 : U8.cell? ⟨U6.heap.size, 2, none⟩ = some (.int .i64 x.wallet) := B2.c 2 _ rfl
  have q2_3 : U8.cell? ⟨U6.heap.size, 3, none⟩ = some (.slice A6_0 x.chans.length C6_0) := B2.c 3 _ rfl
  have q2_4 : U8.cell? ⟨U6.heap.size, 4, none⟩ = some (.slice A6_1 x.htlcs.length C6_1) := B2.c 4 _ rfl
  have q2_5 : U8.cell? ⟨U6.heap.size, 5, none⟩ = some (.slice A6_2 x.circles.length C6_2) := B2.c 5 _ rfl
  have f2 := B2.f
  have q3_0 : U8.cell? ⟨U7.heap.size, 0, none⟩ = some (.int .i64 l.last) := B3.c 0 _ rfl
  have q3_1 : U8.cell? ⟨U7.heap.size, 1, none⟩ = some (.slice A7_0 l.lines.length C7_0) := B3.c 1 _ rfl
  have f3 := B3.f
  go_wp2_with fail
  have KH0_0 := (H0_0.out.grow' repChan_stable (Grow.below G))
  have KH0_1 := (H0_1.out.grow' repHtlc_stable (Grow.below G))
  have KH0_2 := (H0_2.out.grow' repCircle_stable (Grow.below G))
  have KH1_0 := (H1_0.out.grow' repLine_stable (Grow.below G))
  have KS6_0 := (S6_0.all repChan_stable (by omega))
  have KS6_1 := (S6_1.all repHtlc_stable (by omega))
  have KS6_2 := (S6_2.all repCircle_stable (by omega))
  have KS7_0 := (S7_0.all repLine_stable (by omega))
  go_region_held3 (fun W => W.cell? ⟨U6.heap.size, 0, none⟩ = some (.int .i64 x.tick) ∧ W.cell? ⟨U6.heap.size, 1, none⟩ = some (.int .i64 x.next) ∧ W.cell? ⟨U6.heap.size, 2, none⟩ = some (.int .i64 x.wallet) ∧ W.cell? ⟨U6.heap.size, 3, none⟩ = some (.slice A6_0 x.chans.length C6_0) ∧ W.cell? ⟨U6.heap.size, 4, none⟩ = some (.slice A6_1 x.htlcs.length C6_1) ∧ W.cell? ⟨U6.heap.size, 5, none⟩ = some (.slice A6_2 x.circles.length C6_2) ∧ W.cell? ⟨w.heap.size, 0, none⟩ = some (.int .i64 x.tick) ∧ W.cell? ⟨w.heap.size, 1, none⟩ = some (.int .i64 x.next) ∧ W.cell? ⟨w.heap.size, 2, none⟩ = some (.int .i64 x.wallet) ∧ W.cell? ⟨w.heap.size, 3, none⟩ = some (.slice a0_0 x.chans.length c0_0) ∧ W.cell? ⟨w.heap.size, 4, none⟩ = some (.slice a0_1 x.htlcs.length c0_1) ∧ W.cell? ⟨w.heap.size, 5, none⟩ = some (.slice a0_2 x.circles.length c0_2))
    (first
      | exact ⟨q2_0, q2_1, q2_2, q2_3, q2_4, q2_5, q0_0, q0_1, q0_2, q0_3, q0_4, q0_5⟩
      | exact ⟨(cellGrow g9 q2_0), (cellGrow g9 q2_1), (cellGrow g9 q2_2), (cellGrow g9 q2_3), (cellGrow g9 q2_4), (cellGrow g9 q2_5), (cellGrow g9 q0_0), (cellGrow g9 q0_1), (cellGrow g9 q0_2), (cellGrow g9 q0_3), (cellGrow g9 q0_4), (cellGrow g9 q0_5)⟩
      | exact ⟨(cellGrow g10 (cellGrow g9 q2_0)), (cellGrow g10 (cellGrow g9 q2_1)), (cellGrow g10 (cellGrow g9 q2_2)), (cellGrow g10 (cellGrow g9 q2_3)), (cellGrow g10 (cellGrow g9 q2_4)), (cellGrow g10 (cellGrow g9 q2_5)), (cellGrow g10 (cellGrow g9 q0_0)), (cellGrow g10 (cellGrow g9 q0_1)), (cellGrow g10 (cellGrow g9 q0_2)), (cellGrow g10 (cellGrow g9 q0_3)), (cellGrow g10 (cellGrow g9 q0_4)), (cellGrow g10 (cellGrow g9 q0_5))⟩)
    (first
      | (go_at_call 26; with_reducible show Calls _ 26 #[.agg #[.int .i64 x.tick, .int .i64 x.next, .int .i64 x.wallet, .slice a0_0 x.chans.length c0_0, .slice a0_1 x.htlcs.length c0_1, .slice a0_2 x.circles.length c0_2]] _ _; refine (toBook_c x _ _ _ _ _ _ _ (KH0_0.grow' repChan_stable (Grow.below (by repeat (first | exact Grow.refl _ | (refine Grow.alloc ?_ _ _) | (refine Grow.drew ?_) | (refine Grow.trans ?_ (by assumption)))))) (KH0_1.grow' repHtlc_stable (Grow.below (by repeat (first | exact Grow.refl _ | (refine Grow.alloc ?_ _ _) | (refine Grow.drew ?_) | (refine Grow.trans ?_ (by assumption)))))) (KH0_2.grow' repCircle_stable (Grow.below (by repeat (first | exact Grow.refl _ | (refine Grow.alloc ?_ _ _) | (refine Grow.drew ?_) | (refine Grow.trans ?_ (by assumption)))))) Bx_0 Bx_1 Bx_2).mono ?_; rintro e U9 ⟨A9_0, C9_0, P9_0, Q9_0, A9_1, C9_1, P9_1, Q9_1, A9_2, C9_2, P9_2, Q9_2, rfl, g9, O9, S9_0, S9_1, S9_2⟩; have y9 := Grow.size g9; have KS9_0 : SlR 7 repChan U9 0 U9.heap.size (.slice A9_0 x.chans.length C9_0) x.chans := S9_0.all repChan_stable (by omega); have KS9_1 : SlR 7 repHtlc U9 0 U9.heap.size (.slice A9_1 x.htlcs.length C9_1) x.htlcs := S9_1.all repHtlc_stable (by omega); have KS9_2 : SlR 5 repCircle U9 0 U9.heap.size (.slice A9_2 x.circles.length C9_2) x.circles := S9_2.all repCircle_stable (by omega))
      | (go_at_call 29; with_reducible show Calls _ 29 #[.agg #[.int .i64 x.tick, .int .i64 x.next, .int .i64 x.wallet, .slice A6_0 x.chans.length C6_0, .slice A6_1 x.htlcs.length C6_1, .slice A6_2 x.circles.length C6_2], .agg #[.int .i64 x.tick, .int .i64 x.next, .int .i64 x.wallet, .slice A9_0 x.chans.length C9_0, .slice A9_1 x.htlcs.length C9_1, .slice A9_2 x.circles.length C9_2]] _ _; refine (eqBook_c x _ _ _ _ _ _ _ _ _ _ _ _ _ (KS6_0.grow' repChan_stable (Grow.below (by repeat (first | exact Grow.refl _ | (refine Grow.alloc ?_ _ _) | (refine Grow.drew ?_) | (refine Grow.trans ?_ (by assumption)))))) (KS9_0.grow' repChan_stable (Grow.below (by repeat (first | exact Grow.refl _ | (refine Grow.alloc ?_ _ _) | (refine Grow.drew ?_) | (refine Grow.trans ?_ (by assumption)))))) (KS6_1.grow' repHtlc_stable (Grow.below (by repeat (first | exact Grow.refl _ | (refine Grow.alloc ?_ _ _) | (refine Grow.drew ?_) | (refine Grow.trans ?_ (by assumption)))))) (KS9_1.grow' repHtlc_stable (Grow.below (by repeat (first | exact Grow.refl _ | (refine Grow.alloc ?_ _ _) | (refine Grow.drew ?_) | (refine Grow.trans ?_ (by assumption)))))) (KS6_2.grow' repCircle_stable (Grow.below (by repeat (first | exact Grow.refl _ | (refine Grow.alloc ?_ _ _) | (refine Grow.drew ?_) | (refine Grow.trans ?_ (by assumption)))))) (KS9_2.grow' repCircle_stable (Grow.below (by repeat (first | exact Grow.refl _ | (refine Grow.alloc ?_ _ _) | (refine Grow.drew ?_) | (refine Grow.trans ?_ (by assumption))))))).mono ?_; rintro e U10 ⟨rfl, g10⟩; have y10 := Grow.size g10))
  have gs : Grow U8 U10 := by repeat (first | exact Grow.refl _ | (refine Grow.alloc ?_ _ _) | (refine Grow.drew ?_) | (refine Grow.trans ?_ (by assumption)))
  clear g9 g10
  clear z0 z1 z2 z3 q0_0 q0_1 q0_2 q0_3 q0_4 q0_5 f0 q1_0 q1_1 f1 q2_0 q2_1 q2_2 q2_3 q2_4 q2_5 f2 q3_0 q3_1 f3
  have ys := Grow.size gs
  replace B0 : Box U10 (w.heap.size) [.int .i64 x.tick, .int .i64 x.next, .int .i64 x.wallet, .slice a0_0 x.chans.length c0_0, .slice a0_1 x.htlcs.length c0_1, .slice a0_2 x.circles.length c0_2] := Box.grow B0 gs
  replace B1 : Box U10 (w.heap.size + 1) [.int .i64 l.last, .slice a1_0 l.lines.length c1_0] := Box.grow B1 gs
  replace B2 : Box U10 (U6.heap.size) [.int .i64 x.tick, .int .i64 x.next, .int .i64 x.wallet, .slice A6_0 x.chans.length C6_0, .slice A6_1 x.htlcs.length C6_1, .slice A6_2 x.circles.length C6_2] := Box.grow B2 gs
  replace B3 : Box U10 (U7.heap.size) [.int .i64 l.last, .slice A7_0 l.lines.length C7_0] := Box.grow B3 gs
  replace S6_0 := S6_0.same repChan_stable (gs.same (by omega))
  replace S6_1 := S6_1.same repHtlc_stable (gs.same (by omega))
  replace S6_2 := S6_2.same repCircle_stable (gs.same (by omega))
  replace S7_0 := S7_0.same repLine_stable (gs.same (by omega))
  replace G : Grow w U10 := Grow.trans G gs
  clear gs
  have z0 := B0.lt
  have z1 := B1.lt
  have z2 := B2.lt
  have z3 := B3.lt
  have q0_0 : U10.cell? ⟨w.heap.size, 0, none⟩ = some (.int .i64 x.tick) := B0.c 0 _ rfl
  have q0_1 : U10.cell? ⟨w.heap.size, 1, none⟩ = some (.int .i64 x.next) := B0.c 1 _ rfl
  have q0_2 : U10.cell? ⟨w.heap.size, 2, none⟩ = some (.int .i64 x.wallet) := B0.c 2 _ rfl
  have q0_3 : U10.cell? ⟨w.heap.size, 3, none⟩ = some (.slice a0_0 x.chans.length c0_0) := B0.c 3 _ rfl
  have q0_4 : U10.cell? ⟨w.heap.size, 4, none⟩ = some (.slice a0_1 x.htlcs.length c0_1) := B0.c 4 _ rfl
  have q0_5 : U10.cell? ⟨w.heap.size, 5, none⟩ = some (.slice a0_2 x.circles.length c0_2) := B0.c 5 _ rfl
  have f0 := B0.f
  have q1_0 : U10.cell? ⟨w.heap.size + 1, 0, none⟩ = some (.int .i64 l.last) := B1.c 0 _ rfl
  have q1_1 : U10.cell? ⟨w.heap.size + 1, 1, none⟩ = some (.slice a1_0 l.lines.length c1_0) := B1.c 1 _ rfl
  have f1 := B1.f
  have q2_0 : U10.cell? ⟨U6.heap.size, 0, none⟩ = some (.int .i64 x.tick) := B2.c 0 _ rfl
  have q2_1 : U10.cell? ⟨U6.heap.size, 1, none⟩ = some (.int .i64 x.next) := B2.c 1 _ rfl
  have q2_2 : U10.cell? ⟨U6.heap.size, 2, none⟩ = some (.int .i64 x.wallet) := B2.c 2 _ rfl
  have q2_3 : U10.cell? ⟨U6.heap.size, 3, none⟩ = some (.slice A6_0 x.chans.length C6_0) := B2.c 3 _ rfl
  have q2_4 : U10.cell? ⟨U6.heap.size, 4, none⟩ = some (.slice A6_1 x.htlcs.length C6_1) := B2.c 4 _ rfl
  have q2_5 : U10.cell? ⟨U6.heap.size, 5, none⟩ = some (.slice A6_2 x.circles.length C6_2) := B2.c 5 _ rfl
  have f2 := B2.f
  have q3_0 : U10.cell? ⟨U7.heap.size, 0, none⟩ = some (.int .i64 l.last) := B3.c 0 _ rfl
  have q3_1 : U10.cell? ⟨U7.heap.size, 1, none⟩ = some (.slice A7_0 l.lines.length C7_0) := B3.c 1 _ rfl
  have f3 := B3.f
  go_wp2_with fail
  have KH0_0 := (H0_0.out.grow' repChan_stable (Grow.below G))
  have KH0_1 := (H0_1.out.grow' repHtlc_stable (Grow.below G))
  have KH0_2 := (H0_2.out.grow' repCircle_stable (Grow.below G))
  have KH1_0 := (H1_0.out.grow' repLine_stable (Grow.below G))
  have KS6_0 := (S6_0.all repChan_stable (by omega))
  have KS6_1 := (S6_1.all repHtlc_stable (by omega))
  have KS6_2 := (S6_2.all repCircle_stable (by omega))
  have KS7_0 := (S7_0.all repLine_stable (by omega))
  go_region_held3 (fun W => W.cell? ⟨U7.heap.size, 0, none⟩ = some (.int .i64 l.last) ∧ W.cell? ⟨U7.heap.size, 1, none⟩ = some (.slice A7_0 l.lines.length C7_0) ∧ W.cell? ⟨w.heap.size + 1, 0, none⟩ = some (.int .i64 l.last) ∧ W.cell? ⟨w.heap.size + 1, 1, none⟩ = some (.slice a1_0 l.lines.length c1_0))
    (first
      | exact ⟨q3_0, q3_1, q1_0, q1_1⟩
      | exact ⟨(cellGrow g11 q3_0), (cellGrow g11 q3_1), (cellGrow g11 q1_0), (cellGrow g11 q1_1)⟩
      | exact ⟨(cellGrow g12 (cellGrow g11 q3_0)), (cellGrow g12 (cellGrow g11 q3_1)), (cellGrow g12 (cellGrow g11 q1_0)), (cellGrow g12 (cellGrow g11 q1_1))⟩)
    (first
      | (go_at_call 27; with_reducible show Calls _ 27 #[.agg #[.int .i64 l.last, .slice a1_0 l.lines.length c1_0]] _ _; refine (toLedger_c l _ _ _ (KH1_0.grow' repLine_stable (Grow.below (by repeat (first | exact Grow.refl _ | (refine Grow.alloc ?_ _ _) | (refine Grow.drew ?_) | (refine Grow.trans ?_ (by assumption)))))) Bl_0).mono ?_; rintro e U11 ⟨A11_0, C11_0, P11_0, Q11_0, rfl, g11, O11, S11_0⟩; have y11 := Grow.size g11; have KS11_0 : SlR 3 repLine U11 0 U11.heap.size (.slice A11_0 l.lines.length C11_0) l.lines := S11_0.all repLine_stable (by omega))
      | (go_at_call 30; with_reducible show Calls _ 30 #[.agg #[.int .i64 l.last, .slice A7_0 l.lines.length C7_0], .agg #[.int .i64 l.last, .slice A11_0 l.lines.length C11_0]] _ _; refine (eqLedger_c l _ _ _ _ _ (KS7_0.grow' repLine_stable (Grow.below (by repeat (first | exact Grow.refl _ | (refine Grow.alloc ?_ _ _) | (refine Grow.drew ?_) | (refine Grow.trans ?_ (by assumption)))))) (KS11_0.grow' repLine_stable (Grow.below (by repeat (first | exact Grow.refl _ | (refine Grow.alloc ?_ _ _) | (refine Grow.drew ?_) | (refine Grow.trans ?_ (by assumption))))))).mono ?_; rintro e U12 ⟨rfl, g12⟩; have y12 := Grow.size g12))
  have gs : Grow U10 U12 := by repeat (first | exact Grow.refl _ | (refine Grow.alloc ?_ _ _) | (refine Grow.drew ?_) | (refine Grow.trans ?_ (by assumption)))
  clear g11 g12
  clear z0 z1 z2 z3 q0_0 q0_1 q0_2 q0_3 q0_4 q0_5 f0 q1_0 q1_1 f1 q2_0 q2_1 q2_2 q2_3 q2_4 q2_5 f2 q3_0 q3_1 f3
  have ys := Grow.size gs
  replace B0 : Box U12 (w.heap.size) [.int .i64 x.tick, .int .i64 x.next, .int .i64 x.wallet, .slice a0_0 x.chans.length c0_0, .slice a0_1 x.htlcs.length c0_1, .slice a0_2 x.circles.length c0_2] := Box.grow B0 gs
  replace B1 : Box U12 (w.heap.size + 1) [.int .i64 l.last, .slice a1_0 l.lines.length c1_0] := Box.grow B1 gs
  replace B2 : Box U12 (U6.heap.size) [.int .i64 x.tick, .int .i64 x.next, .int .i64 x.wallet, .slice A6_0 x.chans.length C6_0, .slice A6_1 x.htlcs.length C6_1, .slice A6_2 x.circles.length C6_2] := Box.grow B2 gs
  replace B3 : Box U12 (U7.heap.size) [.int .i64 l.last, .slice A7_0 l.lines.length C7_0] := Box.grow B3 gs
  replace S6_0 := S6_0.same repChan_stable (gs.same (by omega))
  replace S6_1 := S6_1.same repHtlc_stable (gs.same (by omega))
  replace S6_2 := S6_2.same repCircle_stable (gs.same (by omega))
  replace S7_0 := S7_0.same repLine_stable (gs.same (by omega))
  replace G : Grow w U12 := Grow.trans G gs
  clear gs
  have z0 := B0.lt
  have z1 := B1.lt
  have z2 := B2.lt
  have z3 := B3.lt
  have q0_0 : U12.cell? ⟨w.heap.size, 0, none⟩ = some (.int .i64 x.tick) := B0.c 0 _ rfl
  have q0_1 : U12.cell? ⟨w.heap.size, 1, none⟩ = some (.int .i64 x.next) := B0.c 1 _ rfl
  have q0_2 : U12.cell? ⟨w.heap.size, 2, none⟩ = some (.int .i64 x.wallet) := B0.c 2 _ rfl
  have q0_3 : U12.cell? ⟨w.heap.size, 3, none⟩ = some (.slice a0_0 x.chans.length c0_0) := B0.c 3 _ rfl
  have q0_4 : U12.cell? ⟨w.heap.size, 4, none⟩ = some (.slice a0_1 x.htlcs.length c0_1) := B0.c 4 _ rfl
  have q0_5 : U12.cell? ⟨w.heap.size, 5, none⟩ = some (.slice a0_2 x.circles.length c0_2) := B0.c 5 _ rfl
  have f0 := B0.f
  have q1_0 : U12.cell? ⟨w.heap.size + 1, 0, none⟩ = some (.int .i64 l.last) := B1.c 0 _ rfl
  have q1_1 : U12.cell? ⟨w.heap.size + 1, 1, none⟩ = some (.slice a1_0 l.lines.length c1_0) := B1.c 1 _ rfl
  have f1 := B1.f
  have q2_0 : U12.cell? ⟨U6.heap.size, 0, none⟩ = some (.int .i64 x.tick) := B2.c 0 _ rfl
  have q2_1 : U12.cell? ⟨U6.heap.size, 1, none⟩ = some (.int .i64 x.next) := B2.c 1 _ rfl
  have q2_2 : U12.cell? ⟨U6.heap.size, 2, none⟩ = some (.int .i64 x.wallet) := B2.c 2 _ rfl
  have q2_3 : U12.cell? ⟨U6.heap.size, 3, none⟩ = some (.slice A6_0 x.chans.length C6_0) := B2.c 3 _ rfl
  have q2_4 : U12.cell? ⟨U6.heap.size, 4, none⟩ = some (.slice A6_1 x.htlcs.length C6_1) := B2.c 4 _ rfl
  have q2_5 : U12.cell? ⟨U6.heap.size, 5, none⟩ = some (.slice A6_2 x.circles.length C6_2) := B2.c 5 _ rfl
  have f2 := B2.f
  have q3_0 : U12.cell? ⟨U7.heap.size, 0, none⟩ = some (.int .i64 l.last) := B3.c 0 _ rfl
  have q3_1 : U12.cell? ⟨U7.heap.size, 1, none⟩ = some (.slice A7_0 l.lines.length C7_0) := B3.c 1 _ rfl
  have f3 := B3.f
  go_wp2_with fail
  go_ret
  exact ⟨rfl, by repeat (first | exact G | (refine Grow.alloc ?_ _ _) | (refine Grow.drew ?_) | (refine Grow.drewN ?_ _))⟩
end Go.Proofs.Ytbjnbhlpibadnaa
