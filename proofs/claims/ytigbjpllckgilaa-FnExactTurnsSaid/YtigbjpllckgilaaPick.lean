/- Pick: a channel looked up. -/
import Derived.Test.YtigbjpllckgilaaBook9
import Derived.Test.YtigbjpllckgilaaBox
namespace Go.Proofs.Ytigbjpllckgilaa
open Go.RowKit
set_option linter.unusedSimpArgs false
set_option linter.unusedVariables false

def zeroChan : Chan := ⟨0, 0, 0, 0, 0, 0, 0⟩
def pickOf (x : Book) (ch : Int) : Option Chan := if bookOk x = true then (if 0 ≤ chanAt x.chans ch then x.chans[(chanAt x.chans ch).toNat]? else none) else none
def chanV (c : Chan) : Value := .agg #[.int .i64 c.id, .int .i64 c.size, .int .i64 c.loc, .int .i64 c.remote, .int .i64 c.base, .int .i64 c.ppm, .int .i64 c.score]
def pickV (r : Option Chan) : Value := .tuple #[chanV (r.getD zeroChan), .bool r.isSome]

set_option maxHeartbeats 2000000 in
  set_option maxRecDepth 100000 in
  theorem impl_Pick_c (x : Book) (a0 : Option Addr) (c0 : Nat) (a1 : Option Addr) (c1 : Nat) (a2 : Option Addr) (c2 : Nat) (ch : Int) (w : World) (h0 : SlR 7 repChan w 0 w.heap.size (.slice a0 x.chans.length c0) x.chans) (h1 : SlR 7 repHtlc w 0 w.heap.size (.slice a1 x.htlcs.length c1) x.htlcs) (h2 : SlR 5 repCircle w 0 w.heap.size (.slice a2 x.circles.length c2) x.circles) (hn : x.chans.length ≤ 1048576) :
      Calls Try.prog 23 #[.agg #[.int .i64 x.tick, .int .i64 x.next, .int .i64 x.wallet, .slice a0 x.chans.length c0, .slice a1 x.htlcs.length c1, .slice a2 x.circles.length c2], .int .i64 ch] w fun e w' => e = .returned (pickV (pickOf x ch)) ∧ Grow w w' := by
  have H0 := Lib.hid h0; have H1 := Lib.hid h1; have H2 := Lib.hid h2
  clear h0 h1 h2
  by_cases hb : bookOk x = true
  rotate_left
  · have hb : bookOk x = false := by simpa using hb
    have HR : Hid (pickOf x ch = none) := by
      show _ = _
      simp [pickOf, hb]
    go_enter Try.func23, Try.ntmps23
    go_wp2_with fail
    refine (impl_chanAt_c x _ _ _ _ _ _ ch _ (H0.out.grow' repChan_stable (Grow.below (((Grow.refl w).alloc _ _).alloc _ _))) hn).mono ?_
    rintro e V1 ⟨rfl, gs⟩
    have ys := Grow.size gs
    simp only [World.size_setCell, World.size_alloc] at ys
    have B0 : Box V1 (w.heap.size) [.int .i64 x.tick, .int .i64 x.next, .int .i64 x.wallet, .slice a0 x.chans.length c0, .slice a1 x.htlcs.length c1, .slice a2 x.circles.length c2] := Box.grow ((Box.newAt (by simp) _ _).alloc _ _) gs
    have B1 : Box V1 (w.heap.size + 1) [.int .i64 0, .int .i64 0, .int .i64 0, .int .i64 0, .int .i64 0, .int .i64 0, .int .i64 0] := Box.grow (Box.newAt (by simp) _ _) gs
    have G : Grow w V1 := Grow.trans (((Grow.refl w).alloc _ _).alloc _ _) gs
    clear gs
    have z0 := B0.lt
    have z1 := B1.lt
    have q0_0 : V1.cell? ⟨w.heap.size, 0, none⟩ = some (.int .i64 x.tick) := B0.c 0 _ rfl
    have q0_1 : V1.cell? ⟨w.heap.size, 1, none⟩ = some (.int .i64 x.next) := B0.c 1 _ rfl
    have q0_2 : V1.cell? ⟨w.heap.size, 2, none⟩ = some (.int .i64 x.wallet) := B0.c 2 _ rfl
    have q0_3 : V1.cell? ⟨w.heap.size, 3, none⟩ = some (.slice a0 x.chans.length c0) := B0.c 3 _ rfl
    have q0_4 : V1.cell? ⟨w.heap.size, 4, none⟩ = some (.slice a1 x.htlcs.length c1) := B0.c 4 _ rfl
    have q0_5 : V1.cell? ⟨w.heap.size, 5, none⟩ = some (.slice a2 x.circles.length c2) := B0.c 5 _ rfl
    have f0 := B0.f
    have q1_0 : V1.cell? ⟨w.heap.size + 1, 0, none⟩ = some (.int .i64 0) := B1.c 0 _ rfl
    have q1_1 : V1.cell? ⟨w.heap.size + 1, 1, none⟩ = some (.int .i64 0) := B1.c 1 _ rfl
    have q1_2 : V1.cell? ⟨w.heap.size + 1, 2, none⟩ = some (.int .i64 0) := B1.c 2 _ rfl
    have q1_3 : V1.cell? ⟨w.heap.size + 1, 3, none⟩ = some (.int .i64 0) := B1.c 3 _ rfl
    have q1_4 : V1.cell? ⟨w.heap.size + 1, 4, none⟩ = some (.int .i64 0) := B1.c 4 _ rfl
    have q1_5 : V1.cell? ⟨w.heap.size + 1, 5, none⟩ = some (.int .i64 0) := B1.c 5 _ rfl
    have q1_6 : V1.cell? ⟨w.heap.size + 1, 6, none⟩ = some (.int .i64 0) := B1.c 6 _ rfl
    have f1 := B1.f
    go_wp2_with fail
    refine (impl_BookOk_c x _ _ _ _ _ _ _ (H0.out.grow' repChan_stable (Grow.below G)) (H1.out.grow' repHtlc_stable (Grow.below G)) (H2.out.grow' repCircle_stable (Grow.below G)) hn).mono ?_
    rintro e V2 ⟨rfl, gs⟩
    clear z0 z1 q0_0 q0_1 q0_2 q0_3 q0_4 q0_5 f0 q1_0 q1_1 q1_2 q1_3 q1_4 q1_5 q1_6 f1
    have ys := Grow.size gs
    replace B0 : Box V2 (w.heap.size) [.int .i64 x.tick, .int .i64 x.next, .int .i64 x.wallet, .slice a0 x.chans.length c0, .slice a1 x.htlcs.length c1, .slice a2 x.circles.length c2] := Box.grow B0 gs
    replace B1 : Box V2 (w.heap.size + 1) [.int .i64 0, .int .i64 0, .int .i64 0, .int .i64 0, .int .i64 0, .int .i64 0, .int .i64 0] := Box.grow B1 gs
    replace G : Grow w V2 := Grow.trans G gs
    clear gs
    have z0 := B0.lt
    have z1 := B1.lt
    have q0_0 : V2.cell? ⟨w.heap.size, 0, none⟩ = some (.int .i64 x.tick) := B0.c 0 _ rfl
    have q0_1 : V2.cell? ⟨w.heap.size, 1, none⟩ = some (.int .i64 x.next) := B0.c 1 _ rfl
    have q0_2 : V2.cell? ⟨w.heap.size, 2, none⟩ = some (.int .i64 x.wallet) := B0.c 2 _ rfl
    have q0_3 : V2.cell? ⟨w.heap.size, 3, none⟩ = some (.slice a0 x.chans.length c0) := B0.c 3 _ rfl
    have q0_4 : V2.cell? ⟨w.heap.size, 4, none⟩ = some (.slice a1 x.htlcs.length c1) := B0.c 4 _ rfl
    have q0_5 : V2.cell? ⟨w.heap.size, 5, none⟩ = some (.slice a2 x.circles.length c2) := B0.c 5 _ rfl
    have f0 := B0.f
    have q1_0 : V2.cell? ⟨w.heap.size + 1, 0, none⟩ = some (.int .i64 0) := B1.c 0 _ rfl
    have q1_1 : V2.cell? ⟨w.heap.size + 1, 1, none⟩ = some (.int .i64 0) := B1.c 1 _ rfl
    have q1_2 : V2.cell? ⟨w.heap.size + 1, 2, none⟩ = some (.int .i64 0) := B1.c 2 _ rfl
    have q1_3 : V2.cell? ⟨w.heap.size + 1, 3, none⟩ = some (.int .i64 0) := B1.c 3 _ rfl
    have q1_4 : V2.cell? ⟨w.heap.size + 1, 4, none⟩ = some (.int .i64 0) := B1.c 4 _ rfl
    have q1_5 : V2.cell? ⟨w.heap.size + 1, 5, none⟩ = some (.int .i64 0) := B1.c 5 _ rfl
    have q1_6 : V2.cell? ⟨w.heap.size + 1, 6, none⟩ = some (.int .i64 0) := B1.c 6 _ rfl
    have f1 := B1.f
    go_wp2_with fail
    all_goals
      refine bodyPost_ret (v := .tuple #[.agg #[.int .i64 0, .int .i64 0, .int .i64 0, .int .i64 0, .int .i64 0, .int .i64 0, .int .i64 0], .bool false]) (by simp [results, Try.results23, go_sem, q1_0, q1_1, q1_2, q1_3, q1_4, q1_5, q1_6]) rfl ⟨?_, ?_⟩
      · rw [HR.out]; rfl
      · exact (((((((G.setCell (by show w.heap.size ≤ w.heap.size + 1; omega) _).setCell (by show w.heap.size ≤ w.heap.size + 1; omega) _).setCell (by show w.heap.size ≤ w.heap.size + 1; omega) _).setCell (by show w.heap.size ≤ w.heap.size + 1; omega) _).setCell (by show w.heap.size ≤ w.heap.size + 1; omega) _).setCell (by show w.heap.size ≤ w.heap.size + 1; omega) _).setCell (by show w.heap.size ≤ w.heap.size + 1; omega) _)
  rcases chanAt_cases x.chans ch with hp | ⟨k, hk, hp, -⟩
  · have HR : Hid (pickOf x ch = none) := by
      show _ = _
      simp [pickOf, hp]
    go_enter Try.func23, Try.ntmps23
    go_wp2_with fail
    refine (impl_chanAt_c x _ _ _ _ _ _ ch _ (H0.out.grow' repChan_stable (Grow.below (((Grow.refl w).alloc _ _).alloc _ _))) hn).mono ?_
    rintro e V1 ⟨rfl, gs⟩
    have ys := Grow.size gs
    simp only [World.size_setCell, World.size_alloc] at ys
    have B0 : Box V1 (w.heap.size) [.int .i64 x.tick, .int .i64 x.next, .int .i64 x.wallet, .slice a0 x.chans.length c0, .slice a1 x.htlcs.length c1, .slice a2 x.circles.length c2] := Box.grow ((Box.newAt (by simp) _ _).alloc _ _) gs
    have B1 : Box V1 (w.heap.size + 1) [.int .i64 0, .int .i64 0, .int .i64 0, .int .i64 0, .int .i64 0, .int .i64 0, .int .i64 0] := Box.grow (Box.newAt (by simp) _ _) gs
    have G : Grow w V1 := Grow.trans (((Grow.refl w).alloc _ _).alloc _ _) gs
    clear gs
    have z0 := B0.lt
    have z1 := B1.lt
    have q0_0 : V1.cell? ⟨w.heap.size, 0, none⟩ = some (.int .i64 x.tick) := B0.c 0 _ rfl
    have q0_1 : V1.cell? ⟨w.heap.size, 1, none⟩ = some (.int .i64 x.next) := B0.c 1 _ rfl
    have q0_2 : V1.cell? ⟨w.heap.size, 2, none⟩ = some (.int .i64 x.wallet) := B0.c 2 _ rfl
    have q0_3 : V1.cell? ⟨w.heap.size, 3, none⟩ = some (.slice a0 x.chans.length c0) := B0.c 3 _ rfl
    have q0_4 : V1.cell? ⟨w.heap.size, 4, none⟩ = some (.slice a1 x.htlcs.length c1) := B0.c 4 _ rfl
    have q0_5 : V1.cell? ⟨w.heap.size, 5, none⟩ = some (.slice a2 x.circles.length c2) := B0.c 5 _ rfl
    have f0 := B0.f
    have q1_0 : V1.cell? ⟨w.heap.size + 1, 0, none⟩ = some (.int .i64 0) := B1.c 0 _ rfl
    have q1_1 : V1.cell? ⟨w.heap.size + 1, 1, none⟩ = some (.int .i64 0) := B1.c 1 _ rfl
    have q1_2 : V1.cell? ⟨w.heap.size + 1, 2, none⟩ = some (.int .i64 0) := B1.c 2 _ rfl
    have q1_3 : V1.cell? ⟨w.heap.size + 1, 3, none⟩ = some (.int .i64 0) := B1.c 3 _ rfl
    have q1_4 : V1.cell? ⟨w.heap.size + 1, 4, none⟩ = some (.int .i64 0) := B1.c 4 _ rfl
    have q1_5 : V1.cell? ⟨w.heap.size + 1, 5, none⟩ = some (.int .i64 0) := B1.c 5 _ rfl
    have q1_6 : V1.cell? ⟨w.heap.size + 1, 6, none⟩ = some (.int .i64 0) := B1.c 6 _ rfl
    have f1 := B1.f
    go_wp2_with fail
    refine (impl_BookOk_c x _ _ _ _ _ _ _ (H0.out.grow' repChan_stable (Grow.below G)) (H1.out.grow' repHtlc_stable (Grow.below G)) (H2.out.grow' repCircle_stable (Grow.below G)) hn).mono ?_
    rintro e V2 ⟨rfl, gs⟩
    clear z0 z1 q0_0 q0_1 q0_2 q0_3 q0_4 q0_5 f0 q1_0 q1_1 q1_2 q1_3 q1_4 q1_5 q1_6 f1
    have ys := Grow.size gs
    replace B0 : Box V2 (w.heap.size) [.int .i64 x.tick, .int .i64 x.next, .int .i64 x.wallet, .slice a0 x.chans.length c0, .slice a1 x.htlcs.length c1, .slice a2 x.circles.length c2] := Box.grow B0 gs
    replace B1 : Box V2 (w.heap.size + 1) [.int .i64 0, .int .i64 0, .int .i64 0, .int .i64 0, .int .i64 0, .int .i64 0, .int .i64 0] := Box.grow B1 gs
    replace G : Grow w V2 := Grow.trans G gs
    clear gs
    have z0 := B0.lt
    have z1 := B1.lt
    have q0_0 : V2.cell? ⟨w.heap.size, 0, none⟩ = some (.int .i64 x.tick) := B0.c 0 _ rfl
    have q0_1 : V2.cell? ⟨w.heap.size, 1, none⟩ = some (.int .i64 x.next) := B0.c 1 _ rfl
    have q0_2 : V2.cell? ⟨w.heap.size, 2, none⟩ = some (.int .i64 x.wallet) := B0.c 2 _ rfl
    have q0_3 : V2.cell? ⟨w.heap.size, 3, none⟩ = some (.slice a0 x.chans.length c0) := B0.c 3 _ rfl
    have q0_4 : V2.cell? ⟨w.heap.size, 4, none⟩ = some (.slice a1 x.htlcs.length c1) := B0.c 4 _ rfl
    have q0_5 : V2.cell? ⟨w.heap.size, 5, none⟩ = some (.slice a2 x.circles.length c2) := B0.c 5 _ rfl
    have f0 := B0.f
    have q1_0 : V2.cell? ⟨w.heap.size + 1, 0, none⟩ = some (.int .i64 0) := B1.c 0 _ rfl
    have q1_1 : V2.cell? ⟨w.heap.size + 1, 1, none⟩ = some (.int .i64 0) := B1.c 1 _ rfl
    have q1_2 : V2.cell? ⟨w.heap.size + 1, 2, none⟩ = some (.int .i64 0) := B1.c 2 _ rfl
    have q1_3 : V2.cell? ⟨w.heap.size + 1, 3, none⟩ = some (.int .i64 0) := B1.c 3 _ rfl
    have q1_4 : V2.cell? ⟨w.heap.size + 1, 4, none⟩ = some (.int .i64 0) := B1.c 4 _ rfl
    have q1_5 : V2.cell? ⟨w.heap.size + 1, 5, none⟩ = some (.int .i64 0) := B1.c 5 _ rfl
    have q1_6 : V2.cell? ⟨w.heap.size + 1, 6, none⟩ = some (.int .i64 0) := B1.c 6 _ rfl
    have f1 := B1.f
    go_wp2_with fail
    all_goals
      refine bodyPost_ret (v := .tuple #[.agg #[.int .i64 0, .int .i64 0, .int .i64 0, .int .i64 0, .int .i64 0, .int .i64 0, .int .i64 0], .bool false]) (by simp [results, Try.results23, go_sem, q1_0, q1_1, q1_2, q1_3, q1_4, q1_5, q1_6]) rfl ⟨?_, ?_⟩
      · rw [HR.out]; rfl
      · exact (((((((G.setCell (by show w.heap.size ≤ w.heap.size + 1; omega) _).setCell (by show w.heap.size ≤ w.heap.size + 1; omega) _).setCell (by show w.heap.size ≤ w.heap.size + 1; omega) _).setCell (by show w.heap.size ≤ w.heap.size + 1; omega) _).setCell (by show w.heap.size ≤ w.heap.size + 1; omega) _).setCell (by show w.heap.size ≤ w.heap.size + 1; omega) _).setCell (by show w.heap.size ≤ w.heap.size + 1; omega) _)
  · have HR : Hid (pickOf x ch = some x.chans[k]) := by
      show _ = _
      simp [pickOf, hb, hp]
    have HK := Lib.hid hk
    go_enter Try.func23, Try.ntmps23
    go_wp2_with fail
    refine (impl_chanAt_c x _ _ _ _ _ _ ch _ (H0.out.grow' repChan_stable (Grow.below (((Grow.refl w).alloc _ _).alloc _ _))) hn).mono ?_
    rintro e V1 ⟨rfl, gs⟩
    have ys := Grow.size gs
    simp only [World.size_setCell, World.size_alloc] at ys
    have B0 : Box V1 (w.heap.size) [.int .i64 x.tick, .int .i64 x.next, .int .i64 x.wallet, .slice a0 x.chans.length c0, .slice a1 x.htlcs.length c1, .slice a2 x.circles.length c2] := Box.grow ((Box.newAt (by simp) _ _).alloc _ _) gs
    have B1 : Box V1 (w.heap.size + 1) [.int .i64 0, .int .i64 0, .int .i64 0, .int .i64 0, .int .i64 0, .int .i64 0, .int .i64 0] := Box.grow (Box.newAt (by simp) _ _) gs
    have G : Grow w V1 := Grow.trans (((Grow.refl w).alloc _ _).alloc _ _) gs
    clear gs
    have z0 := B0.lt
    have z1 := B1.lt
    have q0_0 : V1.cell? ⟨w.heap.size, 0, none⟩ = some (.int .i64 x.tick) := B0.c 0 _ rfl
    have q0_1 : V1.cell? ⟨w.heap.size, 1, none⟩ = some (.int .i64 x.next) := B0.c 1 _ rfl
    have q0_2 : V1.cell? ⟨w.heap.size, 2, none⟩ = some (.int .i64 x.wallet) := B0.c 2 _ rfl
    have q0_3 : V1.cell? ⟨w.heap.size, 3, none⟩ = some (.slice a0 x.chans.length c0) := B0.c 3 _ rfl
    have q0_4 : V1.cell? ⟨w.heap.size, 4, none⟩ = some (.slice a1 x.htlcs.length c1) := B0.c 4 _ rfl
    have q0_5 : V1.cell? ⟨w.heap.size, 5, none⟩ = some (.slice a2 x.circles.length c2) := B0.c 5 _ rfl
    have f0 := B0.f
    have q1_0 : V1.cell? ⟨w.heap.size + 1, 0, none⟩ = some (.int .i64 0) := B1.c 0 _ rfl
    have q1_1 : V1.cell? ⟨w.heap.size + 1, 1, none⟩ = some (.int .i64 0) := B1.c 1 _ rfl
    have q1_2 : V1.cell? ⟨w.heap.size + 1, 2, none⟩ = some (.int .i64 0) := B1.c 2 _ rfl
    have q1_3 : V1.cell? ⟨w.heap.size + 1, 3, none⟩ = some (.int .i64 0) := B1.c 3 _ rfl
    have q1_4 : V1.cell? ⟨w.heap.size + 1, 4, none⟩ = some (.int .i64 0) := B1.c 4 _ rfl
    have q1_5 : V1.cell? ⟨w.heap.size + 1, 5, none⟩ = some (.int .i64 0) := B1.c 5 _ rfl
    have q1_6 : V1.cell? ⟨w.heap.size + 1, 6, none⟩ = some (.int .i64 0) := B1.c 6 _ rfl
    have f1 := B1.f
    go_wp2_with fail
    refine (impl_BookOk_c x _ _ _ _ _ _ _ (H0.out.grow' repChan_stable (Grow.below G)) (H1.out.grow' repHtlc_stable (Grow.below G)) (H2.out.grow' repCircle_stable (Grow.below G)) hn).mono ?_
    rintro e V2 ⟨rfl, gs⟩
    clear z0 z1 q0_0 q0_1 q0_2 q0_3 q0_4 q0_5 f0 q1_0 q1_1 q1_2 q1_3 q1_4 q1_5 q1_6 f1
    have ys := Grow.size gs
    replace B0 : Box V2 (w.heap.size) [.int .i64 x.tick, .int .i64 x.next, .int .i64 x.wallet, .slice a0 x.chans.length c0, .slice a1 x.htlcs.length c1, .slice a2 x.circles.length c2] := Box.grow B0 gs
    replace B1 : Box V2 (w.heap.size + 1) [.int .i64 0, .int .i64 0, .int .i64 0, .int .i64 0, .int .i64 0, .int .i64 0, .int .i64 0] := Box.grow B1 gs
    replace G : Grow w V2 := Grow.trans G gs
    clear gs
    have z0 := B0.lt
    have z1 := B1.lt
    have q0_0 : V2.cell? ⟨w.heap.size, 0, none⟩ = some (.int .i64 x.tick) := B0.c 0 _ rfl
    have q0_1 : V2.cell? ⟨w.heap.size, 1, none⟩ = some (.int .i64 x.next) := B0.c 1 _ rfl
    have q0_2 : V2.cell? ⟨w.heap.size, 2, none⟩ = some (.int .i64 x.wallet) := B0.c 2 _ rfl
    have q0_3 : V2.cell? ⟨w.heap.size, 3, none⟩ = some (.slice a0 x.chans.length c0) := B0.c 3 _ rfl
    have q0_4 : V2.cell? ⟨w.heap.size, 4, none⟩ = some (.slice a1 x.htlcs.length c1) := B0.c 4 _ rfl
    have q0_5 : V2.cell? ⟨w.heap.size, 5, none⟩ = some (.slice a2 x.circles.length c2) := B0.c 5 _ rfl
    have f0 := B0.f
    have q1_0 : V2.cell? ⟨w.heap.size + 1, 0, none⟩ = some (.int .i64 0) := B1.c 0 _ rfl
    have q1_1 : V2.cell? ⟨w.heap.size + 1, 1, none⟩ = some (.int .i64 0) := B1.c 1 _ rfl
    have q1_2 : V2.cell? ⟨w.heap.size + 1, 2, none⟩ = some (.int .i64 0) := B1.c 2 _ rfl
    have q1_3 : V2.cell? ⟨w.heap.size + 1, 3, none⟩ = some (.int .i64 0) := B1.c 3 _ rfl
    have q1_4 : V2.cell? ⟨w.heap.size + 1, 4, none⟩ = some (.int .i64 0) := B1.c 4 _ rfl
    have q1_5 : V2.cell? ⟨w.heap.size + 1, 5, none⟩ = some (.int .i64 0) := B1.c 5 _ rfl
    have q1_6 : V2.cell? ⟨w.heap.size + 1, 6, none⟩ = some (.int .i64 0) := B1.c 6 _ rfl
    have f1 := B1.f
    obtain ⟨b, off, rfl, hb1, hb2, hel⟩ := H0.out.elems k HK.out
    obtain ⟨e0, e1, e2, e3, e4, e5, e6, _⟩ := Chan.atCell (hel.same repChan_stable (G.same (Nat.le_refl _)) hb1 hb2) k HK.out
    clear hel
    generalize x.chans[k] = y at *
    go_wp2_with fail
    all_goals
      refine bodyPost_ret (v := .tuple #[.agg #[.int .i64 y.id, .int .i64 y.size, .int .i64 y.loc, .int .i64 y.remote, .int .i64 y.base, .int .i64 y.ppm, .int .i64 y.score], .bool true]) (by simp [results, Try.results23, go_sem, q1_0, q1_1, q1_2, q1_3, q1_4, q1_5, q1_6]) rfl ⟨?_, ?_⟩
      · rw [HR.out]; rfl
      · exact (((((((G.setCell (by show w.heap.size ≤ w.heap.size + 1; omega) _).setCell (by show w.heap.size ≤ w.heap.size + 1; omega) _).setCell (by show w.heap.size ≤ w.heap.size + 1; omega) _).setCell (by show w.heap.size ≤ w.heap.size + 1; omega) _).setCell (by show w.heap.size ≤ w.heap.size + 1; omega) _).setCell (by show w.heap.size ≤ w.heap.size + 1; omega) _).setCell (by show w.heap.size ≤ w.heap.size + 1; omega) _)

set_option maxHeartbeats 2000000 in
  set_option maxRecDepth 100000 in
  theorem spec_Pick_c (x : Book) (a0 : Option Addr) (c0 : Nat) (a1 : Option Addr) (c1 : Nat) (a2 : Option Addr) (c2 : Nat) (ch : Int) (w : World) (h0 : SlR 7 repChan w 0 w.heap.size (.slice a0 x.chans.length c0) x.chans) (h1 : SlR 7 repHtlc w 0 w.heap.size (.slice a1 x.htlcs.length c1) x.htlcs) (h2 : SlR 5 repCircle w 0 w.heap.size (.slice a2 x.circles.length c2) x.circles) (hn : x.chans.length ≤ 1048576) :
      Calls Try.prog 22 #[.agg #[.int .i64 x.tick, .int .i64 x.next, .int .i64 x.wallet, .slice a0 x.chans.length c0, .slice a1 x.htlcs.length c1, .slice a2 x.circles.length c2], .int .i64 ch] w fun e w' => e = .returned (pickV (pickOf x ch)) ∧ Grow w w' := by
  have H0 := Lib.hid h0; have H1 := Lib.hid h1; have H2 := Lib.hid h2
  clear h0 h1 h2
  by_cases hb : bookOk x = true
  rotate_left
  · have hb : bookOk x = false := by simpa using hb
    have HR : Hid (pickOf x ch = none) := by
      show _ = _
      simp [pickOf, hb]
    go_enter Try.func22, Try.ntmps22
    go_wp2_with fail
    refine (spec_At_c x _ _ _ _ _ _ ch _ (H0.out.grow' repChan_stable (Grow.below (((Grow.refl w).alloc _ _).alloc _ _))) hn).mono ?_
    rintro e V1 ⟨rfl, gs⟩
    have ys := Grow.size gs
    simp only [World.size_setCell, World.size_alloc] at ys
    have B0 : Box V1 (w.heap.size) [.int .i64 x.tick, .int .i64 x.next, .int .i64 x.wallet, .slice a0 x.chans.length c0, .slice a1 x.htlcs.length c1, .slice a2 x.circles.length c2] := Box.grow ((Box.newAt (by simp) _ _).alloc _ _) gs
    have B1 : Box V1 (w.heap.size + 1) [.int .i64 0, .int .i64 0, .int .i64 0, .int .i64 0, .int .i64 0, .int .i64 0, .int .i64 0] := Box.grow (Box.newAt (by simp) _ _) gs
    have G : Grow w V1 := Grow.trans (((Grow.refl w).alloc _ _).alloc _ _) gs
    clear gs
    have z0 := B0.lt
    have z1 := B1.lt
    have q0_0 : V1.cell? ⟨w.heap.size, 0, none⟩ = some (.int .i64 x.tick) := B0.c 0 _ rfl
    have q0_1 : V1.cell? ⟨w.heap.size, 1, none⟩ = some (.int .i64 x.next) := B0.c 1 _ rfl
    have q0_2 : V1.cell? ⟨w.heap.size, 2, none⟩ = some (.int .i64 x.wallet) := B0.c 2 _ rfl
    have q0_3 : V1.cell? ⟨w.heap.size, 3, none⟩ = some (.slice a0 x.chans.length c0) := B0.c 3 _ rfl
    have q0_4 : V1.cell? ⟨w.heap.size, 4, none⟩ = some (.slice a1 x.htlcs.length c1) := B0.c 4 _ rfl
    have q0_5 : V1.cell? ⟨w.heap.size, 5, none⟩ = some (.slice a2 x.circles.length c2) := B0.c 5 _ rfl
    have f0 := B0.f
    have q1_0 : V1.cell? ⟨w.heap.size + 1, 0, none⟩ = some (.int .i64 0) := B1.c 0 _ rfl
    have q1_1 : V1.cell? ⟨w.heap.size + 1, 1, none⟩ = some (.int .i64 0) := B1.c 1 _ rfl
    have q1_2 : V1.cell? ⟨w.heap.size + 1, 2, none⟩ = some (.int .i64 0) := B1.c 2 _ rfl
    have q1_3 : V1.cell? ⟨w.heap.size + 1, 3, none⟩ = some (.int .i64 0) := B1.c 3 _ rfl
    have q1_4 : V1.cell? ⟨w.heap.size + 1, 4, none⟩ = some (.int .i64 0) := B1.c 4 _ rfl
    have q1_5 : V1.cell? ⟨w.heap.size + 1, 5, none⟩ = some (.int .i64 0) := B1.c 5 _ rfl
    have q1_6 : V1.cell? ⟨w.heap.size + 1, 6, none⟩ = some (.int .i64 0) := B1.c 6 _ rfl
    have f1 := B1.f
    go_wp2_with fail
    refine (spec_BookOk_c x _ _ _ _ _ _ _ (H0.out.grow' repChan_stable (Grow.below G)) (H1.out.grow' repHtlc_stable (Grow.below G)) (H2.out.grow' repCircle_stable (Grow.below G)) hn).mono ?_
    rintro e V2 ⟨rfl, gs⟩
    clear z0 z1 q0_0 q0_1 q0_2 q0_3 q0_4 q0_5 f0 q1_0 q1_1 q1_2 q1_3 q1_4 q1_5 q1_6 f1
    have ys := Grow.size gs
    replace B0 : Box V2 (w.heap.size) [.int .i64 x.tick, .int .i64 x.next, .int .i64 x.wallet, .slice a0 x.chans.length c0, .slice a1 x.htlcs.length c1, .slice a2 x.circles.length c2] := Box.grow B0 gs
    replace B1 : Box V2 (w.heap.size + 1) [.int .i64 0, .int .i64 0, .int .i64 0, .int .i64 0, .int .i64 0, .int .i64 0, .int .i64 0] := Box.grow B1 gs
    replace G : Grow w V2 := Grow.trans G gs
    clear gs
    have z0 := B0.lt
    have z1 := B1.lt
    have q0_0 : V2.cell? ⟨w.heap.size, 0, none⟩ = some (.int .i64 x.tick) := B0.c 0 _ rfl
    have q0_1 : V2.cell? ⟨w.heap.size, 1, none⟩ = some (.int .i64 x.next) := B0.c 1 _ rfl
    have q0_2 : V2.cell? ⟨w.heap.size, 2, none⟩ = some (.int .i64 x.wallet) := B0.c 2 _ rfl
    have q0_3 : V2.cell? ⟨w.heap.size, 3, none⟩ = some (.slice a0 x.chans.length c0) := B0.c 3 _ rfl
    have q0_4 : V2.cell? ⟨w.heap.size, 4, none⟩ = some (.slice a1 x.htlcs.length c1) := B0.c 4 _ rfl
    have q0_5 : V2.cell? ⟨w.heap.size, 5, none⟩ = some (.slice a2 x.circles.length c2) := B0.c 5 _ rfl
    have f0 := B0.f
    have q1_0 : V2.cell? ⟨w.heap.size + 1, 0, none⟩ = some (.int .i64 0) := B1.c 0 _ rfl
    have q1_1 : V2.cell? ⟨w.heap.size + 1, 1, none⟩ = some (.int .i64 0) := B1.c 1 _ rfl
    have q1_2 : V2.cell? ⟨w.heap.size + 1, 2, none⟩ = some (.int .i64 0) := B1.c 2 _ rfl
    have q1_3 : V2.cell? ⟨w.heap.size + 1, 3, none⟩ = some (.int .i64 0) := B1.c 3 _ rfl
    have q1_4 : V2.cell? ⟨w.heap.size + 1, 4, none⟩ = some (.int .i64 0) := B1.c 4 _ rfl
    have q1_5 : V2.cell? ⟨w.heap.size + 1, 5, none⟩ = some (.int .i64 0) := B1.c 5 _ rfl
    have q1_6 : V2.cell? ⟨w.heap.size + 1, 6, none⟩ = some (.int .i64 0) := B1.c 6 _ rfl
    have f1 := B1.f
    go_wp2_with fail
    all_goals
      refine bodyPost_ret (v := .tuple #[.agg #[.int .i64 0, .int .i64 0, .int .i64 0, .int .i64 0, .int .i64 0, .int .i64 0, .int .i64 0], .bool false]) (by simp [results, Try.results22, go_sem, q1_0, q1_1, q1_2, q1_3, q1_4, q1_5, q1_6]) rfl ⟨?_, ?_⟩
      · rw [HR.out]; rfl
      · exact (((((((G.setCell (by show w.heap.size ≤ w.heap.size + 1; omega) _).setCell (by show w.heap.size ≤ w.heap.size + 1; omega) _).setCell (by show w.heap.size ≤ w.heap.size + 1; omega) _).setCell (by show w.heap.size ≤ w.heap.size + 1; omega) _).setCell (by show w.heap.size ≤ w.heap.size + 1; omega) _).setCell (by show w.heap.size ≤ w.heap.size + 1; omega) _).setCell (by show w.heap.size ≤ w.heap.size + 1; omega) _)
  rcases chanAt_cases x.chans ch with hp | ⟨k, hk, hp, -⟩
  · have HR : Hid (pickOf x ch = none) := by
      show _ = _
      simp [pickOf, hp]
    go_enter Try.func22, Try.ntmps22
    go_wp2_with fail
    refine (spec_At_c x _ _ _ _ _ _ ch _ (H0.out.grow' repChan_stable (Grow.below (((Grow.refl w).alloc _ _).alloc _ _))) hn).mono ?_
    rintro e V1 ⟨rfl, gs⟩
    have ys := Grow.size gs
    simp only [World.size_setCell, World.size_alloc] at ys
    have B0 : Box V1 (w.heap.size) [.int .i64 x.tick, .int .i64 x.next, .int .i64 x.wallet, .slice a0 x.chans.length c0, .slice a1 x.htlcs.length c1, .slice a2 x.circles.length c2] := Box.grow ((Box.newAt (by simp) _ _).alloc _ _) gs
    have B1 : Box V1 (w.heap.size + 1) [.int .i64 0, .int .i64 0, .int .i64 0, .int .i64 0, .int .i64 0, .int .i64 0, .int .i64 0] := Box.grow (Box.newAt (by simp) _ _) gs
    have G : Grow w V1 := Grow.trans (((Grow.refl w).alloc _ _).alloc _ _) gs
    clear gs
    have z0 := B0.lt
    have z1 := B1.lt
    have q0_0 : V1.cell? ⟨w.heap.size, 0, none⟩ = some (.int .i64 x.tick) := B0.c 0 _ rfl
    have q0_1 : V1.cell? ⟨w.heap.size, 1, none⟩ = some (.int .i64 x.next) := B0.c 1 _ rfl
    have q0_2 : V1.cell? ⟨w.heap.size, 2, none⟩ = some (.int .i64 x.wallet) := B0.c 2 _ rfl
    have q0_3 : V1.cell? ⟨w.heap.size, 3, none⟩ = some (.slice a0 x.chans.length c0) := B0.c 3 _ rfl
    have q0_4 : V1.cell? ⟨w.heap.size, 4, none⟩ = some (.slice a1 x.htlcs.length c1) := B0.c 4 _ rfl
    have q0_5 : V1.cell? ⟨w.heap.size, 5, none⟩ = some (.slice a2 x.circles.length c2) := B0.c 5 _ rfl
    have f0 := B0.f
    have q1_0 : V1.cell? ⟨w.heap.size + 1, 0, none⟩ = some (.int .i64 0) := B1.c 0 _ rfl
    have q1_1 : V1.cell? ⟨w.heap.size + 1, 1, none⟩ = some (.int .i64 0) := B1.c 1 _ rfl
    have q1_2 : V1.cell? ⟨w.heap.size + 1, 2, none⟩ = some (.int .i64 0) := B1.c 2 _ rfl
    have q1_3 : V1.cell? ⟨w.heap.size + 1, 3, none⟩ = some (.int .i64 0) := B1.c 3 _ rfl
    have q1_4 : V1.cell? ⟨w.heap.size + 1, 4, none⟩ = some (.int .i64 0) := B1.c 4 _ rfl
    have q1_5 : V1.cell? ⟨w.heap.size + 1, 5, none⟩ = some (.int .i64 0) := B1.c 5 _ rfl
    have q1_6 : V1.cell? ⟨w.heap.size + 1, 6, none⟩ = some (.int .i64 0) := B1.c 6 _ rfl
    have f1 := B1.f
    go_wp2_with fail
    refine (spec_BookOk_c x _ _ _ _ _ _ _ (H0.out.grow' repChan_stable (Grow.below G)) (H1.out.grow' repHtlc_stable (Grow.below G)) (H2.out.grow' repCircle_stable (Grow.below G)) hn).mono ?_
    rintro e V2 ⟨rfl, gs⟩
    clear z0 z1 q0_0 q0_1 q0_2 q0_3 q0_4 q0_5 f0 q1_0 q1_1 q1_2 q1_3 q1_4 q1_5 q1_6 f1
    have ys := Grow.size gs
    replace B0 : Box V2 (w.heap.size) [.int .i64 x.tick, .int .i64 x.next, .int .i64 x.wallet, .slice a0 x.chans.length c0, .slice a1 x.htlcs.length c1, .slice a2 x.circles.length c2] := Box.grow B0 gs
    replace B1 : Box V2 (w.heap.size + 1) [.int .i64 0, .int .i64 0, .int .i64 0, .int .i64 0, .int .i64 0, .int .i64 0, .int .i64 0] := Box.grow B1 gs
    replace G : Grow w V2 := Grow.trans G gs
    clear gs
    have z0 := B0.lt
    have z1 := B1.lt
    have q0_0 : V2.cell? ⟨w.heap.size, 0, none⟩ = some (.int .i64 x.tick) := B0.c 0 _ rfl
    have q0_1 : V2.cell? ⟨w.heap.size, 1, none⟩ = some (.int .i64 x.next) := B0.c 1 _ rfl
    have q0_2 : V2.cell? ⟨w.heap.size, 2, none⟩ = some (.int .i64 x.wallet) := B0.c 2 _ rfl
    have q0_3 : V2.cell? ⟨w.heap.size, 3, none⟩ = some (.slice a0 x.chans.length c0) := B0.c 3 _ rfl
    have q0_4 : V2.cell? ⟨w.heap.size, 4, none⟩ = some (.slice a1 x.htlcs.length c1) := B0.c 4 _ rfl
    have q0_5 : V2.cell? ⟨w.heap.size, 5, none⟩ = some (.slice a2 x.circles.length c2) := B0.c 5 _ rfl
    have f0 := B0.f
    have q1_0 : V2.cell? ⟨w.heap.size + 1, 0, none⟩ = some (.int .i64 0) := B1.c 0 _ rfl
    have q1_1 : V2.cell? ⟨w.heap.size + 1, 1, none⟩ = some (.int .i64 0) := B1.c 1 _ rfl
    have q1_2 : V2.cell? ⟨w.heap.size + 1, 2, none⟩ = some (.int .i64 0) := B1.c 2 _ rfl
    have q1_3 : V2.cell? ⟨w.heap.size + 1, 3, none⟩ = some (.int .i64 0) := B1.c 3 _ rfl
    have q1_4 : V2.cell? ⟨w.heap.size + 1, 4, none⟩ = some (.int .i64 0) := B1.c 4 _ rfl
    have q1_5 : V2.cell? ⟨w.heap.size + 1, 5, none⟩ = some (.int .i64 0) := B1.c 5 _ rfl
    have q1_6 : V2.cell? ⟨w.heap.size + 1, 6, none⟩ = some (.int .i64 0) := B1.c 6 _ rfl
    have f1 := B1.f
    go_wp2_with fail
    all_goals
      refine bodyPost_ret (v := .tuple #[.agg #[.int .i64 0, .int .i64 0, .int .i64 0, .int .i64 0, .int .i64 0, .int .i64 0, .int .i64 0], .bool false]) (by simp [results, Try.results22, go_sem, q1_0, q1_1, q1_2, q1_3, q1_4, q1_5, q1_6]) rfl ⟨?_, ?_⟩
      · rw [HR.out]; rfl
      · exact (((((((G.setCell (by show w.heap.size ≤ w.heap.size + 1; omega) _).setCell (by show w.heap.size ≤ w.heap.size + 1; omega) _).setCell (by show w.heap.size ≤ w.heap.size + 1; omega) _).setCell (by show w.heap.size ≤ w.heap.size + 1; omega) _).setCell (by show w.heap.size ≤ w.heap.size + 1; omega) _).setCell (by show w.heap.size ≤ w.heap.size + 1; omega) _).setCell (by show w.heap.size ≤ w.heap.size + 1; omega) _)
  · have HR : Hid (pickOf x ch = some x.chans[k]) := by
      show _ = _
      simp [pickOf, hb, hp]
    have HK := Lib.hid hk
    go_enter Try.func22, Try.ntmps22
    go_wp2_with fail
    refine (spec_At_c x _ _ _ _ _ _ ch _ (H0.out.grow' repChan_stable (Grow.below (((Grow.refl w).alloc _ _).alloc _ _))) hn).mono ?_
    rintro e V1 ⟨rfl, gs⟩
    have ys := Grow.size gs
    simp only [World.size_setCell, World.size_alloc] at ys
    have B0 : Box V1 (w.heap.size) [.int .i64 x.tick, .int .i64 x.next, .int .i64 x.wallet, .slice a0 x.chans.length c0, .slice a1 x.htlcs.length c1, .slice a2 x.circles.length c2] := Box.grow ((Box.newAt (by simp) _ _).alloc _ _) gs
    have B1 : Box V1 (w.heap.size + 1) [.int .i64 0, .int .i64 0, .int .i64 0, .int .i64 0, .int .i64 0, .int .i64 0, .int .i64 0] := Box.grow (Box.newAt (by simp) _ _) gs
    have G : Grow w V1 := Grow.trans (((Grow.refl w).alloc _ _).alloc _ _) gs
    clear gs
    have z0 := B0.lt
    have z1 := B1.lt
    have q0_0 : V1.cell? ⟨w.heap.size, 0, none⟩ = some (.int .i64 x.tick) := B0.c 0 _ rfl
    have q0_1 : V1.cell? ⟨w.heap.size, 1, none⟩ = some (.int .i64 x.next) := B0.c 1 _ rfl
    have q0_2 : V1.cell? ⟨w.heap.size, 2, none⟩ = some (.int .i64 x.wallet) := B0.c 2 _ rfl
    have q0_3 : V1.cell? ⟨w.heap.size, 3, none⟩ = some (.slice a0 x.chans.length c0) := B0.c 3 _ rfl
    have q0_4 : V1.cell? ⟨w.heap.size, 4, none⟩ = some (.slice a1 x.htlcs.length c1) := B0.c 4 _ rfl
    have q0_5 : V1.cell? ⟨w.heap.size, 5, none⟩ = some (.slice a2 x.circles.length c2) := B0.c 5 _ rfl
    have f0 := B0.f
    have q1_0 : V1.cell? ⟨w.heap.size + 1, 0, none⟩ = some (.int .i64 0) := B1.c 0 _ rfl
    have q1_1 : V1.cell? ⟨w.heap.size + 1, 1, none⟩ = some (.int .i64 0) := B1.c 1 _ rfl
    have q1_2 : V1.cell? ⟨w.heap.size + 1, 2, none⟩ = some (.int .i64 0) := B1.c 2 _ rfl
    have q1_3 : V1.cell? ⟨w.heap.size + 1, 3, none⟩ = some (.int .i64 0) := B1.c 3 _ rfl
    have q1_4 : V1.cell? ⟨w.heap.size + 1, 4, none⟩ = some (.int .i64 0) := B1.c 4 _ rfl
    have q1_5 : V1.cell? ⟨w.heap.size + 1, 5, none⟩ = some (.int .i64 0) := B1.c 5 _ rfl
    have q1_6 : V1.cell? ⟨w.heap.size + 1, 6, none⟩ = some (.int .i64 0) := B1.c 6 _ rfl
    have f1 := B1.f
    go_wp2_with fail
    refine (spec_BookOk_c x _ _ _ _ _ _ _ (H0.out.grow' repChan_stable (Grow.below G)) (H1.out.grow' repHtlc_stable (Grow.below G)) (H2.out.grow' repCircle_stable (Grow.below G)) hn).mono ?_
    rintro e V2 ⟨rfl, gs⟩
    clear z0 z1 q0_0 q0_1 q0_2 q0_3 q0_4 q0_5 f0 q1_0 q1_1 q1_2 q1_3 q1_4 q1_5 q1_6 f1
    have ys := Grow.size gs
    replace B0 : Box V2 (w.heap.size) [.int .i64 x.tick, .int .i64 x.next, .int .i64 x.wallet, .slice a0 x.chans.length c0, .slice a1 x.htlcs.length c1, .slice a2 x.circles.length c2] := Box.grow B0 gs
    replace B1 : Box V2 (w.heap.size + 1) [.int .i64 0, .int .i64 0, .int .i64 0, .int .i64 0, .int .i64 0, .int .i64 0, .int .i64 0] := Box.grow B1 gs
    replace G : Grow w V2 := Grow.trans G gs
    clear gs
    have z0 := B0.lt
    have z1 := B1.lt
    have q0_0 : V2.cell? ⟨w.heap.size, 0, none⟩ = some (.int .i64 x.tick) := B0.c 0 _ rfl
    have q0_1 : V2.cell? ⟨w.heap.size, 1, none⟩ = some (.int .i64 x.next) := B0.c 1 _ rfl
    have q0_2 : V2.cell? ⟨w.heap.size, 2, none⟩ = some (.int .i64 x.wallet) := B0.c 2 _ rfl
    have q0_3 : V2.cell? ⟨w.heap.size, 3, none⟩ = some (.slice a0 x.chans.length c0) := B0.c 3 _ rfl
    have q0_4 : V2.cell? ⟨w.heap.size, 4, none⟩ = some (.slice a1 x.htlcs.length c1) := B0.c 4 _ rfl
    have q0_5 : V2.cell? ⟨w.heap.size, 5, none⟩ = some (.slice a2 x.circles.length c2) := B0.c 5 _ rfl
    have f0 := B0.f
    have q1_0 : V2.cell? ⟨w.heap.size + 1, 0, none⟩ = some (.int .i64 0) := B1.c 0 _ rfl
    have q1_1 : V2.cell? ⟨w.heap.size + 1, 1, none⟩ = some (.int .i64 0) := B1.c 1 _ rfl
    have q1_2 : V2.cell? ⟨w.heap.size + 1, 2, none⟩ = some (.int .i64 0) := B1.c 2 _ rfl
    have q1_3 : V2.cell? ⟨w.heap.size + 1, 3, none⟩ = some (.int .i64 0) := B1.c 3 _ rfl
    have q1_4 : V2.cell? ⟨w.heap.size + 1, 4, none⟩ = some (.int .i64 0) := B1.c 4 _ rfl
    have q1_5 : V2.cell? ⟨w.heap.size + 1, 5, none⟩ = some (.int .i64 0) := B1.c 5 _ rfl
    have q1_6 : V2.cell? ⟨w.heap.size + 1, 6, none⟩ = some (.int .i64 0) := B1.c 6 _ rfl
    have f1 := B1.f
    obtain ⟨b, off, rfl, hb1, hb2, hel⟩ := H0.out.elems k HK.out
    obtain ⟨e0, e1, e2, e3, e4, e5, e6, _⟩ := Chan.atCell (hel.same repChan_stable (G.same (Nat.le_refl _)) hb1 hb2) k HK.out
    clear hel
    generalize x.chans[k] = y at *
    go_wp2_with fail
    all_goals
      refine bodyPost_ret (v := .tuple #[.agg #[.int .i64 y.id, .int .i64 y.size, .int .i64 y.loc, .int .i64 y.remote, .int .i64 y.base, .int .i64 y.ppm, .int .i64 y.score], .bool true]) (by simp [results, Try.results22, go_sem, q1_0, q1_1, q1_2, q1_3, q1_4, q1_5, q1_6]) rfl ⟨?_, ?_⟩
      · rw [HR.out]; rfl
      · exact (((((((G.setCell (by show w.heap.size ≤ w.heap.size + 1; omega) _).setCell (by show w.heap.size ≤ w.heap.size + 1; omega) _).setCell (by show w.heap.size ≤ w.heap.size + 1; omega) _).setCell (by show w.heap.size ≤ w.heap.size + 1; omega) _).setCell (by show w.heap.size ≤ w.heap.size + 1; omega) _).setCell (by show w.heap.size ≤ w.heap.size + 1; omega) _).setCell (by show w.heap.size ≤ w.heap.size + 1; omega) _)

end Go.Proofs.Ytigbjpllckgilaa
