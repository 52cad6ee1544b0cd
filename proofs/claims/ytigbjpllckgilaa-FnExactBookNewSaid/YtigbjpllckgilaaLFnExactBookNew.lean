/- The law FnExactBookNew, walked over the contracts. -/
import Derived.Test.YtigbjpllckgilaaBookNew
import Derived.Test.YtigbjpllckgilaaHBook
import Derived.Test.YtigbjpllckgilaaMBook
import Derived.Deep.RegionHeld3
namespace Go.Proofs.Ytigbjpllckgilaa
open Go.RowKit
set_option linter.unusedSimpArgs false
set_option linter.unusedVariables false

set_option maxHeartbeats 8000000 in
set_option maxRecDepth 100000 in
theorem FnExactBookNew_walk  (w : World)  :
    Calls Try.prog 3 #[] w fun e w' => e = .returned (.bool true) ∧ Grow w w' := by
  go_enter Try.func3, Try.ntmps3
  go_wp2_with fail
  refine (spec_BookNew_c _  ).mono ?_
  rintro e U1 ⟨A1_0, C1_0, P1_0, Q1_0, A1_1, C1_1, P1_1, Q1_1, A1_2, C1_2, P1_2, Q1_2, rfl, gs, O1, S1_0, S1_1, S1_2⟩
  have ys := Grow.size gs
  have G : Grow w U1 := Grow.trans (Grow.refl _) gs
  clear gs
  go_wp2_with fail
  obtain ⟨V1, hV⟩ : ∃ V, V = (U1.alloc (.cells #[.int .i64 newBook.tick, .int .i64 newBook.next, .int .i64 newBook.wallet, .slice A1_0 newBook.chans.length C1_0, .slice A1_1 newBook.htlcs.length C1_1, .slice A1_2 newBook.circles.length C1_2] 26)) := ⟨_, rfl⟩
  have G' : Grow w V1 := by rw [hV]; exact (G.alloc _ _)
  have gs : Grow U1 V1 := by rw [hV]; exact ((Grow.refl U1).alloc _ _)
  have B0 : Box V1 (U1.heap.size) [.int .i64 newBook.tick, .int .i64 newBook.next, .int .i64 newBook.wallet, .slice A1_0 newBook.chans.length C1_0, .slice A1_1 newBook.htlcs.length C1_1, .slice A1_2 newBook.circles.length C1_2] := by rw [hV]; exact Box.newAt (by simp) _ _
  have ys : V1.heap.size = U1.heap.size + 1 := by rw [hV]; simp
  replace S1_0 := S1_0.same repChan_stable (gs.same (by omega))
  replace S1_1 := S1_1.same repHtlc_stable (gs.same (by omega))
  replace S1_2 := S1_2.same repCircle_stable (gs.same (by omega))
  replace G := G'
  clear G'
  rw [← hV]
  clear hV
  clear gs
  have z0 := B0.lt
  have q0_0 : V1.cell? ⟨U1.heap.size, 0, none⟩ = some (.int .i64 newBook.tick) := B0.c 0 _ rfl
  have q0_1 : V1.cell? ⟨U1.heap.size, 1, none⟩ = some (.int .i64 newBook.next) := B0.c 1 _ rfl
  have q0_2 : V1.cell? ⟨U1.heap.size, 2, none⟩ = some (.int .i64 newBook.wallet) := B0.c 2 _ rfl
  have q0_3 : V1.cell? ⟨U1.heap.size, 3, none⟩ = some (.slice A1_0 newBook.chans.length C1_0) := B0.c 3 _ rfl
  have q0_4 : V1.cell? ⟨U1.heap.size, 4, none⟩ = some (.slice A1_1 newBook.htlcs.length C1_1) := B0.c 4 _ rfl
  have q0_5 : V1.cell? ⟨U1.heap.size, 5, none⟩ = some (.slice A1_2 newBook.circles.length C1_2) := B0.c 5 _ rfl
  have f0 := B0.f
  refine (impl_BookNew_c _  ).mono ?_
  rintro e U2 ⟨A2_0, C2_0, P2_0, Q2_0, A2_1, C2_1, P2_1, Q2_1, A2_2, C2_2, P2_2, Q2_2, rfl, gs, O2, S2_0, S2_1, S2_2⟩
  clear z0 q0_0 q0_1 q0_2 q0_3 q0_4 q0_5 f0
  have ys := Grow.size gs
  replace B0 : Box U2 (U1.heap.size) [.int .i64 newBook.tick, .int .i64 newBook.next, .int .i64 newBook.wallet, .slice A1_0 newBook.chans.length C1_0, .slice A1_1 newBook.htlcs.length C1_1, .slice A1_2 newBook.circles.length C1_2] := Box.grow B0 gs
  replace S1_0 := S1_0.same repChan_stable (gs.same (by omega))
  replace S1_1 := S1_1.same repHtlc_stable (gs.same (by omega))
  replace S1_2 := S1_2.same repCircle_stable (gs.same (by omega))
  replace G : Grow w U2 := Grow.trans G gs
  clear gs
  have z0 := B0.lt
  have q0_0 : U2.cell? ⟨U1.heap.size, 0, none⟩ = some (.int .i64 newBook.tick) := B0.c 0 _ rfl
  have q0_1 : U2.cell? ⟨U1.heap.size, 1, none⟩ = some (.int .i64 newBook.next) := B0.c 1 _ rfl
  have q0_2 : U2.cell? ⟨U1.heap.size, 2, none⟩ = some (.int .i64 newBook.wallet) := B0.c 2 _ rfl
  have q0_3 : U2.cell? ⟨U1.heap.size, 3, none⟩ = some (.slice A1_0 newBook.chans.length C1_0) := B0.c 3 _ rfl
  have q0_4 : U2.cell? ⟨U1.heap.size, 4, none⟩ = some (.slice A1_1 newBook.htlcs.length C1_1) := B0.c 4 _ rfl
  have q0_5 : U2.cell? ⟨U1.heap.size, 5, none⟩ = some (.slice A1_2 newBook.circles.length C1_2) := B0.c 5 _ rfl
  have f0 := B0.f
  go_wp2_with fail
  obtain ⟨V2, hV⟩ : ∃ V, V = (U2.alloc (.cells #[.int .i64 newBook.tick, .int .i64 newBook.next, .int .i64 newBook.wallet, .slice A2_0 newBook.chans.length C2_0, .slice A2_1 newBook.htlcs.length C2_1, .slice A2_2 newBook.circles.length C2_2] 26)) := ⟨_, rfl⟩
  have G' : Grow w V2 := by rw [hV]; exact (G.alloc _ _)
  have gs : Grow U2 V2 := by rw [hV]; exact ((Grow.refl U2).alloc _ _)
  replace B0 : Box V2 (U1.heap.size) [.int .i64 newBook.tick, .int .i64 newBook.next, .int .i64 newBook.wallet, .slice A1_0 newBook.chans.length C1_0, .slice A1_1 newBook.htlcs.length C1_1, .slice A1_2 newBook.circles.length C1_2] := by rw [hV]; exact (B0.alloc _ _)
  have B1 : Box V2 (U2.heap.size) [.int .i64 newBook.tick, .int .i64 newBook.next, .int .i64 newBook.wallet, .slice A2_0 newBook.chans.length C2_0, .slice A2_1 newBook.htlcs.length C2_1, .slice A2_2 newBook.circles.length C2_2] := by rw [hV]; exact Box.newAt (by simp) _ _
  have ys : V2.heap.size = U2.heap.size + 1 := by rw [hV]; simp
  replace S1_0 := S1_0.same repChan_stable (gs.same (by omega))
  replace S1_1 := S1_1.same repHtlc_stable (gs.same (by omega))
  replace S1_2 := S1_2.same repCircle_stable (gs.same (by omega))
  replace S2_0 := S2_0.same repChan_stable (gs.same (by omega))
  replace S2_1 := S2_1.same repHtlc_stable (gs.same (by omega))
  replace S2_2 := S2_2.same repCircle_stable (gs.same (by omega))
  replace G := G'
  clear G'
  rw [← hV]
  clear hV
  clear gs
  clear z0 q0_0 q0_1 q0_2 q0_3 q0_4 q0_5 f0
  have z0 := B0.lt
  have z1 := B1.lt
  have q0_0 : V2.cell? ⟨U1.heap.size, 0, none⟩ = some (.int .i64 newBook.tick) := B0.c 0 _ rfl
  have q0_1 : V2.cell? ⟨U1.heap.size, 1, none⟩ = some (.int .i64 newBook.next) := B0.c 1 _ rfl
  have q0_2 : V2.cell? ⟨U1.heap.size, 2, none⟩ = some (.int .i64 newBook.wallet) := B0.c 2 _ rfl
  have q0_3 : V2.cell? ⟨U1.heap.size, 3, none⟩ = some (.slice A1_0 newBook.chans.length C1_0) := B0.c 3 _ rfl
  have q0_4 : V2.cell? ⟨U1.heap.size, 4, none⟩ = some (.slice A1_1 newBook.htlcs.length C1_1) := B0.c 4 _ rfl
  have q0_5 : V2.cell? ⟨U1.heap.size, 5, none⟩ = some (.slice A1_2 newBook.circles.length C1_2) := B0.c 5 _ rfl
  have f0 := B0.f
  have q1_0 : V2.cell? ⟨U2.heap.size, 0, none⟩ = some (.int .i64 newBook.tick) := B1.c 0 _ rfl
  have q1_1 : V2.cell? ⟨U2.heap.size, 1, none⟩ = some (.int .i64 newBook.next) := B1.c 1 _ rfl
  have q1_2 : V2.cell? ⟨U2.heap.size, 2, none⟩ = some (.int .i64 newBook.wallet) := B1.c 2 _ rfl
  have q1_3 : V2.cell? ⟨U2.heap.size, 3, none⟩ = some (.slice A2_0 newBook.chans.length C2_0) := B1.c 3 _ rfl
  have q1_4 : V2.cell? ⟨U2.heap.size, 4, none⟩ = some (.slice A2_1 newBook.htlcs.length C2_1) := B1.c 4 _ rfl
  have q1_5 : V2.cell? ⟨U2.heap.size, 5, none⟩ = some (.slice A2_2 newBook.circles.length C2_2) := B1.c 5 _ rfl
  have f1 := B1.f
  refine (eqBook_c newBook _ _ _ _ _ _ _ _ _ _ _ _ _ (S2_0.all repChan_stable (by omega)) (S1_0.all repChan_stable (by omega)) (S2_1.all repHtlc_stable (by omega)) (S1_1.all repHtlc_stable (by omega)) (S2_2.all repCircle_stable (by omega)) (S1_2.all repCircle_stable (by omega))).mono ?_
  rintro e U3 ⟨rfl, gs⟩
  clear z0 z1 q0_0 q0_1 q0_2 q0_3 q0_4 q0_5 f0 q1_0 q1_1 q1_2 q1_3 q1_4 q1_5 f1
  have ys := Grow.size gs
  replace B0 : Box U3 (U1.heap.size) [.int .i64 newBook.tick, .int .i64 newBook.next, .int .i64 newBook.wallet, .slice A1_0 newBook.chans.length C1_0, .slice A1_1 newBook.htlcs.length C1_1, .slice A1_2 newBook.circles.length C1_2] := Box.grow B0 gs
  replace B1 : Box U3 (U2.heap.size) [.int .i64 newBook.tick, .int .i64 newBook.next, .int .i64 newBook.wallet, .slice A2_0 newBook.chans.length C2_0, .slice A2_1 newBook.htlcs.length C2_1, .slice A2_2 newBook.circles.length C2_2] := Box.grow B1 gs
  replace S1_0 := S1_0.same repChan_stable (gs.same (by omega))
  replace S1_1 := S1_1.same repHtlc_stable (gs.same (by omega))
  replace S1_2 := S1_2.same repCircle_stable (gs.same (by omega))
  replace S2_0 := S2_0.same repChan_stable (gs.same (by omega))
  replace S2_1 := S2_1.same repHtlc_stable (gs.same (by omega))
  replace S2_2 := S2_2.same repCircle_stable (gs.same (by omega))
  replace G : Grow w U3 := Grow.trans G gs
  clear gs
  have z0 := B0.lt
  have z1 := B1.lt
  have q0_0 : U3.cell? ⟨U1.heap.size, 0, none⟩ = some (.int .i64 newBook.tick) := B0.c 0 _ rfl
  have q0_1 : U3.cell? ⟨U1.heap.size, 1, none⟩ = some (.int .i64 newBook.next) := B0.c 1 _ rfl
  have q0_2 : U3.cell? ⟨U1.heap.size, 2, none⟩ = some (.int .i64 newBook.wallet) := B0.c 2 _ rfl
  have q0_3 : U3.cell? ⟨U1.heap.size, 3, none⟩ = some (.slice A1_0 newBook.chans.length C1_0) := B0.c 3 _ rfl
  have q0_4 : U3.cell? ⟨U1.heap.size, 4, none⟩ = some (.slice A1_1 newBook.htlcs.length C1_1) := B0.c 4 _ rfl
  have q0_5 : U3.cell? ⟨U1.heap.size, 5, none⟩ = some (.slice A1_2 newBook.circles.length C1_2) := B0.c 5 _ rfl
  have f0 := B0.f
  have q1_0 : U3.cell? ⟨U2.heap.size, 0, none⟩ = some (.int .i64 newBook.tick) := B1.c 0 _ rfl
  have q1_1 : U3.cell? ⟨U2.heap.size, 1, none⟩ = some (.int .i64 newBook.next) := B1.c 1 _ rfl
  have q1_2 : U3.cell? ⟨U2.heap.size, 2, none⟩ = some (.int .i64 newBook.wallet) := B1.c 2 _ rfl
  have q1_3 : U3.cell? ⟨U2.heap.size, 3, none⟩ = some (.slice A2_0 newBook.chans.length C2_0) := B1.c 3 _ rfl
  have q1_4 : U3.cell? ⟨U2.heap.size, 4, none⟩ = some (.slice A2_1 newBook.htlcs.length C2_1) := B1.c 4 _ rfl
  have q1_5 : U3.cell? ⟨U2.heap.size, 5, none⟩ = some (.slice A2_2 newBook.circles.length C2_2) := B1.c 5 _ rfl
  have f1 := B1.f
  go_wp2_with fail
  refine (markBook_c newBook _ _ _ _ _ _ 1 V1.heap.size U2.heap.size P2_0 Q2_0 P2_1 Q2_1 P2_2 Q2_2 _ S2_0 S2_1 S2_2 (by omega) (by omega) (by omega) (by omega) (by omega) (by omega) ((Grow.nf G).mono (by omega) (by omega)) (by omega) (by simp [newBook]) (by simp [newBook]) (by simp [newBook]) (by omega) (by omega)).mono ?_
  rintro e U4 ⟨rfl, gp, M4_0, M4_1, M4_2⟩
  have kb := mkBook_bd (x := newBook) (k := 1) (B := 1) (by omega) (by omega) (by simp [newBook]) (by simp [newBook]) (by simp [newBook])
  obtain ⟨kb1, kb2⟩ := kb
  have cap_S2_0 := SlR.cap S2_0
  have cap_S2_1 := SlR.cap S2_1
  have cap_S2_2 := SlR.cap S2_2
  clear z0 z1 q0_0 q0_1 q0_2 q0_3 q0_4 q0_5 f0 q1_0 q1_1 q1_2 q1_3 q1_4 q1_5 f1
  have ys := Put.size gp
  replace B0 : Box U4 (U1.heap.size) [.int .i64 newBook.tick, .int .i64 newBook.next, .int .i64 newBook.wallet, .slice A1_0 newBook.chans.length C1_0, .slice A1_1 newBook.htlcs.length C1_1, .slice A1_2 newBook.circles.length C1_2] := Box.put B0 gp (by omega)
  replace B1 : Box U4 (U2.heap.size) [.int .i64 newBook.tick, .int .i64 newBook.next, .int .i64 newBook.wallet, .slice A2_0 newBook.chans.length C2_0, .slice A2_1 newBook.htlcs.length C2_1, .slice A2_2 newBook.circles.length C2_2] := Box.put B1 gp (by omega)
  replace S1_0 := S1_0.same repChan_stable (Put.same gp (by omega) (by omega))
  replace S1_1 := S1_1.same repHtlc_stable (Put.same gp (by omega) (by omega))
  replace S1_2 := S1_2.same repCircle_stable (Put.same gp (by omega) (by omega))
  replace G : Grow w U4 := Grow.put G gp (by omega)
  clear gp
  have z0 := B0.lt
  have z1 := B1.lt
  have q0_0 : U4.cell? ⟨U1.heap.size, 0, none⟩ = some (.int .i64 newBook.tick) := B0.c 0 _ rfl
  have q0_1 : U4.cell? ⟨U1.heap.size, 1, none⟩ = some (.int .i64 newBook.next) := B0.c 1 _ rfl
  have q0_2 : U4.cell? ⟨U1.heap.size, 2, none⟩ = some (.int .i64 newBook.wallet) := B0.c 2 _ rfl
  have q0_3 : U4.cell? ⟨U1.heap.size, 3, none⟩ = some (.slice A1_0 newBook.chans.length C1_0) := B0.c 3 _ rfl
  have q0_4 : U4.cell? ⟨U1.heap.size, 4, none⟩ = some (.slice A1_1 newBook.htlcs.length C1_1) := B0.c 4 _ rfl
  have q0_5 : U4.cell? ⟨U1.heap.size, 5, none⟩ = some (.slice A1_2 newBook.circles.length C1_2) := B0.c 5 _ rfl
  have f0 := B0.f
  have q1_0 : U4.cell? ⟨U2.heap.size, 0, none⟩ = some (.int .i64 newBook.tick) := B1.c 0 _ rfl
  have q1_1 : U4.cell? ⟨U2.heap.size, 1, none⟩ = some (.int .i64 newBook.next) := B1.c 1 _ rfl
  have q1_2 : U4.cell? ⟨U2.heap.size, 2, none⟩ = some (.int .i64 newBook.wallet) := B1.c 2 _ rfl
  have q1_3 : U4.cell? ⟨U2.heap.size, 3, none⟩ = some (.slice A2_0 newBook.chans.length C2_0) := B1.c 3 _ rfl
  have q1_4 : U4.cell? ⟨U2.heap.size, 4, none⟩ = some (.slice A2_1 newBook.htlcs.length C2_1) := B1.c 4 _ rfl
  have q1_5 : U4.cell? ⟨U2.heap.size, 5, none⟩ = some (.slice A2_2 newBook.circles.length C2_2) := B1.c 5 _ rfl
  have f1 := B1.f
  go_wp2_with fail
  refine (heldBook_c newBook _ _ _ _ _ _ 1 P2_0 Q2_0 P2_1 Q2_1 P2_2 Q2_2 _ M4_0 M4_1 M4_2 (by omega) (by omega) (by omega) cap_S2_0 cap_S2_1 cap_S2_2 (by simp [newBook]) (by simp [newBook]) (by simp [newBook]) (by omega) (by omega)).mono ?_
  rintro e U5 ⟨rfl, gs⟩
  clear z0 z1 q0_0 q0_1 q0_2 q0_3 q0_4 q0_5 f0 q1_0 q1_1 q1_2 q1_3 q1_4 q1_5 f1
  have ys := Grow.size gs
  replace B0 : Box U5 (U1.heap.size) [.int .i64 newBook.tick, .int .i64 newBook.next, .int .i64 newBook.wallet, .slice A1_0 newBook.chans.length C1_0, .slice A1_1 newBook.htlcs.length C1_1, .slice A1_2 newBook.circles.length C1_2] := Box.grow B0 gs
  replace B1 : Box U5 (U2.heap.size) [.int .i64 newBook.tick, .int .i64 newBook.next, .int .i64 newBook.wallet, .slice A2_0 newBook.chans.length C2_0, .slice A2_1 newBook.htlcs.length C2_1, .slice A2_2 newBook.circles.length C2_2] := Box.grow B1 gs
  replace S1_0 := S1_0.same repChan_stable (gs.same (by omega))
  replace S1_1 := S1_1.same repHtlc_stable (gs.same (by omega))
  replace S1_2 := S1_2.same repCircle_stable (gs.same (by omega))
  replace M4_0 := M4_0.same (gs.same (by omega))
  replace M4_1 := M4_1.same (gs.same (by omega))
  replace M4_2 := M4_2.same (gs.same (by omega))
  replace G : Grow w U5 := Grow.trans G gs
  clear gs
  have z0 := B0.lt
  have z1 := B1.lt
  have q0_0 : U5.cell? ⟨U1.heap.size, 0, none⟩ = some (.int .i64 newBook.tick) := B0.c 0 _ rfl
  have q0_1 : U5.cell? ⟨U1.heap.size, 1, none⟩ = some (.int .i64 newBook.next) := B0.c 1 _ rfl
  have q0_2 : U5.cell? ⟨U1.heap.size, 2, none⟩ = some (.int .i64 newBook.wallet) := B0.c 2 _ rfl
  have q0_3 : U5.cell? ⟨U1.heap.size, 3, none⟩ = some (.slice A1_0 newBook.chans.length C1_0) := B0.c 3 _ rfl
  have q0_4 : U5.cell? ⟨U1.heap.size, 4, none⟩ = some (.slice A1_1 newBook.htlcs.length C1_1) := B0.c 4 _ rfl
  have q0_5 : U5.cell? ⟨U1.heap.size, 5, none⟩ = some (.slice A1_2 newBook.circles.length C1_2) := B0.c 5 _ rfl
  have f0 := B0.f
  have q1_0 : U5.cell? ⟨U2.heap.size, 0, none⟩ = some (.int .i64 newBook.tick) := B1.c 0 _ rfl
  have q1_1 : U5.cell? ⟨U2.heap.size, 1, none⟩ = some (.int .i64 newBook.next) := B1.c 1 _ rfl
  have q1_2 : U5.cell? ⟨U2.heap.size, 2, none⟩ = some (.int .i64 newBook.wallet) := B1.c 2 _ rfl
  have q1_3 : U5.cell? ⟨U2.heap.size, 3, none⟩ = some (.slice A2_0 newBook.chans.length C2_0) := B1.c 3 _ rfl
  have q1_4 : U5.cell? ⟨U2.heap.size, 4, none⟩ = some (.slice A2_1 newBook.htlcs.length C2_1) := B1.c 4 _ rfl
  have q1_5 : U5.cell? ⟨U2.heap.size, 5, none⟩ = some (.slice A2_2 newBook.circles.length C2_2) := B1.c 5 _ rfl
  have f1 := B1.f
  go_wp2_with fail
  refine (impl_BookNew_c _  ).mono ?_
  rintro e U6 ⟨A6_0, C6_0, P6_0, Q6_0, A6_1, C6_1, P6_1, Q6_1, A6_2, C6_2, P6_2, Q6_2, rfl, gs, O6, S6_0, S6_1, S6_2⟩
  clear z0 z1 q0_0 q0_1 q0_2 q0_3 q0_4 q0_5 f0 q1_0 q1_1 q1_2 q1_3 q1_4 q1_5 f1
  have ys := Grow.size gs
  replace B0 : Box U6 (U1.heap.size) [.int .i64 newBook.tick, .int .i64 newBook.next, .int .i64 newBook.wallet, .slice A1_0 newBook.chans.length C1_0, .slice A1_1 newBook.htlcs.length C1_1, .slice A1_2 newBook.circles.length C1_2] := Box.grow B0 gs
  replace B1 : Box U6 (U2.heap.size) [.int .i64 newBook.tick, .int .i64 newBook.next, .int .i64 newBook.wallet, .slice A2_0 newBook.chans.length C2_0, .slice A2_1 newBook.htlcs.length C2_1, .slice A2_2 newBook.circles.length C2_2] := Box.grow B1 gs
  replace S1_0 := S1_0.same repChan_stable (gs.same (by omega))
  replace S1_1 := S1_1.same repHtlc_stable (gs.same (by omega))
  replace S1_2 := S1_2.same repCircle_stable (gs.same (by omega))
  replace M4_0 := M4_0.same (gs.same (by omega))
  replace M4_1 := M4_1.same (gs.same (by omega))
  replace M4_2 := M4_2.same (gs.same (by omega))
  replace G : Grow w U6 := Grow.trans G gs
  clear gs
  have z0 := B0.lt
  have z1 := B1.lt
  have q0_0 : U6.cell? ⟨U1.heap.size, 0, none⟩ = some (.int .i64 newBook.tick) := B0.c 0 _ rfl
  have q0_1 : U6.cell? ⟨U1.heap.size, 1, none⟩ = some (.int .i64 newBook.next) := B0.c 1 _ rfl
  have q0_2 : U6.cell? ⟨U1.heap.size, 2, none⟩ = some (.int .i64 newBook.wallet) := B0.c 2 _ rfl
  have q0_3 : U6.cell? ⟨U1.heap.size, 3, none⟩ = some (.slice A1_0 newBook.chans.length C1_0) := B0.c 3 _ rfl
  have q0_4 : U6.cell? ⟨U1.heap.size, 4, none⟩ = some (.slice A1_1 newBook.htlcs.length C1_1) := B0.c 4 _ rfl
  have q0_5 : U6.cell? ⟨U1.heap.size, 5, none⟩ = some (.slice A1_2 newBook.circles.length C1_2) := B0.c 5 _ rfl
  have f0 := B0.f
  have q1_0 : U6.cell? ⟨U2.heap.size, 0, none⟩ = some (.int .i64 newBook.tick) := B1.c 0 _ rfl
  have q1_1 : U6.cell? ⟨U2.heap.size, 1, none⟩ = some (.int .i64 newBook.next) := B1.c 1 _ rfl
  have q1_2 : U6.cell? ⟨U2.heap.size, 2, none⟩ = some (.int .i64 newBook.wallet) := B1.c 2 _ rfl
  have q1_3 : U6.cell? ⟨U2.heap.size, 3, none⟩ = some (.slice A2_0 newBook.chans.length C2_0) := B1.c 3 _ rfl
  have q1_4 : U6.cell? ⟨U2.heap.size, 4, none⟩ = some (.slice A2_1 newBook.htlcs.length C2_1) := B1.c 4 _ rfl
  have q1_5 : U6.cell? ⟨U2.heap.size, 5, none⟩ = some (.slice A2_2 newBook.circles.length C2_2) := B1.c 5 _ rfl
  have f1 := B1.f
  go_wp2_with fail
  obtain ⟨V3, hV⟩ : ∃ V, V = (U6.alloc (.cells #[.int .i64 newBook.tick, .int .i64 newBook.next, .int .i64 newBook.wallet, .slice A6_0 newBook.chans.length C6_0, .slice A6_1 newBook.htlcs.length C6_1, .slice A6_2 newBook.circles.length C6_2] 26)) := ⟨_, rfl⟩
  have G' : Grow w V3 := by rw [hV]; exact (G.alloc _ _)
  have gs : Grow U6 V3 := by rw [hV]; exact ((Grow.refl U6).alloc _ _)
  replace B0 : Box V3 (U1.heap.size) [.int .i64 newBook.tick, .int .i64 newBook.next, .int .i64 newBook.wallet, .slice A1_0 newBook.chans.length C1_0, .slice A1_1 newBook.htlcs.length C1_1, .slice A1_2 newBook.circles.length C1_2] := by rw [hV]; exact (B0.alloc _ _)
  replace B1 : Box V3 (U2.heap.size) [.int .i64 newBook.tick, .int .i64 newBook.next, .int .i64 newBook.wallet, .slice A2_0 newBook.chans.length C2_0, .slice A2_1 newBook.htlcs.length C2_1, .slice A2_2 newBook.circles.length C2_2] := by rw [hV]; exact (B1.alloc _ _)
  have B2 : Box V3 (U6.heap.size) [.int .i64 newBook.tick, .int .i64 newBook.next, .int .i64 newBook.wallet, .slice A6_0 newBook.chans.length C6_0, .slice A6_1 newBook.htlcs.length C6_1, .slice A6_2 newBook.circles.length C6_2] := by rw [hV]; exact Box.newAt (by simp) _ _
  have ys : V3.heap.size = U6.heap.size + 1 := by rw [hV]; simp
  replace S1_0 := S1_0.same repChan_stable (gs.same (by omega))
  replace S1_1 := S1_1.same repHtlc_stable (gs.same (by omega))
  replace S1_2 := S1_2.same repCircle_stable (gs.same (by omega))
  replace S6_0 := S6_0.same repChan_stable (gs.same (by omega))
  replace S6_1 := S6_1.same repHtlc_stable (gs.same (by omega))
  replace S6_2 := S6_2.same repCircle_stable (gs.same (by omega))
  replace M4_0 := M4_0.same (gs.same (by omega))
  replace M4_1 := M4_1.same (gs.same (by omega))
  replace M4_2 := M4_2.same (gs.same (by omega))
  replace G := G'
  clear G'
  rw [← hV]
  clear hV
  clear gs
  clear z0 z1 q0_0 q0_1 q0_2 q0_3 q0_4 q0_5 f0 q1_0 q1_1 q1_2 q1_3 q1_4 q1_5 f1
  have z0 := B0.lt
  have z1 := B1.lt
  have z2 := B2.lt
  have q0_0 : V3.cell? ⟨U1.heap.size, 0, none⟩ = some (.int .i64 newBook.tick) := B0.c 0 _ rfl
  have q0_1 : V3.cell? ⟨U1.heap.size, 1, none⟩ = some (.int .i64 newBook.next) := B0.c 1 _ rfl
  have q0_2 : V3.cell? ⟨U1.heap.size, 2, none⟩ = some (.int .i64 newBook.wallet) := B0.c 2 _ rfl
  have q0_3 : V3.cell? ⟨U1.heap.size, 3, none⟩ = some (.slice A1_0 newBook.chans.length C1_0) := B0.c 3 _ rfl
  have q0_4 : V3.cell? ⟨U1.heap.size, 4, none⟩ = some (.slice A1_1 newBook.htlcs.length C1_1) := B0.c 4 _ rfl
  have q0_5 : V3.cell? ⟨U1.heap.size, 5, none⟩ = some (.slice A1_2 newBook.circles.length C1_2) := B0.c 5 _ rfl
  have f0 := B0.f
  have q1_0 : V3.cell? ⟨U2.heap.size, 0, none⟩ = some (.int .i64 newBook.tick) := B1.c 0 _ rfl
  have q1_1 : V3.cell? ⟨U2.heap.size, 1, none⟩ = some (.int .i64 newBook.next) := B1.c 1 _ rfl
  have q1_2 : V3.cell? ⟨U2.heap.size, 2, none⟩ = some (.int .i64 newBook.wallet) := B1.c 2 _ rfl
  have q1_3 : V3.cell? ⟨U2.heap.size, 3, none⟩ = some (.slice A2_0 newBook.chans.length C2_0) := B1.c 3 _ rfl
  have q1_4 : V3.cell? ⟨U2.heap.size, 4, none⟩ = some (.slice A2_1 newBook.htlcs.length C2_1) := B1.c 4 _ rfl
  have q1_5 : V3.cell? ⟨U2.heap.size, 5, none⟩ = some (.slice A2_2 newBook.circles.length C2_2) := B1.c 5 _ rfl
  have f1 := B1.f
  have q2_0 : V3.cell? ⟨U6.heap.size, 0, none⟩ = some (.int .i64 newBook.tick) := B2.c 0 _ rfl
  have q2_1 : V3.cell? ⟨U6.heap.size, 1, none⟩ = some (.int .i64 newBook.next) := B2.c 1 _ rfl
  have q2_2 : V3.cell? ⟨U6.heap.size, 2, none⟩ = some (.int .i64 newBook.wallet) := B2.c 2 _ rfl
  have q2_3 : V3.cell? ⟨U6.heap.size, 3, none⟩ = some (.slice A6_0 newBook.chans.length C6_0) := B2.c 3 _ rfl
  have q2_4 : V3.cell? ⟨U6.heap.size, 4, none⟩ = some (.slice A6_1 newBook.htlcs.length C6_1) := B2.c 4 _ rfl
  have q2_5 : V3.cell? ⟨U6.heap.size, 5, none⟩ = some (.slice A6_2 newBook.circles.length C6_2) := B2.c 5 _ rfl
  have f2 := B2.f
  refine (eqBook_c newBook _ _ _ _ _ _ _ _ _ _ _ _ _ (S6_0.all repChan_stable (by omega)) (S1_0.all repChan_stable (by omega)) (S6_1.all repHtlc_stable (by omega)) (S1_1.all repHtlc_stable (by omega)) (S6_2.all repCircle_stable (by omega)) (S1_2.all repCircle_stable (by omega))).mono ?_
  rintro e U7 ⟨rfl, gs⟩
  clear z0 z1 z2 q0_0 q0_1 q0_2 q0_3 q0_4 q0_5 f0 q1_0 q1_1 q1_2 q1_3 q1_4 q1_5 f1 q2_0 q2_1 q2_2 q2_3 q2_4 q2_5 f2
  have ys := Grow.size gs
  replace B0 : Box U7 (U1.heap.size) [.int .i64 newBook.tick, .int .i64 newBook.next, .int .i64 newBook.wallet, .slice A1_0 newBook.chans.length C1_0, .slice A1_1 newBook.htlcs.length C1_1, .slice A1_2 newBook.circles.length C1_2] := Box.grow B0 gs
  replace B1 : Box U7 (U2.heap.size) [.int .i64 newBook.tick, .int .i64 newBook.next, .int .i64 newBook.wallet, .slice A2_0 newBook.chans.length C2_0, .slice A2_1 newBook.htlcs.length C2_1, .slice A2_2 newBook.circles.length C2_2] := Box.grow B1 gs
  replace B2 : Box U7 (U6.heap.size) [.int .i64 newBook.tick, .int .i64 newBook.next, .int .i64 newBook.wallet, .slice A6_0 newBook.chans.length C6_0, .slice A6_1 newBook.htlcs.length C6_1, .slice A6_2 newBook.circles.length C6_2] := Box.grow B2 gs
  replace S1_0 := S1_0.same repChan_stable (gs.same (by omega))
  replace S1_1 := S1_1.same repHtlc_stable (gs.same (by omega))
  replace S1_2 := S1_2.same repCircle_stable (gs.same (by omega))
  replace S6_0 := S6_0.same repChan_stable (gs.same (by omega))
  replace S6_1 := S6_1.same repHtlc_stable (gs.same (by omega))
  replace S6_2 := S6_2.same repCircle_stable (gs.same (by omega))
  replace M4_0 := M4_0.same (gs.same (by omega))
  replace M4_1 := M4_1.same (gs.same (by omega))
  replace M4_2 := M4_2.same (gs.same (by omega))
  replace G : Grow w U7 := Grow.trans G gs
  clear gs
  have z0 := B0.lt
  have z1 := B1.lt
  have z2 := B2.lt
  have q0_0 : U7.cell? ⟨U1.heap.size, 0, none⟩ = some (.int .i64 newBook.tick) := B0.c 0 _ rfl
  have q0_1 : U7.cell? ⟨U1.heap.size, 1, none⟩ = some (.int .i64 newBook.next) := B0.c 1 _ rfl
  have q0_2 : U7.cell? ⟨U1.heap.size, 2, none⟩ = some (.int .i64 newBook.wallet) := B0.c 2 _ rfl
  have q0_3 : U7.cell? ⟨U1.heap.size, 3, none⟩ = some (.slice A1_0 newBook.chans.length C1_0) := B0.c 3 _ rfl
  have q0_4 : U7.cell? ⟨U1.heap.size, 4, none⟩ = some (.slice A1_1 newBook.htlcs.length C1_1) := B0.c 4 _ rfl
  have q0_5 : U7.cell? ⟨U1.heap.size, 5, none⟩ = some (.slice A1_2 newBook.circles.length C1_2) := B0.c 5 _ rfl
  have f0 := B0.f
  have q1_0 : U7.cell? ⟨U2.heap.size, 0, none⟩ = some (.int .i64 newBook.tick) := B1.c 0 _ rfl
  have q1_1 : U7.cell? ⟨U2.heap.size, 1, none⟩ = some (.int .i64 newBook.next) := B1.c 1 _ rfl
  have q1_2 : U7.cell? ⟨U2.heap.size, 2, none⟩ = some (.int .i64 newBook.wallet) := B1.c 2 _ rfl
  have q1_3 : U7.cell? ⟨U2.heap.size, 3, none⟩ = some (.slice A2_0 newBook.chans.length C2_0) := B1.c 3 _ rfl
  have q1_4 : U7.cell? ⟨U2.heap.size, 4, none⟩ = some (.slice A2_1 newBook.htlcs.length C2_1) := B1.c 4 _ rfl
  have q1_5 : U7.cell? ⟨U2.heap.size, 5, none⟩ = some (.slice A2_2 newBook.circles.length C2_2) := B1.c 5 _ rfl
  have f1 := B1.f
  have q2_0 : U7.cell? ⟨U6.heap.size, 0, none⟩ = some (.int .i64 newBook.tick) := B2.c 0 _ rfl
  have q2_1 : U7.cell? ⟨U6.heap.size, 1, none⟩ = some (.int .i64 newBook.next) := B2.c 1 _ rfl
  have q2_2 : U7.cell? ⟨U6.heap.size, 2, none⟩ = some (.int .i64 newBook.wallet) := B2.c 2 _ rfl
  have q2_3 : U7.cell? ⟨U6.heap.size, 3, none⟩ = some (.slice A6_0 newBook.chans.length C6_0) := B2.c 3 _ rfl
  have q2_4 : U7.cell? ⟨U6.heap.size, 4, none⟩ = some (.slice A6_1 newBook.htlcs.length C6_1) := B2.c 4 _ rfl
  have q2_5 : U7.cell? ⟨U6.heap.size, 5, none⟩ = some (.slice A6_2 newBook.circles.length C6_2) := B2.c 5 _ rfl
  have f2 := B2.f
  go_wp2_with fail
  refine (heldBook_c newBook _ _ _ _ _ _ 1 P2_0 Q2_0 P2_1 Q2_1 P2_2 Q2_2 _ M4_0 M4_1 M4_2 (by omega) (by omega) (by omega) cap_S2_0 cap_S2_1 cap_S2_2 (by simp [newBook]) (by simp [newBook]) (by simp [newBook]) (by omega) (by omega)).mono ?_
  rintro e U8 ⟨rfl, gs⟩
  clear z0 z1 z2 q0_0 q0_1 q0_2 q0_3 q0_4 q0_5 f0 q1_0 q1_1 q1_2 q1_3 q1_4 q1_5 f1 q2_0 q2_1 q2_2 q2_3 q2_4 q2_5 f2
  have ys := Grow.size gs
  replace B0 : Box U8 (U1.heap.size) [.int .i64 newBook.tick, .int .i64 newBook.next, .int .i64 newBook.wallet, .slice A1_0 newBook.chans.length C1_0, .slice A1_1 newBook.htlcs.length C1_1, .slice A1_2 newBook.circles.length C1_2] := Box.grow B0 gs
  replace B1 : Box U8 (U2.heap.size) [.int .i64 newBook.tick, .int .i64 newBook.next, .int .i64 newBook.wallet, .slice A2_0 newBook.chans.length C2_0, .slice A2_1 newBook.htlcs.length C2_1, .slice A2_2 newBook.circles.length C2_2] := Box.grow B1 gs
  replace B2 : Box U8 (U6.heap.size) [.int .i64 newBook.tick, .int .i64 newBook.next, .int .i64 newBook.wallet, .slice A6_0 newBook.chans.length C6_0, .slice A6_1 newBook.htlcs.length C6_1, .slice A6_2 newBook.circles.length C6_2] := Box.grow B2 gs
  replace S1_0 := S1_0.same repChan_stable (gs.same (by omega))
  replace S1_1 := S1_1.same repHtlc_stable (gs.same (by omega))
  replace S1_2 := S1_2.same repCircle_stable (gs.same (by omega))
  replace S6_0 := S6_0.same repChan_stable (gs.same (by omega))
  replace S6_1 := S6_1.same repHtlc_stable (gs.same (by omega))
  replace S6_2 := S6_2.same repCircle_stable (gs.same (by omega))
  replace M4_0 := M4_0.same (gs.same (by omega))
  replace M4_1 := M4_1.same (gs.same (by omega))
  replace M4_2 := M4_2.same (gs.same (by omega))
  replace G : Grow w U8 := Grow.trans G gs
  clear gs
  have z0 := B0.lt
  have z1 := B1.lt
  have z2 := B2.lt
  have q0_0 : U8.cell? ⟨U1.heap.size, 0, none⟩ = some (.int .i64 newBook.tick) := B0.c 0 _ rfl
  have q0_1 : U8.cell? ⟨U1.heap.size, 1, none⟩ = some (.int .i64 newBook.next) := B0.c 1 _ rfl
  have q0_2 : U8.cell? ⟨U1.heap.size, 2, none⟩ = some (.int .i64 newBook.wallet) := B0.c 2 _ rfl
  have q0_3 : U8.cell? ⟨U1.heap.size, 3, none⟩ = some (.slice A1_0 newBook.chans.length C1_0) := B0.c 3 _ rfl
  have q0_4 : U8.cell? ⟨U1.heap.size, 4, none⟩ = some (.slice A1_1 newBook.htlcs.length C1_1) := B0.c 4 _ rfl
  have q0_5 : U8.cell? ⟨U1.heap.size, 5, none⟩ = some (.slice A1_2 newBook.circles.length C1_2) := B0.c 5 _ rfl
  have f0 := B0.f
  have q1_0 : U8.cell? ⟨U2.heap.size, 0, none⟩ = some (.int .i64 newBook.tick) := B1.c 0 _ rfl
  have q1_1 : U8.cell? ⟨U2.heap.size, 1, none⟩ = some (.int .i64 newBook.next) := B1.c 1 _ rfl
  have q1_2 : U8.cell? ⟨U2.heap.size, 2, none⟩ = some (.int .i64 newBook.wallet) := B1.c 2 _ rfl
  have q1_3 : U8.cell? ⟨U2.heap.size, 3, none⟩ = some (.slice A2_0 newBook.chans.length C2_0) := B1.c 3 _ rfl
  have q1_4 : U8.cell? ⟨U2.heap.size, 4, none⟩ = some (.slice A2_1 newBook.htlcs.length C2_1) := B1.c 4 _ rfl
  have q1_5 : U8.cell? ⟨U2.heap.size, 5, none⟩ = some (.slice A2_2 newBook.circles.length C2_2) := B1.c 5 _ rfl
  have f1 := B1.f
  have q2_0 : U8.cell? ⟨U6.heap.size, 0, none⟩ = some (.int .i64 newBook.tick) := B2.c 0 _ rfl
  have q2_1 : U8.cell? ⟨U6.heap.size, 1, none⟩ = some (.int .i64 newBook.next) := B2.c 1 _ rfl
  have q2_2 : U8.cell? ⟨U6.heap.size, 2, none⟩ = some (.int .i64 newBook.wallet) := B2.c 2 _ rfl
  have q2_3 : U8.cell? ⟨U6.heap.size, 3, none⟩ = some (.slice A6_0 newBook.chans.length C6_0) := B2.c 3 _ rfl
  have q2_4 : U8.cell? ⟨U6.heap.size, 4, none⟩ = some (.slice A6_1 newBook.htlcs.length C6_1) := B2.c 4 _ rfl
  have q2_5 : U8.cell? ⟨U6.heap.size, 5, none⟩ = some (.slice A6_2 newBook.circles.length C6_2) := B2.c 5 _ rfl
  have f2 := B2.f
  go_wp2_with fail
  go_ret
  exact ⟨rfl, by repeat (first | exact G | (refine Grow.alloc ?_ _ _) | (refine Grow.drew ?_) | (refine Grow.drewN ?_ _))⟩
end Go.Proofs.Ytigbjpllckgilaa
