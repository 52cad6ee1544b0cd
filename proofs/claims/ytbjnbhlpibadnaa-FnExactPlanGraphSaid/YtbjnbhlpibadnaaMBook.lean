/- The marks of Book. -/
import Derived.Test.YtbjnbhlpibadnaaBox
import Derived.Test.YtbjnbhlpibadnaaMChan
import Derived.Test.YtbjnbhlpibadnaaMHtlc
import Derived.Test.YtbjnbhlpibadnaaMCircle
namespace Go.Proofs.Ytbjnbhlpibadnaa
open Go.RowKit
set_option linter.unusedSimpArgs false
set_option linter.unusedVariables false

def mkBook (x : Book) (k : Int) : Int := (mkEnd 5 (mkEnd 7 (mkEnd 7 k x.chans.length) x.htlcs.length) x.circles.length)
theorem mkBook_bd {x : Book} {k B : Int} (h0 : 0 ≤ k) (h1 : k ≤ B) (n0 : x.chans.length ≤ 16777216) (n1 : x.htlcs.length ≤ 16777216) (n2 : x.circles.length ≤ 16777216) : 0 ≤ mkBook x k ∧ mkBook x k ≤ B + 3221225472 := by
  unfold mkBook
  have k1 := mkEnd_bd (n := 7) (m := x.chans.length) (k := k) (B := B + 0) h0 (by omega) (by omega) n0
  have k2 := mkEnd_bd (n := 7) (m := x.htlcs.length) (k := (mkEnd 7 k x.chans.length)) (B := B + 1073741824) k1.1 (by omega) (by omega) n1
  have k3 := mkEnd_bd (n := 5) (m := x.circles.length) (k := (mkEnd 7 (mkEnd 7 k x.chans.length) x.htlcs.length)) (B := B + 2147483648) k2.1 (by omega) (by omega) n2
  omega

set_option maxHeartbeats 2000000 in
set_option maxRecDepth 100000 in
theorem markBook_c (x : Book) (a0 : Option Addr) (c0 : Nat) (a1 : Option Addr) (c1 : Nat) (a2 : Option Addr) (c2 : Nat) (k : Int) (L H l0 h0 l1 h1 l2 h2 : Nat) (w : World) (s0 : SlR 7 repChan w l0 h0 (.slice a0 x.chans.length c0) x.chans) (s1 : SlR 7 repHtlc w l1 h1 (.slice a1 x.htlcs.length c1) x.htlcs) (s2 : SlR 5 repCircle w l2 h2 (.slice a2 x.circles.length c2) x.circles) (d0_1 : h0 ≤ l1 ∨ h1 ≤ l0) (d0_2 : h0 ≤ l2 ∨ h2 ≤ l0) (d1_2 : h1 ≤ l2 ∨ h2 ≤ l1) (b0 : L ≤ l0 ∧ l0 ≤ h0 ∧ h0 ≤ H) (b1 : L ≤ l1 ∧ l1 ≤ h1 ∧ h1 ≤ H) (b2 : L ≤ l2 ∧ l2 ≤ h2 ∧ h2 ≤ H) (nf : NF L H w) (hH : H ≤ w.heap.size) (n0 : x.chans.length ≤ 16777216) (n1 : x.htlcs.length ≤ 16777216) (n2 : x.circles.length ≤ 16777216) (hk : 0 ≤ k) (hk2 : k ≤ 100000000000) :
    Calls Try.prog 36 #[.agg #[.int .i64 x.tick, .int .i64 x.next, .int .i64 x.wallet, .slice a0 x.chans.length c0, .slice a1 x.htlcs.length c1, .slice a2 x.circles.length c2], .int .i64 k] w fun e w' => e = .returned (.int .i64 (mkBook x k)) ∧ Put L H w w' ∧ HeldN (mvAt 99) 7 w' l0 h0 a0 x.chans.length k ∧ HeldN (mvAt 5) 7 w' l1 h1 a1 x.htlcs.length (mkEnd 7 k x.chans.length) ∧ HeldN (mvAt 99) 5 w' l2 h2 a2 x.circles.length (mkEnd 7 (mkEnd 7 k x.chans.length) x.htlcs.length) := by
  have k1 := mkEnd_bd (n := 7) (m := x.chans.length) (k := k) (B := 100000000000 + 0) hk (by omega) (by omega) n0
  have k2 := mkEnd_bd (n := 7) (m := x.htlcs.length) (k := (mkEnd 7 k x.chans.length)) (B := 100000000000 + 1073741824) k1.1 (by omega) (by omega) n1
  have k3 := mkEnd_bd (n := 5) (m := x.circles.length) (k := (mkEnd 7 (mkEnd 7 k x.chans.length) x.htlcs.length)) (B := 100000000000 + 2147483648) k2.1 (by omega) (by omega) n2
  go_enter Try.func36, Try.ntmps36
  go_wp2_with fail
  obtain ⟨V, hV⟩ : ∃ V, V = w.alloc (.cells #[.int .i64 x.tick, .int .i64 x.next, .int .i64 x.wallet, .slice a0 x.chans.length c0, .slice a1 x.htlcs.length c1, .slice a2 x.circles.length c2] 58) := ⟨_, rfl⟩
  have P : Put L H w V := by rw [hV]; exact (Put.refl _ _ _).alloc _ _
  have gs : Grow w V := by rw [hV]; exact (Grow.refl _).alloc _ _
  have B0 : Box V w.heap.size [.int .i64 x.tick, .int .i64 x.next, .int .i64 x.wallet, .slice a0 x.chans.length c0, .slice a1 x.htlcs.length c1, .slice a2 x.circles.length c2] := by rw [hV]; exact Box.new w _ _
  rw [← hV]
  clear hV
  replace s0 := s0.same repChan_stable (gs.same (by omega))
  replace s1 := s1.same repHtlc_stable (gs.same (by omega))
  replace s2 := s2.same repCircle_stable (gs.same (by omega))
  replace nf := NF.put nf P hH
  have ys := gs.size
  clear gs
  refine (markChanS_c x.chans _ _ k l0 h0 _ s0 (nf.mono (by omega) (by omega)) n0 (by omega) (by omega)).mono ?_
  rintro e V1 ⟨rfl, gp, m0⟩
  have y1 := Put.size gp
  replace B0 : Box V1 w.heap.size [.int .i64 x.tick, .int .i64 x.next, .int .i64 x.wallet, .slice a0 x.chans.length c0, .slice a1 x.htlcs.length c1, .slice a2 x.circles.length c2] := Box.put B0 gp (by omega)
  replace s1 := s1.same repHtlc_stable (Put.same gp (by omega) (by omega))
  replace s2 := s2.same repCircle_stable (Put.same gp (by omega) (by omega))
  replace nf := NF.put nf gp (by omega)
  replace P := P.trans (gp.wide (by omega) (by omega))
  clear gp
  have q0_0 : V1.cell? ⟨w.heap.size, 0, none⟩ = some (.int .i64 x.tick) := B0.c 0 _ rfl
  have q0_1 : V1.cell? ⟨w.heap.size, 1, none⟩ = some (.int .i64 x.next) := B0.c 1 _ rfl
  have q0_2 : V1.cell? ⟨w.heap.size, 2, none⟩ = some (.int .i64 x.wallet) := B0.c 2 _ rfl
  have q0_3 : V1.cell? ⟨w.heap.size, 3, none⟩ = some (.slice a0 x.chans.length c0) := B0.c 3 _ rfl
  have q0_4 : V1.cell? ⟨w.heap.size, 4, none⟩ = some (.slice a1 x.htlcs.length c1) := B0.c 4 _ rfl
  have q0_5 : V1.cell? ⟨w.heap.size, 5, none⟩ = some (.slice a2 x.circles.length c2) := B0.c 5 _ rfl
  go_wp2_with fail
  refine (markHtlcS_c x.htlcs _ _ (mkEnd 7 k x.chans.length) l1 h1 _ s1 (nf.mono (by omega) (by omega)) n1 (by omega) (by omega)).mono ?_
  rintro e V2 ⟨rfl, gp, m1⟩
  clear q0_0 q0_1 q0_2 q0_3 q0_4 q0_5
  have y2 := Put.size gp
  replace B0 : Box V2 w.heap.size [.int .i64 x.tick, .int .i64 x.next, .int .i64 x.wallet, .slice a0 x.chans.length c0, .slice a1 x.htlcs.length c1, .slice a2 x.circles.length c2] := Box.put B0 gp (by omega)
  replace m0 := m0.same (Put.same gp (by omega) (by omega))
  replace s2 := s2.same repCircle_stable (Put.same gp (by omega) (by omega))
  replace nf := NF.put nf gp (by omega)
  replace P := P.trans (gp.wide (by omega) (by omega))
  clear gp
  have q0_0 : V2.cell? ⟨w.heap.size, 0, none⟩ = some (.int .i64 x.tick) := B0.c 0 _ rfl
  have q0_1 : V2.cell? ⟨w.heap.size, 1, none⟩ = some (.int .i64 x.next) := B0.c 1 _ rfl
  have q0_2 : V2.cell? ⟨w.heap.size, 2, none⟩ = some (.int .i64 x.wallet) := B0.c 2 _ rfl
  have q0_3 : V2.cell? ⟨w.heap.size, 3, none⟩ = some (.slice a0 x.chans.length c0) := B0.c 3 _ rfl
  have q0_4 : V2.cell? ⟨w.heap.size, 4, none⟩ = some (.slice a1 x.htlcs.length c1) := B0.c 4 _ rfl
  have q0_5 : V2.cell? ⟨w.heap.size, 5, none⟩ = some (.slice a2 x.circles.length c2) := B0.c 5 _ rfl
  go_wp2_with fail
  refine (markCircleS_c x.circles _ _ (mkEnd 7 (mkEnd 7 k x.chans.length) x.htlcs.length) l2 h2 _ s2 (nf.mono (by omega) (by omega)) n2 (by omega) (by omega)).mono ?_
  rintro e V3 ⟨rfl, gp, m2⟩
  clear q0_0 q0_1 q0_2 q0_3 q0_4 q0_5
  have y3 := Put.size gp
  replace B0 : Box V3 w.heap.size [.int .i64 x.tick, .int .i64 x.next, .int .i64 x.wallet, .slice a0 x.chans.length c0, .slice a1 x.htlcs.length c1, .slice a2 x.circles.length c2] := Box.put B0 gp (by omega)
  replace m0 := m0.same (Put.same gp (by omega) (by omega))
  replace m1 := m1.same (Put.same gp (by omega) (by omega))
  replace nf := NF.put nf gp (by omega)
  replace P := P.trans (gp.wide (by omega) (by omega))
  clear gp
  have q0_0 : V3.cell? ⟨w.heap.size, 0, none⟩ = some (.int .i64 x.tick) := B0.c 0 _ rfl
  have q0_1 : V3.cell? ⟨w.heap.size, 1, none⟩ = some (.int .i64 x.next) := B0.c 1 _ rfl
  have q0_2 : V3.cell? ⟨w.heap.size, 2, none⟩ = some (.int .i64 x.wallet) := B0.c 2 _ rfl
  have q0_3 : V3.cell? ⟨w.heap.size, 3, none⟩ = some (.slice a0 x.chans.length c0) := B0.c 3 _ rfl
  have q0_4 : V3.cell? ⟨w.heap.size, 4, none⟩ = some (.slice a1 x.htlcs.length c1) := B0.c 4 _ rfl
  have q0_5 : V3.cell? ⟨w.heap.size, 5, none⟩ = some (.slice a2 x.circles.length c2) := B0.c 5 _ rfl
  go_wp2_with fail
  go_ret
  exact ⟨rfl, P, m0, m1, m2⟩

end Go.Proofs.Ytbjnbhlpibadnaa
