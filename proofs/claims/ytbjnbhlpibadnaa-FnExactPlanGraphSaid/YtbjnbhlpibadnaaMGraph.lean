/- The marks of Graph. -/
import Derived.Test.YtbjnbhlpibadnaaBox
import Derived.Test.YtbjnbhlpibadnaaMEdge
namespace Go.Proofs.Ytbjnbhlpibadnaa
open Go.RowKit
set_option linter.unusedSimpArgs false
set_option linter.unusedVariables false

def mkGraph (x : Graph) (k : Int) : Int := (mkEnd 4 k x.edges.length)
theorem mkGraph_bd {x : Graph} {k B : Int} (h0 : 0 ≤ k) (h1 : k ≤ B) (n0 : x.edges.length ≤ 16777216) : 0 ≤ mkGraph x k ∧ mkGraph x k ≤ B + 1073741824 := by
  unfold mkGraph
  have k1 := mkEnd_bd (n := 4) (m := x.edges.length) (k := k) (B := B + 0) h0 (by omega) (by omega) n0
  omega

set_option maxHeartbeats 2000000 in
set_option maxRecDepth 100000 in
theorem markGraph_c (x : Graph) (a0 : Option Addr) (c0 : Nat) (k : Int) (L H l0 h0 : Nat) (w : World) (s0 : SlR 4 repEdge w l0 h0 (.slice a0 x.edges.length c0) x.edges)  (b0 : L ≤ l0 ∧ l0 ≤ h0 ∧ h0 ≤ H) (nf : NF L H w) (hH : H ≤ w.heap.size) (n0 : x.edges.length ≤ 16777216) (hk : 0 ≤ k) (hk2 : k ≤ 100000000000) :
    Calls Try.prog 16 #[.agg #[.int .i64 x.n, .slice a0 x.edges.length c0], .int .i64 k] w fun e w' => e = .returned (.int .i64 (mkGraph x k)) ∧ Put L H w w' ∧ HeldN (mvAt 99) 4 w' l0 h0 a0 x.edges.length k := by
  have k1 := mkEnd_bd (n := 4) (m := x.edges.length) (k := k) (B := 100000000000 + 0) hk (by omega) (by omega) n0
  go_enter Try.func16, Try.ntmps16
  go_wp2_with fail
  obtain ⟨V, hV⟩ : ∃ V, V = w.alloc (.cells #[.int .i64 x.n, .slice a0 x.edges.length c0] 31) := ⟨_, rfl⟩
  have P : Put L H w V := by rw [hV]; exact (Put.refl _ _ _).alloc _ _
  have gs : Grow w V := by rw [hV]; exact (Grow.refl _).alloc _ _
  have B0 : Box V w.heap.size [.int .i64 x.n, .slice a0 x.edges.length c0] := by rw [hV]; exact Box.new w _ _
  rw [← hV]
  clear hV
  replace s0 := s0.same repEdge_stable (gs.same (by omega))
  replace nf := NF.put nf P hH
  have ys := gs.size
  clear gs
  refine (markEdgeS_c x.edges _ _ k l0 h0 _ s0 (nf.mono (by omega) (by omega)) n0 (by omega) (by omega)).mono ?_
  rintro e V1 ⟨rfl, gp, m0⟩
  have y1 := Put.size gp
  replace B0 : Box V1 w.heap.size [.int .i64 x.n, .slice a0 x.edges.length c0] := Box.put B0 gp (by omega)
  replace nf := NF.put nf gp (by omega)
  replace P := P.trans (gp.wide (by omega) (by omega))
  clear gp
  have q0_0 : V1.cell? ⟨w.heap.size, 0, none⟩ = some (.int .i64 x.n) := B0.c 0 _ rfl
  have q0_1 : V1.cell? ⟨w.heap.size, 1, none⟩ = some (.slice a0 x.edges.length c0) := B0.c 1 _ rfl
  go_wp2_with fail
  go_ret
  exact ⟨rfl, P, m0⟩

set_option maxHeartbeats 2000000 in
set_option maxRecDepth 100000 in
theorem heldGraph_c (x : Graph) (a0 : Option Addr) (c0 : Nat) (k : Int) (l0 h0 : Nat) (w : World) (m0 : HeldN (mvAt 99) 4 w l0 h0 a0 x.edges.length k) (b0 : h0 ≤ w.heap.size) (e0 : x.edges.length ≤ c0) (n0 : x.edges.length ≤ 16777216) (hk : 0 ≤ k) (hk2 : k ≤ 100000000000) :
    Calls Try.prog 38 #[.agg #[.int .i64 x.n, .slice a0 x.edges.length c0], .int .i64 k] w fun e w' => e = .returned (.int .i64 (mkGraph x k)) ∧ Grow w w' := by
  have k1 := mkEnd_bd (n := 4) (m := x.edges.length) (k := k) (B := 100000000000 + 0) hk (by omega) (by omega) n0
  obtain ⟨k1a, k1b⟩ := k1
  go_enter Try.func38, Try.ntmps38
  go_wp2_with fail
  obtain ⟨V, hV⟩ : ∃ V, V = w.alloc (.cells #[.int .i64 x.n, .slice a0 x.edges.length c0] 31) := ⟨_, rfl⟩
  have G : Grow w V := by rw [hV]; exact (Grow.refl _).alloc _ _
  have B0 : Box V w.heap.size [.int .i64 x.n, .slice a0 x.edges.length c0] := by rw [hV]; exact Box.new w _ _
  rw [← hV]
  clear hV
  refine (heldEdgeS_c _ _ _ k l0 h0 _ (m0.same (G.same (by omega))) e0 n0 (by omega) (by omega)).mono ?_
  rintro e V1 ⟨rfl, gs⟩
  replace B0 : Box V1 w.heap.size [.int .i64 x.n, .slice a0 x.edges.length c0] := Box.grow B0 gs
  replace G := G.trans gs
  clear gs
  have q0_0 : V1.cell? ⟨w.heap.size, 0, none⟩ = some (.int .i64 x.n) := B0.c 0 _ rfl
  have q0_1 : V1.cell? ⟨w.heap.size, 1, none⟩ = some (.slice a0 x.edges.length c0) := B0.c 1 _ rfl
  go_wp2_with fail
  go_ret
  exact ⟨rfl, G⟩
end Go.Proofs.Ytbjnbhlpibadnaa
