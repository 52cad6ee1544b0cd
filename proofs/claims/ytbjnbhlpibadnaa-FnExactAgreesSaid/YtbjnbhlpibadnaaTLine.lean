/- A line of the harness turned into a line of the program. -/
import Derived.Test.YtbjnbhlpibadnaaBox
import Derived.Test.YtbjnbhlpibadnaaHAcc
namespace Go.Proofs.Ytbjnbhlpibadnaa
open Go.RowKit
set_option linter.unusedSimpArgs false
set_option linter.unusedVariables false
set_option maxHeartbeats 1000000 in
theorem toLine_c (x : Line) (w : World) :
    Calls Try.prog 104 #[.agg #[.int .i64 x.acc.kind, .int .i64 x.acc.ch, .int .i64 x.amt]] w fun e w' => e = .returned (.agg #[.int .i64 x.acc.kind, .int .i64 x.acc.ch, .int .i64 x.amt]) ∧ Grow w w' := by
  obtain ⟨⟨a, b⟩, c⟩ := x
  go_enter Try.func104, Try.ntmps104
  go_wp2_with fail
  obtain ⟨V1, hV⟩ : ∃ V, V = (((w.alloc (.cells #[.int .i64 a, .int .i64 b, .int .i64 c] 157)).alloc (.cells #[.int .i64 0, .int .i64 0, .int .i64 0] 143)).alloc (.cells #[.int .i64 0, .int .i64 0, .int .i64 0] 143)) := ⟨_, rfl⟩
  have G' : Grow w V1 := by rw [hV]; exact ((((Grow.refl w).alloc _ _).alloc _ _).alloc _ _)
  have gs : Grow w V1 := by rw [hV]; exact ((((Grow.refl w).alloc _ _).alloc _ _).alloc _ _)
  have B0 : Box V1 (w.heap.size) [.int .i64 a, .int .i64 b, .int .i64 c] := by rw [hV]; exact ((Box.newAt (by simp) _ _).alloc _ _).alloc _ _
  have B1 : Box V1 (w.heap.size + 1) [.int .i64 0, .int .i64 0, .int .i64 0] := by rw [hV]; exact (Box.newAt (by simp) _ _).alloc _ _
  have B2 : Box V1 (w.heap.size + 1 + 1) [.int .i64 0, .int .i64 0, .int .i64 0] := by rw [hV]; exact Box.newAt (by simp) _ _
  have ys : V1.heap.size = w.heap.size + 3 := by rw [hV]; simp
  have G := G'
  clear G'
  rw [← hV]
  clear hV
  clear gs
  have z0 := B0.lt
  have z1 := B1.lt
  have z2 := B2.lt
  have q0_0 : V1.cell? ⟨w.heap.size, 0, none⟩ = some (.int .i64 a) := B0.c 0 _ rfl
  have q0_1 : V1.cell? ⟨w.heap.size, 1, none⟩ = some (.int .i64 b) := B0.c 1 _ rfl
  have q0_2 : V1.cell? ⟨w.heap.size, 2, none⟩ = some (.int .i64 c) := B0.c 2 _ rfl
  have f0 := B0.f
  have q1_0 : V1.cell? ⟨w.heap.size + 1, 0, none⟩ = some (.int .i64 0) := B1.c 0 _ rfl
  have q1_1 : V1.cell? ⟨w.heap.size + 1, 1, none⟩ = some (.int .i64 0) := B1.c 1 _ rfl
  have q1_2 : V1.cell? ⟨w.heap.size + 1, 2, none⟩ = some (.int .i64 0) := B1.c 2 _ rfl
  have f1 := B1.f
  have q2_0 : V1.cell? ⟨w.heap.size + 1 + 1, 0, none⟩ = some (.int .i64 0) := B2.c 0 _ rfl
  have q2_1 : V1.cell? ⟨w.heap.size + 1 + 1, 1, none⟩ = some (.int .i64 0) := B2.c 1 _ rfl
  have q2_2 : V1.cell? ⟨w.heap.size + 1 + 1, 2, none⟩ = some (.int .i64 0) := B2.c 2 _ rfl
  have f2 := B2.f
  refine (toAcc_c ⟨a, b⟩ _).mono ?_
  rintro e V2 ⟨rfl, gs⟩
  clear z0 z1 z2 q0_0 q0_1 q0_2 f0 q1_0 q1_1 q1_2 f1 q2_0 q2_1 q2_2 f2
  have ys := Grow.size gs
  replace B0 : Box V2 (w.heap.size) [.int .i64 a, .int .i64 b, .int .i64 c] := Box.grow B0 gs
  replace B1 : Box V2 (w.heap.size + 1) [.int .i64 0, .int .i64 0, .int .i64 0] := Box.grow B1 gs
  replace B2 : Box V2 (w.heap.size + 1 + 1) [.int .i64 0, .int .i64 0, .int .i64 0] := Box.grow B2 gs
  replace G : Grow w V2 := Grow.trans G gs
  clear gs
  have z0 := B0.lt
  have z1 := B1.lt
  have z2 := B2.lt
  have q0_0 : V2.cell? ⟨w.heap.size, 0, none⟩ = some (.int .i64 a) := B0.c 0 _ rfl
  have q0_1 : V2.cell? ⟨w.heap.size, 1, none⟩ = some (.int .i64 b) := B0.c 1 _ rfl
  have q0_2 : V2.cell? ⟨w.heap.size, 2, none⟩ = some (.int .i64 c) := B0.c 2 _ rfl
  have f0 := B0.f
  have q1_0 : V2.cell? ⟨w.heap.size + 1, 0, none⟩ = some (.int .i64 0) := B1.c 0 _ rfl
  have q1_1 : V2.cell? ⟨w.heap.size + 1, 1, none⟩ = some (.int .i64 0) := B1.c 1 _ rfl
  have q1_2 : V2.cell? ⟨w.heap.size + 1, 2, none⟩ = some (.int .i64 0) := B1.c 2 _ rfl
  have f1 := B1.f
  have q2_0 : V2.cell? ⟨w.heap.size + 1 + 1, 0, none⟩ = some (.int .i64 0) := B2.c 0 _ rfl
  have q2_1 : V2.cell? ⟨w.heap.size + 1 + 1, 1, none⟩ = some (.int .i64 0) := B2.c 1 _ rfl
  have q2_2 : V2.cell? ⟨w.heap.size + 1 + 1, 2, none⟩ = some (.int .i64 0) := B2.c 2 _ rfl
  have f2 := B2.f
  go_wp2_with fail
  obtain ⟨F, hF⟩ : ∃ F, F = ((((((V2.setCell ⟨w.heap.size + 1 + 1, 0, none⟩ (.int .i64 a)).setCell ⟨w.heap.size + 1 + 1, 1, none⟩ (.int .i64 b)).setCell ⟨w.heap.size + 1 + 1, 2, none⟩ (.int .i64 c)).setCell ⟨w.heap.size + 1, 0, none⟩ (.int .i64 a)).setCell ⟨w.heap.size + 1, 1, none⟩ (.int .i64 b)).setCell ⟨w.heap.size + 1, 2, none⟩ (.int .i64 c)) := ⟨_, rfl⟩
  have BF : Box F (w.heap.size + 1) [.int .i64 a, .int .i64 b, .int .i64 c] := by
    rw [hF]
    exact ((((((B1.other (by show w.heap.size + 1 + 1 ≠ _; omega) _).other (by show w.heap.size + 1 + 1 ≠ _; omega) _).other (by show w.heap.size + 1 + 1 ≠ _; omega) _).set 0 (by simp) _).set 1 (by simp) _).set 2 (by simp) _)
  have GF : Grow w F := by
    rw [hF]
    refine Grow.setCell (Grow.setCell (Grow.setCell (Grow.setCell (Grow.setCell (Grow.setCell G ?_ _) ?_ _) ?_ _) ?_ _) ?_ _) ?_ _ <;> (dsimp only; omega)
  rw [← hF]
  clear hF q0_0 q0_1 q0_2 f0 q1_0 q1_1 q1_2 f1 q2_0 q2_1 q2_2 f2
  have r0 : F.cell? ⟨w.heap.size + 1, 0, none⟩ = some (.int .i64 a) := BF.c 0 _ rfl
  have r1 : F.cell? ⟨w.heap.size + 1, 1, none⟩ = some (.int .i64 b) := BF.c 1 _ rfl
  have r2 : F.cell? ⟨w.heap.size + 1, 2, none⟩ = some (.int .i64 c) := BF.c 2 _ rfl
  exact bodyPost_ret (v := .agg #[.int .i64 a, .int .i64 b, .int .i64 c]) (by simp [results, Try.results104, go_sem, r0, r1, r2]) rfl ⟨rfl, GF⟩
end Go.Proofs.Ytbjnbhlpibadnaa
