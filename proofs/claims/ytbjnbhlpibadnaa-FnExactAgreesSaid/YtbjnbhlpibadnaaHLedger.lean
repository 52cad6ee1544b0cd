/- Contracts of the harness functions of Ledger -/
import Derived.Test.YtbjnbhlpibadnaaBox
import Derived.Test.YtbjnbhlpibadnaaHLine
namespace Go.Proofs.Ytbjnbhlpibadnaa
open Go.RowKit
set_option linter.unusedSimpArgs false
set_option linter.unusedVariables false
set_option maxHeartbeats 2000000 in
set_option maxRecDepth 100000 in
theorem toLedger_c (x : Ledger) (a0 : Option Addr) (c0 : Nat) (w : World) (h0 : SlR 3 repLine w 0 w.heap.size (.slice a0 x.lines.length c0) x.lines) (n0 : x.lines.length ≤ 1048576) :
    Calls Try.prog 27 #[.agg #[.int .i64 x.last, .slice a0 x.lines.length c0]] w fun e w' => ∃ a0' c0' p0 q0, e = .returned (.agg #[.int .i64 x.last, .slice a0' x.lines.length c0']) ∧ Grow w w' ∧ (w.heap.size ≤ p0 ∧ p0 ≤ q0 ∧ q0 ≤ w'.heap.size) ∧ SlR 3 repLine w' p0 q0 (.slice a0' x.lines.length c0') x.lines := by
  obtain ⟨last, lines⟩ := x
  go_enter Try.func27, Try.ntmps27
  go_wp2_with fail
  obtain ⟨V, hV⟩ : ∃ V, V = ((w.alloc (.cells #[.int .i64 last, .slice a0 lines.length c0] 50)).alloc (.cells #[.int .i64 0, .slice none 0 0] 62)).alloc (.cells #[.int .i64 last, .slice none 0 0] 62) := ⟨_, rfl⟩
  have G : Grow w V := by rw [hV]; exact (((Grow.refl w).alloc _ _).alloc _ _).alloc _ _
  have B0 : Box V (w.heap.size) [.int .i64 last, .slice a0 lines.length c0] := by rw [hV]; exact ((Box.new w _ _).alloc _ _).alloc _ _
  have B1 : Box V (w.heap.size + 1) [.int .i64 0, .slice none 0 0] := by rw [hV]; exact (Box.newAt (by simp) _ _).alloc _ _
  have B2 : Box V (w.heap.size + 1 + 1) [.int .i64 last, .slice none 0 0] := by rw [hV]; exact Box.newAt (by simp) _ _
  have y0 : w.heap.size + 3 ≤ V.heap.size := by rw [hV]; simp
  rw [← hV]
  clear hV
  refine (toLineS_c lines _ _ _ (h0.grow' repLine_stable (Grow.below G)) n0).mono ?_
  rintro e w1 ⟨b0, d0, rfl, g1, s0⟩
  have y1 := Grow.size g1
  replace B0 : Box w1 (w.heap.size) [.int .i64 last, .slice a0 lines.length c0] := B0.grow g1
  replace B1 : Box w1 (w.heap.size + 1) [.int .i64 0, .slice none 0 0] := B1.grow g1
  replace B2 : Box w1 (w.heap.size + 1 + 1) [.int .i64 last, .slice none 0 0] := B2.grow g1
  replace G : Grow w w1 := Grow.trans G g1
  have s0 : SlR 3 repLine w1 V.heap.size w1.heap.size (.slice b0 lines.length d0) lines := s0
  clear g1
  have q0_0 : w1.cell? ⟨w.heap.size, 0, none⟩ = some (.int .i64 last) := B0.c 0 _ rfl
  have q0_1 : w1.cell? ⟨w.heap.size, 1, none⟩ = some (.slice a0 lines.length c0) := B0.c 1 _ rfl
  have q1_0 : w1.cell? ⟨w.heap.size + 1, 0, none⟩ = some (.int .i64 0) := B1.c 0 _ rfl
  have q1_1 : w1.cell? ⟨w.heap.size + 1, 1, none⟩ = some (.slice none 0 0) := B1.c 1 _ rfl
  have f1 := B1.f
  have q2_0 : w1.cell? ⟨w.heap.size + 1 + 1, 0, none⟩ = some (.int .i64 last) := B2.c 0 _ rfl
  have q2_1 : w1.cell? ⟨w.heap.size + 1 + 1, 1, none⟩ = some (.slice none 0 0) := B2.c 1 _ rfl
  have f2 := B2.f
  go_wp2_with fail
  refine bodyPost_ret (v := .agg #[.int .i64 last, .slice b0 lines.length d0]) (by simp [results, Try.results27, go_sem, q1_0, q1_1]) rfl ?_
  refine ⟨b0, d0, V.heap.size, w1.heap.size, rfl, (((G.setCell (by show w.heap.size ≤ w.heap.size + 1 + 1; omega) _).setCell (by show w.heap.size ≤ w.heap.size + 1; omega) _).setCell (by show w.heap.size ≤ w.heap.size + 1; omega) _), ?_, ?_⟩
  · simp only [World.size_setCell]; omega
  · exact s0.same repLine_stable ((((Same.refl V.heap.size w1.heap.size _).setCell (.inl (by show w.heap.size + 1 + 1 < V.heap.size; omega)) _).setCell (.inl (by show w.heap.size + 1 < V.heap.size; omega)) _).setCell (.inl (by show w.heap.size + 1 < V.heap.size; omega)) _)

set_option maxHeartbeats 2000000 in
set_option maxRecDepth 100000 in
theorem eqLedger_c (x : Ledger) (a0 a0' : Option Addr) (c0 c0' : Nat) (w : World) (h0 : SlR 3 repLine w 0 w.heap.size (.slice a0 x.lines.length c0) x.lines) (h0' : SlR 3 repLine w 0 w.heap.size (.slice a0' x.lines.length c0') x.lines) :
    Calls Try.prog 30 #[.agg #[.int .i64 x.last, .slice a0 x.lines.length c0], .agg #[.int .i64 x.last, .slice a0' x.lines.length c0']] w fun e w' => e = .returned (.bool true) ∧ Grow w w' := by
  obtain ⟨last, lines⟩ := x
  go_enter Try.func30, Try.ntmps30
  go_wp2_with fail
  obtain ⟨V, hV⟩ : ∃ V, V = (w.alloc (.cells #[.int .i64 last, .slice a0 lines.length c0] 62)).alloc (.cells #[.int .i64 last, .slice a0' lines.length c0'] 62) := ⟨_, rfl⟩
  have G : Grow w V := by rw [hV]; exact ((Grow.refl w).alloc _ _).alloc _ _
  have B0 : Box V (w.heap.size) [.int .i64 last, .slice a0 lines.length c0] := by rw [hV]; exact (Box.new w _ _).alloc _ _
  have B1 : Box V (w.heap.size + 1) [.int .i64 last, .slice a0' lines.length c0'] := by rw [hV]; exact Box.newAt (by simp) _ _
  rw [← hV]
  clear hV
  refine (eqLineS_c lines _ _ _ _ _ (h0.grow' repLine_stable (Grow.below (by repeat (first | exact G | (refine Grow.drew ?_) | (refine Grow.drewN ?_ _) | (refine Grow.alloc ?_ _ _))))) (h0'.grow' repLine_stable (Grow.below (by repeat (first | exact G | (refine Grow.drew ?_) | (refine Grow.drewN ?_ _) | (refine Grow.alloc ?_ _ _)))))).mono ?_
  rintro e w1 ⟨rfl, g1⟩
  have G' := Grow.trans (show Grow w _ by repeat (first | exact G | (refine Grow.drew ?_) | (refine Grow.drewN ?_ _) | (refine Grow.alloc ?_ _ _))) g1
  replace B0 : Box w1 (w.heap.size) [.int .i64 last, .slice a0 lines.length c0] := Box.grow (by repeat (first | exact B0 | (refine Box.drew ?_) | (refine Box.drewN ?_ _))) g1
  replace B1 : Box w1 (w.heap.size + 1) [.int .i64 last, .slice a0' lines.length c0'] := Box.grow (by repeat (first | exact B1 | (refine Box.drew ?_) | (refine Box.drewN ?_ _))) g1
  replace G := G'
  clear g1 G'
  have q0_0 : w1.cell? ⟨w.heap.size, 0, none⟩ = some (.int .i64 last) := B0.c 0 _ rfl
  have q0_1 : w1.cell? ⟨w.heap.size, 1, none⟩ = some (.slice a0 lines.length c0) := B0.c 1 _ rfl
  have q1_0 : w1.cell? ⟨w.heap.size + 1, 0, none⟩ = some (.int .i64 last) := B1.c 0 _ rfl
  have q1_1 : w1.cell? ⟨w.heap.size + 1, 1, none⟩ = some (.slice a0' lines.length c0') := B1.c 1 _ rfl
  go_wp2_with fail
  go_ret
  refine ⟨rfl, ?_⟩
  repeat (first | exact G | (refine Grow.drew ?_) | (refine Grow.drewN ?_ _) | (refine Grow.alloc ?_ _ _))

def szLedger (x : Ledger) (l : Int) : Int := szN (szL x.lines.length l) fun l => l
theorem szLedger_le (x : Ledger) (l : Int) (h : 0 ≤ szLedger x l) (hl : l ≤ 1048576) : szLedger x l ≤ l ∧ (x.lines.length ≤ 1048576) := by
  unfold szLedger at h ⊢
  obtain ⟨p0, h0, e0⟩ := szN_le h
  obtain ⟨r0, b0⟩ := szL_le _ _ p0
  rw [e0]
  exact ⟨by omega, by omega⟩

set_option maxHeartbeats 2000000 in
set_option maxRecDepth 100000 in
theorem szLedger_c (x : Ledger) (a0 : Option Addr) (c0 : Nat) (l : Int) (w : World) (m0 : SlR 3 repLine w 0 w.heap.size (.slice a0 x.lines.length c0) x.lines) (l1 : 0 ≤ l) (l2 : l ≤ 1048576) :
    Calls Try.prog 24 #[.agg #[.int .i64 x.last, .slice a0 x.lines.length c0], .int .i64 l] w fun e w' => e = .returned (.int .i64 (szLedger x l)) ∧ Grow w w' := by
  unfold szLedger
  by_cases t1 : szL x.lines.length (l) < 0
  · have T1 := Lib.hid t1
    go_enter Try.func24, Try.ntmps24
    go_wp2_with fail
    refine (szLineS_c _ _ _ _ _ (by have := m0; obtain ⟨_, _, _, hh1, hh2, _⟩ := this; unfold maxLen at hh2; omega) (by omega) (by omega)).mono ?_
    rintro e w1 ⟨rfl, g1⟩
    obtain ⟨k1, f1⟩ := bcell g1
    have z1 : w.heap.size < w1.heap.size := by have := g1.size; (try simp at this); omega
    go_wp2_with fail
    go_ret
    refine ⟨by have t1 := T1.out; simp only [szN, if_pos (show szL x.lines.length (l) < 0 by omega)]; rfl, ?_⟩
    repeat (first | exact Grow.refl _ | (refine Grow.setCell ?_ (by dsimp only; (try simp only [World.size_alloc, World.size_setCell]); omega) _) | (refine Grow.alloc ?_ _ _) | (refine Grow.drew ?_) | (refine Grow.trans ?_ (by assumption)))
  have y1 := (szL_le _ _ (Int.not_lt.1 t1)).1
  have T1 := Lib.hid t1
  go_enter Try.func24, Try.ntmps24
  go_wp2_with fail
  refine (szLineS_c _ _ _ _ _ (by have := m0; obtain ⟨_, _, _, hh1, hh2, _⟩ := this; unfold maxLen at hh2; omega) (by omega) (by omega)).mono ?_
  rintro e w1 ⟨rfl, g1⟩
  obtain ⟨k1, f1⟩ := bcell g1
  have z1 : w.heap.size < w1.heap.size := by have := g1.size; (try simp at this); omega
  go_wp2_with fail
  go_ret
  refine ⟨by have t1 := T1.out; simp only [szN, if_neg (show ¬ szL x.lines.length (l) < 0 by omega)]; rfl, ?_⟩
  repeat (first | exact Grow.refl _ | (refine Grow.setCell ?_ (by dsimp only; (try simp only [World.size_alloc, World.size_setCell]); omega) _) | (refine Grow.alloc ?_ _ _) | (refine Grow.drew ?_) | (refine Grow.trans ?_ (by assumption)))

end Go.Proofs.Ytbjnbhlpibadnaa
