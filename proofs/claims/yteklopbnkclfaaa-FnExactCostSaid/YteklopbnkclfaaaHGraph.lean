/- Contracts of the harness functions of Graph -/
import Derived.Test.YteklopbnkclfaaaHEdge
namespace Go.Proofs.Yteklopbnkclfaaa
open Go.RowKit
set_option linter.unusedSimpArgs false
set_option linter.unusedVariables false
set_option maxHeartbeats 2000000 in
set_option maxRecDepth 100000 in
theorem toGraph_c (x : Graph) (a0 : Option Addr) (c0 : Nat) (w : World) (h0 : SlR 4 repEdge w 0 w.heap.size (.slice a0 x.edges.length c0) x.edges) (n0 : x.edges.length ≤ 1048576) :
    Calls Try.prog 22 #[.agg #[.int .i64 x.n, .slice a0 x.edges.length c0]] w fun e w' => ∃ a0' c0' p0 q0, e = .returned (.agg #[.int .i64 x.n, .slice a0' x.edges.length c0']) ∧ Grow w w' ∧ (w.heap.size ≤ p0 ∧ p0 ≤ q0 ∧ q0 ≤ w'.heap.size) ∧ SlR 4 repEdge w' p0 q0 (.slice a0' x.edges.length c0') x.edges := by
  obtain ⟨n, edges⟩ := x
  go_enter Try.func22, Try.ntmps22
  go_wp2_with fail
  refine (toEdgeS_c edges _ _ _ (h0.grow' repEdge_stable (Grow.below (by repeat (first | exact Grow.refl _ | (refine Grow.setCell ?_ (by dsimp only; (try simp only [World.size_alloc, World.size_setCell]); omega) _) | (refine Grow.alloc ?_ _ _) | (refine Grow.drew ?_) | (refine Grow.trans ?_ (by assumption)))))) n0).mono ?_
  rintro e w1 ⟨b0, d0, rfl, g1, s0⟩
  obtain ⟨k1, f1⟩ := bcell g1
  have z1 : w.heap.size < w1.heap.size ∧ w.heap.size + 1 < w1.heap.size ∧ w.heap.size + 1 + 1 < w1.heap.size := by have := g1.size; simp at this; omega
  obtain ⟨z1a, z1b, z1c⟩ := z1
  go_wp2_with fail
  refine bodyPost_ret (v := .agg #[.int .i64 n, .slice b0 edges.length d0]) (by simp [results, Try.results22, go_sem, k1, z1a, z1b, z1c]) rfl ?_
  refine ⟨b0, d0, w.heap.size + 3, w1.heap.size, rfl, ?_, ?_, ?_⟩
  · repeat (first | exact Grow.refl _ | (refine Grow.setCell ?_ (by dsimp only; (try simp only [World.size_alloc, World.size_setCell]); omega) _) | (refine Grow.alloc ?_ _ _) | (refine Grow.drew ?_) | (refine Grow.trans ?_ (by assumption)))
  · (try simp only [World.size_setCell, World.size_alloc]); omega
  · refine SlR.stable repEdge_stable (w := w1) (lo := w.heap.size + 3) (hi := w1.heap.size) ?_ (Nat.le_refl _) (Nat.le_refl _) (by simpa using s0)
    repeat (first | exact Same.refl _ _ _ | (refine Same.setCell ?_ (by dsimp only; (try simp only [World.size_alloc, World.size_setCell]); omega) _) | (refine Same.alloc ?_ (by (try simp only [World.size_alloc, World.size_setCell]); omega) _) | (refine Same.drew ?_) | (refine Same.grown ?_ (by assumption) (by (try simp only [World.size_alloc, World.size_setCell]); omega)))

set_option maxHeartbeats 2000000 in
set_option maxRecDepth 100000 in
theorem eqGraph_c (x : Graph) (a0 a0' : Option Addr) (c0 c0' : Nat) (w : World) (h0 : SlR 4 repEdge w 0 w.heap.size (.slice a0 x.edges.length c0) x.edges) (h0' : SlR 4 repEdge w 0 w.heap.size (.slice a0' x.edges.length c0') x.edges) :
    Calls Try.prog 24 #[.agg #[.int .i64 x.n, .slice a0 x.edges.length c0], .agg #[.int .i64 x.n, .slice a0' x.edges.length c0']] w fun e w' => e = .returned (.bool true) ∧ Grow w w' := by
  obtain ⟨n, edges⟩ := x
  go_enter Try.func24, Try.ntmps24
  go_wp2_with fail
  refine (eqEdgeS_c edges _ _ _ _ _ (h0.grow' repEdge_stable (Grow.below (by repeat (first | exact Grow.refl _ | (refine Grow.setCell ?_ (by dsimp only; (try simp only [World.size_alloc, World.size_setCell]); omega) _) | (refine Grow.alloc ?_ _ _) | (refine Grow.drew ?_) | (refine Grow.trans ?_ (by assumption)))))) (h0'.grow' repEdge_stable (Grow.below (by repeat (first | exact Grow.refl _ | (refine Grow.setCell ?_ (by dsimp only; (try simp only [World.size_alloc, World.size_setCell]); omega) _) | (refine Grow.alloc ?_ _ _) | (refine Grow.drew ?_) | (refine Grow.trans ?_ (by assumption))))))).mono ?_
  rintro e w1 ⟨rfl, g1⟩
  obtain ⟨k1, f1⟩ := bcell g1
  have z1 : w.heap.size < w1.heap.size ∧ w.heap.size + 1 < w1.heap.size := by have := g1.size; simp at this; omega
  obtain ⟨z1a, z1b⟩ := z1
  go_wp2_with fail
  go_ret
  refine ⟨rfl, ?_⟩
  repeat (first | exact Grow.refl _ | (refine Grow.setCell ?_ (by dsimp only; (try simp only [World.size_alloc, World.size_setCell]); omega) _) | (refine Grow.alloc ?_ _ _) | (refine Grow.drew ?_) | (refine Grow.trans ?_ (by assumption)))

def szGraph (x : Graph) (l : Int) : Int := szN (szL x.edges.length l) fun l => l
theorem szGraph_le (x : Graph) (l : Int) (h : 0 ≤ szGraph x l) (hl : l ≤ 1048576) : szGraph x l ≤ l ∧ (x.edges.length ≤ 1048576) := by
  unfold szGraph at h ⊢
  obtain ⟨p0, h0, e0⟩ := szN_le h
  obtain ⟨r0, b0⟩ := szL_le _ _ p0
  rw [e0]
  exact ⟨by omega, by omega⟩

set_option maxHeartbeats 2000000 in
set_option maxRecDepth 100000 in
theorem szGraph_c (x : Graph) (a0 : Option Addr) (c0 : Nat) (l : Int) (w : World) (m0 : SlR 4 repEdge w 0 w.heap.size (.slice a0 x.edges.length c0) x.edges) (l1 : 0 ≤ l) (l2 : l ≤ 1048576) :
    Calls Try.prog 20 #[.agg #[.int .i64 x.n, .slice a0 x.edges.length c0], .int .i64 l] w fun e w' => e = .returned (.int .i64 (szGraph x l)) ∧ Grow w w' := by
  unfold szGraph
  by_cases t1 : szL x.edges.length (l) < 0
  · have T1 := Lib.hid t1
    go_enter Try.func20, Try.ntmps20
    go_wp2_with fail
    refine (szEdgeS_c _ _ _ _ _ (by have := m0; obtain ⟨_, _, _, hh1, hh2, _⟩ := this; unfold maxLen at hh2; omega) (by omega) (by omega)).mono ?_
    rintro e w1 ⟨rfl, g1⟩
    obtain ⟨k1, f1⟩ := bcell g1
    have z1 : w.heap.size < w1.heap.size := by have := g1.size; simp at this; omega
    go_wp2_with fail
    go_ret
    refine ⟨by have t1 := T1.out; unfold szN; (repeat (first | rw [if_pos (by omega)] | rw [if_neg (by omega)])); try rfl, ?_⟩
    repeat (first | exact Grow.refl _ | (refine Grow.setCell ?_ (by dsimp only; (try simp only [World.size_alloc, World.size_setCell]); omega) _) | (refine Grow.alloc ?_ _ _) | (refine Grow.drew ?_) | (refine Grow.trans ?_ (by assumption)))
  have y1 := (szL_le _ _ (Int.not_lt.1 t1)).1
  have T1 := Lib.hid t1
  go_enter Try.func20, Try.ntmps20
  go_wp2_with fail
  refine (szEdgeS_c _ _ _ _ _ (by have := m0; obtain ⟨_, _, _, hh1, hh2, _⟩ := this; unfold maxLen at hh2; omega) (by omega) (by omega)).mono ?_
  rintro e w1 ⟨rfl, g1⟩
  obtain ⟨k1, f1⟩ := bcell g1
  have z1 : w.heap.size < w1.heap.size := by have := g1.size; simp at this; omega
  go_wp2_with fail
  go_ret
  refine ⟨by have t1 := T1.out; unfold szN; (repeat (first | rw [if_pos (by omega)] | rw [if_neg (by omega)])); try rfl, ?_⟩
  repeat (first | exact Grow.refl _ | (refine Grow.setCell ?_ (by dsimp only; (try simp only [World.size_alloc, World.size_setCell]); omega) _) | (refine Grow.alloc ?_ _ _) | (refine Grow.drew ?_) | (refine Grow.trans ?_ (by assumption)))

end Go.Proofs.Yteklopbnkclfaaa
