/- BookNew. -/
import Derived.Test.YtigbjpllckgilaaProg
import Derived.Test.YtigbjpllckgilaaMk
namespace Go.Proofs.Ytigbjpllckgilaa
open Go.RowKit
set_option linter.unusedSimpArgs false
set_option linter.unusedVariables false

def newBook : Book := ⟨0, 1, 0, [], [], []⟩
theorem impl_BookNew_c (w : World) :
    Calls Try.prog 14 #[] w fun e w' => ∃ a0 c0 p0 q0 a1 c1 p1 q1 a2 c2 p2 q2, e = .returned (.agg #[.int .i64 newBook.tick, .int .i64 newBook.next, .int .i64 newBook.wallet, .slice a0 newBook.chans.length c0, .slice a1 newBook.htlcs.length c1, .slice a2 newBook.circles.length c2]) ∧ Grow w w' ∧ (w.heap.size ≤ p0 ∧ p0 ≤ q0 ∧ q0 ≤ p1 ∧ p1 ≤ q1 ∧ q1 ≤ p2 ∧ p2 ≤ q2 ∧ q2 ≤ w'.heap.size) ∧ SlR 7 repChan w' p0 q0 (.slice a0 newBook.chans.length c0) newBook.chans ∧ SlR 7 repHtlc w' p1 q1 (.slice a1 newBook.htlcs.length c1) newBook.htlcs ∧ SlR 5 repCircle w' p2 q2 (.slice a2 newBook.circles.length c2) newBook.circles := by
  go_enter Try.func14, Try.ntmps14
  go_wp2_with fail
  refine bodyPost_ret (v := .agg #[.int .i64 0, .int .i64 1, .int .i64 0, .slice none 0 0, .slice none 0 0, .slice none 0 0]) (by simp [results, Try.results14, go_sem]) rfl ?_
  exact ⟨none, 0, w.heap.size, w.heap.size, none, 0, w.heap.size, w.heap.size, none, 0, w.heap.size, w.heap.size, rfl, (Grow.refl _).alloc _ _, by simp, SlR.nil, SlR.nil, SlR.nil⟩
theorem spec_BookNew_c (w : World) :
    Calls Try.prog 13 #[] w fun e w' => ∃ a0 c0 p0 q0 a1 c1 p1 q1 a2 c2 p2 q2, e = .returned (.agg #[.int .i64 newBook.tick, .int .i64 newBook.next, .int .i64 newBook.wallet, .slice a0 newBook.chans.length c0, .slice a1 newBook.htlcs.length c1, .slice a2 newBook.circles.length c2]) ∧ Grow w w' ∧ (w.heap.size ≤ p0 ∧ p0 ≤ q0 ∧ q0 ≤ p1 ∧ p1 ≤ q1 ∧ q1 ≤ p2 ∧ p2 ≤ q2 ∧ q2 ≤ w'.heap.size) ∧ SlR 7 repChan w' p0 q0 (.slice a0 newBook.chans.length c0) newBook.chans ∧ SlR 7 repHtlc w' p1 q1 (.slice a1 newBook.htlcs.length c1) newBook.htlcs ∧ SlR 5 repCircle w' p2 q2 (.slice a2 newBook.circles.length c2) newBook.circles := by
  go_enter Try.func13, Try.ntmps13
  go_wp2_with fail
  refine bodyPost_ret (v := .agg #[.int .i64 0, .int .i64 1, .int .i64 0, .slice none 0 0, .slice none 0 0, .slice none 0 0]) (by simp [results, Try.results13, go_sem]) rfl ?_
  exact ⟨none, 0, w.heap.size, w.heap.size, none, 0, w.heap.size, w.heap.size, none, 0, w.heap.size, w.heap.size, rfl, (Grow.refl _).alloc _ _, by simp, SlR.nil, SlR.nil, SlR.nil⟩
end Go.Proofs.Ytigbjpllckgilaa
