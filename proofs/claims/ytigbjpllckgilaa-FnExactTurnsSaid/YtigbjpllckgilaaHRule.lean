/- Contracts of the harness functions of Rule -/
import Derived.Test.YtigbjpllckgilaaProg
import Derived.Test.YtigbjpllckgilaaDat
namespace Go.Proofs.Ytigbjpllckgilaa
open Go.RowKit
set_option linter.unusedSimpArgs false
set_option linter.unusedVariables false
set_option maxHeartbeats 400000 in
theorem toRule_c (x : Rule) (w : World) :
    Calls Try.prog 38 #[.agg #[.int .i64 x.lo, .int .i64 x.hi, .int .i64 x.step, .int .i64 x.min, .int .i64 x.max]] w fun e w' => e = .returned (.agg #[.int .i64 x.lo, .int .i64 x.hi, .int .i64 x.step, .int .i64 x.min, .int .i64 x.max]) ∧ Grow w w' := by
  obtain ⟨lo, hi, step, min, max⟩ := x
  go_enter Try.func38, Try.ntmps38
  go_wp2
  all_goals
    refine bodyPost_ret (v := .agg #[.int .i64 lo, .int .i64 hi, .int .i64 step, .int .i64 min, .int .i64 max]) (by simp [results, Try.results38, go_sem]) rfl ⟨rfl, ?_⟩
    (repeat (first | exact Grow.refl _ | refine Grow.alloc ?_ _ _))

end Go.Proofs.Ytigbjpllckgilaa
