/- Contracts of the harness functions of Chan -/
import Derived.Test.YteklopbnkclfaaaProg
import Derived.Test.YteklopbnkclfaaaDat
namespace Go.Proofs.Yteklopbnkclfaaa
open Go.RowKit
set_option linter.unusedSimpArgs false
set_option linter.unusedVariables false
set_option maxHeartbeats 400000 in
theorem toChan_c (x : Chan) (w : World) :
    Calls Try.prog 51 #[.agg #[.int .i64 x.id, .int .i64 x.size, .int .i64 x.loc, .int .i64 x.remote, .int .i64 x.base, .int .i64 x.ppm, .int .i64 x.score]] w fun e w' => e = .returned (.agg #[.int .i64 x.id, .int .i64 x.size, .int .i64 x.loc, .int .i64 x.remote, .int .i64 x.base, .int .i64 x.ppm, .int .i64 x.score]) ∧ Grow w w' := by
  obtain ⟨id, size, loc, remote, base, ppm, score⟩ := x
  go_enter Try.func51, Try.ntmps51
  go_wp2
  all_goals
    refine bodyPost_ret (v := .agg #[.int .i64 id, .int .i64 size, .int .i64 loc, .int .i64 remote, .int .i64 base, .int .i64 ppm, .int .i64 score]) (by simp [results, Try.results51, go_sem]) rfl ⟨rfl, ?_⟩
    (repeat (first | exact Grow.refl _ | refine Grow.alloc ?_ _ _))

end Go.Proofs.Yteklopbnkclfaaa
