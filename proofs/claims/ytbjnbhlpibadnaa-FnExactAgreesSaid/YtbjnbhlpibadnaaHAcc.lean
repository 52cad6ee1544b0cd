/- Contracts of the harness functions of Acc -/
import Derived.Test.YtbjnbhlpibadnaaProg
import Derived.Test.YtbjnbhlpibadnaaDat
namespace Go.Proofs.Ytbjnbhlpibadnaa
open Go.RowKit
set_option linter.unusedSimpArgs false
set_option linter.unusedVariables false
set_option maxHeartbeats 400000 in
theorem toAcc_c (x : Acc) (w : World) :
    Calls Try.prog 123 #[.agg #[.int .i64 x.kind, .int .i64 x.ch]] w fun e w' => e = .returned (.agg #[.int .i64 x.kind, .int .i64 x.ch]) ∧ Grow w w' := by
  obtain ⟨kind, ch⟩ := x
  go_enter Try.func123, Try.ntmps123
  go_wp2
  all_goals
    refine bodyPost_ret (v := .agg #[.int .i64 kind, .int .i64 ch]) (by simp [results, Try.results123, go_sem]) rfl ⟨rfl, ?_⟩
    (repeat (first | exact Grow.refl _ | refine Grow.alloc ?_ _ _))

set_option maxHeartbeats 400000 in
theorem eqAcc_c (x : Acc) (w : World) :
    Calls Try.prog 127 #[.agg #[.int .i64 x.kind, .int .i64 x.ch], .agg #[.int .i64 x.kind, .int .i64 x.ch]] w fun e w' => e = .returned (.bool true) ∧ Grow w w' := by
  obtain ⟨kind, ch⟩ := x
  go_enter Try.func127, Try.ntmps127
  go_wp2
  all_goals
    go_ret
    refine ⟨rfl, ?_⟩
    repeat (first | exact Grow.refl _ | (refine Grow.setCell ?_ (by dsimp only; (try simp only [World.size_alloc, World.size_setCell]); omega) _) | (refine Grow.alloc ?_ _ _) | (refine Grow.drew ?_) | (refine Grow.trans ?_ (by assumption)))

end Go.Proofs.Ytbjnbhlpibadnaa
