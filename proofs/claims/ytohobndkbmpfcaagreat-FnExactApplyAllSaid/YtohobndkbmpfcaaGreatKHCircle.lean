/- Contracts of the harness functions of Circle -/
import Derived.Test.YtohobndkbmpfcaaGreatProg
import Derived.Test.YtohobndkbmpfcaaGreatKDat
namespace Go.Proofs.YtohobndkbmpfcaaGreat
open Go.RowKit
set_option linter.unusedSimpArgs false
set_option linter.unusedVariables false
theorem szCircleS_c (a : Option Addr) (n cap : Nat) (l : Int) (w : World) (hn : (n : Int) ≤ 9223372036854775807) (h1 : 0 ≤ l) (h2 : l ≤ 1048576) :
    Calls Tryz.prog 30 #[.slice a n cap,.int .i64 l] w fun e w' => e = .returned (.int .i64 (szL n l)) ∧ Grow w w' := by
  unfold szL
  by_cases h : l - n < 0
  all_goals
    go_enter Tryz.func30,Tryz.ntmps30
    go_wp2
    go_ret
    exact ⟨by simp,Grow.refl _⟩
end Go.Proofs.YtohobndkbmpfcaaGreat
