/- Contracts of the harness functions of Chan -/
import Derived.Test.YtohobndkbmpfcaaGreatProg
import Derived.Test.YtohobndkbmpfcaaGreatKDat
namespace Go.Proofs.YtohobndkbmpfcaaGreat
open Go.RowKit
set_option linter.unusedSimpArgs false
set_option linter.unusedVariables false
theorem szChanS_c (a : Option Addr) (n cap : Nat) (l : Int) (w : World) (hn : (n : Int) ≤ 9223372036854775807) (h1 : 0 ≤ l) (h2 : l ≤ 1048576) :
    Calls Tryz.prog 28 #[.slice a n cap,.int .i64 l] w fun e w' => e = .returned (.int .i64 (szL n l)) ∧ Grow w w' := by
  unfold szL
  by_cases h : l - n < 0
  all_goals
    go_enter Tryz.func28,Tryz.ntmps28
    go_wp2
    go_ret
    exact ⟨by simp,Grow.refl _⟩
end Go.Proofs.YtohobndkbmpfcaaGreat
