/- Scores, of the program and of the reference. -/
import Derived.Test.YtnlpbgljaecdmaaKNum
namespace Go.Proofs.Ytnlpbgljaecdmaa
open Go.RowKit
set_option linter.unusedSimpArgs false
set_option linter.unusedVariables false
def scoreOk(n:Int):Bool:=inB n (-100) 100
def scoreUp(n:Int):Int:=if -100≤n∧n≤100 then (if n+10≤100 then n+10 else 100)else 0
def scoreDown(n:Int):Int:=if -100≤n∧n≤100 then (if -100≤n-15 then n-15 else -100)else 0
def fade(n:Int):Int:=if -100≤n∧n≤100 then (if 0<n then n-1 else if n<0 then n+1 else 0)else 0
theorem spec_ScoreOk_c(n:Int)(w:World) :
 Calls Try.prog 61 #[.int .i64 n] w fun e w'=>e=.returned (.bool (scoreOk n))∧w=w':=by
 unfold scoreOk inB
 by_cases h1:-100≤n<;>by_cases h2:n≤100
 all_goals
  go_enter Try.func61,Try.ntmps61
  go_wp2
  go_ret
  exact⟨by simp[h1,h2],rfl⟩
end Go.Proofs.Ytnlpbgljaecdmaa
