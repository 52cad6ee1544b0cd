/- Contracts of small functions of numbers. -/
import Derived.Test.YtlgamhhfgaeaoaaProg
import Derived.Test.YtlgamhhfgaeaoaaKDat
namespace Go.Proofs.Ytlgamhhfgaeaoaa
open Go.RowKit
set_option linter.unusedSimpArgs false
set_option linter.unusedVariables false
def inB(n lo hi:Int):Bool:=decide (lo≤n)&&decide (n≤hi)
theorem inB_true{n lo hi:Int}:inB n lo hi=true↔lo≤n∧n≤hi:=by simp[inB]
theorem inB_false{n lo hi:Int}:inB n lo hi=false↔n<lo∨hi<n:=by
 unfold inB;rw[Bool.and_eq_false_iff];simp
theorem in_c(n lo hi:Int)(w:World) :
 Calls Try.prog 23 #[.int .i64 n,.int .i64 lo,.int .i64 hi] w fun e w'=>e=.returned (.bool (inB n lo hi))∧w=w':=by
 unfold inB
 by_cases h1:lo≤n<;>by_cases h2:n≤hi
 all_goals
  go_enter Try.func23,Try.ntmps23
  go_wp2
  go_ret
  exact⟨by simp[h1,h2],rfl⟩
theorem in_q(n lo hi:Int)(w:World) :
 Calls Try.prog 23 #[.int .i64 n,.int .i64 lo,.int .i64 hi] w fun e w'=>e=.returned (.bool (inB n lo hi))∧w'=w:=
 (in_c n lo hi w).mono fun _ _ h=>⟨h.1,h.2.symm⟩
end Go.Proofs.Ytlgamhhfgaeaoaa
