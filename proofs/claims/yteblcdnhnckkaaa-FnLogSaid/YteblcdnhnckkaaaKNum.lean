/- Contracts of small functions of numbers. -/
import Derived.Test.YteblcdnhnckkaaaProg
import Derived.Test.YteblcdnhnckkaaaKSup
namespace Go.Proofs.Yteblcdnhnckkaaa
open Go.RowKit
set_option linter.unusedSimpArgs false
set_option linter.unusedVariables false
def inB(n lo hi:Int):Bool:=decide (lo≤n)&&decide (n≤hi)
theorem inB_true{n lo hi:Int}:inB n lo hi=true↔lo≤n∧n≤hi:=by simp[inB]
theorem inB_false{n lo hi:Int}:inB n lo hi=false↔n<lo∨hi<n:=by
 unfold inB;rw[Bool.and_eq_false_iff];simp
theorem in_c(n lo hi:Int)(w:World) :
 Calls Try.prog 47 #[.int .i64 n,.int .i64 lo,.int .i64 hi] w fun e w'=>e=.returned (.bool (inB n lo hi))∧w=w':=by
 unfold inB
 by_cases h1:lo≤n<;>by_cases h2:n≤hi
 all_goals
  go_enter Try.func47,Try.ntmps47
  go_wp2
  go_ret
  exact⟨by simp[h1,h2],rfl⟩
def amtOk(n:Int):Bool:=inB n 0 1125899906842624
theorem amtOk_true{n:Int}:amtOk n=true↔0≤n∧n≤1125899906842624:=inB_true
theorem impl_AmtOk_c(n:Int)(w:World) :
 Calls Try.prog 94 #[.int .i64 n] w fun e w'=>e=.returned (.bool (amtOk n))∧w=w':=by
 go_enter Try.func94,Try.ntmps94
 go_wp2_with fail
 refine(in_c _ _ _ _).mono ?_
 rintro e w' ⟨rfl,rfl⟩
 go_wp2_with fail
 go_ret
 exact⟨rfl,rfl⟩
end Go.Proofs.Yteblcdnhnckkaaa
