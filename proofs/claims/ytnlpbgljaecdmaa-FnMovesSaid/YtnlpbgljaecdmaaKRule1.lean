/- Bands and rules, of the program and of the reference. -/
import Derived.Test.YtnlpbgljaecdmaaKNum
namespace Go.Proofs.Ytnlpbgljaecdmaa
open Go.RowKit
set_option linter.unusedSimpArgs false
set_option linter.unusedVariables false
def band(lo hi:Int):Bool:=inB lo 0 100&&inB hi lo 100
theorem band_iff{lo hi:Int}:band lo hi=true↔0≤lo∧lo≤hi∧hi≤100:=by simp[band,inB];omega
def part(n:Int):Bool:=inB n 0 1000000
theorem impl_isBand_c(lo hi:Int)(w:World) :
 Calls Try.prog 15 #[.int .i64 lo,.int .i64 hi] w fun e w'=>e=.returned (.bool (band lo hi))∧w=w':=by
 unfold band
 cases h1:inB lo 0 100
 all_goals
  go_enter Try.func15,Try.ntmps15
  go_wp2_with (go_at_call 16;refine(in_c _ _ _ _).mono ?_;rintro e w' ⟨rfl,rfl⟩)
  go_ret
  exact⟨by simp,rfl⟩
theorem spec_Band_c(lo hi:Int)(w:World) :
 Calls Try.prog 26 #[.int .i64 lo,.int .i64 hi] w fun e w'=>e=.returned (.bool (band lo hi))∧w=w':=by
 by_cases h1:0≤lo<;>by_cases h2:lo≤hi<;>by_cases h3:hi≤100
 all_goals
  have hr:band lo hi=(decide (0≤lo)&&decide (lo≤hi)&&decide (hi≤100)):=by
   unfold band inB;rw[Bool.eq_iff_iff];simp;omega
  simp only[h1,h2,h3,decide_true,decide_false,Bool.and_true,Bool.and_false,Bool.true_and,Bool.false_and]at hr
  have HR:=Lib.hid hr;clear hr
  go_enter Try.func26,Try.ntmps26
  go_wp2
  go_ret
  exact⟨by rw[HR.out];rfl,rfl⟩
end Go.Proofs.Ytnlpbgljaecdmaa
