/- Texts joined: Num, Allow0, AllowI. -/
import Derived.Test.YtnlpbgljaecdmaaProg
import Derived.Test.YtnlpbgljaecdmaaKSup
namespace Go.Proofs.Ytnlpbgljaecdmaa
open Go.RowKit
set_option linter.unusedSimpArgs false
set_option linter.unusedVariables false
def inB(n lo hi:Int):Bool:=decide (lo≤n)&&decide (n≤hi)
theorem inB_true{n lo hi:Int}:inB n lo hi=true↔lo≤n∧n≤hi:=by simp[inB]
theorem inB_false{n lo hi:Int}:inB n lo hi=false↔n<lo∨hi<n:=by
 unfold inB;rw[Bool.and_eq_false_iff];simp
theorem in_c(n lo hi:Int)(w:World) :
 Calls Try.prog 16 #[.int .i64 n,.int .i64 lo,.int .i64 hi] w fun e w'=>e=.returned (.bool (inB n lo hi))∧w=w':=by
 unfold inB
 by_cases h1:lo≤n<;>by_cases h2:n≤hi
 all_goals
  go_enter Try.func16,Try.ntmps16
  go_wp2
  go_ret
  exact⟨by simp[h1,h2],rfl⟩
theorem in_q(n lo hi:Int)(w:World) :
 Calls Try.prog 16 #[.int .i64 n,.int .i64 lo,.int .i64 hi] w fun e w'=>e=.returned (.bool (inB n lo hi))∧w'=w:=
 (in_c n lo hi w).mono fun _ _ h=>⟨h.1,h.2.symm⟩
def amtOk(n:Int):Bool:=inB n 0 1125899906842624
theorem amtOk_true{n:Int}:amtOk n=true↔0≤n∧n≤1125899906842624:=inB_true
theorem impl_AmtOk_c(n:Int)(w:World) :
 Calls Try.prog 34 #[.int .i64 n] w fun e w'=>e=.returned (.bool (amtOk n))∧w=w':=by
 go_enter Try.func34,Try.ntmps34
 go_wp2_with fail
 refine(in_c _ _ _ _).mono ?_
 rintro e w' ⟨rfl,rfl⟩
 go_wp2_with fail
 go_ret
 exact⟨rfl,rfl⟩
theorem spec_AmtOk_c(n:Int)(w:World) :
 Calls Try.prog 46 #[.int .i64 n] w fun e w'=>e=.returned (.bool (amtOk n))∧w=w':=by
 unfold amtOk inB
 by_cases h1:0≤n<;>by_cases h2:n≤1125899906842624
 all_goals
  go_enter Try.func46,Try.ntmps46
  go_wp2
  go_ret
  exact⟨by simp[h1,h2],rfl⟩
end Go.Proofs.Ytnlpbgljaecdmaa
namespace Go.Proofs.Ytnlpbgljaecdmaa
open Go.RowKit
set_option linter.unusedSimpArgs false
set_option linter.unusedVariables false
def allowIn(size few all sf sa amt:Int):Bool:=amtOk size&&amtOk few&&amtOk all&&amtOk amt&&decide (0≤sf)&&decide (0≤sa)&&decide (few≤all)&&decide (sf≤sa)
def allow(size few all sf sa amt:Int)(good:Bool):Int:=
 if allowIn size few all sf sa amt then
  if sa<10∧all+amt≤size then (if sf<5∧few+amt≤size/2 then 1 else if good then 2 else 0)else 0
 else 0
end Go.Proofs.Ytnlpbgljaecdmaa
namespace Go.Proofs.Ytnlpbgljaecdmaa
open Go.RowKit
set_option linter.unusedSimpArgs false
set_option linter.unusedVariables false
end Go.Proofs.Ytnlpbgljaecdmaa
