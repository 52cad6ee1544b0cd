/- Scores, of the program and of the reference. -/
import Derived.Test.YtogkbcmfoalpiaaGreatKNum
namespace Go.Proofs.YtogkbcmfoalpiaaGreat
open Go.RowKit
set_option linter.unusedSimpArgs false
set_option linter.unusedVariables false
def scoreOk(n:Int):Bool:=inB n (-100) 100
def scoreUp(n:Int):Int:=if -100≤n∧n≤100 then (if n+10≤100 then n+10 else 100)else 0
def scoreDown(n:Int):Int:=if -100≤n∧n≤100 then (if -100≤n-15 then n-15 else -100)else 0
def fade(n:Int):Int:=if -100≤n∧n≤100 then (if 0<n then n-1 else if n<0 then n+1 else 0)else 0
theorem impl_ScoreOk_c(n:Int)(w:World) :
 Calls Tryz.prog 66 #[.int .i64 n] w fun e w'=>e=.returned (.bool (scoreOk n))∧w=w':=by
 go_enter Tryz.func66,Tryz.ntmps66
 go_wp2_with (go_at_call 63;refine(in_c _ _ _ _).mono ?_;rintro e w' ⟨rfl,rfl⟩)
 go_ret
 exact⟨rfl,rfl⟩
theorem spec_ScoreOk_c(n:Int)(w:World) :
 Calls Tryz.prog 78 #[.int .i64 n] w fun e w'=>e=.returned (.bool (scoreOk n))∧w=w':=by
 unfold scoreOk inB
 by_cases h1:-100≤n<;>by_cases h2:n≤100
 all_goals
  go_enter Tryz.func78,Tryz.ntmps78
  go_wp2
  go_ret
  exact⟨by simp[h1,h2],rfl⟩
theorem score_no{n:Int}(h:¬(-100≤n∧n≤100)):scoreOk n=false:=by unfold scoreOk;rw[Bool.eq_false_iff];intro h';exact h (inB_true.1 h')
theorem score_yes{n:Int}(h:-100≤n∧n≤100):scoreOk n=true:=inB_true.2 h
theorem impl_ScoreUp_c(n:Int)(w:World) :
 Calls Tryz.prog 102 #[.int .i64 n] w fun e w'=>e=.returned (.int .i64 (scoreUp n))∧w=w':=by
 by_cases h:-100≤n∧n≤100
 ·by_cases h2:n+10≤100
  all_goals
   have hr:scoreUp n=if n+10≤100 then n+10 else 100:=by unfold scoreUp;rw[if_pos h]
   have HR:=Lib.hid hr;clear hr
   have hs:=score_yes h
   obtain⟨h0,h1⟩:=h
   have H2:=Lib.hid h2
   go_enter Tryz.func102,Tryz.ntmps102
   go_wp2_with (go_at_call 66;refine(impl_ScoreOk_c _ _).mono ?_;rintro e w' ⟨rfl,rfl⟩)
   go_ret
   refine⟨?_,rfl⟩
   have h2:=H2.out
   rw[HR.out]
   first
    |(rw[if_pos (by omega)];rfl)
    |(rw[if_neg (by omega)];rfl)
 ·have hr:scoreUp n=0:=by unfold scoreUp;rw[if_neg h]
  have HR:=Lib.hid hr;clear hr
  have hs:=score_no h
  go_enter Tryz.func102,Tryz.ntmps102
  go_wp2_with (go_at_call 66;refine(impl_ScoreOk_c _ _).mono ?_;rintro e w' ⟨rfl,rfl⟩)
  go_ret
  exact⟨by rw[HR.out];rfl,rfl⟩
theorem impl_ScoreDown_c(n:Int)(w:World) :
 Calls Tryz.prog 103 #[.int .i64 n] w fun e w'=>e=.returned (.int .i64 (scoreDown n))∧w=w':=by
 by_cases h:-100≤n∧n≤100
 ·by_cases h2:-100≤n-15
  all_goals
   have hr:scoreDown n=if -100≤n-15 then n-15 else -100:=by unfold scoreDown;rw[if_pos h]
   have HR:=Lib.hid hr;clear hr
   have hs:=score_yes h
   obtain⟨h0,h1⟩:=h
   have H2:=Lib.hid h2
   go_enter Tryz.func103,Tryz.ntmps103
   go_wp2_with (go_at_call 66;refine(impl_ScoreOk_c _ _).mono ?_;rintro e w' ⟨rfl,rfl⟩)
   go_ret
   refine⟨?_,rfl⟩
   have h2:=H2.out
   rw[HR.out]
   first
    |(rw[if_pos (by omega)];rfl)
    |(rw[if_neg (by omega)];rfl)
 ·have hr:scoreDown n=0:=by unfold scoreDown;rw[if_neg h]
  have HR:=Lib.hid hr;clear hr
  have hs:=score_no h
  go_enter Tryz.func103,Tryz.ntmps103
  go_wp2_with (go_at_call 66;refine(impl_ScoreOk_c _ _).mono ?_;rintro e w' ⟨rfl,rfl⟩)
  go_ret
  exact⟨by rw[HR.out];rfl,rfl⟩
theorem impl_ScoreFade_c(n:Int)(w:World) :
 Calls Tryz.prog 104 #[.int .i64 n] w fun e w'=>e=.returned (.int .i64 (fade n))∧w=w':=by
 by_cases h:-100≤n∧n≤100
 ·have hs:=score_yes h
  obtain⟨h0,h1⟩:=h
  rcases Int.lt_trichotomy n 0 with h2|h2|h2
  ·have hr:fade n=n+1:=by unfold fade;rw[if_pos ⟨h0,h1⟩,if_neg (by omega),if_pos h2]
   have HR:=Lib.hid hr;clear hr
   go_enter Tryz.func104,Tryz.ntmps104
   go_wp2_with (go_at_call 66;refine(impl_ScoreOk_c _ _).mono ?_;rintro e w' ⟨rfl,rfl⟩)
   go_ret
   exact⟨by rw[HR.out];rfl,rfl⟩
  ·subst h2
   have hr:fade 0=0:=by unfold fade;simp
   have HR:=Lib.hid hr;clear hr
   go_enter Tryz.func104,Tryz.ntmps104
   go_wp2_with (go_at_call 66;refine(impl_ScoreOk_c _ _).mono ?_;rintro e w' ⟨rfl,rfl⟩)
   go_ret
   exact⟨by rw[HR.out];rfl,rfl⟩
  ·have hr:fade n=n-1:=by unfold fade;rw[if_pos ⟨h0,h1⟩,if_pos h2]
   have HR:=Lib.hid hr;clear hr
   go_enter Tryz.func104,Tryz.ntmps104
   go_wp2_with (go_at_call 66;refine(impl_ScoreOk_c _ _).mono ?_;rintro e w' ⟨rfl,rfl⟩)
   go_ret
   exact⟨by rw[HR.out];rfl,rfl⟩
 ·have hr:fade n=0:=by unfold fade;rw[if_neg h]
  have HR:=Lib.hid hr;clear hr
  have hs:=score_no h
  go_enter Tryz.func104,Tryz.ntmps104
  go_wp2_with (go_at_call 66;refine(impl_ScoreOk_c _ _).mono ?_;rintro e w' ⟨rfl,rfl⟩)
  go_ret
  exact⟨by rw[HR.out];rfl,rfl⟩
theorem impl_Standing_c(n:Int)(g:Bool)(w:World) :
 Calls Tryz.prog 134 #[.int .i64 n,.bool g] w fun e w'=>e=.returned (.bool (scoreOk n&&decide (20≤n)&&g))∧w=w':=by
 cases h0:scoreOk n<;>by_cases h1:20≤n
 all_goals
  have H1:=Lib.hid h1
  go_enter Tryz.func134,Tryz.ntmps134
  go_wp2_with (go_at_call 66;refine(impl_ScoreOk_c _ _).mono ?_;rintro e w' ⟨rfl,rfl⟩)
  go_ret
  have h1:=H1.out
  refine⟨?_,rfl⟩
  first
   |(rw[show decide (20≤n)=true by simpa using h1];simp)
   |(rw[show decide (20≤n)=false by simpa using h1];simp)
end Go.Proofs.YtogkbcmfoalpiaaGreat
