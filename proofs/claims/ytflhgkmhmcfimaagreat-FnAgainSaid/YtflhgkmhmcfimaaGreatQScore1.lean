/- Scores, of the program and of the reference. -/
import Derived.Test.YtflhgkmhmcfimaaGreatQNum
namespace Go.Proofs.YtflhgkmhmcfimaaGreat
set_option maxRecDepth 100000
open Tryz
open Go.RowKit
set_option linter.unusedSimpArgs false
set_option linter.unusedVariables false
def mr(n:Int):Bool:=aI n (-100) 100
def lR(n:Int):Int:=if -100<=n/\n<=100 then (if n+10<=100 then n+10 else 100)else 0
def lS(n:Int):Int:=if -100<=n/\n<=100 then (if -100<=n-15 then n-15 else -100)else 0
def lA(n:Int):Int:=if -100<=n/\n<=100 then (if 0<n then n-1 else if n<0 then n+1 else 0)else 0
theorem wz(n:Int)(w:World) :
 Calls prog 192 #[.int .i64 n] w fun e w'=>e=.returned (.bool (mr n))/\w=w':=by
 go_enter func192,ntmps192
 go_wp2_with (go_at_call 92;refine(Kw _ _ _ _).mono ?_;rintro e w' ⟨rfl,rfl⟩)
 go_ret
 exact⟨rfl,rfl⟩
theorem R9(n:Int)(w:World) :
 Calls prog 244 #[.int .i64 n] w fun e w'=>e=.returned (.bool (mr n))/\w=w':=by
 unfold mr aI
 by_cases V:-100<=n<;>by_cases h2:n<=100
 all_goals
  go_enter func244,ntmps244
  go_wp2
  go_ret
  exact⟨by simp[V,h2],rfl⟩
theorem JK{n:Int}(h:¬(-100<=n/\n<=100)):mr n=false:=by unfold mr;rw[Bool.eq_false_iff];intro h';exact h (cJ.1 h')
theorem JL{n:Int}(h:-100<=n/\n<=100):mr n=true:=cJ.2 h
theorem R4(n:Int)(w:World) :
 Calls prog 218 #[.int .i64 n] w fun e w'=>e=.returned (.int .i64 (lR n))/\w=w':=by
 by_cases h:-100<=n/\n<=100
 ·by_cases h2:n+10<=100
  all_goals
   have hr:lR n=if n+10<=100 then n+10 else 100:=by unfold lR;rw[if_pos h]
   have HR:=Lib.hid hr;clear hr
   have hs:=JL h
   obtain⟨h0,V⟩:=h
   have H2:=Lib.hid h2
   go_enter func218,ntmps218
   go_wp2_with (go_at_call 192;refine(wz _ _).mono ?_;rintro e w' ⟨rfl,rfl⟩)
   go_ret
   refine⟨?_,rfl⟩
   have h2:=H2.out
   rw[HR.out]
   first
    |(rw[if_pos (by omega)];rfl)
    |(rw[if_neg (by omega)];rfl)
 have hr:lR n=0:=by unfold lR;rw[if_neg h]
 have HR:=Lib.hid hr;clear hr
 have hs:=JK h
 go_enter func218,ntmps218
 go_wp2_with (go_at_call 192;refine(wz _ _).mono ?_;rintro e w' ⟨rfl,rfl⟩)
 go_ret
 exact⟨by rw[HR.out];rfl,rfl⟩
theorem R6(n:Int)(w:World) :
 Calls prog 219 #[.int .i64 n] w fun e w'=>e=.returned (.int .i64 (lS n))/\w=w':=by
 by_cases h:-100<=n/\n<=100
 ·by_cases h2:-100<=n-15
  all_goals
   have hr:lS n=if -100<=n-15 then n-15 else -100:=by unfold lS;rw[if_pos h]
   have HR:=Lib.hid hr;clear hr
   have hs:=JL h
   obtain⟨h0,V⟩:=h
   have H2:=Lib.hid h2
   go_enter func219,ntmps219
   go_wp2_with (go_at_call 192;refine(wz _ _).mono ?_;rintro e w' ⟨rfl,rfl⟩)
   go_ret
   refine⟨?_,rfl⟩
   have h2:=H2.out
   rw[HR.out]
   first
    |(rw[if_pos (by omega)];rfl)
    |(rw[if_neg (by omega)];rfl)
 have hr:lS n=0:=by unfold lS;rw[if_neg h]
 have HR:=Lib.hid hr;clear hr
 have hs:=JK h
 go_enter func219,ntmps219
 go_wp2_with (go_at_call 192;refine(wz _ _).mono ?_;rintro e w' ⟨rfl,rfl⟩)
 go_ret
 exact⟨by rw[HR.out];rfl,rfl⟩
theorem R8(n:Int)(w:World) :
 Calls prog 220 #[.int .i64 n] w fun e w'=>e=.returned (.int .i64 (lA n))/\w=w':=by
 by_cases h:-100<=n/\n<=100
 ·have hs:=JL h
  obtain⟨h0,V⟩:=h
  rcases Int.lt_trichotomy n 0 with h2|h2|h2
  ·have hr:lA n=n+1:=by unfold lA;rw[if_pos ⟨h0,V⟩,if_neg (by omega),if_pos h2]
   have HR:=Lib.hid hr;clear hr
   go_enter func220,ntmps220
   go_wp2_with (go_at_call 192;refine(wz _ _).mono ?_;rintro e w' ⟨rfl,rfl⟩)
   go_ret
   exact⟨by rw[HR.out];rfl,rfl⟩
  ·subst h2
   have hr:lA 0=0:=by unfold lA;simp
   have HR:=Lib.hid hr;clear hr
   go_enter func220,ntmps220
   go_wp2_with (go_at_call 192;refine(wz _ _).mono ?_;rintro e w' ⟨rfl,rfl⟩)
   go_ret
   exact⟨by rw[HR.out];rfl,rfl⟩
  have hr:lA n=n-1:=by unfold lA;rw[if_pos ⟨h0,V⟩,if_pos h2]
  have HR:=Lib.hid hr;clear hr
  go_enter func220,ntmps220
  go_wp2_with (go_at_call 192;refine(wz _ _).mono ?_;rintro e w' ⟨rfl,rfl⟩)
  go_ret
  exact⟨by rw[HR.out];rfl,rfl⟩
 have hr:lA n=0:=by unfold lA;rw[if_neg h]
 have HR:=Lib.hid hr;clear hr
 have hs:=JK h
 go_enter func220,ntmps220
 go_wp2_with (go_at_call 192;refine(wz _ _).mono ?_;rintro e w' ⟨rfl,rfl⟩)
 go_ret
 exact⟨by rw[HR.out];rfl,rfl⟩
theorem RZ(n:Int)(g:Bool)(w:World) :
 Calls prog 267 #[.int .i64 n,.bool g] w fun e w'=>e=.returned (.bool (mr n&&decide (20<=n)&&g))/\w=w':=by
 cases h0:mr n<;>by_cases V:20<=n
 all_goals
  have H1:=Lib.hid V
  go_enter func267,ntmps267
  go_wp2_with (go_at_call 192;refine(wz _ _).mono ?_;rintro e w' ⟨rfl,rfl⟩)
  go_ret
  have V:=H1.out
  refine⟨?_,rfl⟩
  first
   |(rw[show decide (20<=n)=true by simpa using V];simp)
   |(rw[show decide (20<=n)=false by simpa using V];simp)
end Go.Proofs.YtflhgkmhmcfimaaGreat
