/- Texts joined: Num, Allow0, AllowI. -/
import Derived.Test.YtflhgkmhmcfimaaGreatProg
import Derived.Test.YtflhgkmhmcfimaaGreatQSup
namespace Go.Proofs.YtflhgkmhmcfimaaGreat
set_option maxRecDepth 100000
open Tryz
open Go.RowKit
set_option linter.unusedSimpArgs false
set_option linter.unusedVariables false
def aI(n lo hi:Int):Bool:=decide (lo<=n)&&decide (n<=hi)
theorem cJ{n lo hi:Int}:aI n lo hi=true↔lo<=n/\n<=hi:=by simp[aI]
theorem Kv{n lo hi:Int}:aI n lo hi=false↔n<lo\/hi<n:=by
 unfold aI;rw[Bool.and_eq_false_iff];simp
theorem Kw(n lo hi:Int)(w:World) :
 Calls prog 92 #[.int .i64 n,.int .i64 lo,.int .i64 hi] w fun e w'=>e=.returned (.bool (aI n lo hi))/\w=w':=by
 unfold aI
 by_cases V:lo<=n<;>by_cases h2:n<=hi
 all_goals
  go_enter func92,ntmps92
  go_wp2
  go_ret
  exact⟨by simp[V,h2],rfl⟩
def bb(n:Int):Bool:=aI n 0 1125899906842624
theorem cY{n:Int}:bb n=true↔0<=n/\n<=1125899906842624:=cJ
theorem oD(n:Int)(w:World) :
 Calls prog 189 #[.int .i64 n] w fun e w'=>e=.returned (.bool (bb n))/\w=w':=by
 go_enter func189,ntmps189
 go_wp2_with fail
 refine(Kw _ _ _ _).mono ?_
 rintro e w' ⟨rfl,rfl⟩
 go_wp2_with fail
 go_ret
 exact⟨rfl,rfl⟩
theorem oE(n:Int)(w:World) :
 Calls prog 242 #[.int .i64 n] w fun e w'=>e=.returned (.bool (bb n))/\w=w':=by
 unfold bb aI
 by_cases V:0<=n<;>by_cases h2:n<=1125899906842624
 all_goals
  go_enter func242,ntmps242
  go_wp2
  go_ret
  exact⟨by simp[V,h2],rfl⟩
end Go.Proofs.YtflhgkmhmcfimaaGreat
namespace Go.Proofs.YtflhgkmhmcfimaaGreat
set_option maxRecDepth 100000
open Tryz
open Go.RowKit
set_option linter.unusedSimpArgs false
set_option linter.unusedVariables false
def mo(size ez all sf sa af:Int):Bool:=bb size&&bb ez&&bb all&&bb af&&decide (0<=sf)&&decide (0<=sa)&&decide (ez<=all)&&decide (sf<=sa)
def allow(size ez all sf sa af:Int)(dQ:Bool):Int:=
 if mo size ez all sf sa af then
  if sa<10/\all+af<=size then (if sf<5/\ez+af<=size/2 then 1 else if dQ then 2 else 0)else 0
 else 0
end Go.Proofs.YtflhgkmhmcfimaaGreat
namespace Go.Proofs.YtflhgkmhmcfimaaGreat
open Tryz
open Go.RowKit
set_option maxHeartbeats 16000000
set_option maxRecDepth 100000
set_option linter.unusedSimpArgs false
set_option linter.unusedVariables false
theorem RD(size ez all sf sa af:Int)(dQ:Bool)(w:World) :
 Calls prog 266 #[.int .i64 size,.int .i64 ez,.int .i64 all,.int .i64 sf,.int .i64 sa,.int .i64 af,.bool dQ] w fun e w'=>e=.returned (.int .i64 (allow size ez all sf sa af dQ))/\cZ w w':=by
 by_cases h0:bb size=true
 rotate_left
 ·have hr:allow size ez all sf sa af dQ=0:=by simp[allow,mo,h0]
  have HR:=Lib.hid hr;clear hr
  have h0:bb size=false:=by simpa using h0
  go_enter func266,ntmps266
  go_wp2_with (go_at_call 189;refine(oD _ _).mono ?_;rintro e w' ⟨rfl,rfl⟩)
  go_ret
  exact⟨by rw[HR.out];rfl,cZ.refl _⟩
 by_cases V:bb ez=true
 rotate_left
 ·have hr:allow size ez all sf sa af dQ=0:=by simp[allow,mo,V]
  have HR:=Lib.hid hr;clear hr
  have V:bb ez=false:=by simpa using V
  go_enter func266,ntmps266
  go_wp2_with (go_at_call 189;refine(oD _ _).mono ?_;rintro e w' ⟨rfl,rfl⟩)
  go_ret
  exact⟨by rw[HR.out];rfl,cZ.refl _⟩
 by_cases h2:bb all=true
 rotate_left
 ·have hr:allow size ez all sf sa af dQ=0:=by simp[allow,mo,h2]
  have HR:=Lib.hid hr;clear hr
  have h2:bb all=false:=by simpa using h2
  go_enter func266,ntmps266
  go_wp2_with (go_at_call 189;refine(oD _ _).mono ?_;rintro e w' ⟨rfl,rfl⟩)
  go_ret
  exact⟨by rw[HR.out];rfl,cZ.refl _⟩
 by_cases h3:bb af=true
 rotate_left
 ·have hr:allow size ez all sf sa af dQ=0:=by simp[allow,mo,h3]
  have HR:=Lib.hid hr;clear hr
  have h3:bb af=false:=by simpa using h3
  go_enter func266,ntmps266
  go_wp2_with (go_at_call 189;refine(oD _ _).mono ?_;rintro e w' ⟨rfl,rfl⟩)
  go_ret
  exact⟨by rw[HR.out];rfl,cZ.refl _⟩
 by_cases h4:0<=sf
 rotate_left
 ·have hr:allow size ez all sf sa af dQ=0:=by simp[allow,mo,h4]
  have HR:=Lib.hid hr;clear hr
  go_enter func266,ntmps266
  go_wp2_with (go_at_call 189;refine(oD _ _).mono ?_;rintro e w' ⟨rfl,rfl⟩)
  go_ret
  exact⟨by rw[HR.out];rfl,cZ.refl _⟩
 by_cases h5:0<=sa
 rotate_left
 ·have hr:allow size ez all sf sa af dQ=0:=by simp[allow,mo,h5]
  have HR:=Lib.hid hr;clear hr
  go_enter func266,ntmps266
  go_wp2_with (go_at_call 189;refine(oD _ _).mono ?_;rintro e w' ⟨rfl,rfl⟩)
  go_ret
  exact⟨by rw[HR.out];rfl,cZ.refl _⟩
 by_cases h6:ez<=all
 rotate_left
 ·have hr:allow size ez all sf sa af dQ=0:=by simp[allow,mo,h6]
  have HR:=Lib.hid hr;clear hr
  go_enter func266,ntmps266
  go_wp2_with (go_at_call 189;refine(oD _ _).mono ?_;rintro e w' ⟨rfl,rfl⟩)
  go_ret
  exact⟨by rw[HR.out];rfl,cZ.refl _⟩
 by_cases h7:sf<=sa
 rotate_left
 ·have hr:allow size ez all sf sa af dQ=0:=by simp[allow,mo,h7]
  have HR:=Lib.hid hr;clear hr
  go_enter func266,ntmps266
  go_wp2_with (go_at_call 189;refine(oD _ _).mono ?_;rintro e w' ⟨rfl,rfl⟩)
  go_ret
  exact⟨by rw[HR.out];rfl,cZ.refl _⟩
 have hv:mo size ez all sf sa af=true:=by simp[mo,h0,V,h2,h3,h4,h5,h6,h7]
 have bB:allow size ez all sf sa af dQ=if sa<10/\all+af<=size then (if sf<5/\ez+af<=size/2 then 1 else if dQ then 2 else 0)else 0:=by
  unfold allow;rw[if_pos hv]
 clear hv
 obtain⟨k0,RE⟩:=cY.1 h0
 obtain⟨k1,RF⟩:=cY.1 V
 obtain⟨k2,RG⟩:=cY.1 h2
 obtain⟨k3,DA⟩:=cY.1 h3
 by_cases r0:sa<10
 rotate_left
 ·have hr:allow size ez all sf sa af dQ=0:=by rw[bB];simp[r0]
  have HR:=Lib.hid hr;clear hr bB
  go_enter func266,ntmps266
  go_wp2_with (go_at_call 189;refine(oD _ _).mono ?_;rintro e w' ⟨rfl,rfl⟩)
  go_ret
  exact⟨by rw[HR.out];rfl,cZ.refl _⟩
 by_cases r1:all+af<=size
 rotate_left
 ·have hr:allow size ez all sf sa af dQ=0:=by rw[bB];simp[r0,r1]
  have HR:=Lib.hid hr;clear hr bB
  go_enter func266,ntmps266
  go_wp2_with (go_at_call 189;refine(oD _ _).mono ?_;rintro e w' ⟨rfl,rfl⟩)
  go_ret
  exact⟨by rw[HR.out];rfl,cZ.refl _⟩
 by_cases r2:sf<5
 rotate_left
 ·cases dQ
  ·have hr:allow size ez all sf sa af false=0:=by rw[bB];simp[r0,r1,r2]
   have HR:=Lib.hid hr;clear hr bB
   go_enter func266,ntmps266
   go_wp2_with (go_at_call 189;refine(oD _ _).mono ?_;rintro e w' ⟨rfl,rfl⟩)
   go_ret
   exact⟨by rw[HR.out];rfl,cZ.refl _⟩
  have hr:allow size ez all sf sa af true=2:=by rw[bB];simp[r0,r1,r2]
  have HR:=Lib.hid hr;clear hr bB
  go_enter func266,ntmps266
  go_wp2_with (go_at_call 189;refine(oD _ _).mono ?_;rintro e w' ⟨rfl,rfl⟩)
  go_ret
  exact⟨by rw[HR.out];rfl,cZ.refl _⟩
 by_cases r3:ez+af<=size/2
 rotate_left
 ·cases dQ
  ·have hr:allow size ez all sf sa af false=0:=by rw[bB];simp[r0,r1,r2,r3]
   have HR:=Lib.hid hr;clear hr bB
   go_enter func266,ntmps266
   go_wp2_with (go_at_call 189;refine(oD _ _).mono ?_;rintro e w' ⟨rfl,rfl⟩)
   go_ret
   exact⟨by rw[HR.out];rfl,cZ.refl _⟩
  have hr:allow size ez all sf sa af true=2:=by rw[bB];simp[r0,r1,r2,r3]
  have HR:=Lib.hid hr;clear hr bB
  go_enter func266,ntmps266
  go_wp2_with (go_at_call 189;refine(oD _ _).mono ?_;rintro e w' ⟨rfl,rfl⟩)
  go_ret
  exact⟨by rw[HR.out];rfl,cZ.refl _⟩
 have hr:allow size ez all sf sa af dQ=1:=by rw[bB];simp[r0,r1,r2,r3]
 have HR:=Lib.hid hr;clear hr bB
 go_enter func266,ntmps266
 go_wp2_with (go_at_call 189;refine(oD _ _).mono ?_;rintro e w' ⟨rfl,rfl⟩)
 go_ret
 exact⟨by rw[HR.out];rfl,cZ.refl _⟩
end Go.Proofs.YtflhgkmhmcfimaaGreat
