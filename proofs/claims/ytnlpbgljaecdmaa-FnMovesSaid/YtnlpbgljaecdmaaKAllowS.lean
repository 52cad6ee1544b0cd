/- Allow, walked. -/
import Derived.Test.YtnlpbgljaecdmaaKNum
namespace Go.Proofs.Ytnlpbgljaecdmaa
open Go.RowKit
set_option maxHeartbeats 16000000
set_option maxRecDepth 100000
set_option linter.unusedSimpArgs false
set_option linter.unusedVariables false
theorem spec_Allow_c(size few all sf sa amt:Int)(good:Bool)(w:World) :
 Calls Try.prog 99 #[.int .i64 size,.int .i64 few,.int .i64 all,.int .i64 sf,.int .i64 sa,.int .i64 amt,.bool good] w fun e w'=>e=.returned (.int .i64 (allow size few all sf sa amt good))∧Grow w w':=by
 by_cases h0:amtOk size=true
 rotate_left
 ·have hr:allow size few all sf sa amt good=0:=by simp[allow,allowIn,h0]
  have HR:=Lib.hid hr;clear hr
  have h0:amtOk size=false:=by simpa using h0
  go_enter Try.func99,Try.ntmps99
  go_wp2_with (go_at_call 46;refine(spec_AmtOk_c _ _).mono ?_;rintro e w' ⟨rfl,rfl⟩)
  go_ret
  exact⟨by rw[HR.out];rfl,Grow.refl _⟩
 by_cases h1:amtOk few=true
 rotate_left
 ·have hr:allow size few all sf sa amt good=0:=by simp[allow,allowIn,h1]
  have HR:=Lib.hid hr;clear hr
  have h1:amtOk few=false:=by simpa using h1
  go_enter Try.func99,Try.ntmps99
  go_wp2_with (go_at_call 46;refine(spec_AmtOk_c _ _).mono ?_;rintro e w' ⟨rfl,rfl⟩)
  go_ret
  exact⟨by rw[HR.out];rfl,Grow.refl _⟩
 by_cases h2:amtOk all=true
 rotate_left
 ·have hr:allow size few all sf sa amt good=0:=by simp[allow,allowIn,h2]
  have HR:=Lib.hid hr;clear hr
  have h2:amtOk all=false:=by simpa using h2
  go_enter Try.func99,Try.ntmps99
  go_wp2_with (go_at_call 46;refine(spec_AmtOk_c _ _).mono ?_;rintro e w' ⟨rfl,rfl⟩)
  go_ret
  exact⟨by rw[HR.out];rfl,Grow.refl _⟩
 by_cases h3:amtOk amt=true
 rotate_left
 ·have hr:allow size few all sf sa amt good=0:=by simp[allow,allowIn,h3]
  have HR:=Lib.hid hr;clear hr
  have h3:amtOk amt=false:=by simpa using h3
  go_enter Try.func99,Try.ntmps99
  go_wp2_with (go_at_call 46;refine(spec_AmtOk_c _ _).mono ?_;rintro e w' ⟨rfl,rfl⟩)
  go_ret
  exact⟨by rw[HR.out];rfl,Grow.refl _⟩
 by_cases h4:0≤sf
 rotate_left
 ·have hr:allow size few all sf sa amt good=0:=by simp[allow,allowIn,h4]
  have HR:=Lib.hid hr;clear hr
  go_enter Try.func99,Try.ntmps99
  go_wp2_with (go_at_call 46;refine(spec_AmtOk_c _ _).mono ?_;rintro e w' ⟨rfl,rfl⟩)
  go_ret
  exact⟨by rw[HR.out];rfl,Grow.refl _⟩
 by_cases h5:0≤sa
 rotate_left
 ·have hr:allow size few all sf sa amt good=0:=by simp[allow,allowIn,h5]
  have HR:=Lib.hid hr;clear hr
  go_enter Try.func99,Try.ntmps99
  go_wp2_with (go_at_call 46;refine(spec_AmtOk_c _ _).mono ?_;rintro e w' ⟨rfl,rfl⟩)
  go_ret
  exact⟨by rw[HR.out];rfl,Grow.refl _⟩
 by_cases h6:few≤all
 rotate_left
 ·have hr:allow size few all sf sa amt good=0:=by simp[allow,allowIn,h6]
  have HR:=Lib.hid hr;clear hr
  go_enter Try.func99,Try.ntmps99
  go_wp2_with (go_at_call 46;refine(spec_AmtOk_c _ _).mono ?_;rintro e w' ⟨rfl,rfl⟩)
  go_ret
  exact⟨by rw[HR.out];rfl,Grow.refl _⟩
 by_cases h7:sf≤sa
 rotate_left
 ·have hr:allow size few all sf sa amt good=0:=by simp[allow,allowIn,h7]
  have HR:=Lib.hid hr;clear hr
  go_enter Try.func99,Try.ntmps99
  go_wp2_with (go_at_call 46;refine(spec_AmtOk_c _ _).mono ?_;rintro e w' ⟨rfl,rfl⟩)
  go_ret
  exact⟨by rw[HR.out];rfl,Grow.refl _⟩
 have hv:allowIn size few all sf sa amt=true:=by simp[allowIn,h0,h1,h2,h3,h4,h5,h6,h7]
 have hall:allow size few all sf sa amt good=if sa<10∧all+amt≤size then (if sf<5∧few+amt≤size/2 then 1 else if good then 2 else 0)else 0:=by
  unfold allow;rw[if_pos hv]
 clear hv
 obtain⟨k0,k0'⟩:=amtOk_true.1 h0
 obtain⟨k1,k1'⟩:=amtOk_true.1 h1
 obtain⟨k2,k2'⟩:=amtOk_true.1 h2
 obtain⟨k3,k3'⟩:=amtOk_true.1 h3
 by_cases r0:sa<10
 rotate_left
 ·have hr:allow size few all sf sa amt good=0:=by rw[hall];simp[r0]
  have HR:=Lib.hid hr;clear hr hall
  go_enter Try.func99,Try.ntmps99
  go_wp2_with (go_at_call 46;refine(spec_AmtOk_c _ _).mono ?_;rintro e w' ⟨rfl,rfl⟩)
  go_ret
  exact⟨by rw[HR.out];rfl,Grow.refl _⟩
 by_cases r1:all+amt≤size
 rotate_left
 ·have hr:allow size few all sf sa amt good=0:=by rw[hall];simp[r0,r1]
  have HR:=Lib.hid hr;clear hr hall
  go_enter Try.func99,Try.ntmps99
  go_wp2_with (go_at_call 46;refine(spec_AmtOk_c _ _).mono ?_;rintro e w' ⟨rfl,rfl⟩)
  go_ret
  exact⟨by rw[HR.out];rfl,Grow.refl _⟩
 by_cases r2:sf<5
 rotate_left
 ·cases good
  ·have hr:allow size few all sf sa amt false=0:=by rw[hall];simp[r0,r1,r2]
   have HR:=Lib.hid hr;clear hr hall
   go_enter Try.func99,Try.ntmps99
   go_wp2_with (go_at_call 46;refine(spec_AmtOk_c _ _).mono ?_;rintro e w' ⟨rfl,rfl⟩)
   go_ret
   exact⟨by rw[HR.out];rfl,Grow.refl _⟩
  ·have hr:allow size few all sf sa amt true=2:=by rw[hall];simp[r0,r1,r2]
   have HR:=Lib.hid hr;clear hr hall
   go_enter Try.func99,Try.ntmps99
   go_wp2_with (go_at_call 46;refine(spec_AmtOk_c _ _).mono ?_;rintro e w' ⟨rfl,rfl⟩)
   go_ret
   exact⟨by rw[HR.out];rfl,Grow.refl _⟩
 by_cases r3:few+amt≤size/2
 rotate_left
 ·cases good
  ·have hr:allow size few all sf sa amt false=0:=by rw[hall];simp[r0,r1,r2,r3]
   have HR:=Lib.hid hr;clear hr hall
   go_enter Try.func99,Try.ntmps99
   go_wp2_with (go_at_call 46;refine(spec_AmtOk_c _ _).mono ?_;rintro e w' ⟨rfl,rfl⟩)
   go_ret
   exact⟨by rw[HR.out];rfl,Grow.refl _⟩
  ·have hr:allow size few all sf sa amt true=2:=by rw[hall];simp[r0,r1,r2,r3]
   have HR:=Lib.hid hr;clear hr hall
   go_enter Try.func99,Try.ntmps99
   go_wp2_with (go_at_call 46;refine(spec_AmtOk_c _ _).mono ?_;rintro e w' ⟨rfl,rfl⟩)
   go_ret
   exact⟨by rw[HR.out];rfl,Grow.refl _⟩
 have hr:allow size few all sf sa amt good=1:=by rw[hall];simp[r0,r1,r2,r3]
 have HR:=Lib.hid hr;clear hr hall
 go_enter Try.func99,Try.ntmps99
 go_wp2_with (go_at_call 46;refine(spec_AmtOk_c _ _).mono ?_;rintro e w' ⟨rfl,rfl⟩)
 go_ret
 exact⟨by rw[HR.out];rfl,Grow.refl _⟩
end Go.Proofs.Ytnlpbgljaecdmaa
