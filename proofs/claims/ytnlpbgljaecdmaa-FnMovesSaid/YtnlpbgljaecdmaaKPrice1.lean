/- Ends and NextPpm, of the program and of the reference. -/
import Derived.Test.YtnlpbgljaecdmaaKRule1
import Derived.Test.YtnlpbgljaecdmaaKDiv2
namespace Go.Proofs.Ytnlpbgljaecdmaa
open Go.RowKit
set_option maxHeartbeats 16000000
set_option maxRecDepth 100000
set_option linter.unusedSimpArgs false
set_option linter.unusedVariables false
def clamp(n lo hi:Int):Int:=if n<lo then lo else if hi<n then hi else n
theorem spec_Clamp_c(n lo hi:Int)(w:World) :
 Calls Try.prog 48 #[.int .i64 n,.int .i64 lo,.int .i64 hi] w fun e w'=>e=.returned (.int .i64 (clamp n lo hi))∧w=w':=by
 unfold clamp
 by_cases h1:n<lo<;>by_cases h2:hi<n
 all_goals
  go_enter Try.func48,Try.ntmps48
  go_wp2
  all_goals
   go_ret
   exact⟨by simp[*],rfl⟩
theorem pct_bd{a b:Int}(a1:0≤a)(a2:a≤1125899906842624)(b1:0≤b)(b2:b≤100):0≤a*b∧a*b≤112589990684262400∧a*b/100≤1125899906842624:=by
 have h1:0≤a*b:=Int.mul_nonneg a1 b1
 have h2:a*b≤1125899906842624*b:=Int.mul_le_mul_of_nonneg_right a2 b1
 refine⟨h1,by omega,by omega⟩
theorem impl_MulDiv_pct(a b:Int)(w:World)(a1:0≤a)(a2:a≤1125899906842624)(b1:0≤b)(b2:b≤100) :
 Calls Try.prog 35 #[.int .i64 a,.int .i64 b,.int .i64 100] w fun e w'=>e=.returned (.tuple #[.int .i64 (a*b/100),.bool true])∧Grow w w':=by
 obtain⟨p1,p2,p3⟩:=pct_bd a1 a2 b1 b2
 have hd:divRes a b 100=.tuple #[.int .i64 (a*b/100),.int .i64 (a*b%100),.bool true]:=by unfold divRes;rw[if_pos p3]
 have HD:=Lib.hid hd;clear hd
 go_enter Try.func35,Try.ntmps35
 go_wp2_with fail
 refine(impl_divided_small a b 100 _ a1 a2 b1 (by omega) (by omega) (by omega) (by omega)).mono ?_
 rintro e w1 ⟨rfl,g1⟩
 rw[HD.out]
 go_wp2_with fail
 go_ret2
 exact⟨rfl,g1⟩
theorem spec_MulDiv_pct(a b:Int)(w:World)(a1:0≤a)(a2:a≤1125899906842624)(b1:0≤b)(b2:b≤100) :
 Calls Try.prog 47 #[.int .i64 a,.int .i64 b,.int .i64 100] w fun e w'=>e=.returned (.tuple #[.int .i64 (a*b/100),.bool true])∧Grow w w':=by
 obtain⟨p1,p2,p3⟩:=pct_bd a1 a2 b1 b2
 have hd:divRes a b 100=.tuple #[.int .i64 (a*b/100),.int .i64 (a*b%100),.bool true]:=by unfold divRes;rw[if_pos p3]
 have HD:=Lib.hid hd;clear hd
 have ha:amtOk a=true:=amtOk_true.2 ⟨a1,a2⟩
 have hb:amtOk b=true:=amtOk_true.2 ⟨b1,by omega⟩
 go_enter Try.func47,Try.ntmps47
 go_wp2_with (first
  |(go_at_call 46;refine(spec_AmtOk_c _ _).mono ?_;rintro e w' ⟨rfl,rfl⟩)
  |(go_at_call 64;refine(spec_l01Div_c a b 100 _ a1 a2 b1 (by omega) (by omega) (by omega)).mono ?_;rintro e w' ⟨rfl,rfl⟩;rw[HD.out]))
 go_ret2
 exact⟨rfl,Grow.refl _⟩
def ends1(size lo hi:Int):Int:=if band lo hi&&amtOk size then size*lo/100 else 0
def ends2(size lo hi:Int):Int:=if band lo hi&&amtOk size then size*hi/100 else 0
theorem impl_Ends_c(c:Chan)(lo hi:Int)(w:World) :
 Calls Try.prog 17 #[.agg #[.int .i64 c.id,.int .i64 c.size,.int .i64 c.loc,.int .i64 c.remote,.int .i64 c.base,.int .i64 c.ppm,.int .i64 c.score],.int .i64 lo,.int .i64 hi] w fun e w'=>e=.returned (.tuple #[.int .i64 (ends1 c.size lo hi),.int .i64 (ends2 c.size lo hi)])∧Grow w w':=by
 obtain⟨id,size,loc,remote,base,ppm,score⟩:=c
 by_cases hb:band lo hi=true
 rotate_left
 ·have hb:band lo hi=false:=by simpa using hb
  have h1:ends1 size lo hi=0:=by simp[ends1,hb]
  have h2:ends2 size lo hi=0:=by simp[ends2,hb]
  have H1:=Lib.hid h1;have H2:=Lib.hid h2;clear h1 h2
  go_enter Try.func17,Try.ntmps17
  go_wp2_with (first
   |(go_at_call 15;refine(impl_isBand_c _ _ _).mono ?_;rintro e w' ⟨rfl,rfl⟩)
   |(go_at_call 34;refine(impl_AmtOk_c _ _).mono ?_;rintro e w' ⟨rfl,rfl⟩))
  go_ret2
  exact⟨by rw[H1.out,H2.out];rfl,(Grow.refl _).alloc _ _⟩
 by_cases ha:amtOk size=true
 rotate_left
 ·have ha:amtOk size=false:=by simpa using ha
  have h1:ends1 size lo hi=0:=by simp[ends1,ha]
  have h2:ends2 size lo hi=0:=by simp[ends2,ha]
  have H1:=Lib.hid h1;have H2:=Lib.hid h2;clear h1 h2
  go_enter Try.func17,Try.ntmps17
  go_wp2_with (first
   |(go_at_call 15;refine(impl_isBand_c _ _ _).mono ?_;rintro e w' ⟨rfl,rfl⟩)
   |(go_at_call 34;refine(impl_AmtOk_c _ _).mono ?_;rintro e w' ⟨rfl,rfl⟩))
  go_ret2
  exact⟨by rw[H1.out,H2.out];rfl,(Grow.refl _).alloc _ _⟩
 have h1:ends1 size lo hi=size*lo/100:=by simp[ends1,hb,ha]
 have h2:ends2 size lo hi=size*hi/100:=by simp[ends2,hb,ha]
 have H1:=Lib.hid h1;have H2:=Lib.hid h2;clear h1 h2
 obtain⟨b1,b2,b3⟩:=band_iff.1 hb
 obtain⟨a1,a2⟩:=amtOk_true.1 ha
 go_enter Try.func17,Try.ntmps17
 go_wp2_with (first
  |(go_at_call 15;refine(impl_isBand_c _ _ _).mono ?_;rintro e w' ⟨rfl,rfl⟩)
  |(go_at_call 34;refine(impl_AmtOk_c _ _).mono ?_;rintro e w' ⟨rfl,rfl⟩))
 refine(impl_MulDiv_pct size lo _ a1 a2 b1 (by omega)).mono ?_
 rintro e w1 ⟨rfl,g1⟩
 have c1:=cellGrow g1 (cell_new 1 rfl)
 go_wp2_with fail
 refine(impl_MulDiv_pct size hi _ a1 a2 (by omega) b3).mono ?_
 rintro e w2 ⟨rfl,g2⟩
 go_wp2_with fail
 go_ret2
 exact⟨by rw[H1.out,H2.out];rfl,(((Grow.refl _).alloc _ _).trans g1).trans g2⟩
theorem spec_Ends_c(c:Chan)(lo hi:Int)(w:World) :
 Calls Try.prog 27 #[.agg #[.int .i64 c.id,.int .i64 c.size,.int .i64 c.loc,.int .i64 c.remote,.int .i64 c.base,.int .i64 c.ppm,.int .i64 c.score],.int .i64 lo,.int .i64 hi] w fun e w'=>e=.returned (.tuple #[.int .i64 (ends1 c.size lo hi),.int .i64 (ends2 c.size lo hi)])∧Grow w w':=by
 obtain⟨id,size,loc,remote,base,ppm,score⟩:=c
 by_cases hb:band lo hi=true
 rotate_left
 ·have hb:band lo hi=false:=by simpa using hb
  have h1:ends1 size lo hi=0:=by simp[ends1,hb]
  have h2:ends2 size lo hi=0:=by simp[ends2,hb]
  have H1:=Lib.hid h1;have H2:=Lib.hid h2;clear h1 h2
  go_enter Try.func27,Try.ntmps27
  go_wp2_with (first
   |(go_at_call 26;refine(spec_Band_c _ _ _).mono ?_;rintro e w' ⟨rfl,rfl⟩)
   |(go_at_call 46;refine(spec_AmtOk_c _ _).mono ?_;rintro e w' ⟨rfl,rfl⟩))
  go_ret2
  exact⟨by rw[H1.out,H2.out];rfl,(Grow.refl _).alloc _ _⟩
 by_cases ha:amtOk size=true
 rotate_left
 ·have ha:amtOk size=false:=by simpa using ha
  have h1:ends1 size lo hi=0:=by simp[ends1,ha]
  have h2:ends2 size lo hi=0:=by simp[ends2,ha]
  have H1:=Lib.hid h1;have H2:=Lib.hid h2;clear h1 h2
  go_enter Try.func27,Try.ntmps27
  go_wp2_with (first
   |(go_at_call 26;refine(spec_Band_c _ _ _).mono ?_;rintro e w' ⟨rfl,rfl⟩)
   |(go_at_call 46;refine(spec_AmtOk_c _ _).mono ?_;rintro e w' ⟨rfl,rfl⟩))
  go_ret2
  exact⟨by rw[H1.out,H2.out];rfl,(Grow.refl _).alloc _ _⟩
 have h1:ends1 size lo hi=size*lo/100:=by simp[ends1,hb,ha]
 have h2:ends2 size lo hi=size*hi/100:=by simp[ends2,hb,ha]
 have H1:=Lib.hid h1;have H2:=Lib.hid h2;clear h1 h2
 obtain⟨b1,b2,b3⟩:=band_iff.1 hb
 obtain⟨a1,a2⟩:=amtOk_true.1 ha
 go_enter Try.func27,Try.ntmps27
 go_wp2_with (first
  |(go_at_call 26;refine(spec_Band_c _ _ _).mono ?_;rintro e w' ⟨rfl,rfl⟩)
  |(go_at_call 46;refine(spec_AmtOk_c _ _).mono ?_;rintro e w' ⟨rfl,rfl⟩))
 refine(spec_MulDiv_pct size lo _ a1 a2 b1 (by omega)).mono ?_
 rintro e w1 ⟨rfl,g1⟩
 have c1:=cellGrow g1 (cell_new 1 rfl)
 go_wp2_with fail
 refine(spec_MulDiv_pct size hi _ a1 a2 (by omega) b3).mono ?_
 rintro e w2 ⟨rfl,g2⟩
 go_wp2_with fail
 go_ret2
 exact⟨by rw[H1.out,H2.out];rfl,(((Grow.refl _).alloc _ _).trans g1).trans g2⟩
end Go.Proofs.Ytnlpbgljaecdmaa
