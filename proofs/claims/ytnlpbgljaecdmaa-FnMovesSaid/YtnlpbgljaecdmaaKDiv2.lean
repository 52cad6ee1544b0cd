/- Quotients of products: the program's, where the product is below 2^64; MulDiv of both at such numbers. -/
import Derived.Test.YtnlpbgljaecdmaaKDiv1
import Derived.Test.YtnlpbgljaecdmaaKShelf
namespace Go.Proofs.Ytnlpbgljaecdmaa
open Go.RowKit
set_option maxHeartbeats 16000000
set_option maxRecDepth 100000
set_option linter.unusedSimpArgs false
set_option linter.unusedVariables false
theorem Div64_low_c(lo y:Int)(w:World)(h0:0≤lo)(h1:lo≤18446744073709551615)(y0:1≤y)(y1:y≤18446744073709551615) :
 Calls Try.prog 68 #[.int .u64 0,.int .u64 lo,.int .u64 y] w fun e w'=>e=.returned (.tuple #[.int .u64 (lo/y),.int .u64 (lo%y)])∧∃n,w'=w.drewN n:=by
 have hy:(y==0)=false:=by simp;omega
 have hy2:y≠0:=by omega
 have hy3:decide (y≤0)=false:=by simp;omega
 go_enter Try.func68,Try.ntmps68
 go_wp2_with fail
 go_quiet (fail)
 go_wp2_with fail
 go_ret2
 exact⟨rfl,_,rfl⟩
theorem Mul64_small(a b:Int)(w:World)(a1:0≤a)(b1:0≤b)(a2:a≤1125899906842624)(b2:b≤1125899906842624)(hs:a*b≤18446744073709551615) :
 Calls Try.prog 67 #[.int .u64 a,.int .u64 b] w fun e w'=>e=.returned (.tuple #[.int .u64 0,.int .u64 (a*b)])∧w'=w:=by
 obtain⟨A,rfl⟩:=Int.eq_ofNat_of_zero_le a1
 obtain⟨B,rfl⟩:=Int.eq_ofNat_of_zero_le b1
 have hAB:A*B≤18446744073709551615:=by
  have:((A*B:Nat):Int)≤18446744073709551615:=by rw[Int.natCast_mul];exact hs
  omega
 refine(Try.bits_Mul64 A B (by omega) (by omega) w).mono ?_
 rintro e w' ⟨rfl,rfl⟩
 refine⟨?_,rfl⟩
 rw[Nat.div_eq_of_lt (by omega),Nat.mod_eq_of_lt (by omega),Int.natCast_mul]
 rfl
theorem impl_divided_small(a b c:Int)(w:World)(a1:0≤a)(a2:a≤1125899906842624)(b1:0≤b)(b2:b≤1125899906842624)(c1:1≤c)(c2:c≤1125899906842624)(hs:a*b≤18446744073709551615) :
 Calls Try.prog 55 #[.int .i64 a,.int .i64 b,.int .i64 c] w fun e w'=>e=.returned (divRes a b c)∧Grow w w':=by
 have hab:0≤a*b:=Int.mul_nonneg a1 b1
 have hq0:0≤a*b/c:=Int.ediv_nonneg hab (by omega)
 have hq1:a*b/c≤18446744073709551615:=Int.le_trans (Int.ediv_le_self _ hab) hs
 have hr0:0≤a*b%c:=Int.emod_nonneg _ (by omega)
 have hr1:a*b%c≤1125899906842624:=by have:=Int.emod_lt_of_pos (a*b) (show 0<c by omega);omega
 have ha:amtOk a=true:=amtOk_true.2 ⟨a1,a2⟩
 have hb:amtOk b=true:=amtOk_true.2 ⟨b1,b2⟩
 have hc:inB c 1 1125899906842624=true:=inB_true.2 ⟨c1,c2⟩
 have hd:decide (c≤(0:Int))=false:=by simp;omega
 have HS:=Lib.hid hs;clear hs
 by_cases hbig:a*b/c≤1125899906842624
 all_goals
  have HBIG:Hid _:=hbig
 ·have hd2:decide ((1125899906842624:Int)<a*b/c)=false:=by simp;omega
  go_enter Try.func55,Try.ntmps55
  go_wp2_with (first
   |(go_at_call 34;refine(impl_AmtOk_c _ _).mono ?_;rintro e w' ⟨rfl,rfl⟩)
   |(go_at_call 16;refine(in_c _ _ _ _).mono ?_;rintro e w' ⟨rfl,rfl⟩)
   |(go_at_call 67;refine(Mul64_small a b _ a1 b1 a2 b2 HS.out).mono ?_;rintro e w' ⟨rfl,rfl⟩)
   |(go_at_call 68;refine(Div64_low_c _ _ _ (by assumption) HS.out (by omega) (by omega)).mono ?_;rintro e w' ⟨rfl,n,rfl⟩))
  go_ret3
  exact⟨by unfold divRes;rw[if_pos (by have:_:=HBIG.out;omega)];rfl,(Grow.refl _).drewN _⟩
 ·have hd2:decide ((1125899906842624:Int)<a*b/c)=true:=by simp;omega
  go_enter Try.func55,Try.ntmps55
  go_wp2_with (first
   |(go_at_call 34;refine(impl_AmtOk_c _ _).mono ?_;rintro e w' ⟨rfl,rfl⟩)
   |(go_at_call 16;refine(in_c _ _ _ _).mono ?_;rintro e w' ⟨rfl,rfl⟩)
   |(go_at_call 67;refine(Mul64_small a b _ a1 b1 a2 b2 HS.out).mono ?_;rintro e w' ⟨rfl,rfl⟩)
   |(go_at_call 68;refine(Div64_low_c _ _ _ (by assumption) HS.out (by omega) (by omega)).mono ?_;rintro e w' ⟨rfl,n,rfl⟩))
  go_ret3
  exact⟨by unfold divRes;rw[if_neg (by have:_:=HBIG.out;omega)];rfl,(Grow.refl _).drewN _⟩
end Go.Proofs.Ytnlpbgljaecdmaa
