/- Quotients of products: the reference's, bit by bit. -/
import Derived.Test.YtflhgkmhmcfimaaGreatQNum
import Derived.Lib.RabinKarpLaws
namespace Go.Proofs.YtflhgkmhmcfimaaGreat
open Tryz
open Go.RowKit
set_option maxHeartbeats 16000000
set_option maxRecDepth 100000
set_option linter.unusedSimpArgs false
set_option linter.unusedVariables false
theorem XN(a:Int)(m:Nat)(h0:0<=a)(V:a<=1125899906842624):bits BinOp.and IntKind.i64 (a/2 ^ m) 1=a/2 ^ m%2:=by
 obtain⟨A,rfl⟩:=Int.eq_ofNat_of_zero_le h0;have h2:A/2 ^ m<=A:=Nat.div_le_self _ _;have:=and_one (A/2 ^ m) (by omega);have e:((A/2 ^ m:Nat):Int)=(A:Int)/2 ^ m:=by simp
 rw[e]at this;rw[this];have e2:((A/2 ^ m%2:Nat):Int)=((A/2 ^ m:Nat):Int)%2:=by simp
 rw[e2,e]
theorem XO(a:Int)(m:Nat):a/2 ^ m=2*(a/2 ^ (m+1))+a/2 ^ m%2:=by
 have h:a/2 ^ (m+1)=a/2 ^ m/2:=by
  rw[Int.pow_succ,Int.ediv_ediv_of_nonneg (Int.pow_nonneg (by omega))]
 rw[h];omega
theorem XP{Q R c X X1 b:Int}(hX:X=2*X1+1)(h:Q*c+R=X1*b):(2*Q+b/c)*c+(2*R+b%c)=X*b:=by
 have hb:b/c*c+b%c=b:=by rw[Int.mul_comm];exact Int.mul_ediv_add_emod b c
 have e1:(2*Q+b/c)*c=2*(Q*c)+b/c*c:=by rw[Int.add_mul,Int.mul_assoc]
 have e2:X*b=2*(X1*b)+b:=by rw[hX,Int.add_mul,Int.mul_assoc,Int.one_mul]
 rw[e1,e2,<-h];omega
theorem XQ{Q R c X X1 b:Int}(hX:X=2*X1)(h:Q*c+R=X1*b):(2*Q)*c+2*R=X*b:=by
 have e1:(2*Q)*c=2*(Q*c):=by rw[Int.mul_assoc]
 have e2:X*b=2*(X1*b):=by rw[hX,Int.mul_assoc]
 rw[e1,e2,<-h];omega
theorem Of{Q R c P:Int}(h:Q*c+R=P):(Q+1)*c+(R-c)=P:=by
 rw[Int.add_mul,Int.one_mul];omega
theorem XR{Q R c P:Int}(h:Q*c+R=P)(h0:0<=R)(V:R<c):P/c=Q/\P%c=R:=by
 have hc:c≠0:=by omega
 subst h;constructor
 ·rw[Int.add_comm,Int.add_mul_ediv_right _ _ hc,Int.ediv_eq_zero_of_lt h0 V];omega
 rw[Int.add_comm,Int.add_mul_emod_self_right,Int.emod_eq_of_lt h0 V]
theorem Og{Q R c a b:Int}{m:Nat}(ha:0<=a)(hb:0<=b)(hc:1<=c)(h:Q*c+R=a/2 ^ m*b)(h0:0<=R)(hQ:1125899906842624<Q):¬a*b/c<=1125899906842624:=by
 have V:a/2 ^ m*b<=a*b:=Int.mul_le_mul_of_nonneg_right (Int.ediv_le_self _ ha) hb;have h2:Q<=a*b/c:=Int.le_ediv_of_mul_le (by omega) (by omega);omega
theorem XS{b c:Int}(b1:0<=b)(c1:1<=c):0<=b/c/\b/c<=b/\0<=b%c/\b%c<c:=
 ⟨Int.ediv_nonneg b1 (by omega),Int.ediv_le_self _ b1,Int.emod_nonneg _ (by omega),Int.emod_lt_of_pos _ (by omega)⟩
def CL(a b c:Int):Value:=if a*b/c<=1125899906842624 then .tuple #[.int .i64 (a*b/c),.int .i64 (a*b%c),.bool true]else .tuple #[.int .i64 0,.int .i64 0,.bool false]
theorem XT(a b c:Int)(w:World)(a1:0<=a)(a2:a<=1125899906842624)(b1:0<=b)(b2:b<=1125899906842624)(c1:1<=c)(c2:c<=1125899906842624) :
 Calls prog 278 #[.int .i64 a,.int .i64 b,.int .i64 c] w fun e w'=>e=.returned (CL a b c)/\w=w':=by
 obtain⟨d1,d2,d3,d4⟩:=XS b1 c1
 go_enter func278,ntmps278
 go_wp2
 go_loopg [9,10,11] 51 (fun g q r i wr=>∃(Q R:Int),g<=51/\i=.int .i64 ((g:Int)-1)/\q=.int .i64 Q/\r=.int .i64 R/\0<=Q/\Q<=1125899906842624/\0<=R/\R<c/\Q*c+R=a/2 ^ g*b/\wr=w)
 case atStart=>
  refine⟨0,0,by omega,by go_num,rfl,rfl,by omega,by omega,by omega,by omega,?_,rfl⟩
  rw[Int.ediv_eq_zero_of_lt a1 (by omega)];simp
 case round=>
  obtain⟨Q,R,hj,rfl,rfl,rfl,q1,q2,r1,r2,hq,rfl⟩:=hrel
  cases gk with
  |zero=>
   simp only[Int.pow_zero,Int.ediv_one]at hq
   obtain⟨V,h2⟩:=XR hq r1 r2
   have hle:a*b/c<=1125899906842624:=by omega
   have H1:=Lib.hid V;have H2:=Lib.hid h2;have XU:=Lib.hid hle;clear V h2 hle hq
   have e1:((0:Nat):Int)-1=-1:=by omega
   rw[e1]
   go_wp2
   go_ret3
   exact⟨by unfold CL;rw[if_pos XU.out,H1.out,H2.out];rfl,rfl⟩
  |succ m=>
   have HQ:=Lib.hid hq;clear hq
   have e1:((m+1:Nat):Int)-1=(m:Int):=by omega
   rw[e1]
   clear e1
   have hm:m<=50:=by omega
   have Fj:=XN a m a1 a2
   have Oh:=XO a m
   have Oi:=Lib.hid Oh;clear Oh
   by_cases CM:a/2 ^ m%2=1
   all_goals
    have HB:Hid _:=CM
   ·have lG:(bits BinOp.and IntKind.i64 (a/2 ^ m) 1==1)=true:=by rw[Fj,CM];rfl
    have dM:(2*Q+b/c)*c+(2*R+b%c)=a/2 ^ m*b:=XP (by have:=Oi.out;omega) HQ.out
    have II:=Lib.hid dM
    clear Fj CM dM
    go_wp2_with fail
    go_loopg [9,10] (2*R+b%c).toNat (fun g q r IJ=>∃(Q' R':Int),g=R'.toNat/\q=.int .i64 Q'/\r=.int .i64 R'/\0<=Q'/\0<=R'/\Q'+R'<=8*1125899906842624/\Q'*c+R'=a/2 ^ m*b/\IJ=wr)
    case atStart=>exact⟨2*Q+b/c,2*R+b%c,rfl,rfl,rfl,by omega,by omega,by omega,II.out,rfl⟩
    case round=>
     obtain⟨Q',R',CN,rfl,rfl,s1,s2,s3,CO,rfl⟩:=hrel
     have IK:=Lib.hid CN;have zr:=Lib.hid CO;clear CN CO
     by_cases Hd:c<=R'
     ·have CP:=Of zr.out
      have IL:=Lib.hid CP;clear CP
      go_wp2_with fail
      go_roundg (R'-c).toNat
      case measure=>have:=IK.out;omega
      case rel=>exact⟨Q'+1,R'-c,rfl,rfl,rfl,by omega,by omega,by omega,IL.out,rfl⟩
     by_cases CQ:1125899906842624<Q'
     ·have iY:=Og a1 b1 c1 zr.out s2 CQ
      have IM:=Lib.hid iY;clear iY
      go_wp2_with fail
      go_ret3
      exact⟨by unfold CL;rw[if_neg (by have:=IM.out;omega)];rfl,rfl⟩
     go_wp2_with fail
     go_roundg m
     case measure=>omega
     case rel=>exact⟨Q',R',by omega,by go_num,rfl,rfl,by omega,by omega,by omega,by omega,zr.out,rfl⟩
   have lG:(bits BinOp.and IntKind.i64 (a/2 ^ m) 1==1)=false:=by rw[Fj];simpa using CM
   have dM:(2*Q)*c+2*R=a/2 ^ m*b:=XQ (by have:=Oi.out;omega) HQ.out
   have II:=Lib.hid dM
   clear Fj CM dM
   go_wp2_with fail
   go_loopg [9,10] (2*R).toNat (fun g q r IJ=>∃(Q' R':Int),g=R'.toNat/\q=.int .i64 Q'/\r=.int .i64 R'/\0<=Q'/\0<=R'/\Q'+R'<=8*1125899906842624/\Q'*c+R'=a/2 ^ m*b/\IJ=wr)
   case atStart=>exact⟨2*Q,2*R,rfl,rfl,rfl,by omega,by omega,by omega,II.out,rfl⟩
   case round=>
    obtain⟨Q',R',CN,rfl,rfl,s1,s2,s3,CO,rfl⟩:=hrel
    have IK:=Lib.hid CN;have zr:=Lib.hid CO;clear CN CO
    by_cases Hd:c<=R'
    ·have CP:=Of zr.out
     have IL:=Lib.hid CP;clear CP
     go_wp2_with fail
     go_roundg (R'-c).toNat
     case measure=>have:=IK.out;omega
     case rel=>exact⟨Q'+1,R'-c,rfl,rfl,rfl,by omega,by omega,by omega,IL.out,rfl⟩
    by_cases CQ:1125899906842624<Q'
    ·have iY:=Og a1 b1 c1 zr.out s2 CQ
     have IM:=Lib.hid iY;clear iY
     go_wp2_with fail
     go_ret3
     exact⟨by unfold CL;rw[if_neg (by have:=IM.out;omega)];rfl,rfl⟩
    go_wp2_with fail
    go_roundg m
    case measure=>omega
    case rel=>exact⟨Q',R',by omega,by go_num,rfl,rfl,by omega,by omega,by omega,by omega,zr.out,rfl⟩
end Go.Proofs.YtflhgkmhmcfimaaGreat
