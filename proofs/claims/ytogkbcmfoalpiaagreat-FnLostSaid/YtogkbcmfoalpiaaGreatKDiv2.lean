/- Quotients of products: the program's, where the product is below 2^64; MulDiv of both at such numbers. -/
import Derived.Test.YtogkbcmfoalpiaaGreatKDiv1
import Derived.Test.YtogkbcmfoalpiaaGreatKShelf
namespace Go.Proofs.YtogkbcmfoalpiaaGreat
open Go.RowKit
set_option maxHeartbeats 16000000
set_option maxRecDepth 100000
set_option linter.unusedSimpArgs false
set_option linter.unusedVariables false
theorem Div64_low_c(lo y:Int)(w:World)(h0:0≤lo)(h1:lo≤18446744073709551615)(y0:1≤y)(y1:y≤18446744073709551615) :
 Calls Tryz.prog 148 #[.int .u64 0,.int .u64 lo,.int .u64 y] w fun e w'=>e=.returned (.tuple #[.int .u64 (lo/y),.int .u64 (lo%y)])∧∃n,w'=w.drewN n:=by
 have hy:(y==0)=false:=by simp;omega
 have hy2:y≠0:=by omega
 have hy3:decide (y≤0)=false:=by simp;omega
 go_enter Tryz.func148,Tryz.ntmps148
 go_wp2_with fail
 go_quiet (fail)
 go_wp2_with fail
 go_ret2
 exact⟨rfl,_,rfl⟩
end Go.Proofs.YtogkbcmfoalpiaaGreat
