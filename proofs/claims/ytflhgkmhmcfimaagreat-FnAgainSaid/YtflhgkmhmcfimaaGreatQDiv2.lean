/- Quotients of products: the program's, where the product is below 2^64; MulDiv of both at such numbers. -/
import Derived.Test.YtflhgkmhmcfimaaGreatQDiv1
import Derived.Test.YtflhgkmhmcfimaaGreatQShelf
namespace Go.Proofs.YtflhgkmhmcfimaaGreat
open Tryz
open Go.RowKit
set_option maxHeartbeats 16000000
set_option maxRecDepth 100000
set_option linter.unusedSimpArgs false
set_option linter.unusedVariables false
theorem Y2(lo y:Int)(w:World)(h0:0<=lo)(V:lo<=18446744073709551615)(y0:1<=y)(y1:y<=18446744073709551615) :
 Calls prog 280 #[.int .u64 0,.int .u64 lo,.int .u64 y] w fun e w'=>e=.returned (.tuple #[.int .u64 (lo/y),.int .u64 (lo%y)])/\∃n,w'=w.drewN n:=by
 have hy:(y==0)=false:=by simp;omega
 have se:y≠0:=by omega
 have sg:decide (y<=0)=false:=by simp;omega
 go_enter func280,ntmps280
 go_wp2_with fail
 go_quiet (fail)
 go_wp2_with fail
 go_ret2
 exact⟨rfl,_,rfl⟩
end Go.Proofs.YtflhgkmhmcfimaaGreat
