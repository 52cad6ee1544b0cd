/- The law FnExactAllow, walked over the contracts. -/
import Derived.Test.YteklopbnkclfaaaAllowS
import Derived.Test.YteklopbnkclfaaaAllowI
import Derived.Deep.RegionHeld3
namespace Go.Proofs.Yteklopbnkclfaaa
open Go.RowKit
set_option linter.unusedSimpArgs false
set_option linter.unusedVariables false

set_option maxHeartbeats 4000000 in
set_option maxRecDepth 100000 in
theorem FnExactAllow_walk (s : Int) (fw : Int) (al : Int) (sf : Int) (sa : Int) (am : Int) (gd : Bool) (w : World) (i0 : i64 s) (i1 : i64 fw) (i2 : i64 al) (i3 : i64 sf) (i4 : i64 sa) (i5 : i64 am) :
    Calls Try.prog 10 #[.int .i64 s, .int .i64 fw, .int .i64 al, .int .i64 sf, .int .i64 sa, .int .i64 am, .bool gd] w fun e w' => e = .returned (.bool true) ∧ Grow w w' := by
  have hbb : (allow s fw al sf sa am gd != allow s fw al sf sa am gd) = false := by simp
  go_enter Try.func10, Try.ntmps10
  go_wp2_with fail
  refine (spec_Allow_c s fw al sf sa am gd _  ).mono ?_
  rintro e w1 ⟨rfl, g1⟩
  have y1 := g1.size
  go_wp2_with fail
  refine (impl_Allow_c s fw al sf sa am gd _  ).mono ?_
  rintro e w2 ⟨rfl, g2⟩
  have y2 := g2.size
  go_wp2_with fail
  go_ret
  exact ⟨rfl, by repeat (first | exact Grow.refl _ | (refine Grow.alloc ?_ _ _) | (refine Grow.drew ?_) | (refine Grow.trans ?_ (by assumption)))⟩
end Go.Proofs.Yteklopbnkclfaaa
