/- Support over the types: one element of a slice, as the walk wants it. -/
import Derived.Test.YtogkbcmfoalpiaaGreatKDat
namespace Go.Proofs.YtogkbcmfoalpiaaGreat
open Go.RowKit
theorem SlR.elems{α:Type}{sz:Nat}{rep:World→Nat→Nat→List Value→α→Prop}{w:World}{lo hi n c:Nat}{a:Option Addr}{xs:List α}(h:SlR sz rep w lo hi (.slice a n c) xs)(k:Nat)(hk:k<xs.length) :
 ∃b off,a=some ⟨b,off,none⟩∧lo≤b∧b<hi∧Elems sz rep w lo hi b off xs:=by
 obtain⟨a_,c_,heq,_,_,h⟩:=h
 injection heq with q1 q2 q3
 subst q1
 rcases h with h0|h
 ·rw[h0]at hk;exact absurd hk (by simp)
 ·exact h
end Go.Proofs.YtogkbcmfoalpiaaGreat
