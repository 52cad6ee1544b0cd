/- Is a number in a row: as a plain function, and the program's own loop. -/
import Derived.Test.YteblcdnhnckkaaaKOwn
import Derived.Test.YteblcdnhnckkaaaKNum
namespace Go.Proofs.Yteblcdnhnckkaaa
open Go.RowKit
set_option linter.unusedSimpArgs false
set_option linter.unusedVariables false
theorem SlR.take{α:Type}{sz:Nat}{rep:World→Nat→Nat→List Value→α→Prop}{w:World}{lo hi c:Nat}{a:Option Addr}{xs:List α}(h:SlR sz rep w lo hi (.slice a xs.length c) xs)(k:Nat)(hk:k≤xs.length) :
 SlR sz rep w lo hi (.slice a (xs.take k).length c) (xs.take k):=by
 obtain⟨a_,c_,heq,h1,h2,h3⟩:=h
 injection heq with q1 q2 q3
 subst q1 q3
 have hl:(xs.take k).length=k:=by rw[List.length_take];omega
 refine⟨_,_,rfl,by omega,h2,?_⟩
 rcases h3 with h3|⟨b,off,ha,hb1,hb2,he⟩
 ·exact .inl (by rw[h3];simp)
 ·exact .inr ⟨b,off,ha,hb1,hb2,fun i hi'=>by
   obtain⟨cs,hr,hc⟩:=he i (by omega)
   exact⟨cs,by simpa using hr,hc⟩⟩
end Go.Proofs.Yteblcdnhnckkaaa
