/- The marks that the harness puts into the elements of a slice, and whether they are held. No program in sight. -/
import Derived.Test.YtlgamhhfgaeaoaaKBox
namespace Go.Proofs.Ytlgamhhfgaeaoaa
open Go.RowKit
def MkN(f:Int→Nat→Value)(sz:Nat)(w:World)(b off m:Nat)(k:Int):Prop:=∀i c,i<m→c<sz→w.cell? ⟨b,off+i*sz+c,none⟩=some (f (k+((i*sz+c:Nat):Int)) c)
theorem MkN.same{f:Int→Nat→Value}{sz b off m lo hi:Nat}{k:Int}{w w':World}(h:MkN f sz w b off m k)(hs:Same lo hi w w')(h1:lo≤b)(h2:b<hi):MkN f sz w' b off m k:=fun i c hi' hc=>hs.cell h1 h2 (h i c hi' hc)
theorem MkN.store{f:Int→Nat→Value}{sz b off m:Nat}{k:Int}{w:World}(h:MkN f sz w b off m k)(vs:List Value)(hl:vs.length=sz)(hv:∀c,c<sz→vs[c]? = some (f (k+((m*sz+c:Nat):Int)) c))
 (room:∀c,c<sz→(w.cell? ⟨b,off+m*sz+c,none⟩).isSome=true):MkN f sz (w.setCells b (off+m*sz) vs) b off (m+1) k:=fun i c hi hc=>by
 rw[cell_setCells vs (off+m*sz) w (off+i*sz+c) (fun j hj=>room j (by omega))]
 by_cases e:i=m
 ·subst e
  rw[if_pos (by omega),show off+i*sz+c-(off+i*sz)=c by omega]
  exact hv c hc
 ·have h1:(i+1)*sz≤m*sz:=Nat.mul_le_mul_right _ (by omega)
  rw[Nat.add_mul]at h1
  rw[if_neg (by omega)]
  exact h i c (by omega) hc
def HeldN(f:Int→Nat→Value)(sz:Nat)(w:World)(lo hi:Nat)(a:Option Addr)(m:Nat)(k:Int):Prop:=m=0∨∃b off,a=some ⟨b,off,none⟩∧lo≤b∧b<hi∧MkN f sz w b off m k
theorem HeldN.same{f:Int→Nat→Value}{sz m lo hi:Nat}{a:Option Addr}{k:Int}{w w':World}(h:HeldN f sz w lo hi a m k)(hs:Same lo hi w w'):HeldN f sz w' lo hi a m k:=by
 rcases h with h|⟨b,off,ha,h1,h2,h3⟩
 ·exact .inl h
 ·exact .inr ⟨b,off,ha,h1,h2,h3.same hs h1 h2⟩
theorem SlR.cap{α:Type}{sz:Nat}{rep:World→Nat→Nat→List Value→α→Prop}{w:World}{lo hi n c:Nat}{a:Option Addr}{xs:List α}(h:SlR sz rep w lo hi (.slice a n c) xs):n≤c:=by
 obtain⟨a_,c_,heq,h1,_,_⟩:=h
 injection heq with _ q2 q3
 omega
theorem SlR.all{α:Type}{sz:Nat}{rep:World→Nat→Nat→List Value→α→Prop}(hst:Stable rep){w:World}{lo hi:Nat}{v:Value}{xs:List α}(h:SlR sz rep w lo hi v xs)(hh:hi≤w.heap.size):SlR sz rep w 0 w.heap.size v xs:=
 h.stable hst (Same.refl _ _ _) (Nat.zero_le _) hh
end Go.Proofs.Ytlgamhhfgaeaoaa
