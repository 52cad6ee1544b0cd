/- Support over the types: one element of a slice, as the walk wants it. -/
import Derived.Test.YtlgamhhfgaeaoaaKDat
namespace Go.Proofs.Ytlgamhhfgaeaoaa
open Go.RowKit
theorem SlR.elems{α:Type}{sz:Nat}{rep:World→Nat→Nat→List Value→α→Prop}{w:World}{lo hi n c:Nat}{a:Option Addr}{xs:List α}(h:SlR sz rep w lo hi (.slice a n c) xs)(k:Nat)(hk:k<xs.length) :
 ∃b off,a=some ⟨b,off,none⟩∧lo≤b∧b<hi∧Elems sz rep w lo hi b off xs:=by
 obtain⟨a_,c_,heq,_,_,h⟩:=h
 injection heq with q1 q2 q3
 subst q1
 rcases h with h0|h
 ·rw[h0]at hk;exact absurd hk (by simp)
 ·exact h
theorem elem_int{w:World}{lo hi n c:Nat}{a:Option Addr}{xs:List Int}(h:SlR 1 repInt w lo hi (.slice a n c) xs)(k:Nat)(hk:k<xs.length) :
 ∃b off,w.cell? ⟨b,off+k,none⟩=some (.int .i64 xs[k])∧a=some ⟨b,off,none⟩∧b<hi:=by
 obtain⟨b,off,ha,_,h2,he⟩:=h.elems k hk
 exact⟨b,off,(Int.atCell he k hk).1,ha,h2⟩
theorem elem_edge{w:World}{lo hi n c:Nat}{a:Option Addr}{xs:List Edge}(h:SlR 4 repEdge w lo hi (.slice a n c) xs)(k:Nat)(hk:k<xs.length) :
 ∃b off,w.cell? ⟨b,off+k*4,none⟩=some (.int .i64 xs[k].frm)∧w.cell? ⟨b,off+k*4+1,none⟩=some (.int .i64 xs[k].to)∧
  w.cell? ⟨b,off+k*4+2,none⟩=some (.int .i64 xs[k].cap)∧w.cell? ⟨b,off+k*4+3,none⟩=some (.int .i64 xs[k].cost)∧a=some ⟨b,off,none⟩∧b<hi:=by
 obtain⟨b,off,ha,_,h2,he⟩:=h.elems k hk
 obtain⟨e0,e1,e2,e3,_⟩:=Edge.atCell he k hk
 exact⟨b,off,e0,e1,e2,e3,ha,h2⟩
theorem cellSet{w:World}{b o:Nat}{v:Value}(h:w.cell? ⟨b,o,none⟩=some v){p:Addr}{u:Value}(hp:p.block≠b):(w.setCell p u).cell? ⟨b,o,none⟩=some v:=by
 rw[World.cell?_setCell_other w p ⟨b,o,none⟩ u (by intro e;subst e;exact hp rfl)];exact h
end Go.Proofs.Ytlgamhhfgaeaoaa
