/- A block that the call itself laid, and its cells. No program in sight. -/
import Derived.Test.YtlgamhhfgaeaoaaKOwn
namespace Go.Proofs.Ytlgamhhfgaeaoaa
open Go.RowKit
structure Box(w:World)(b:Nat)(cs:List Value):Prop where
 lt:b<w.heap.size
 c:∀j v,cs[j]? = some v→w.cell? ⟨b,j,none⟩=some v
 f:∀o,w.frozen? ⟨b,o,none⟩=false
theorem Box.new(w:World)(c:Array Value)(T:TypeId):Box (w.alloc (.cells c T)) w.heap.size c.toList:=
 ⟨by simp,fun j v h=>cell_new j (by simpa using h),fun o=>by
   rw[frozen?_alloc_cells];unfold World.frozen?;simp⟩
theorem Box.newAt{w:World}{n:Nat}(hn:n=w.heap.size)(c:Array Value)(T:TypeId):Box (w.alloc (.cells c T)) n c.toList:=by
 subst hn;exact Box.new w c T
theorem Box.grow{w w':World}{b:Nat}{cs:List Value}(h:Box w b cs)(g:Grow w w'):Box w' b cs:=
 ⟨Nat.lt_of_lt_of_le h.lt g.size,fun j v hj=>cellGrow g (h.c j v hj),fun o=>by rw[(bcell g).2 b o h.lt];exact h.f o⟩
theorem Box.alloc{w:World}{b:Nat}{cs:List Value}(h:Box w b cs)(c:Array Value)(T:TypeId):Box (w.alloc (.cells c T)) b cs:=h.grow ((Grow.refl w).alloc c T)
theorem Box.other{w:World}{b:Nat}{cs:List Value}(h:Box w b cs){p:Addr}(hp:p.block≠b)(u:Value):Box (w.setCell p u) b cs:=
 ⟨by simpa using h.lt,fun j v hj=>cellSet (h.c j v hj) hp,fun o=>by rw[World.frozen?_setCell];exact h.f o⟩
theorem Box.set{w:World}{b:Nat}{cs:List Value}(h:Box w b cs)(j:Nat)(hj:j<cs.length)(u:Value):Box (w.setCell ⟨b,j,none⟩ u) b (cs.set j u):=
 ⟨by simpa using h.lt,fun i v hi=>by
   by_cases e:i=j
   ·subst e
    rw[List.getElem?_set_self hj]at hi
    injection hi with hi
    subst hi
    exact World.cell?_setCell_same w _ _ (h.c i cs[i] (List.getElem?_eq_getElem hj))
   ·rw[List.getElem?_set_ne (fun q=>e q.symm)]at hi
    rw[World.cell?_setCell_other w ⟨b,j,none⟩ ⟨b,i,none⟩ u (by intro q;injection q with _ q;exact e q.symm)]
    exact h.c i v hi,fun o=>by rw[World.frozen?_setCell];exact h.f o⟩
theorem Box.drew{w:World}{b:Nat}{cs:List Value}(h:Box w b cs):Box w.drew b cs:=⟨h.lt,h.c,h.f⟩
theorem Box.drewN{w:World}{b:Nat}{cs:List Value}(h:Box w b cs)(n:Nat):Box (w.drewN n) b cs:=⟨h.lt,h.c,h.f⟩
theorem Box.put{w w':World}{b lo hi:Nat}{cs:List Value}(h:Box w b cs)(k:Put lo hi w w')(hb:b<lo∨hi≤b):Box w' b cs:=
 ⟨Nat.lt_of_lt_of_le h.lt k.size,fun j v hj=>by rw[World.cell?_of_block (w:=w) (k.block b h.lt hb)];exact h.c j v hj,fun o=>by rw[k.frz b o h.lt];exact h.f o⟩
end Go.Proofs.Ytlgamhhfgaeaoaa
