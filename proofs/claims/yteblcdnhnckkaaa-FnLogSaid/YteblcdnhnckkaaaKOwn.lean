/- Texts joined: Own, Box, Mk. -/
import Derived.Test.YteblcdnhnckkaaaKSup
import Derived.Maps.AppendAt
import Derived.Deep.AppendLies
namespace Go.Proofs.Yteblcdnhnckkaaa
open Go.RowKit
structure Put(lo hi:Nat)(w w':World):Prop where
 os:w'.os=w.os
 tape:w'.tape=w.tape
 output:w'.output=w.output
 size:w.heap.size≤w'.heap.size
 block:∀k,k<w.heap.size→(k<lo∨hi≤k)→w'.heap[k]? = w.heap[k]?
 nf:NF w.heap.size w'.heap.size w'
 frz:∀b o,b<w.heap.size→w'.frozen? ⟨b,o,none⟩=w.frozen? ⟨b,o,none⟩
theorem Put.refl(lo hi:Nat)(w:World):Put lo hi w w:=⟨rfl,rfl,rfl,Nat.le_refl _,fun _ _ _=>rfl,fun _ _ h1 h2=>absurd h2 (by omega),fun _ _ _=>rfl⟩
theorem Put.trans{lo hi:Nat}{a b c:World}(h:Put lo hi a b)(k:Put lo hi b c):Put lo hi a c:=
 ⟨k.os.trans h.os,k.tape.trans h.tape,k.output.trans h.output,Nat.le_trans h.size k.size,
   fun i h1 h2=>(k.block i (Nat.lt_of_lt_of_le h1 h.size) h2).trans (h.block i h1 h2),fun x o h1 h2=>by
   by_cases hx:x<b.heap.size
   ·rw[k.frz x o hx];exact h.nf x o h1 hx
   ·exact k.nf x o (by omega) h2,fun x o h1=>(k.frz x o (Nat.lt_of_lt_of_le h1 h.size)).trans (h.frz x o h1)⟩
theorem Put.setCell{lo hi:Nat}{a w:World}(h:Put lo hi a w){p:Addr}(hp:lo≤p.block∧p.block<hi)(u:Value):Put lo hi a (w.setCell p u):=
 ⟨h.os,h.tape,h.output,by rw[World.size_setCell];exact h.size,fun k h1 h2=>by
   rw[Below.heap_setCell _ _ _ _ (by omega)];exact h.block k h1 h2,fun x o' h1 h2=>by
   rw[World.frozen?_setCell];exact h.nf x o' h1 (by simpa[World.setCell]using h2),fun b o' hb=>by rw[World.frozen?_setCell];exact h.frz b o' hb⟩
theorem Put.drew{lo hi:Nat}{a w:World}(h:Put lo hi a w):Put lo hi a w.drew:=⟨h.os,h.tape,h.output,h.size,h.block,h.nf,h.frz⟩
theorem Put.grow{lo hi:Nat}{a w:World}(h:Grow a w):Put lo hi a w:=
 ⟨h.below.os,h.below.tape,h.below.output,h.below.size,fun k h1 _=>h.below.block k h1,h.nf,fun b o hb=>h.below.frozen (p:=⟨b,o,none⟩) hb⟩
theorem Put.alloc{lo hi:Nat}{a w:World}(h:Put lo hi a w)(c:Array Value)(T:TypeId):Put lo hi a (w.alloc (.cells c T)):=h.trans (Put.grow ((Grow.refl w).alloc c T))
theorem Grow.put{lo hi:Nat}{a w w':World}(h:Grow a w)(k:Put lo hi w w')(hl:a.heap.size≤lo):Grow a w':=
 ⟨⟨k.os.trans h.below.os,k.tape.trans h.below.tape,k.output.trans h.below.output,Nat.le_trans h.size k.size,fun i hi=>(k.block i (Nat.lt_of_lt_of_le hi h.size) (.inl (by omega))).trans (h.below.block i hi)⟩,fun x o h1 h2=>by
   by_cases hx:x<w.heap.size
   ·rw[k.frz x o hx];exact h.nf x o h1 hx
   ·exact k.nf x o (by omega) h2⟩
theorem Put.same{lo hi lo' hi':Nat}{w w':World}(h:Put lo hi w w')(h1:hi'≤w.heap.size)(h2:hi'≤lo∨hi≤lo'):Same lo' hi' w w':=fun k k1 k2=>h.block k (by omega) (by omega)
theorem NF.put{lo hi lo' hi':Nat}{w w':World}(h:NF lo' hi' w)(k:Put lo hi w w')(hh:hi'≤w.heap.size):NF lo' hi' w':=fun b o h1 h2=>by rw[k.frz b o (by omega)];exact h b o h1 h2
theorem Grow.append{P:Program}{a w w':World}(hg:Grow a w)(t ty e:TypeId)(i:TypeInfo)(z:Value)(ht:P.underlying t=some (.slice e))(hi:P.info? e=some i)(hz:i.zero=some z)
 {v v':Value} {n:Nat} {xs:List Value} (hown:w.ownsRow a.heap.size e i.size v n xs)
 {ad:Addr} {m c:Nat} {news:List Value} (hl:news.length=m*i.size) (hnews:∀j u,news[j]? = some u→w.cell? (ad.add j)=some u) (h1:∀u∈news,u.oneCell'=true)
 (h63:n+m≤maxLen) (hbytes:(n+m)*i.bytes≤140737488355328)
 (hr:(Builtin.append_ #[t,t] ty #[v,.slice (some ad) m c]).run P w=.ok v' w'):Grow a w':=by
 have hsmall:n+m≤9223372036854775807:=by simp only[maxLen]at h63;omega
 rcases hown.2 with⟨rfl,rfl⟩|⟨g,cap,cur,rfl,hbg,hgg,hnc,hcm,hcs,htake⟩
 ·by_cases hm:m=0
  ·subst hm
   have hn:news=[]:=List.eq_nil_of_length_eq_zero (by simpa using hl)
   subst hn
   have:(Builtin.append_ #[t,t] ty #[.slice none 0 0,.slice (some ad) 0 c]).run P w=.ok (.slice none 0 0) w:=by
    simp[Builtin.append_,run_underlying ht,sizeOf,typeInfo,hi,Builtin.lenOf,Builtin.firstCells,loadCells,loadCellsFrom]
   rw[this]at hr
   injection hr with _ hw
   subst hw
   exact hg
  ·rw[run_append_nil (P:=P) w t ty e i z ht hi hz ad m c news hl hnews (by omega) (by omega) (by have hb:=hbytes;simp only[Nat.zero_add]at hb;omega)]at hr
   injection hr with _ hw
   subst hw
   exact hg.drew.alloc _ _
 ·by_cases hroom:n+m≤cap
  ·have hfit:n*i.size+news.length≤cur.size:=by rw[hl,hcs,←Nat.add_mul];exact Nat.mul_le_mul_right _ hroom
   rw[run_append_room (P:=P) w t ty e i ht hi g n cap cur hgg ad m c news hl hnews h1 hroom hfit]at hr
   injection hr with _ hw
   subst hw
   refine⟨⟨hg.below.os,hg.below.tape,hg.below.output,by rw[setRow_size];exact hg.size,fun k hk=>?_⟩,fun x o k1 k2=>?_⟩
   ·rw[setRow_other w g k _ (by omega)];exact hg.below.block k hk
   ·rw[setRow_size]at k2
    by_cases hx:x=g
    ·subst hx
     simp[World.frozen?,setRow_heap w x cur _ e _ hgg]
    ·rw[World.frozen?_of_block (w:=w) (setRow_other w g x _ hx)];exact hg.nf x o k1 k2
  ·have holds:∀j u,xs[j]? = some u→w.cell? ((⟨g,0,none⟩:Addr).add j)=some u:=hown.cells (g:=g) rfl
   rw[run_append_grow (P:=P) w t ty e i z ht hi hz ⟨g,0,none⟩ n cap xs hown.1 holds ad m c news hl hnews (by omega) (by omega) (growslice_fits (by omega) hbytes)]at hr
   injection hr with _ hw
   subst hw
   exact hg.drew.alloc _ _
section
variable {P:Program}
end
def Marked(w:World)(b off m:Nat)(k:Int):Prop:=∀o,o<m→w.cell? ⟨b,off+o,none⟩=some (.int .i64 (k+o))
theorem Marked.step{w:World}{b off m:Nat}{k:Int}(h:Marked w b off m k)(hs:∃u,w.cell? ⟨b,off+m,none⟩=some u):Marked (w.setCell ⟨b,off+m,none⟩ (.int .i64 (k+m))) b off (m+1) k:=fun o ho=>by
 by_cases e:o=m
 ·subst e
  obtain⟨u,hu⟩:=hs
  exact World.cell?_setCell_same w _ _ hu
 ·rw[World.cell?_setCell_other w _ ⟨b,off+o,none⟩ _ (by intro e2;injection e2 with _ e3;omega)]
  exact h o (by omega)
end Go.Proofs.Yteblcdnhnckkaaa
namespace Go.Proofs.Yteblcdnhnckkaaa
open Go.RowKit
structure Box(w:World)(b:Nat)(cs:List Value):Prop where
 lt:b<w.heap.size
 c:∀j v,cs[j]? = some v→w.cell? ⟨b,j,none⟩=some v
 f:∀o,w.frozen? ⟨b,o,none⟩=false
theorem Box.new(w:World)(c:Array Value)(T:TypeId):Box (w.alloc (.cells c T)) w.heap.size c.toList:=
 ⟨by simp,fun j v h=>cell_new j (by simpa using h),fun o=>by
   rw[frozen?_alloc_cells];unfold World.frozen?;simp⟩
theorem Box.grow{w w':World}{b:Nat}{cs:List Value}(h:Box w b cs)(g:Grow w w'):Box w' b cs:=
 ⟨Nat.lt_of_lt_of_le h.lt g.size,fun j v hj=>cellGrow g (h.c j v hj),fun o=>by rw[(bcell g).2 b o h.lt];exact h.f o⟩
theorem Box.alloc{w:World}{b:Nat}{cs:List Value}(h:Box w b cs)(c:Array Value)(T:TypeId):Box (w.alloc (.cells c T)) b cs:=h.grow ((Grow.refl w).alloc c T)
theorem Box.set{w:World}{b:Nat}{cs:List Value}(h:Box w b cs)(j:Nat)(hj:j<cs.length)(u:Value):Box (w.setCell ⟨b,j,none⟩ u) b (cs.set j u):=
 ⟨by simpa using h.lt,fun i v hi=>by
   by_cases e:i=j
   ·subst e
    rw[List.getElem?_set_self hj]at hi
    injection hi with hi
    subst hi
    exact World.cell?_setCell_same w _ _ (h.c i cs[i] (List.getElem?_eq_getElem hj))
   ·rw[List.getElem?_set_ne (fun q=>e q.symm)]at hi
    rw[World.cell?_setCell_other w ⟨b,j,none⟩ ⟨b,i,none⟩ u (by intro q;injection q with _ q;exact e q.symm)]
    exact h.c i v hi,fun o=>by rw[World.frozen?_setCell];exact h.f o⟩
theorem Box.drew{w:World}{b:Nat}{cs:List Value}(h:Box w b cs):Box w.drew b cs:=⟨h.lt,h.c,h.f⟩
theorem Box.put{w w':World}{b lo hi:Nat}{cs:List Value}(h:Box w b cs)(k:Put lo hi w w')(hb:b<lo∨hi≤b):Box w' b cs:=
 ⟨Nat.lt_of_lt_of_le h.lt k.size,fun j v hj=>by rw[World.cell?_of_block (w:=w) (k.block b h.lt hb)];exact h.c j v hj,fun o=>by rw[k.frz b o h.lt];exact h.f o⟩
end Go.Proofs.Yteblcdnhnckkaaa
namespace Go.Proofs.Yteblcdnhnckkaaa
open Go.RowKit
def MkN(f:Int→Nat→Value)(sz:Nat)(w:World)(b off m:Nat)(k:Int):Prop:=∀i c,i<m→c<sz→w.cell? ⟨b,off+i*sz+c,none⟩=some (f (k+((i*sz+c:Nat):Int)) c)
theorem MkN.same{f:Int→Nat→Value}{sz b off m lo hi:Nat}{k:Int}{w w':World}(h:MkN f sz w b off m k)(hs:Same lo hi w w')(h1:lo≤b)(h2:b<hi):MkN f sz w' b off m k:=fun i c hi' hc=>hs.cell h1 h2 (h i c hi' hc)
theorem MkN.store{f:Int→Nat→Value}{sz b off m:Nat}{k:Int}{w:World}(h:MkN f sz w b off m k)(vs:List Value)(hl:vs.length=sz)(hv:∀c,c<sz→vs[c]? = some (f (k+((m*sz+c:Nat):Int)) c))
 (room:∀c,c<sz→(w.cell? ⟨b,off+m*sz+c,none⟩).isSome=true):MkN f sz (w.setCells b (off+m*sz) vs) b off (m+1) k:=fun i c hi hc=>by
 rw[cell_setCells vs (off+m*sz) w (off+i*sz+c) (fun j hj=>room j (by omega))]
 by_cases e:i=m
 ·subst e
  rw[if_pos (by omega),show off+i*sz+c-(off+i*sz)=c by omega]
  exact hv c hc
 ·have h1:(i+1)*sz≤m*sz:=Nat.mul_le_mul_right _ (by omega)
  rw[Nat.add_mul]at h1
  rw[if_neg (by omega)]
  exact h i c (by omega) hc
def HeldN(f:Int→Nat→Value)(sz:Nat)(w:World)(lo hi:Nat)(a:Option Addr)(m:Nat)(k:Int):Prop:=m=0∨∃b off,a=some ⟨b,off,none⟩∧lo≤b∧b<hi∧MkN f sz w b off m k
theorem HeldN.same{f:Int→Nat→Value}{sz m lo hi:Nat}{a:Option Addr}{k:Int}{w w':World}(h:HeldN f sz w lo hi a m k)(hs:Same lo hi w w'):HeldN f sz w' lo hi a m k:=by
 rcases h with h|⟨b,off,ha,h1,h2,h3⟩
 ·exact .inl h
 ·exact .inr ⟨b,off,ha,h1,h2,h3.same hs h1 h2⟩
theorem SlR.cap{α:Type}{sz:Nat}{rep:World→Nat→Nat→List Value→α→Prop}{w:World}{lo hi n c:Nat}{a:Option Addr}{xs:List α}(h:SlR sz rep w lo hi (.slice a n c) xs):n≤c:=by
 obtain⟨a_,c_,heq,h1,_,_⟩:=h
 injection heq with _ q2 q3
 omega
theorem SlR.all{α:Type}{sz:Nat}{rep:World→Nat→Nat→List Value→α→Prop}(hst:Stable rep){w:World}{lo hi:Nat}{v:Value}{xs:List α}(h:SlR sz rep w lo hi v xs)(hh:hi≤w.heap.size):SlR sz rep w 0 w.heap.size v xs:=
 h.stable hst (Same.refl _ _ _) (Nat.zero_le _) hh
end Go.Proofs.Yteblcdnhnckkaaa
