/- Rows that a call owns and appends to, and marks put into a region. No program in sight. -/
import Derived.Test.YtflhgkmhmcfimaaGreatQSup
import Derived.Maps.AppendAt
import Derived.Deep.AppendLies
namespace Go.Proofs.YtflhgkmhmcfimaaGreat
set_option maxRecDepth 100000
open Go.RowKit
structure jX(lo hi:Nat)(w w':World):Prop where
 os:w'.os=w.os
 tape:w'.tape=w.tape
 output:w'.output=w.output
 size:w.heap.size<=w'.heap.size
 block:∀k,k<w.heap.size->(k<lo\/hi<=k)->w'.heap[k]? = w.heap[k]?
 nf:NF w.heap.size w'.heap.size w'
 cO:∀b o,b<w.heap.size->w'.frozen? ⟨b,o,none⟩=w.frozen? ⟨b,o,none⟩
theorem jX.refl(lo hi:Nat)(w:World):jX lo hi w w:=⟨rfl,rfl,rfl,Nat.le_refl _,fun _ _ _=>rfl,fun _ _ V h2=>absurd h2 (by omega),fun _ _ _=>rfl⟩
theorem jX.trans{lo hi:Nat}{a b c:World}(h:jX lo hi a b)(k:jX lo hi b c):jX lo hi a c:=
 ⟨k.os.trans h.os,k.tape.trans h.tape,k.output.trans h.output,Nat.le_trans h.size k.size,
   fun i V h2=>(k.block i (Nat.lt_of_lt_of_le V h.size) h2).trans (h.block i V h2),fun x o V h2=>by
   by_cases hx:x<b.heap.size
   ·rw[k.cO x o hx];exact h.nf x o V hx
   exact k.nf x o (by omega) h2,fun x o V=>(k.cO x o (Nat.lt_of_lt_of_le V h.size)).trans (h.cO x o V)⟩
theorem jX.wide{lo hi kq hU:Nat}{a b:World}(h:jX lo hi a b)(V:kq<=lo)(h2:hi<=hU):jX kq hU a b:=
 ⟨h.os,h.tape,h.output,h.size,fun k k1 k2=>h.block k k1 (by omega),h.nf,h.cO⟩
theorem jX.setCell{lo hi:Nat}{a w:World}(h:jX lo hi a w){p:Addr}(hp:lo<=p.block/\p.block<hi)(u:Value):jX lo hi a (w.setCell p u):=
 ⟨h.os,h.tape,h.output,by rw[World.size_setCell];exact h.size,fun k V h2=>by
   rw[Below.heap_setCell _ _ _ _ (by omega)];exact h.block k V h2,fun x o' V h2=>by
   rw[World.frozen?_setCell];exact h.nf x o' V (by simpa[World.setCell]using h2),fun b o' hb=>by rw[World.frozen?_setCell];exact h.cO b o' hb⟩
theorem jX.drew{lo hi:Nat}{a w:World}(h:jX lo hi a w):jX lo hi a w.drew:=⟨h.os,h.tape,h.output,h.size,h.block,h.nf,h.cO⟩
theorem jX.drewN{lo hi:Nat}{a w:World}(h:jX lo hi a w)(n:Nat):jX lo hi a (w.drewN n):=⟨h.os,h.tape,h.output,h.size,h.block,h.nf,h.cO⟩
theorem jX.grow{lo hi:Nat}{a w:World}(h:cZ a w):jX lo hi a w:=
 ⟨h.below.os,h.below.tape,h.below.output,h.below.size,fun k V _=>h.below.block k V,h.nf,fun b o hb=>h.below.frozen (p:=⟨b,o,none⟩) hb⟩
theorem jX.alloc{lo hi:Nat}{a w:World}(h:jX lo hi a w)(c:Array Value)(T:TypeId):jX lo hi a (w.alloc (.cells c T)):=h.trans (jX.grow ((cZ.refl w).alloc c T))
theorem cZ.put{lo hi:Nat}{a w w':World}(h:cZ a w)(k:jX lo hi w w')(hl:a.heap.size<=lo):cZ a w':=
 ⟨⟨k.os.trans h.below.os,k.tape.trans h.below.tape,k.output.trans h.below.output,Nat.le_trans h.size k.size,fun i hi=>(k.block i (Nat.lt_of_lt_of_le hi h.size) (.inl (by omega))).trans (h.below.block i hi)⟩,fun x o V h2=>by
   by_cases hx:x<w.heap.size
   ·rw[k.cO x o hx];exact h.nf x o V hx
   exact k.nf x o (by omega) h2⟩
theorem jX.same{lo hi kq hU:Nat}{w w':World}(h:jX lo hi w w')(V:hU<=w.heap.size)(h2:hU<=lo\/hi<=kq):iH kq hU w w':=fun k k1 k2=>h.block k (by omega) (by omega)
theorem NF.put{lo hi kq hU:Nat}{w w':World}(h:NF kq hU w)(k:jX lo hi w w')(hh:hU<=w.heap.size):NF kq hU w':=fun b o V h2=>by rw[k.cO b o (by omega)];exact h b o V h2
theorem cZ.append{P:Program}{a w w':World}(hg:cZ a w)(t ty e:TypeId)(i:TypeInfo)(z:Value)(ht:P.underlying t=some (.slice e))(hi:P.info? e=some i)(hz:i.zero=some z)
 {v v':Value} {n:Nat} {xs:List Value} (jE:w.ownsRow a.heap.size e i.size v n xs)
 {ad:Addr} {m c:Nat} {news:List Value} (hl:news.length=m*i.size) (xe:∀j u,news[j]? = some u->w.cell? (ad.add j)=some u) (V:∀u∈news,u.oneCell'=true)
 (yQ:n+m<=maxLen) (wY:(n+m)*i.bytes<=140737488355328)
 (hr:(Builtin.append_ #[t,t] ty #[v,.slice (some ad) m c]).run P w=.ok v' w'):cZ a w':=by
 have L4:n+m<=9223372036854775807:=by simp only[maxLen]at yQ;omega
 rcases jE.2 with⟨rfl,rfl⟩|⟨g,cap,cur,rfl,te,hgg,hnc,bC,pI,htake⟩
 ·by_cases hm:m=0
  ·subst hm
   have hn:news=[]:=List.eq_nil_of_length_eq_zero (by simpa using hl)
   subst hn
   have:(Builtin.append_ #[t,t] ty #[.slice none 0 0,.slice (some ad) 0 c]).run P w=.ok (.slice none 0 0) w:=by
    simp[Builtin.append_,run_underlying ht,sizeOf,typeInfo,hi,Builtin.lenOf,Builtin.firstCells,loadCells,loadCellsFrom]
   rw[this]at hr
   injection hr with _ hw
   subst hw
   exact hg
  rw[run_append_nil (P:=P) w t ty e i z ht hi hz ad m c news hl xe (by omega) (by omega) (by have hb:=wY;simp only[Nat.zero_add]at hb;omega)]at hr
  injection hr with _ hw
  subst hw
  exact hg.drew.alloc _ _
 by_cases r6:n+m<=cap
 ·have vz:n*i.size+news.length<=cur.size:=by rw[hl,pI,<-Nat.add_mul];exact Nat.mul_le_mul_right _ r6
  rw[run_append_room (P:=P) w t ty e i ht hi g n cap cur hgg ad m c news hl xe V r6 vz]at hr
  injection hr with _ hw
  subst hw
  refine⟨⟨hg.below.os,hg.below.tape,hg.below.output,by rw[setRow_size];exact hg.size,fun k hk=>?_⟩,fun x o k1 k2=>?_⟩
  ·rw[setRow_other w g k _ (by omega)];exact hg.below.block k hk
  rw[setRow_size]at k2
  by_cases hx:x=g
  ·subst hx
   simp[World.frozen?,setRow_heap w x cur _ e _ hgg]
  rw[World.frozen?_of_block (w:=w) (setRow_other w g x _ hx)];exact hg.nf x o k1 k2
 have holds:∀j u,xs[j]? = some u->w.cell? ((⟨g,0,none⟩:Addr).add j)=some u:=jE.cells (g:=g) rfl
 rw[run_append_grow (P:=P) w t ty e i z ht hi hz ⟨g,0,none⟩ n cap xs jE.1 holds ad m c news hl xe (by omega) (by omega) (growslice_fits (by omega) wY)]at hr
 injection hr with _ hw
 subst hw
 exact hg.drew.alloc _ _
section
variable {P:Program}
end
def JC(w:World)(b off m:Nat)(k:Int):Prop:=∀o,o<m->w.cell? ⟨b,off+o,none⟩=some (.int .i64 (k+o))
theorem JC.step{w:World}{b off m:Nat}{k:Int}(h:JC w b off m k)(hs:∃u,w.cell? ⟨b,off+m,none⟩=some u):JC (w.setCell ⟨b,off+m,none⟩ (.int .i64 (k+m))) b off (m+1) k:=fun o ho=>by
 by_cases e:o=m
 ·subst e;obtain⟨u,hu⟩:=hs;exact World.cell?_setCell_same w _ _ hu
 rw[World.cell?_setCell_other w _ ⟨b,off+o,none⟩ _ (by intro e2;injection e2 with _ e3;omega)];exact h o (by omega)
end Go.Proofs.YtflhgkmhmcfimaaGreat
