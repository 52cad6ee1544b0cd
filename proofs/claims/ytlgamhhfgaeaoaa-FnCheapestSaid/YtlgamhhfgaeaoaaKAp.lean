/- Appending to rows of elements. No program in sight. -/
import Derived.Test.YtlgamhhfgaeaoaaKMk
namespace Go.Proofs.Ytlgamhhfgaeaoaa
open Go.RowKit
theorem news_of(w:World)(c:Array Value)(T:TypeId)(cs:List Value)(hc:c.toList=cs):∀j u,cs[j]? = some u→(w.alloc (.cells c T)).cell? ((⟨w.heap.size,0,none⟩:Addr).add j)=some u:=fun j u hj=>by
 have e:(⟨w.heap.size,0,none⟩:Addr).add j=⟨w.heap.size,j,none⟩:=by unfold Addr.add;split<;>simp_all
 rw[e]
 exact cell_new j (by subst hc;simpa using hj)
theorem own_snocF{α:Type}{f:α→List Value}{w:World}{base sz:Nat}{e:TypeId}{v:Value}{l:List α}{y:α}(h:w.ownsRow base e sz v (l.length+1) (l.flatMap f++f y)) :
 w.ownsRow base e sz v (l++[y]).length ((l++[y]).flatMap f):=by
 rw[List.flatMap_append,List.length_append]
 simpa using h
end Go.Proofs.Ytlgamhhfgaeaoaa
