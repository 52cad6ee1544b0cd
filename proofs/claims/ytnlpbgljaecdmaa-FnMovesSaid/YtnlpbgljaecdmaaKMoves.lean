/- Moves, of the program and of the reference. -/
import Derived.Test.YtnlpbgljaecdmaaKPlan
import Derived.Test.YtnlpbgljaecdmaaKPush
namespace Go.Proofs.Ytnlpbgljaecdmaa
open Go.RowKit
set_option linter.unusedSimpArgs false
set_option linter.unusedVariables false
-- ---------- plain
theorem cheapIt_length{x:Graph}:∀(m:Nat) (f g:List Int),cheapIt x m f=(true,g)→g.length=f.length
 |0,f,g,h=>by
  unfold cheapIt at h
  split at h
  ·exact absurd (congrArg Prod.fst h) (by simp)
  ·exact congrArg List.length (congrArg Prod.snd h).symm
 |m+1,f,g,h=>by
  rw[cheapIt]at h
  split at h
  ·split at h
   ·rename_i hp
    rw[cheapIt_length m _ g h]
    unfold pushL
    rw[if_pos hp]
    unfold pushTo
    exact pushAll_length _ _ _
   ·exact absurd (congrArg Prod.fst h) (by simp)
  ·exact congrArg List.length (congrArg Prod.snd h).symm
theorem cheapL_length{x:Graph}(h:cheapOk x=true):(cheapL x).length=x.edges.length:=by
 unfold cheapL
 rw[if_pos h]
 unfold cheapOk at h
 simp only[Bool.and_eq_true]at h
 have:=cheapIt_length 400 (List.replicate x.edges.length 0) (cheapIt x 400 (List.replicate x.edges.length 0)).2 (by rw[←h.2])
 rw[this,List.length_replicate]
def moveAt(f:List Int)(first k:Nat)(p:Price):List Move:=if 0<f.getD (first+k) 0 then [⟨p.frm,p.to,f.getD (first+k) 0,p.ppm⟩]else []
def movesK(f:List Int)(first:Nat)(l:List Price):Nat→List Move
 |0=>[]
 |k+1=>movesK f first l k++(match l[k]? with|some p=>moveAt f first k p|none=>[])
theorem movesK_succ{f:List Int}{first k:Nat}{l:List Price}(h:k<l.length):movesK f first l (k+1)=movesK f first l k++moveAt f first k l[k]:=by
 show movesK f first l k++(match l[k]? with|some p=>moveAt f first k p|none=>[])=_
 rw[List.getElem?_eq_getElem h]
theorem moveAt_yes{f:List Int}{first k:Nat}{p:Price}{n:Int}(hn:f.getD (first+k) 0=n)(h:0<n):moveAt f first k p=[⟨p.frm,p.to,n,p.ppm⟩]:=by unfold moveAt;rw[hn,if_pos h]
theorem moveAt_no{f:List Int}{first k:Nat}{p:Price}{n:Int}(hn:f.getD (first+k) 0=n)(h:¬0<n):moveAt f first k p=[]:=by unfold moveAt;rw[hn,if_neg h]
theorem moveAt_len(f:List Int)(first k:Nat)(p:Price):(moveAt f first k p).length≤1:=by unfold moveAt;split<;>simp
theorem movesK_len{f:List Int}{first:Nat}{l:List Price}:∀k,(movesK f first l k).length≤k
 |0=>by simp[movesK]
 |k+1=>by
  have ih:=movesK_len (f:=f) (first:=first) (l:=l) k
  show (movesK f first l k++(match l[k]? with|some p=>moveAt f first k p|none=>[])).length≤_
  rw[List.length_append]
  cases h:l[k]? with
  |none=>simp;omega
  |some p=>have:=moveAt_len f first k p;simp only[];omega
theorem movesK_wf{f:List Int}{first:Nat}{l:List Price}(hf:∀y∈f,i64 y)(hl:∀p∈l,wfPrice p):∀k,∀m∈movesK f first l k,wfMove m
 |0,m,hm=>absurd hm (by simp[movesK])
 |k+1,m,hm=>by
  have hm2:m∈movesK f first l k++(match l[k]? with|some p=>moveAt f first k p|none=>[]):=hm
  rcases List.mem_append.1 hm2 with h|h
  ·exact movesK_wf hf hl k m h
  ·cases hk:l[k]? with
   |none=>rw[hk]at h;exact absurd h (by simp)
   |some p=>
    rw[hk]at h
    have hp:=hl p (List.mem_of_getElem? hk)
    have h2:m∈moveAt f first k p:=h
    unfold moveAt at h2
    split at h2
    ·have e:=List.mem_singleton.1 h2
     subst e
     obtain⟨p1,p2,p3⟩:=hp
     refine⟨p1,p2,?_,p3⟩
     rw[List.getD_eq_getElem?_getD]
     cases hq:f[first+k]? with
     |none=>simp[i64]
     |some y=>exact hf y (List.mem_of_getElem? hq)
    ·exact absurd h2 (by simp)
def movesOk(x:Book)(lo hi gain:Int)(l:List Price):Bool:=planOk x lo hi gain l&&cheapOk (planG x lo hi gain l)
def movesL(x:Book)(lo hi gain:Int)(l:List Price):List Move:=if movesOk x lo hi gain l=true then movesK (cheapL (planG x lo hi gain l)) ((cheapL (planG x lo hi gain l)).length-l.length) l l.length else []
theorem moves_first{x:Book}{lo hi gain:Int}{l:List Price}(h1:planOk x lo hi gain l=true)(h2:cheapOk (planG x lo hi gain l)=true):∃first,(cheapL (planG x lo hi gain l)).length=first+l.length∧(planG x lo hi gain l).edges.length=first+l.length:=by
 rw[cheapL_length h2]
 have e:(planG x lo hi gain l).edges=planE x.chans lo hi gain l:=by unfold planG;rw[if_pos h1]
 rw[e]
 unfold planE
 rw[List.length_append,List.length_map]
 exact⟨_,rfl,rfl⟩
end Go.Proofs.Ytnlpbgljaecdmaa
