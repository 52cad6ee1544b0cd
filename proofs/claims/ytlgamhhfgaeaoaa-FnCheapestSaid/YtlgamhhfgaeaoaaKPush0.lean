/- What is pushed along a ring is a flow. No program in sight. -/
import Derived.Test.YtlgamhhfgaeaoaaKRing0
namespace Go.Proofs.Ytlgamhhfgaeaoaa
open Go.RowKit
set_option linter.unusedSimpArgs false
set_option linter.unusedVariables false
-- ---------- balances
def ind(b:Bool):Int:=if b then 1 else 0
def balz(v:Nat):List (Edge×Int)→Int
 |[]=>0
 |p::r=>(if p.1.to.toNat=v then p.2 else 0)-(if p.1.frm.toNat=v then p.2 else 0)+balz v r
theorem stepSum_getD{s:List Int}{p:Edge×Int}{v:Nat}(h1:p.1.frm.toNat<s.length)(h2:p.1.to.toNat<s.length) :
 (stepSum s p).getD v 0=s.getD v 0+((if p.1.to.toNat=v then p.2 else 0)-(if p.1.frm.toNat=v then p.2 else 0)):=by
 unfold stepSum
 dsimp only
 have h2':p.1.to.toNat<(s.set p.1.frm.toNat (s.getD p.1.frm.toNat 0-p.2)).length:=by simpa using h2
 by_cases e1:p.1.to.toNat=v
 ·subst e1
  rw[getD_set_self' h2',if_pos rfl]
  by_cases e2:p.1.frm.toNat=p.1.to.toNat
  ·rw[if_pos e2,e2,getD_set_self' h2];omega
  ·rw[if_neg e2,getD_set_ne' e2];omega
 ·rw[getD_set_ne' e1,if_neg e1]
  by_cases e2:p.1.frm.toNat=v
  ·subst e2;rw[if_pos rfl,getD_set_self' h1];omega
  ·rw[if_neg e2,getD_set_ne' e2];omega
theorem fold_getD{v:Nat}:∀(z:List (Edge×Int)) (s:List Int),(∀p∈z,p.1.frm.toNat<s.length∧p.1.to.toNat<s.length)→(z.foldl stepSum s).getD v 0=s.getD v 0+balz v z
 |[],s,_=>by simp[balz]
 |p::r,s,h=>by
  obtain⟨h1,h2⟩:=h p (by simp)
  rw[List.foldl_cons,fold_getD r (stepSum s p) (fun q hq=>by rw[stepSum_length];exact h q (by simp[hq])),stepSum_getD h1 h2]
  show _=s.getD v 0+((if p.1.to.toNat=v then p.2 else 0)-(if p.1.frm.toNat=v then p.2 else 0)+balz v r)
  omega
theorem balz_set{v:Nat}:∀(es:List Edge) (o:List Int) (i:Nat) (y:Int),∀(h1:i<es.length) (h2:i<o.length),
 balz v (es.zip (o.set i y))=balz v (es.zip o)+((if es[i].to.toNat=v then y-o[i]else 0)-(if es[i].frm.toNat=v then y-o[i]else 0))
 |[],_,_,_,h,_=>absurd h (by simp)
 |_::_,[],_,_,_,h=>absurd h (by simp)
 |e::es,a::o,0,y,_,_=>by
  show (if e.to.toNat=v then y else 0)-(if e.frm.toNat=v then y else 0)+balz v (es.zip o)=(if e.to.toNat=v then a else 0)-(if e.frm.toNat=v then a else 0)+balz v (es.zip o)+((if e.to.toNat=v then y-a else 0)-(if e.frm.toNat=v then y-a else 0))
  split<;>split<;>omega
 |e::es,a::o,i+1,y,h1,h2=>by
  have h1':i<es.length:=by simpa using h1
  have h2':i<o.length:=by simpa using h2
  have ih:=balz_set (v:=v) es o i y h1' h2'
  show (if e.to.toNat=v then a else 0)-(if e.frm.toNat=v then a else 0)+balz v (es.zip (o.set i y))=(if e.to.toNat=v then a else 0)-(if e.frm.toNat=v then a else 0)+balz v (es.zip o)+((if es[i].to.toNat=v then y-o[i]else 0)-(if es[i].frm.toNat=v then y-o[i]else 0))
  rw[ih];omega
-- ---------- arcs by their numbers
theorem arc_at{x:Graph}{f:List Int}(h:flowOk x f=true){a:Arc}(ha:a∈arcsOf x f):∃i,∃h1:i<x.edges.length,∃h2:i<f.length,
 (a.id=2*i∧f[i]<x.edges[i].cap∧a=⟨2*i,x.edges[i].frm,x.edges[i].to,x.edges[i].cap-f[i],x.edges[i].cost⟩)∨(a.id=2*i+1∧0<f[i]∧a=⟨2*i+1,x.edges[i].to,x.edges[i].frm,f[i],-x.edges[i].cost⟩):=by
 obtain⟨n1,n2,g2,hl,he,hp,_⟩:=flowOk_facts h
 obtain⟨i,hi,_,hm⟩:=arcsK_mem (Nat.le_refl _) ha
 have hi2:i<x.edges.length:=by simp at hi;omega
 have hz:(x.edges.zip f)[i]=(x.edges[i],f[i]'(by omega)):=List.getElem_zip
 rw[hz]at hm
 refine⟨i,hi2,by omega,?_⟩
 rcases arcsAt_mem hm with⟨q,rfl⟩|⟨q,rfl⟩
 ·exact .inl ⟨rfl,q,rfl⟩
 ·exact .inr ⟨rfl,q,rfl⟩
theorem arc_same{x:Graph}{f:List Int}(h:flowOk x f=true){a b:Arc}(ha:a∈arcsOf x f)(hb:b∈arcsOf x f)(e:a.id=b.id):a=b:=by
 obtain⟨i,h1,h2,p⟩:=arc_at h ha
 obtain⟨j,k1,k2,q⟩:=arc_at h hb
 rcases p with⟨p1,_,p3⟩|⟨p1,_,p3⟩<;>rcases q with⟨q1,_,q3⟩|⟨q1,_,q3⟩
 ·obtain rfl:i=j:=by omega
  rw[p3,q3]
 ·omega
 ·omega
 ·obtain rfl:i=j:=by omega
  rw[p3,q3]
-- ---------- the least room
theorem leastStep_le(id r:Int)(a:Arc):leastStep id r a≤r:=by unfold leastStep;split<;>omega
theorem leastAt_le(id:Int):∀(l:List Arc) (r:Int),leastAt l r id≤r
 |[],r=>Int.le_refl r
 |a::l,r=>by
  have h1:=leastAt_le id l (leastStep id r a)
  have h2:=leastStep_le id r a
  show leastAt l (leastStep id r a) id≤r
  omega
theorem leastAt_arc(id:Int):∀(l:List Arc) (r:Int) (a:Arc),a∈l→a.id=id→leastAt l r id≤a.room
 |[],_,_,h,_=>absurd h (by simp)
 |b::l,r,a,h,e=>by
  show leastAt l (leastStep id r b) id≤a.room
  rcases List.mem_cons.1 h with rfl|h
  ·have h1:=leastAt_le id l (leastStep id r a)
   have:leastStep id r a≤a.room:=by unfold leastStep;split<;>omega
   omega
  ·exact leastAt_arc id l _ a h e
theorem leastAt_pos(id:Int):∀(l:List Arc) (r:Int),(∀a∈l,1≤a.room)→1≤r→1≤leastAt l r id
 |[],_,_,h=>h
 |b::l,r,h,hr=>leastAt_pos id l _ (fun a ha=>h a (by simp[ha])) (by have:=h b (by simp);unfold leastStep;split<;>omega)
theorem leastOf_le(l:List Arc):∀(ring:List Int) (r:Int),leastOf l r ring≤r
 |[],r=>Int.le_refl r
 |id::ring,r=>by
  have h1:=leastOf_le l ring (leastAt l r id)
  have h2:=leastAt_le id l r
  show leastOf l (leastAt l r id) ring≤r
  omega
theorem leastOf_arc(l:List Arc):∀(ring:List Int) (r:Int) (a:Arc),a∈l→a.id∈ring→leastOf l r ring≤a.room
 |[],_,_,_,h=>absurd h (by simp)
 |id::ring,r,a,h,e=>by
  show leastOf l (leastAt l r id) ring≤a.room
  rcases List.mem_cons.1 e with e|e
  ·have h1:=leastOf_le l ring (leastAt l r id)
   have:=leastAt_arc id l r a h e
   omega
  ·exact leastOf_arc l ring _ a h e
theorem leastOf_pos(l:List Arc):∀(ring:List Int) (r:Int),(∀a∈l,1≤a.room)→1≤r→1≤leastOf l r ring
 |[],_,_,h=>h
 |id::ring,r,h,hr=>leastOf_pos l ring _ h (leastAt_pos id l r h hr)
-- ---------- what a push leaves at edge i
def contr(i:Nat)(id:Int):Int:=if id=2*i then 1 else if id=2*i+1 then -1 else 0
def contrs(i:Nat)(ring:List Int):Int:=(ring.map (contr i)).sum
theorem pushStep_length(r:Int)(o:List Int)(id:Int):(pushStep r o id).length=o.length:=by simp[pushStep]
theorem pushAll_length(r:Int):∀(ring:List Int) (o:List Int),(pushAll r ring o).length=o.length
 |[],_=>rfl
 |id::ring,o=>by show (pushAll r ring (pushStep r o id)).length=_;rw[pushAll_length r ring,pushStep_length]
theorem pushStep_getD{r:Int}{o:List Int}{id:Int}(h0:0≤id)(i:Nat)(hi:i<o.length):(pushStep r o id).getD i 0=o.getD i 0+r*contr i id:=by
 unfold pushStep contr
 by_cases e:(id/2).toNat=i
 ·rw[e,getD_set_self' hi]
  by_cases e2:id=2*i
  ·rw[if_pos (by omega),if_pos e2];omega
  ·rw[if_neg (by omega),if_neg e2,if_pos (by omega)];omega
 ·rw[getD_set_ne' e,if_neg (by omega),if_neg (by omega)];omega
theorem pushAll_getD{r:Int}:∀(ring:List Int) (o:List Int),(∀id∈ring,0≤id)→∀(i:Nat),i<o.length→(pushAll r ring o).getD i 0=o.getD i 0+r*contrs i ring
 |[],o,_,i,_=>by show o.getD i 0=_;unfold contrs;simp
 |id::ring,o,h,i,hi=>by
  show (pushAll r ring (pushStep r o id)).getD i 0=_
  rw[pushAll_getD ring _ (fun id' h'=>h id' (by simp[h'])) i (by rw[pushStep_length];exact hi),pushStep_getD (h id (by simp)) i hi]
  have:contrs i (id::ring)=contr i id+contrs i ring:=by unfold contrs;simp
  rw[this,Int.mul_add];omega
theorem contrs_bd{i:Nat}:∀ {ring:List Int},ring.Nodup→contrs i ring≤(if (2*i:Int)∈ring then 1 else 0)∧-(if (2*i+1:Int)∈ring then 1 else 0)≤contrs i ring
 |[],_=>by simp[contrs]
 |id::ring,h=>by
  obtain⟨h1,h2⟩:=List.nodup_cons.1 h
  obtain⟨i1,i2⟩:=contrs_bd (i:=i) h2
  have e:contrs i (id::ring)=contr i id+contrs i ring:=by unfold contrs;simp
  rw[e]
  unfold contr
  by_cases e1:id=2*i
  ·subst e1
   rw[if_neg h1]at i1
   rw[if_pos rfl,if_pos (by simp)]
   refine⟨by omega,?_⟩
   by_cases q:(2*i+1:Int)∈ring
   ·rw[if_pos (by simp[q])];rw[if_pos q]at i2;omega
   ·rw[if_neg q]at i2
    split<;>omega
  ·rw[if_neg e1]
   by_cases e2:id=2*i+1
   ·subst e2
    rw[if_neg h1]at i2
    rw[if_pos rfl,if_pos (c:=(2*i+1:Int)∈_) (by simp)]
    refine⟨?_,by omega⟩
    by_cases q:(2*i:Int)∈ring
    ·rw[if_pos (by simp[q])];rw[if_pos q]at i1;omega
    ·rw[if_neg q]at i1
     split<;>omega
   ·rw[if_neg e2]
    have m1:((2*i:Int)∈id::ring)↔((2*i:Int)∈ring):=by simp;omega
    have m2:((2*i+1:Int)∈id::ring)↔((2*i+1:Int)∈ring):=by simp;omega
    simp only[m1,m2]
    omega
-- ---------- the ring as a list
def backs(p:Int→Int)(u v0:Int)(d:Nat):Prop:=iter p d u=v0∧∀k,1≤k→k<d→iter p k u≠v0
theorem ringFrom_eq{l:List Arc}{last:List Int}{v0:Int}:∀(d m:Nat) (u:Int),1≤d→d≤m→backs (par l last) u v0 d→ringFrom l last v0 m u=(List.range d).map (fun j=>(arcAt l last (iter (par l last) j u)).id)
 |0,_,_,h,_,_=>absurd h (by omega)
 |_+1,0,_,_,h,_=>absurd h (by omega)
 |d+1,m+1,u,_,hm,hb=>by
  show (arcAt l last u).id::(if par l last u=v0 then []else ringFrom l last v0 m (par l last u))=_
  rw[List.range_succ_eq_map,List.map_cons,List.map_map]
  by_cases hd:d=0
  ·subst hd
   have:par l last u=v0:=hb.1
   rw[if_pos this];rfl
  ·have hne:par l last u≠v0:=hb.2 1 (by omega) (by omega)
   rw[if_neg hne,ringFrom_eq d m (par l last u) (by omega) (by omega) ⟨by rw[←iter_succ'];exact hb.1,fun k k1 k2=>by rw[←iter_succ'];exact hb.2 (k+1) (by omega) (by omega)⟩]
   rw[List.cons.injEq]
   refine⟨rfl,List.map_congr_left fun j _=>?_⟩
   show _=(arcAt l last (iter (par l last) (j+1) u)).id
   rw[iter_succ']
def Good(l:List Arc)(last:List Int)(u:Int):Prop:=∀j,arcAt l last (iter (par l last) j u)∈l∧(arcAt l last (iter (par l last) j u)).to=iter (par l last) j u
theorem Good.next{l:List Arc}{last:List Int}{u:Int}(h:Good l last u):Good l last (par l last u):=fun j=>by
 have:=h (j+1)
 rwa [iter_succ']at this
theorem push_bal{x:Graph}{f:List Int}(h:flowOk x f=true){last:List Int}{v0:Int}{r:Int}{v:Nat}:∀(d m:Nat) (u:Int) (o:List Int),1≤d→d≤m→backs (par (arcsOf x f) last) u v0 d→Good (arcsOf x f) last u→o.length=x.edges.length→
 balz v (x.edges.zip (pushAll r (ringFrom (arcsOf x f) last v0 m u) o))=balz v (x.edges.zip o)+r*(ind (decide (u.toNat=v))-ind (decide (v0.toNat=v)))
 |0,_,_,_,h,_,_,_,_=>absurd h (by omega)
 |_+1,0,_,_,_,h,_,_,_=>absurd h (by omega)
 |d+1,m+1,u,o,_,hm,hb,hg,ho=>by
  show balz v (x.edges.zip (pushAll r (if par (arcsOf x f) last u=v0 then []else ringFrom (arcsOf x f) last v0 m (par (arcsOf x f) last u)) (pushStep r o (arcAt (arcsOf x f) last u).id)))=_
  obtain⟨g1,g2⟩:=hg 0
  have g1:arcAt (arcsOf x f) last u∈arcsOf x f:=g1
  have g2:(arcAt (arcsOf x f) last u).to=u:=g2
  have hstep:balz v (x.edges.zip (pushStep r o (arcAt (arcsOf x f) last u).id))=balz v (x.edges.zip o)+r*(ind (decide (u.toNat=v))-ind (decide ((par (arcsOf x f) last u).toNat=v))):=by
   unfold par
   obtain⟨i,h1,h2,hc⟩:=arc_at h g1
   generalize arcAt (arcsOf x f) last u=a at *
   have hid:(a.id/2).toNat=i:=by rcases hc with⟨q,_⟩|⟨q,_⟩<;>omega
   have hlt:(a.id/2).toNat<o.length:=by omega
   unfold pushStep
   rw[balz_set x.edges o (a.id/2).toNat _ (by omega) hlt]
   have e0:o.getD (a.id/2).toNat 0=o[(a.id/2).toNat]:=by rw[List.getD_eq_getElem?_getD,List.getElem?_eq_getElem hlt];rfl
   rw[e0]
   rcases hc with⟨q1,_,q3⟩|⟨q1,_,q3⟩
   ·have ta:a.to=x.edges[i].to:=by rw[q3]
    have tb:a.frm=x.edges[i].frm:=by rw[q3]
    have t1:a.to=x.edges[(a.id/2).toNat].to:=by simp only[hid];exact ta
    have t2:a.frm=x.edges[(a.id/2).toNat].frm:=by simp only[hid];exact tb
    rw[←t1,←t2,g2,if_pos (show a.id%2=0 by omega)]
    unfold ind
    by_cases c1:u.toNat=v<;>by_cases c2:a.frm.toNat=v<;>simp[c1,c2]<;>omega
   ·have ta:a.to=x.edges[i].frm:=by rw[q3]
    have tb:a.frm=x.edges[i].to:=by rw[q3]
    have t1:a.to=x.edges[(a.id/2).toNat].frm:=by simp only[hid];exact ta
    have t2:a.frm=x.edges[(a.id/2).toNat].to:=by simp only[hid];exact tb
    rw[←t1,←t2,g2,if_neg (show ¬a.id%2=0 by omega)]
    unfold ind
    by_cases c1:u.toNat=v<;>by_cases c2:a.frm.toNat=v<;>simp[c1,c2]<;>omega
  by_cases hd:d=0
  ·subst hd
   have e:par (arcsOf x f) last u=v0:=hb.1
   rw[if_pos e]
   show balz v (x.edges.zip (pushStep r o (arcAt (arcsOf x f) last u).id))=_
   rw[hstep,e]
  ·have hne:par (arcsOf x f) last u≠v0:=hb.2 1 (by omega) (by omega)
   rw[if_neg hne,push_bal h d m (par (arcsOf x f) last u) _ (by omega) (by omega) ⟨by rw[←iter_succ'];exact hb.1,fun k k1 k2=>by rw[←iter_succ'];exact hb.2 (k+1) (by omega) (by omega)⟩ hg.next (by rw[pushStep_length];exact ho),hstep,Int.add_assoc,←Int.mul_add]
   congr 2
   omega
theorem nodup_range_map{g:Nat→Int}{d:Nat}(h:∀i j,i<j→j<d→g i≠g j):((List.range d).map g).Nodup:=by
 rw[List.Nodup,List.pairwise_map,List.pairwise_iff_getElem]
 intro i j hi hj hij
 simp only[List.getElem_range]
 exact h i j hij (by simpa using hj)
theorem push_ring{x:Graph}{f:List Int}(h:ringOk x f=true):pushOk x f (ringL x f)=true:=by
 have hL:ringL x f=(ringIt x.n.toNat (arcsOf x f)).1:=if_pos h
 unfold ringOk at h
 simp only[Bool.and_eq_true]at h
 obtain⟨hf,h⟩:=h
 obtain⟨n1,n2,g2,hl,he,hp,hs⟩:=flowOk_facts hf
 have hfine:=arcs_fine hf
 have hnn:((x.n.toNat:Nat):Int)=x.n:=by omega
 rw[←hnn]at hfine
 unfold ringIt at h hL
 dsimp only at h hL
 have hnode:0≤(passes x.n.toNat (arcsOf x f) x.n.toNat).node:=by
  by_cases q:(passes x.n.toNat (arcsOf x f) x.n.toNat).node<0
  ·rw[if_pos q]at h;exact absurd h (by simp)
  ·omega
 rw[if_neg (by omega)]at hL
 have h0:1≤(arcsOf x f).length:=by
  rcases Nat.eq_zero_or_pos (arcsOf x f).length with q|q
  ·exfalso
   have e:arcsOf x f=[]:=List.eq_nil_of_length_eq_zero q
   rw[e]at hnode
   rcases hh:x.n.toNat with _|j
   ·omega
   ·rw[hh]at hnode
    exact absurd hnode (by show ¬(0:Int)≤-1;omega)
  ·omega
 have hF:=passes_fine hfine h0 x.n.toNat
 have hrel:=all_relaxed hfine (by omega) h0 hnode
 have hst:=par_stays hfine hF
 generalize hss:passes x.n.toNat (arcsOf x f) x.n.toNat=s at *
 have hnl:s.node<(x.n.toNat:Int):=hF.2.2.1
 obtain⟨d0,hd1,hd2,hd3⟩:=comes_back hst hnode hnl
 obtain⟨d,hd4,⟨hd5,hd6⟩,hd7⟩:=least_of (q:=fun d=>1≤d∧iter (par (arcsOf x f) s.last) d (iter (par (arcsOf x f) s.last) x.n.toNat s.node)=iter (par (arcsOf x f) s.last) x.n.toNat s.node) d0 ⟨hd1,hd3⟩
 have hgood:Good (arcsOf x f) s.last (iter (par (arcsOf x f) s.last) x.n.toNat s.node):=fun j=>by
  rw[←iter_add]
  refine⟨?_,hrel _⟩
  have hb:=hst.iter hnode hnl (j+x.n.toNat)
  generalize iter (par (arcsOf x f) s.last) (j+x.n.toNat) s.node=u at *
  have hv:u.toNat<s.last.length:=by rw[hF.2.1];omega
  have hb2:=hF.2.2.2.2 _ hv
  have e:s.last.getD u.toNat 0=((s.last[u.toNat]).toNat:Int):=by rw[List.getD_eq_getElem?_getD,List.getElem?_eq_getElem hv];show s.last[u.toNat]=_;omega
  rw[arcAt_of e (by omega)]
  exact List.getElem_mem _
 generalize iter (par (arcsOf x f) s.last) x.n.toNat s.node=v at *
 have hbk:backs (par (arcsOf x f) s.last) v v d:=⟨hd6,fun k k1 k2 hk=>hd7 k k2 ⟨k1,hk⟩⟩
 have hring:=ringFrom_eq d x.n.toNat v hd5 (by omega) hbk
 have hbal:=fun(w:Nat) (r:Int)=>push_bal hf (r:=r) (v:=w) d x.n.toNat v f hd5 (by omega) hbk hgood hl
 dsimp only at hL
 rw[←hL]at hring hbal
 generalize ringL x f=ring at *
 have hmem:∀id∈ring,∃a∈arcsOf x f,a.id=id:=fun id hid=>by
  rw[hring]at hid
  obtain⟨j,_,rfl⟩:=List.mem_map.1 hid
  exact⟨_,(hgood j).1,rfl⟩
 have hnd:ring.Nodup:=by
  rw[hring]
  refine nodup_range_map fun i j hij hj e=>?_
  have:=arc_same hf (hgood i).1 (hgood j).1 e
  have e2:iter (par (arcsOf x f) s.last) i v=iter (par (arcsOf x f) s.last) j v:=by rw[←(hgood i).2,←(hgood j).2,this]
  refine hd7 (d-j+i) (by omega) ⟨by omega,?_⟩
  rw[iter_add,e2,←iter_add,show d-j+j=d by omega,hd6]
 have hlen:ring.length≠0:=by rw[hring];simp;omega
 have hroom1:∀a∈arcsOf x f,1≤a.room:=fun a ha=>(hfine a ha).2.2.2.2.2.2.2.1
 have hr1:=leastOf_pos (arcsOf x f) ring 1000000000 hroom1 (by omega)
 have hr2:=leastOf_arc (arcsOf x f) ring 1000000000
 have hrings:ringsOk (arcsOf x f) ring=true:=by
  unfold ringsOk
  rw[List.all_eq_true]
  intro i hi
  have hi':i<ring.length:=by simpa using hi
  unfold ringAt
  rw[List.getElem?_eq_getElem hi']
  dsimp only
  rw[Bool.and_eq_true]
  constructor
  ·obtain⟨a,ha,e⟩:=hmem _ (List.getElem_mem hi')
   unfold hasArc
   rw[List.any_eq_true]
   exact⟨a,ha,by simp[e]⟩
  ·rw[Bool.not_eq_true',List.any_eq_false]
   intro y hy hyy
   obtain⟨j,hj,rfl⟩:=List.mem_take_iff_getElem.1 hy
   have hyy':ring[j]=ring[i]:=by simpa using hyy
   have:=List.pairwise_iff_getElem.1 hnd j i (by omega) hi' (by omega)
   exact this hyy'
 have hto:pushTo x f ring=pushAll (leastOf (arcsOf x f) 1000000000 ring) ring f:=rfl
 generalize hrr:leastOf (arcsOf x f) 1000000000 ring=r at *
 have hid0:∀id∈ring,0≤id:=fun id hid=>by
  obtain⟨a,ha,rfl⟩:=hmem id hid
  exact(hfine a ha).1
 have holen:(pushTo x f ring).length=f.length:=by rw[hto,pushAll_length]
 have hg:graphOk x=true:=by unfold flowOk at hf;simp only[Bool.and_eq_true]at hf;exact hf.1.1.1
 have hfin:flowOk x (pushTo x f ring)=true:=by
  unfold flowOk
  rw[hg,Bool.true_and,Bool.and_eq_true,Bool.and_eq_true]
  refine⟨⟨by simpa[holen]using hl,?_⟩,?_⟩
  ·rw[List.all_eq_true]
   intro p hpm
   obtain⟨i,hi,rfl⟩:=List.getElem_of_mem hpm
   have hi1:i<x.edges.length:=by simp at hi;omega
   have hi2:i<f.length:=by omega
   have hi3:i<(pushTo x f ring).length:=by omega
   have hz:(x.edges.zip (pushTo x f ring))[i]=(x.edges[i],(pushTo x f ring)[i]):=List.getElem_zip
   rw[hz]
   have hpi:=hp (x.edges[i],f[i]) (by
    have:(x.edges.zip f)[i]'(by simp;omega)=(x.edges[i],f[i]):=List.getElem_zip
    rw[←this];exact List.getElem_mem _)
   have hval:=pushAll_getD (r:=r) ring f hid0 i hi2
   rw[←hto]at hval
   have e1:(pushTo x f ring).getD i 0=(pushTo x f ring)[i]:=by rw[List.getD_eq_getElem?_getD,List.getElem?_eq_getElem hi3];rfl
   have e2:f.getD i 0=f[i]:=by rw[List.getD_eq_getElem?_getD,List.getElem?_eq_getElem hi2];rfl
   rw[e1,e2]at hval
   obtain⟨c1,c2⟩:=contrs_bd (i:=i) hnd
   have u1:(2*i:Int)∈ring→r≤x.edges[i].cap-f[i]:=fun hm=>by
    obtain⟨a,ha,e⟩:=hmem _ hm
    have:=hr2 a ha (by rw[e];exact hm)
    obtain⟨j,j1,j2,q⟩:=arc_at hf ha
    rcases q with⟨q1,q2,q3⟩|⟨q1,q2,q3⟩
    ·obtain rfl:i=j:=by omega
     rw[q3]at this;exact this
    ·omega
   have u2:(2*i+1:Int)∈ring→r≤f[i]:=fun hm=>by
    obtain⟨a,ha,e⟩:=hmem _ hm
    have:=hr2 a ha (by rw[e];exact hm)
    obtain⟨j,j1,j2,q⟩:=arc_at hf ha
    rcases q with⟨q1,q2,q3⟩|⟨q1,q2,q3⟩
    ·omega
    ·obtain rfl:i=j:=by omega
     rw[q3]at this;exact this
   unfold flowIn
   refine inB_true.2 ⟨?_,?_⟩
   ·show 0≤(pushTo x f ring)[i]
    rw[hval]
    by_cases q:contrs i ring≤-1
    ·have q2:contrs i ring=-1:=by split at c2<;>omega
     have q3:(2*i+1:Int)∈ring:=by
      by_cases m:(2*i+1:Int)∈ring
      ·exact m
      ·rw[if_neg m]at c2;omega
     have:=u2 q3
     rw[q2];omega
    ·have:=Int.mul_nonneg (show (0:Int)≤r by omega) (show 0≤contrs i ring by omega)
     have:=hpi.1
     simp only at this
     omega
   ·show (pushTo x f ring)[i]≤x.edges[i].cap
    rw[hval]
    by_cases q:1≤contrs i ring
    ·have q2:contrs i ring=1:=by split at c1<;>omega
     have q3:(2*i:Int)∈ring:=by
      by_cases m:(2*i:Int)∈ring
      ·exact m
      ·rw[if_neg m]at c1;omega
     have:=u1 q3
     rw[q2];omega
    ·have:=Int.mul_nonneg (show (0:Int)≤r by omega) (show 0≤-contrs i ring by omega)
     rw[Int.mul_neg]at this
     have:=hpi.2
     simp only at this
     omega
  ·rw[List.all_eq_true]
   intro y hy
   obtain⟨w,hw,rfl⟩:=List.getElem_of_mem hy
   have hends:∀(o:List Int),∀p∈x.edges.zip o,p.1.frm.toNat<(List.replicate x.n.toNat (0:Int)).length∧p.1.to.toNat<(List.replicate x.n.toNat (0:Int)).length:=fun o p hp=>by
    obtain⟨e1,_⟩:=List.of_mem_zip hp
    obtain⟨p1,p2,p3,p4,_⟩:=edgeOk_iff.1 (he _ e1)
    rw[List.length_replicate];omega
   have k1:=fold_getD (v:=w) (x.edges.zip (pushTo x f ring)) (List.replicate x.n.toNat 0) (hends _)
   have k2:=fold_getD (v:=w) (x.edges.zip f) (List.replicate x.n.toNat 0) (hends _)
   have hw2:w<(sumsOf x.n.toNat (x.edges.zip f)).length:=by rw[sumsOf_length]at hw ⊢;exact hw
   have k3:=hs _ (List.getElem_mem hw2)
   have k4:(sumsOf x.n.toNat (x.edges.zip f)).getD w 0=(sumsOf x.n.toNat (x.edges.zip f))[w]:=by rw[List.getD_eq_getElem?_getD,List.getElem?_eq_getElem hw2];rfl
   have k5:(sumsOf x.n.toNat (x.edges.zip (pushTo x f ring))).getD w 0=(sumsOf x.n.toNat (x.edges.zip (pushTo x f ring)))[w]:=by rw[List.getD_eq_getElem?_getD,List.getElem?_eq_getElem hw];rfl
   have k6:=hbal w r
   rw[←hto]at k6
   have k7:r*(ind (decide (v.toNat=w))-ind (decide (v.toNat=w)))=0:=by rw[Int.sub_self];simp
   rw[k7]at k6
   unfold sumsOf at k3 k4 k5 ⊢
   simp only[beq_iff_eq]
   rw[←k5,k1]
   rw[←k4,k2]at k3
   omega
 unfold pushOk
 rw[hf,hrings,hfin]
 simp[hlen]
end Go.Proofs.Ytlgamhhfgaeaoaa
