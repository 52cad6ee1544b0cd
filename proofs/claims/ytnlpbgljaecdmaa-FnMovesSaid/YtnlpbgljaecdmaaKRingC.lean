/- A ring's cost is below 0, and so is what a push along it adds; where there is no ring, no flow costs less. No program in sight. -/
import Derived.Test.YtnlpbgljaecdmaaKArc0
import Derived.Test.YtnlpbgljaecdmaaKFlow1
namespace Go.Proofs.Ytnlpbgljaecdmaa
open Go.RowKit
set_option linter.unusedSimpArgs false
set_option linter.unusedVariables false
structure Tms(n:Nat)(l:List Arc)(s:RS)(c:Nat)(tt rr:Int→Nat):Prop where
 le:∀v,tt v≤c
 arc:∀v,1≤tt v→0≤v∧v<n∧s.dist.getD (par l s.last v).toNat 0+(arcAt l s.last v).cost≤s.dist.getD v.toNat 0∧(tt v<tt (par l s.last v)→s.dist.getD (par l s.last v).toNat 0+(arcAt l s.last v).cost<s.dist.getD v.toNat 0)∧tt (par l s.last v)≠tt v
 rel:∀v,1≤rr v→1≤tt v
theorem Tms.step{n:Nat}{l:List Arc}(hl:∀a∈l,arcFine n a){s:RS}(hs:s.fine n l.length){R k c:Nat}{tt rr:Int→Nat}(h:Tms n l s c tt rr)(hk:k<l.length):∃c' tt',Tms n l (relax s k l[k]) c' tt' (rnx s l[k] R rr):=by
 obtain⟨a1,a2,a3,a4,a5,a6,a7,a8,a9,a10,a11⟩:=hl _ (List.getElem_mem hk)
 obtain⟨s1,s2,s3,s4,s5⟩:=hs
 by_cases ht:s.dist.getD l[k].frm.toNat 0+l[k].cost<s.dist.getD l[k].to.toNat 0
 ·rw[relax_yes ht,show rnx s l[k] R rr=_ from if_pos ht]
  have htl:l[k].to.toNat<s.dist.length:=by omega
  have htl2:l[k].to.toNat<s.last.length:=by omega
  have hd:∀v:Int,0≤v→v≠l[k].to→(s.dist.set l[k].to.toNat (s.dist.getD l[k].frm.toNat 0+l[k].cost)).getD v.toNat 0=s.dist.getD v.toNat 0:=fun v h0 hv=>getD_set_ne' (by omega)
  have hd1:(s.dist.set l[k].to.toNat (s.dist.getD l[k].frm.toNat 0+l[k].cost)).getD l[k].to.toNat 0=s.dist.getD l[k].frm.toNat 0+l[k].cost:=getD_set_self' htl
  have hst:=par_stays hl (⟨s1,s2,s3,s4,s5⟩:s.fine n l.length)
  refine⟨c+1,fun v=>if v=l[k].to then c+1 else tt v,⟨fun v=>?_,fun v hv=>?_,fun v hv=>?_⟩⟩
  ·show (if v=l[k].to then c+1 else tt v)≤c+1
   have:=h.le v
   split<;>omega
  ·show 0≤v∧v<n∧(s.dist.set l[k].to.toNat (s.dist.getD l[k].frm.toNat 0+l[k].cost)).getD (par l (s.last.set l[k].to.toNat (k:Int)) v).toNat 0+(arcAt l (s.last.set l[k].to.toNat (k:Int)) v).cost≤(s.dist.set l[k].to.toNat (s.dist.getD l[k].frm.toNat 0+l[k].cost)).getD v.toNat 0∧((if v=l[k].to then c+1 else tt v)<(if par l (s.last.set l[k].to.toNat (k:Int)) v=l[k].to then c+1 else tt (par l (s.last.set l[k].to.toNat (k:Int)) v))→(s.dist.set l[k].to.toNat (s.dist.getD l[k].frm.toNat 0+l[k].cost)).getD (par l (s.last.set l[k].to.toNat (k:Int)) v).toNat 0+(arcAt l (s.last.set l[k].to.toNat (k:Int)) v).cost<(s.dist.set l[k].to.toNat (s.dist.getD l[k].frm.toNat 0+l[k].cost)).getD v.toNat 0)∧(if par l (s.last.set l[k].to.toNat (k:Int)) v=l[k].to then c+1 else tt (par l (s.last.set l[k].to.toNat (k:Int)) v))≠(if v=l[k].to then c+1 else tt v)
   by_cases e:v=l[k].to
   ·subst e
    have hat:arcAt l (s.last.set l[k].to.toNat (k:Int)) l[k].to=l[k]:=arcAt_of (getD_set_self' htl2) hk
    have hpr:par l (s.last.set l[k].to.toNat (k:Int)) l[k].to=l[k].frm:=by unfold par;rw[hat]
    rw[hat,hpr,hd1,hd _ a3 a7,if_pos rfl,if_neg a7]
    have:=h.le l[k].frm
    exact⟨a5,a6,Int.le_refl _,fun q=>by omega,by omega⟩
   ·have hv':1≤tt v:=by
     have hv:1≤(if v=l[k].to then c+1 else tt v):=hv
     rwa [if_neg e]at hv
    obtain⟨q1,q2,q3,q4,q5⟩:=h.arc v hv'
    have hne:l[k].to.toNat≠v.toNat:=by omega
    have hat:arcAt l (s.last.set l[k].to.toNat (k:Int)) v=arcAt l s.last v:=by unfold arcAt;rw[getD_set_ne' hne]
    have hpr:par l (s.last.set l[k].to.toNat (k:Int)) v=par l s.last v:=by unfold par;rw[hat]
    rw[hat,hpr,if_neg e,hd v q1 e]
    have hp:=hst v q1 q2
    by_cases e2:par l s.last v=l[k].to
    ·rw[e2,hd1,if_pos rfl]
     rw[e2]at q3
     have:=h.le v
     exact⟨q1,q2,by omega,fun _=>by omega,by omega⟩
    ·rw[hd _ hp.1 e2,if_neg e2]
     exact⟨q1,q2,q3,q4,q5⟩
  ·have hv:1≤(if v=l[k].to then R else rr v):=hv
   show 1≤(if v=l[k].to then c+1 else tt v)
   split
   ·omega
   ·rename_i e;rw[if_neg e]at hv;exact h.rel v hv
 ·rw[relax_no ht,show rnx s l[k] R rr=_ from if_neg ht]
  exact⟨c,tt,h⟩
def Both(n:Nat)(l:List Arc)(s:RS)(R k:Nat):Prop:=∃rr c tt,Rnd n l s R k rr∧Tms n l s c tt rr
theorem Both.scan{n:Nat}{l:List Arc}(hl:∀a∈l,arcFine n a){s:RS}(hs:s.fine n l.length){R:Nat}(hR:1≤R)(h:Both n l s R 0):∀k,k≤l.length→Both n l (Proofs.Ytnlpbgljaecdmaa.scan l s k) R k
 |0,_=>h
 |k+1,hk=>by
  obtain⟨rr,c,tt,h1,h2⟩:=Both.scan hl hs hR h k (by omega)
  rw[scan_succ (by omega)]
  obtain⟨c',tt',h3⟩:=h2.step (R:=R) (k:=k) hl (scan_fine hl hs k (by omega)) (by omega)
  exact⟨_,c',tt',h1.step0 hl (scan_fine hl hs k (by omega)) hR (by omega),h3⟩
theorem Both.passes{n:Nat}{l:List Arc}(hl:∀a∈l,arcFine n a)(h0:1≤l.length)(j:Nat):Both n l (Proofs.Ytnlpbgljaecdmaa.passes n l (j+1)) (j+1) l.length:=by
 induction j with
 |zero=>
  refine Both.scan hl (pass_start (passes_fine hl h0 0)) (by omega) ?_ l.length (Nat.le_refl _)
  exact⟨fun _=>0,0,fun _=>0,⟨fun _=>by omega,fun _ h=>absurd h (by omega),fun _ h=>absurd h (by omega),fun i hi hq=>absurd hq (by simp),fun h=>absurd h (by show ¬(0:Int)≤-1;omega)⟩,⟨fun _=>by omega,fun _ h=>absurd h (by omega),fun _ h=>absurd h (by omega)⟩⟩
 |succ j ih=>
  refine Both.scan hl (pass_start (passes_fine hl h0 (j+1))) (by omega) ?_ l.length (Nat.le_refl _)
  obtain⟨rr,c,tt,h,g⟩:=ih
  refine⟨rr,c,tt,⟨fun v=>by have:=h.le v;omega,h.nod,h.arc,fun i hi hq=>?_,fun h=>absurd h (by show ¬(0:Int)≤-1;omega)⟩,⟨g.le,g.arc,g.rel⟩⟩
  have:=h.done i hi
  rw[if_pos hi]at this
  rw[if_neg (by omega)]at hq ⊢
  exact this (by omega)
theorem ring_times{n:Nat}{l:List Arc}(hl:∀a∈l,arcFine n a)(hn:1≤n)(h0:1≤l.length)(hv:0≤(passes n l n).node) :
 ∃c tt rr,Tms n l (passes n l n) c tt rr∧∀m,1≤tt (iter (par l (passes n l n).last) m (passes n l n).node):=by
 obtain⟨rr,c,tt,h,g⟩:Both n l (passes n l n) n l.length:=by
  have:=Both.passes hl h0 (n-1)
  rwa [show n-1+1=n by omega]at this
 refine⟨c,tt,rr,g,fun m=>g.rel _ ?_⟩
 have hf:=passes_fine hl h0 n
 have hst:=par_stays hl hf
 generalize hs:passes n l n=s at *
 have hnode:s.node<n:=hf.2.2.1
 have hch:∀j,j<n→n-j≤rr (iter (par l s.last) j s.node):=by
  intro j
  induction j with
  |zero=>intro _;have:=h.now hv;show n-0≤rr s.node;omega
  |succ j ih=>
   intro hj
   have h1:=ih (by omega)
   have h2:=(h.arc _ (by omega:1≤rr (iter (par l s.last) j s.node))).2
   show n-(j+1)≤rr (par l s.last (iter (par l s.last) j s.node))
   omega
 obtain⟨i,j,hij,hjn,he⟩:=iter_twice hst hv hnode
 induction m using Nat.strongRecOn with
 |ind m ih=>
  by_cases hm:m<n
  ·have:=hch m hm;omega
  ·have e:iter (par l s.last) m s.node=iter (par l s.last) (m-j+i) s.node:=by
    rw[iter_add,he,←iter_add,show m-j+j=m by omega]
   rw[e]
   exact ih _ (by omega)
-- ---------- sums along the walk
def sumN(g:Nat→Int):Nat→Int
 |0=>0
 |k+1=>sumN g k+g k
theorem sumN_shift(g:Nat→Int):∀k,sumN g (k+1)=g 0+sumN (fun j=>g (j+1)) k
 |0=>by simp[sumN]
 |k+1=>by
  rw[show sumN g (k+1+1)=sumN g (k+1)+g (k+1)from rfl,sumN_shift g k]
  show _=g 0+(sumN (fun j=>g (j+1)) k+g (k+1))
  omega
theorem sumN_le{g:Nat→Int}{p:Nat→Int}(h:∀j,p (j+1)+g j≤p j):∀d,sumN g d≤p 0-p d
 |0=>by simp[sumN]
 |d+1=>by
  have:=sumN_le h d
  have:=h d
  show sumN g d+g d≤_
  omega
theorem sumN_lt{g:Nat→Int}{p:Nat→Int}(h:∀j,p (j+1)+g j≤p j):∀d k,k<d→p (k+1)+g k<p k→sumN g d<p 0-p d
 |0,k,hk,_=>absurd hk (by omega)
 |d+1,k,hk,hs=>by
  show sumN g d+g d<_
  by_cases e:k=d
  ·subst e
   have:=sumN_le h k
   omega
  ·have:=sumN_lt h d k (by omega) hs
   have:=h d
   omega
theorem cost_set:∀(es:List Edge) (o:List Int) (i:Nat) (y:Int),∀(h1:i<es.length) (h2:i<o.length),costSum (es.zip (o.set i y))=costSum (es.zip o)+es[i].cost*(y-o[i])
 |[],_,_,_,h,_=>absurd h (by simp)
 |_::_,[],_,_,_,h=>absurd h (by simp)
 |e::es,a::o,0,y,_,_=>by
  show costSum ((e,y)::es.zip o)=costSum ((e,a)::es.zip o)+e.cost*(y-a)
  unfold costSum
  simp only[List.map_cons,List.sum_cons]
  rw[Int.mul_sub];omega
 |e::es,a::o,i+1,y,h1,h2=>by
  have h1':i<es.length:=by simpa using h1
  have h2':i<o.length:=by simpa using h2
  have ih:=cost_set es o i y h1' h2'
  have e1:costSum ((e::es).zip ((a::o).set (i+1) y))=e.cost*a+costSum (es.zip (o.set i y)):=by unfold costSum;simp
  have e2:costSum ((e::es).zip (a::o))=e.cost*a+costSum (es.zip o):=by unfold costSum;simp
  show _=_+es[i].cost*(y-o[i])
  rw[e1,e2,ih];omega
theorem push_cost{x:Graph}{f:List Int}(h:flowOk x f=true){last:List Int}{v0:Int}{r:Int}:∀(d m:Nat) (u:Int) (o:List Int),1≤d→d≤m→backs (par (arcsOf x f) last) u v0 d→Good (arcsOf x f) last u→o.length=x.edges.length→
 costSum (x.edges.zip (pushAll r (ringFrom (arcsOf x f) last v0 m u) o))=costSum (x.edges.zip o)+r*sumN (fun j=>(arcAt (arcsOf x f) last (iter (par (arcsOf x f) last) j u)).cost) d
 |0,_,_,_,h,_,_,_,_=>absurd h (by omega)
 |_+1,0,_,_,_,h,_,_,_=>absurd h (by omega)
 |d+1,m+1,u,o,_,hm,hb,hg,ho=>by
  show costSum (x.edges.zip (pushAll r (if par (arcsOf x f) last u=v0 then []else ringFrom (arcsOf x f) last v0 m (par (arcsOf x f) last u)) (pushStep r o (arcAt (arcsOf x f) last u).id)))=_
  obtain⟨g1,g2⟩:=hg 0
  have g1:arcAt (arcsOf x f) last u∈arcsOf x f:=g1
  have hstep:costSum (x.edges.zip (pushStep r o (arcAt (arcsOf x f) last u).id))=costSum (x.edges.zip o)+r*(arcAt (arcsOf x f) last u).cost:=by
   obtain⟨i,h1,h2,hc⟩:=arc_at h g1
   generalize arcAt (arcsOf x f) last u=a at *
   have hid:(a.id/2).toNat=i:=by rcases hc with⟨q,_⟩|⟨q,_⟩<;>omega
   subst hid
   have hlt:(a.id/2).toNat<o.length:=by omega
   unfold pushStep
   rw[cost_set x.edges o (a.id/2).toNat _ (by omega) hlt]
   have e0:o.getD (a.id/2).toNat 0=o[(a.id/2).toNat]:=by rw[List.getD_eq_getElem?_getD,List.getElem?_eq_getElem hlt];rfl
   rw[e0]
   rcases hc with⟨q1,_,q3⟩|⟨q1,_,q3⟩
   ·have t1:a.cost=x.edges[(a.id/2).toNat].cost:=congrArg Arc.cost q3
    rw[←t1,if_pos (show a.id%2=0 by omega),show o[(a.id/2).toNat]+r-o[(a.id/2).toNat]=r by omega,Int.mul_comm]
   ·have t1:a.cost=-x.edges[(a.id/2).toNat].cost:=congrArg Arc.cost q3
    rw[if_neg (show ¬a.id%2=0 by omega),show o[(a.id/2).toNat]+-r-o[(a.id/2).toNat]=-r by omega,show x.edges[(a.id/2).toNat].cost=-a.cost by omega,Int.neg_mul_neg,Int.mul_comm]
  rw[sumN_shift]
  have hfun:(fun j=>(arcAt (arcsOf x f) last (iter (par (arcsOf x f) last) (j+1) u)).cost)=fun j=>(arcAt (arcsOf x f) last (iter (par (arcsOf x f) last) j (par (arcsOf x f) last u))).cost:=funext fun j=>by rw[iter_succ']
  rw[hfun]
  by_cases hd:d=0
  ·subst hd
   have e:par (arcsOf x f) last u=v0:=hb.1
   rw[if_pos e]
   show costSum (x.edges.zip (pushStep r o (arcAt (arcsOf x f) last u).id))=_
   rw[hstep]
   show _=costSum (x.edges.zip o)+r*((arcAt (arcsOf x f) last u).cost+0)
   rw[Int.add_zero]
  ·have hne:par (arcsOf x f) last u≠v0:=hb.2 1 (by omega) (by omega)
   rw[if_neg hne,push_cost h d m (par (arcsOf x f) last u) _ (by omega) (by omega) ⟨by rw[←iter_succ'];exact hb.1,fun k k1 k2=>by rw[←iter_succ'];exact hb.2 (k+1) (by omega) (by omega)⟩ hg.next (by rw[pushStep_length];exact ho),hstep,Int.add_assoc,←Int.mul_add]
   rfl
theorem ring_less{x:Graph}{f:List Int}(h:ringOk x f=true):costSum (x.edges.zip (pushTo x f (ringL x f)))<costSum (x.edges.zip f):=by
 have hL:ringL x f=(ringIt x.n.toNat (arcsOf x f)).1:=if_pos h
 unfold ringOk at h
 simp only[Bool.and_eq_true]at h
 obtain⟨hf,h⟩:=h
 obtain⟨n1,n2,g2,hl,he,hp,hs⟩:=flowOk_facts hf
 have hfine:=arcs_fine hf
 have hnn:((x.n.toNat:Nat):Int)=x.n:=by omega
 rw[←hnn]at hfine
 unfold ringIt at h hL
 dsimp only at h hL
 have hnode:0≤(passes x.n.toNat (arcsOf x f) x.n.toNat).node:=by
  by_cases q:(passes x.n.toNat (arcsOf x f) x.n.toNat).node<0
  ·rw[if_pos q]at h;exact absurd h (by simp)
  ·omega
 rw[if_neg (by omega)]at hL
 have h0:1≤(arcsOf x f).length:=by
  rcases Nat.eq_zero_or_pos (arcsOf x f).length with q|q
  ·exfalso
   have e:arcsOf x f=[]:=List.eq_nil_of_length_eq_zero q
   rw[e]at hnode
   rcases hh:x.n.toNat with _|j
   ·omega
   ·rw[hh]at hnode
    exact absurd hnode (by show ¬(0:Int)≤-1;omega)
  ·omega
 have hF:=passes_fine hfine h0 x.n.toNat
 have hrel:=all_relaxed hfine (by omega) h0 hnode
 obtain⟨c,tt,rr,tms,htt⟩:=ring_times hfine (by omega) h0 hnode
 have hst:=par_stays hfine hF
 generalize hss:passes x.n.toNat (arcsOf x f) x.n.toNat=s at *
 have hnl:s.node<(x.n.toNat:Int):=hF.2.2.1
 obtain⟨d0,hd1,hd2,hd3⟩:=comes_back hst hnode hnl
 obtain⟨d,hd4,⟨hd5,hd6⟩,hd7⟩:=least_of (q:=fun d=>1≤d∧iter (par (arcsOf x f) s.last) d (iter (par (arcsOf x f) s.last) x.n.toNat s.node)=iter (par (arcsOf x f) s.last) x.n.toNat s.node) d0 ⟨hd1,hd3⟩
 have hgood:Good (arcsOf x f) s.last (iter (par (arcsOf x f) s.last) x.n.toNat s.node):=fun j=>by
  rw[←iter_add]
  refine⟨?_,hrel _⟩
  have hb:=hst.iter hnode hnl (j+x.n.toNat)
  generalize iter (par (arcsOf x f) s.last) (j+x.n.toNat) s.node=u at *
  have hv:u.toNat<s.last.length:=by rw[hF.2.1];omega
  have hb2:=hF.2.2.2.2 _ hv
  have e:s.last.getD u.toNat 0=((s.last[u.toNat]).toNat:Int):=by rw[List.getD_eq_getElem?_getD,List.getElem?_eq_getElem hv];show s.last[u.toNat]=_;omega
  rw[arcAt_of e (by omega)]
  exact List.getElem_mem _
 have htv:∀j,1≤tt (iter (par (arcsOf x f) s.last) j (iter (par (arcsOf x f) s.last) x.n.toNat s.node)):=fun j=>by rw[←iter_add];exact htt _
 generalize iter (par (arcsOf x f) s.last) x.n.toNat s.node=v at *
 have hbk:backs (par (arcsOf x f) s.last) v v d:=⟨hd6,fun k k1 k2 hk=>hd7 k k2 ⟨k1,hk⟩⟩
 have hstep:=fun j=>tms.arc _ (htv j)
 -- times cannot fall all around the ring
 have hup:∃k,k<d∧tt (iter (par (arcsOf x f) s.last) k v)<tt (iter (par (arcsOf x f) s.last) (k+1) v):=by
  refine Classical.byContradiction fun hno=>?_
  have hdn:∀k,k<d→tt (iter (par (arcsOf x f) s.last) (k+1) v)<tt (iter (par (arcsOf x f) s.last) k v):=fun k hk=>by
   have h1:¬tt (iter (par (arcsOf x f) s.last) k v)<tt (iter (par (arcsOf x f) s.last) (k+1) v):=fun q=>hno ⟨k,hk,q⟩
   have h2:tt (iter (par (arcsOf x f) s.last) (k+1) v)≠tt (iter (par (arcsOf x f) s.last) k v):=(hstep k).2.2.2.2
   omega
  have hall:∀k,k≤d→tt (iter (par (arcsOf x f) s.last) k v)+k≤tt v:=by
   intro k
   induction k with
   |zero=>intro _;exact Nat.le_refl _
   |succ k ih=>intro hk;have:=ih (by omega);have:=hdn k (by omega);omega
  have:=hall d (Nat.le_refl _)
  rw[hd6]at this
  omega
 obtain⟨k,hk,hkt⟩:=hup
 have hneg:sumN (fun j=>(arcAt (arcsOf x f) s.last (iter (par (arcsOf x f) s.last) j v)).cost) d<0:=by
  have h9:sumN (fun j=>(arcAt (arcsOf x f) s.last (iter (par (arcsOf x f) s.last) j v)).cost) d<s.dist.getD (iter (par (arcsOf x f) s.last) 0 v).toNat 0-s.dist.getD (iter (par (arcsOf x f) s.last) d v).toNat 0:=sumN_lt (g:=fun j=>(arcAt (arcsOf x f) s.last (iter (par (arcsOf x f) s.last) j v)).cost) (p:=fun j=>s.dist.getD (iter (par (arcsOf x f) s.last) j v).toNat 0) (fun j=>(hstep j).2.2.1) d k hk ((hstep k).2.2.2.1 hkt)
  rw[hd6,show iter (par (arcsOf x f) s.last) 0 v=v from rfl]at h9
  omega
 have hc:=fun(r:Int)=>push_cost hf (r:=r) d x.n.toNat v f hd5 (by omega) hbk hgood hl
 dsimp only at hL
 rw[←hL]at hc
 have hroom1:∀a∈arcsOf x f,1≤a.room:=fun a ha=>(hfine a ha).2.2.2.2.2.2.2.1
 have hr1:=leastOf_pos (arcsOf x f) (ringL x f) 1000000000 hroom1 (by omega)
 unfold pushTo
 rw[hc]
 have:=Int.mul_le_mul_of_nonneg_left (show sumN (fun j=>(arcAt (arcsOf x f) s.last (iter (par (arcsOf x f) s.last) j v)).cost) d≤-1 by omega) (show 0≤leastOf (arcsOf x f) 1000000000 (ringL x f) by omega)
 omega
-- ---------- no ring: no flow costs less
-- ---------- the cheapest flow
theorem cheapIt_best{x:Graph}:∀(m:Nat) (f r:List Int),flowOk x f=true→cheapIt x m f=(true,r)→flowOk x r=true∧ringOk x r=false∧costSum (x.edges.zip r)≤costSum (x.edges.zip f)
 |0,f,r,hf,h=>by
  unfold cheapIt at h
  by_cases q:ringOk x f=true
  ·rw[if_pos q]at h;cases h
  ·rw[if_neg q]at h
   injection h with _ h
   subst h
   exact⟨hf,by simpa using q,Int.le_refl _⟩
 |m+1,f,r,hf,h=>by
  unfold cheapIt at h
  by_cases q:ringOk x f=true
  ·rw[if_pos q,if_pos (push_ring q)]at h
   have hp:=push_ring q
   have e:pushL x f (ringL x f)=pushTo x f (ringL x f):=if_pos hp
   rw[e]at h
   have hfl:flowOk x (pushTo x f (ringL x f))=true:=by
    unfold pushOk at hp
    simp only[Bool.and_eq_true]at hp
    exact hp.2
   obtain⟨h1,h2,h3⟩:=cheapIt_best m _ r hfl h
   have:=ring_less q
   exact⟨h1,h2,by omega⟩
  ·rw[if_neg q]at h
   injection h with _ h
   subst h
   exact⟨hf,by simpa using q,Int.le_refl _⟩
theorem stepSum_zero{n:Nat}:∀(l:List (Edge×Int)),(∀p∈l,p.2=0)→l.foldl stepSum (List.replicate n 0)=List.replicate n 0
 |[],_=>rfl
 |p::l,h=>by
  have h0:p.2=0:=h p (by simp)
  have e:stepSum (List.replicate n 0) p=List.replicate n 0:=by
   unfold stepSum
   have hg:∀j,(List.replicate n (0:Int)).getD j 0=0:=fun j=>by
    rw[List.getD_eq_getElem?_getD,List.getElem?_replicate];split<;>rfl
   have hs:∀j,(List.replicate n (0:Int)).set j 0=List.replicate n 0:=fun j=>by
    apply List.ext_getElem
    ·simp
    ·intro i h1 h2
     rw[List.getElem_set];split<;>simp
   dsimp only
   rw[hg,h0,Int.sub_zero,hs,hg,Int.zero_add,hs]
  rw[List.foldl_cons,e]
  exact stepSum_zero l (fun q hq=>h q (by simp[hq]))
theorem zero_flow{x:Graph}(h:graphOk x=true):flowOk x (List.replicate x.edges.length 0)=true:=by
 have hz:∀p∈x.edges.zip (List.replicate x.edges.length (0:Int)),p.1∈x.edges∧p.2=0:=fun p hp=>by
  have:=List.of_mem_zip hp
  exact⟨this.1,(List.mem_replicate.1 this.2).2⟩
 unfold flowOk
 simp only[Bool.and_eq_true,decide_eq_true_eq]
 refine⟨⟨⟨h,by simp⟩,?_⟩,?_⟩
 ·rw[List.all_eq_true]
  intro p hp
  obtain⟨h1,h2⟩:=hz p hp
  unfold graphOk at h
  simp only[Bool.and_eq_true,decide_eq_true_eq]at h
  have:=edgeOk_iff.1 (List.all_eq_true.1 h.2 _ h1)
  unfold flowIn
  rw[h2]
  exact inB_true.2 ⟨by omega,by omega⟩
 ·rw[List.all_eq_true]
  intro v hv
  unfold sumsOf at hv
  rw[stepSum_zero _ (fun p hp=>(hz p hp).2)]at hv
  rw[(List.mem_replicate.1 hv).2];rfl
theorem cheapL_best{x:Graph}(h:cheapOk x=true)(h0:flowOk x (List.replicate x.edges.length 0)=true):flowOk x (cheapL x)=true∧ringOk x (cheapL x)=false∧costSum (x.edges.zip (cheapL x))≤0:=by
 have e:cheapL x=_:=if_pos h
 rw[e]
 unfold cheapOk at h
 rw[Bool.and_eq_true]at h
 obtain⟨h1,h2,h3⟩:=cheapIt_best 400 (List.replicate x.edges.length 0) (cheapIt x 400 (List.replicate x.edges.length 0)).2 h0 (Prod.ext h.2 rfl)
 refine⟨h1,h2,?_⟩
 have:costSum (x.edges.zip (List.replicate x.edges.length 0))=0:=by
  generalize x.edges=es
  induction es with
  |nil=>rfl
  |cons e es ih=>
   show costSum ((e,0)::es.zip (List.replicate es.length 0))=0
   unfold costSum at ih ⊢
   rw[List.map_cons,List.sum_cons,ih]
   simp
 omega
end Go.Proofs.Ytnlpbgljaecdmaa
