/- The walk along the parents comes back, and what is pushed along a ring is a flow. No program in sight. -/
import Derived.Test.YtlgamhhfgaeaoaaKArc0
namespace Go.Proofs.Ytlgamhhfgaeaoaa
open Go.RowKit
set_option linter.unusedSimpArgs false
set_option linter.unusedVariables false
theorem pigeon:∀(n:Nat) (f:Nat→Nat),(∀i,i≤n→f i<n)→∃i j,i<j∧j≤n∧f i=f j
 |0,f,h=>absurd (h 0 (by omega)) (by omega)
 |n+1,f,h=>by
  by_cases hx:∃i,i≤n∧f i=f (n+1)
  ·obtain⟨i,hi,he⟩:=hx
   exact⟨i,n+1,by omega,by omega,he⟩
  ·have hx':∀i,i≤n→f i≠f (n+1):=fun i hi he=>hx ⟨i,hi,he⟩
   obtain⟨i,j,hij,hj,he⟩:=pigeon n (fun i=>if f i=n then f (n+1)else f i) (fun i hi=>by
    have h1:=h i (by omega)
    have h2:=h (n+1) (by omega)
    have h3:=hx' i hi
    split<;>omega)
   have h3:=hx' i (by omega)
   have h4:=hx' j (by omega)
   refine⟨i,j,hij,by omega,?_⟩
   split at he<;>split at he<;>omega
theorem iter_add(p:Int→Int)(a:Nat):∀(b:Nat) (v:Int),iter p (a+b) v=iter p a (iter p b v):=by
 induction a with
 |zero=>intro b v;rw[Nat.zero_add];rfl
 |succ a ih=>intro b v;rw[show a+1+b=(a+b)+1 by omega];show p (iter p (a+b) v)=p (iter p a (iter p b v));rw[ih]
theorem iter_succ'(p:Int→Int)(a:Nat)(v:Int):iter p (a+1) v=iter p a (p v):=iter_add p a 1 v
def Stays(n:Nat)(p:Int→Int):Prop:=∀v:Int,0≤v→v<n→0≤p v∧p v<n
theorem Stays.iter{n:Nat}{p:Int→Int}(h:Stays n p){v:Int}(h0:0≤v)(h1:v<n):∀j,0≤iter p j v∧iter p j v<n
 |0=>⟨h0,h1⟩
 |j+1=>h _ (Stays.iter h h0 h1 j).1 (Stays.iter h h0 h1 j).2
theorem iter_twice{n:Nat}{p:Int→Int}(h:Stays n p){v:Int}(h0:0≤v)(h1:v<n):∃i j,i<j∧j≤n∧iter p i v=iter p j v:=by
 obtain⟨i,j,h2,h3,h4⟩:=pigeon n (fun i=>(iter p i v).toNat) (fun i _=>by have:=h.iter h0 h1 i;omega)
 have:=h.iter h0 h1 i
 have:=h.iter h0 h1 j
 exact⟨i,j,h2,h3,by omega⟩
theorem comes_back{n:Nat}{p:Int→Int}(h:Stays n p){v:Int}(h0:0≤v)(h1:v<n):∃d,1≤d∧d≤n∧iter p d (iter p n v)=iter p n v:=by
 obtain⟨i,j,h2,h3,h4⟩:=iter_twice h h0 h1
 refine⟨j-i,by omega,by omega,?_⟩
 rw[←iter_add,show j-i+n=(n-i)+j by omega,iter_add,←h4,←iter_add,show n-i+i=n by omega]
theorem least_of{q:Nat→Prop}:∀(d:Nat),q d→∃m,m≤d∧q m∧∀k,k<m→¬q k:=by
 intro d
 induction d using Nat.strongRecOn with
 |ind d ih=>
  intro h
  by_cases hx:∃k,k<d∧q k
  ·obtain⟨k,h1,h2⟩:=hx
   obtain⟨m,h3,h4⟩:=ih k h1 h2
   exact⟨m,by omega,h4⟩
  ·exact⟨d,Nat.le_refl _,h,fun k h1 h2=>hx ⟨k,h1,h2⟩⟩
-- ---------- the state of the scan
def RS.fine(n:Nat)(m:Nat)(s:RS):Prop:=s.dist.length=n∧s.last.length=n∧s.node<n∧-1≤s.node∧(∀i (h:i<s.last.length),0≤s.last[i]∧s.last[i]<m)
theorem relax_yes{s:RS}{k:Nat}{a:Arc}(h:s.dist.getD a.frm.toNat 0+a.cost<s.dist.getD a.to.toNat 0):relax s k a=⟨s.dist.set a.to.toNat (s.dist.getD a.frm.toNat 0+a.cost),s.last.set a.to.toNat (k:Int),a.to⟩:=if_pos h
theorem relax_no{s:RS}{k:Nat}{a:Arc}(h:¬s.dist.getD a.frm.toNat 0+a.cost<s.dist.getD a.to.toNat 0):relax s k a=s:=if_neg h
theorem relax_fine{n m:Nat}{s:RS}(h:s.fine n m){k:Nat}(hk:k<m){a:Arc}(ha:arcFine n a):(relax s k a).fine n m:=by
 obtain⟨h1,h2,h3,h4,h5⟩:=h
 obtain⟨a1,a2,a3,a4,a5,a6,_⟩:=ha
 unfold relax
 split
 ·refine⟨by simpa using h1,by simpa using h2,a6,by show -1≤a.to;omega,fun i hi=>?_⟩
  have hi':i<s.last.length:=by simpa using hi
  show 0≤(s.last.set a.to.toNat (k:Int))[i]∧(s.last.set a.to.toNat (k:Int))[i]<m
  by_cases e:a.to.toNat=i
  ·subst e;rw[List.getElem_set_self];omega
  ·rw[List.getElem_set_ne e];exact h5 i hi'
 ·exact⟨h1,h2,h3,h4,h5⟩
theorem scan_succ{l:List Arc}{s:RS}{k:Nat}(h:k<l.length):scan l s (k+1)=relax (scan l s k) k l[k]:=by
 show (match l[k]? with|some a=>relax (scan l s k) k a|none=>scan l s k)=_
 rw[List.getElem?_eq_getElem h]
theorem scan_fine{n:Nat}{l:List Arc}(hl:∀a∈l,arcFine n a){s:RS}(h:s.fine n l.length):∀k,k≤l.length→(scan l s k).fine n l.length
 |0,_=>h
 |k+1,hk=>by rw[scan_succ (by omega)];exact relax_fine (scan_fine hl h k (by omega)) (by omega) (hl _ (List.getElem_mem _))
theorem pass_start{n m:Nat}{s:RS}(h:s.fine n m):(RS.mk s.dist s.last (-1)).fine n m:=⟨h.1,h.2.1,by show (-1:Int)<n;omega,by show (-1:Int)≤-1;omega,h.2.2.2.2⟩
theorem passes_fine{n:Nat}{l:List Arc}(hl:∀a∈l,arcFine n a)(h0:1≤l.length):∀j,(passes n l j).fine n l.length
 |0=>⟨by simp[passes],by simp[passes],by show (-1:Int)<n;omega,by show (-1:Int)≤-1;omega,fun i hi=>by simp[passes];omega⟩
 |j+1=>scan_fine hl (pass_start (passes_fine hl h0 j)) l.length (Nat.le_refl _)
theorem par_stays{n:Nat}{l:List Arc}(hl:∀a∈l,arcFine n a){s:RS}(h:s.fine n l.length):Stays n (par l s.last):=fun v h0 h1=>by
 obtain⟨_,h2,_,_,h5⟩:=h
 have hv:v.toNat<s.last.length:=by omega
 have hb:=h5 _ hv
 have e:s.last.getD v.toNat 0=s.last[v.toNat]:=by rw[List.getD_eq_getElem?_getD,List.getElem?_eq_getElem hv];rfl
 unfold par arcAt
 rw[e]
 have hb2:(s.last[v.toNat]).toNat<l.length:=by omega
 have e2:l.getD (s.last[v.toNat]).toNat ⟨0,0,0,0,0⟩=l[(s.last[v.toNat]).toNat]:=by rw[List.getD_eq_getElem?_getD,List.getElem?_eq_getElem hb2];rfl
 rw[e2]
 obtain⟨_,_,a3,a4,_⟩:=hl _ (List.getElem_mem hb2)
 exact⟨a3,a4⟩
theorem relax_bdd{n:Nat}{s:RS}{b:Int}(hb:0≤b)(h:bdd b s.dist){k:Nat}{a:Arc}(ha:arcFine n a):bdd (b+1000000) (relax s k a).dist:=by
 obtain⟨_,_,_,_,_,_,_,_,_,a10,a11⟩:=ha
 unfold relax
 split
 ·have:=bdd_getD h hb a.frm.toNat
  exact bdd_set h _ _ (by omega) (by omega) (by omega)
 ·intro i hi;have:=h i hi;omega
theorem scan_bdd{n:Nat}{l:List Arc}(hl:∀a∈l,arcFine n a){s:RS}{b:Int}(hb:0≤b)(h:bdd b s.dist):∀k,k≤l.length→bdd (b+1000000*k) (scan l s k).dist
 |0,_=>by simpa[scan]using h
 |k+1,hk=>by
  rw[scan_succ (by omega)]
  have:=relax_bdd (n:=n) (k:=k) (by omega) (scan_bdd hl hb h k (by omega)) (hl _ (List.getElem_mem (show k<l.length by omega)))
  intro i hi
  have:=this i hi
  push_cast;omega
theorem passes_bdd{n:Nat}{l:List Arc}(hl:∀a∈l,arcFine n a)(h120:l.length≤120):∀j:Nat,bdd (120000000*j) (passes n l j).dist
 |0=>fun i hi=>by simp[passes]
 |j+1=>by
  have:=scan_bdd hl (s:=⟨(passes n l j).dist,(passes n l j).last,-1⟩) (b:=120000000*j) (by omega) (passes_bdd hl h120 j) l.length (Nat.le_refl _)
  show bdd _ (scan l ⟨(passes n l j).dist,(passes n l j).last,-1⟩ l.length).dist
  intro i hi
  have:=this i hi
  push_cast;omega
-- ---------- all nodes on the ring have been relaxed
structure Rnd(n:Nat)(l:List Arc)(s:RS)(R k:Nat)(rr:Int→Nat):Prop where
 le:∀v,rr v≤R
 nod:∀v,1≤rr v→0≤v∧v<n
 arc:∀v,1≤rr v→(arcAt l s.last v).to=v∧rr v≤rr (par l s.last v)+1
 done:∀i (h:i<l.length),1≤(if i<k then R else R-1)→s.dist.getD l[i].to.toNat 0≤s.dist.getD l[i].frm.toNat 0+l[i].cost∨(if i<k then R else R-1)≤rr l[i].frm
 now:0≤s.node→rr s.node=R
theorem getD_set_self'{l:List Int}{i:Nat}{v:Int}(h:i<l.length):(l.set i v).getD i 0=v:=by
 rw[List.getD_eq_getElem?_getD,List.getElem?_set_self h];rfl
theorem getD_set_ne'{l:List Int}{i j:Nat}{v:Int}(h:i≠j):(l.set i v).getD j 0=l.getD j 0:=by
 rw[List.getD_eq_getElem?_getD,List.getElem?_set_ne h,List.getD_eq_getElem?_getD]
theorem arcAt_of{l:List Arc}{last:List Int}{v:Int}{i:Nat}(h:last.getD v.toNat 0=(i:Int))(hi:i<l.length):arcAt l last v=l[i]:=by
 unfold arcAt;rw[h,Int.toNat_natCast,List.getD_eq_getElem?_getD,List.getElem?_eq_getElem hi];rfl
def rnx(s:RS)(a:Arc)(R:Nat)(rr:Int→Nat):Int→Nat:=if s.dist.getD a.frm.toNat 0+a.cost<s.dist.getD a.to.toNat 0 then fun v=>if v=a.to then R else rr v else rr
theorem Rnd.step0{n:Nat}{l:List Arc}(hl:∀a∈l,arcFine n a){s:RS}(hs:s.fine n l.length){R k:Nat}(hR:1≤R){rr:Int→Nat}(h:Rnd n l s R k rr)(hk:k<l.length):Rnd n l (relax s k l[k]) R (k+1) (rnx s l[k] R rr):=by
 obtain⟨a1,a2,a3,a4,a5,a6,a7,a8,a9,a10,a11⟩:=hl _ (List.getElem_mem hk)
 obtain⟨s1,s2,s3,s4,s5⟩:=hs
 by_cases ht:s.dist.getD l[k].frm.toNat 0+l[k].cost<s.dist.getD l[k].to.toNat 0
 ·rw[relax_yes ht,show rnx s l[k] R rr=_ from if_pos ht]
  have htl:l[k].to.toNat<s.dist.length:=by omega
  have htl2:l[k].to.toNat<s.last.length:=by omega
  have hge:∀v:Int,rr v≤(if v=l[k].to then R else rr v):=fun v=>by
   split
   ·exact h.le v
   ·exact Nat.le_refl _
  have hfr:(if l[k].frm=l[k].to then R else rr l[k].frm)=rr l[k].frm:=if_neg a7
  refine⟨fun v=>?_,fun v hv=>?_,fun v hv=>?_,fun i hi hq=>?_,fun _=>if_pos rfl⟩
  ·show (if v=l[k].to then R else rr v)≤R
   split
   ·exact Nat.le_refl _
   ·exact h.le v
  ·have hv:1≤(if v=l[k].to then R else rr v):=hv
   by_cases e:v=l[k].to
   ·subst e;exact⟨a5,a6⟩
   ·rw[if_neg e]at hv;exact h.nod v hv
  ·by_cases e:v=l[k].to
   ·have hat:arcAt l (s.last.set l[k].to.toNat (k:Int)) v=l[k]:=by subst e;exact arcAt_of (getD_set_self' htl2) hk
    have hpr:par l (s.last.set l[k].to.toNat (k:Int)) v=l[k].frm:=by unfold par;rw[hat]
    show (arcAt l (s.last.set l[k].to.toNat (k:Int)) v).to=v∧(if v=l[k].to then R else rr v)≤(if par l (s.last.set l[k].to.toNat (k:Int)) v=l[k].to then R else rr (par l (s.last.set l[k].to.toNat (k:Int)) v))+1
    rw[hat,hpr,if_pos e,hfr]
    refine⟨e.symm,?_⟩
    have hd:=h.done k hk
    rw[if_neg (Nat.lt_irrefl k)]at hd
    by_cases h1:1≤R-1
    ·rcases hd h1 with h2|h2
     ·omega
     ·omega
    ·omega
   ·have hv':1≤rr v:=by
     have hv:1≤(if v=l[k].to then R else rr v):=hv
     rwa [if_neg e]at hv
    obtain⟨q1,q2⟩:=h.nod v hv'
    have hne:l[k].to.toNat≠v.toNat:=by omega
    have hat:arcAt l (s.last.set l[k].to.toNat (k:Int)) v=arcAt l s.last v:=by unfold arcAt;rw[getD_set_ne' hne]
    have hpr:par l (s.last.set l[k].to.toNat (k:Int)) v=par l s.last v:=by unfold par;rw[hat]
    show (arcAt l (s.last.set l[k].to.toNat (k:Int)) v).to=v∧(if v=l[k].to then R else rr v)≤(if par l (s.last.set l[k].to.toNat (k:Int)) v=l[k].to then R else rr (par l (s.last.set l[k].to.toNat (k:Int)) v))+1
    rw[hat,hpr,if_neg e]
    obtain⟨r1,r2⟩:=h.arc v hv'
    have:=hge (par l s.last v)
    exact⟨r1,by omega⟩
  ·obtain⟨b1,b2,b3,b4,b5,b6,b7,_⟩:=hl _ (List.getElem_mem hi)
   show (s.dist.set l[k].to.toNat _).getD l[i].to.toNat 0≤(s.dist.set l[k].to.toNat _).getD l[i].frm.toNat 0+l[i].cost∨(if i<k+1 then R else R-1)≤(if l[i].frm=l[k].to then R else rr l[i].frm)
   by_cases e:l[i].frm=l[k].to
   ·right;rw[if_pos e];split<;>omega
   ·rw[if_neg e]
    have hne:l[k].to.toNat≠l[i].frm.toNat:=by omega
    rw[getD_set_ne' hne]
    by_cases hik:i=k
    ·subst hik
     left
     rw[getD_set_self' htl]
     exact Int.le_refl _
    ·have hq2:(if i<k+1 then R else R-1)=(if i<k then R else R-1):=by
      by_cases h1:i<k
      ·rw[if_pos h1,if_pos (by omega)]
      ·rw[if_neg h1,if_neg (by omega)]
     rw[hq2]at hq ⊢
     rcases h.done i hi hq with h2|h2
     ·left
      by_cases e2:l[i].to=l[k].to
      ·rw[e2,getD_set_self' htl]
       rw[e2]at h2
       omega
      ·rw[getD_set_ne' (by omega)];exact h2
     ·right;exact h2
 ·rw[relax_no ht,show rnx s l[k] R rr=_ from if_neg ht]
  refine⟨h.le,h.nod,h.arc,fun i hi hq=>?_,h.now⟩
  by_cases hik:i=k
  ·subst hik;left;omega
  ·have hq2:(if i<k+1 then R else R-1)=(if i<k then R else R-1):=by
    by_cases h1:i<k
    ·rw[if_pos h1,if_pos (by omega)]
    ·rw[if_neg h1,if_neg (by omega)]
   rw[hq2]at hq ⊢
   exact h.done i hi hq
theorem Rnd.step{n:Nat}{l:List Arc}(hl:∀a∈l,arcFine n a){s:RS}(hs:s.fine n l.length){R k:Nat}(hR:1≤R){rr:Int→Nat}(h:Rnd n l s R k rr)(hk:k<l.length):∃rr',Rnd n l (relax s k l[k]) R (k+1) rr':=⟨_,h.step0 hl hs hR hk⟩
theorem Rnd.scan{n:Nat}{l:List Arc}(hl:∀a∈l,arcFine n a){s:RS}(hs:s.fine n l.length){R:Nat}(hR:1≤R)(h:∃rr,Rnd n l s R 0 rr):∀k,k≤l.length→∃rr,Rnd n l (scan l s k) R k rr
 |0,_=>h
 |k+1,hk=>by
  obtain⟨rr,h1⟩:=Rnd.scan hl hs hR h k (by omega)
  rw[scan_succ (by omega)]
  exact h1.step hl (scan_fine hl hs k (by omega)) hR (by omega)
theorem Rnd.passes{n:Nat}{l:List Arc}(hl:∀a∈l,arcFine n a)(h0:1≤l.length)(j:Nat):∃rr,Rnd n l (passes n l (j+1)) (j+1) l.length rr:=by
 induction j with
 |zero=>
  refine Rnd.scan hl (pass_start (passes_fine hl h0 0)) (by omega) ?_ l.length (Nat.le_refl _)
  exact⟨fun _=>0,⟨fun _=>by omega,fun _ h=>absurd h (by omega),fun _ h=>absurd h (by omega),fun i hi hq=>absurd hq (by simp),fun h=>absurd h (by show ¬(0:Int)≤-1;omega)⟩⟩
 |succ j ih=>
  refine Rnd.scan hl (pass_start (passes_fine hl h0 (j+1))) (by omega) ?_ l.length (Nat.le_refl _)
  obtain⟨rr,h⟩:=ih
  refine⟨rr,⟨fun v=>by have:=h.le v;omega,h.nod,h.arc,fun i hi hq=>?_,fun h=>absurd h (by show ¬(0:Int)≤-1;omega)⟩⟩
  have:=h.done i hi
  rw[if_pos hi]at this
  rw[if_neg (by omega)]at hq ⊢
  exact this (by omega)
theorem all_relaxed{n:Nat}{l:List Arc}(hl:∀a∈l,arcFine n a)(hn:1≤n)(h0:1≤l.length)(hv:0≤(passes n l n).node)(m:Nat) :
 (arcAt l (passes n l n).last (iter (par l (passes n l n).last) m (passes n l n).node)).to=iter (par l (passes n l n).last) m (passes n l n).node:=by
 obtain⟨rr,h⟩:∃rr,Rnd n l (passes n l n) n l.length rr:=by
  have:=Rnd.passes hl h0 (n-1)
  rwa [show n-1+1=n by omega]at this
 have hf:=passes_fine hl h0 n
 have hst:=par_stays hl hf
 generalize hs:passes n l n=s at *
 have hnode:s.node<n:=hf.2.2.1
 have hch:∀j,j<n→n-j≤rr (iter (par l s.last) j s.node):=by
  intro j
  induction j with
  |zero=>intro _;have:=h.now hv;show n-0≤rr s.node;omega
  |succ j ih=>
   intro hj
   have h1:=ih (by omega)
   have h2:=(h.arc _ (by omega:1≤rr (iter (par l s.last) j s.node))).2
   show n-(j+1)≤rr (par l s.last (iter (par l s.last) j s.node))
   omega
 obtain⟨i,j,hij,hjn,he⟩:=iter_twice hst hv hnode
 have hall:∀m,1≤rr (iter (par l s.last) m s.node):=by
  intro m
  induction m using Nat.strongRecOn with
  |ind m ih=>
   by_cases hm:m<n
   ·have:=hch m hm;omega
   ·have e:iter (par l s.last) m s.node=iter (par l s.last) (m-j+i) s.node:=by
     rw[iter_add,he,←iter_add,show m-j+j=m by omega]
    rw[e]
    exact ih _ (by omega)
 exact(h.arc _ (hall m)).1
end Go.Proofs.Ytlgamhhfgaeaoaa
