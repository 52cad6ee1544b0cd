/- Texts joined: Arc0, Ring0, Push0. -/
import Derived.Test.YtnlpbgljaecdmaaKFlow1
import Derived.Test.YtnlpbgljaecdmaaKOwn
namespace Go.Proofs.Ytnlpbgljaecdmaa
open Go.RowKit
set_option linter.unusedSimpArgs false
set_option linter.unusedVariables false
structure Arc where
 id:Int
 frm:Int
 to:Int
 room:Int
 cost:Int
def wfArc(x:Arc):Prop:=i64 (x.id)∧i64 (x.frm)∧i64 (x.to)∧i64 (x.room)∧i64 (x.cost)
def encArc(x:Arc):List Value:=[.int .i64 x.id,.int .i64 x.frm,.int .i64 x.to,.int .i64 x.room,.int .i64 x.cost]
def repArc(_:World)(_ _:Nat)(cs:List Value)(x:Arc):Prop:=cs=encArc x∧wfArc x
theorem repArc_stable:Stable repArc:=fun _ _ _ _ _ _ _ _ _ _ _ h=>h
theorem Arc.atCell{w:World}{b off lo hi:Nat}{xs:List Arc}(h:Elems 5 repArc w lo hi b off xs)(i:Nat)(hi':i<xs.length) :
 w.cell? ⟨b,off+i*5,none⟩=some (.int .i64 xs[i].id)∧w.cell? ⟨b,off+i*5+1,none⟩=some (.int .i64 xs[i].frm)∧w.cell? ⟨b,off+i*5+2,none⟩=some (.int .i64 xs[i].to)∧w.cell? ⟨b,off+i*5+3,none⟩=some (.int .i64 xs[i].room)∧w.cell? ⟨b,off+i*5+4,none⟩=some (.int .i64 xs[i].cost)∧wfArc xs[i]:=by
 obtain⟨cs,⟨rfl,hw⟩,hc⟩:=h i hi'
 exact⟨hc 0 _ rfl,hc 1 _ rfl,hc 2 _ rfl,hc 3 _ rfl,hc 4 _ rfl,hw⟩
theorem length_encArc(x:Arc):(encArc x).length=5:=rfl
def arcUp(i:Nat)(p:Edge×Int):List Arc:=if p.2<p.1.cap then [⟨2*i,p.1.frm,p.1.to,p.1.cap-p.2,p.1.cost⟩]else []
def arcDn(i:Nat)(p:Edge×Int):List Arc:=if 0<p.2 then [⟨2*i+1,p.1.to,p.1.frm,p.2,-p.1.cost⟩]else []
def arcsAt(i:Nat)(p:Edge×Int):List Arc:=arcUp i p++arcDn i p
def arcsK(z:List (Edge×Int)):Nat→List Arc
 |0=>[]
 |k+1=>arcsK z k++(match z[k]? with|some p=>arcsAt k p|none=>[])
def arcsOf(x:Graph)(f:List Int):List Arc:=arcsK (x.edges.zip f) (x.edges.zip f).length
theorem arcsK_succ{z:List (Edge×Int)}{k:Nat}(h:k<z.length):arcsK z (k+1)=arcsK z k++arcsAt k z[k]:=by
 show arcsK z k++(match z[k]? with|some p=>arcsAt k p|none=>[])=_
 rw[List.getElem?_eq_getElem h]
theorem arcUp_yes{i:Nat}{p:Edge×Int}(h:p.2<p.1.cap):arcUp i p=[⟨2*i,p.1.frm,p.1.to,p.1.cap-p.2,p.1.cost⟩]:=if_pos h
theorem arcUp_no{i:Nat}{p:Edge×Int}(h:¬p.2<p.1.cap):arcUp i p=[]:=if_neg h
theorem arcDn_yes{i:Nat}{p:Edge×Int}(h:0<p.2):arcDn i p=[⟨2*i+1,p.1.to,p.1.frm,p.2,-p.1.cost⟩]:=if_pos h
theorem arcDn_no{i:Nat}{p:Edge×Int}(h:¬0<p.2):arcDn i p=[]:=if_neg h
theorem arcsAt_len(i:Nat)(p:Edge×Int):(arcsAt i p).length≤2:=by
 unfold arcsAt arcUp arcDn;split<;>split<;>simp
theorem arcsK_len(z:List (Edge×Int)):∀k,(arcsK z k).length≤2*k
 |0=>by simp[arcsK]
 |k+1=>by
  have ih:=arcsK_len z k
  show (arcsK z k++(match z[k]? with|some p=>arcsAt k p|none=>[])).length≤_
  rw[List.length_append]
  cases h:z[k]? with
  |none=>simp;omega
  |some p=>have:=arcsAt_len k p;simp only[];omega
theorem arcsK_mem{z:List (Edge×Int)}{a:Arc}:∀ {k:Nat},k≤z.length→a∈arcsK z k→∃i,∃h:i<z.length,i<k∧a∈arcsAt i z[i]
 |0,_,h=>absurd h (by simp[arcsK])
 |k+1,hk,h=>by
  rw[arcsK_succ (by omega)]at h
  rcases List.mem_append.1 h with h|h
  ·obtain⟨i,h1,h2,h3⟩:=arcsK_mem (k:=k) (by omega) h
   exact⟨i,h1,by omega,h3⟩
  ·exact⟨k,by omega,by omega,h⟩
theorem arcsAt_mem{i:Nat}{p:Edge×Int}{a:Arc}(h:a∈arcsAt i p):(p.2<p.1.cap∧a=⟨2*i,p.1.frm,p.1.to,p.1.cap-p.2,p.1.cost⟩)∨(0<p.2∧a=⟨2*i+1,p.1.to,p.1.frm,p.2,-p.1.cost⟩):=by
 unfold arcsAt at h
 rcases List.mem_append.1 h with h|h
 ·unfold arcUp at h
  split at h
  ·exact .inl ⟨by assumption,by simpa using h⟩
  ·exact absurd h (by simp)
 ·unfold arcDn at h
  split at h
  ·exact .inr ⟨by assumption,by simpa using h⟩
  ·exact absurd h (by simp)
theorem flowOk_facts{x:Graph}{f:List Int}(h:flowOk x f=true):1≤x.n∧x.n≤24∧x.edges.length≤60∧f.length=x.edges.length∧(∀e∈x.edges,edgeOk x.n e=true)∧(∀p∈x.edges.zip f,0≤p.2∧p.2≤p.1.cap)∧(∀s∈sumsOf x.n.toNat (x.edges.zip f),s=0):=by
 unfold flowOk at h
 simp only[Bool.and_eq_true,decide_eq_true_eq]at h
 obtain⟨⟨⟨h1,h2⟩,h3⟩,h4⟩:=h
 unfold graphOk at h1
 simp only[Bool.and_eq_true,decide_eq_true_eq]at h1
 obtain⟨⟨g1,g2⟩,g3⟩:=h1
 obtain⟨n1,n2⟩:=inB_true.1 g1
 refine⟨n1,n2,g2,h2,fun e he=>List.all_eq_true.1 g3 e he,fun p hp=>inB_true.1 (List.all_eq_true.1 h3 p hp),fun s hs=>by simpa using List.all_eq_true.1 h4 s hs⟩
def arcFine(n:Int)(a:Arc):Prop:=0≤a.id∧a.id<120∧0≤a.frm∧a.frm<n∧0≤a.to∧a.to<n∧a.frm≠a.to∧1≤a.room∧a.room≤1000000000∧-1000000≤a.cost∧a.cost≤1000000
theorem arcs_fine{x:Graph}{f:List Int}(h:flowOk x f=true):∀a∈arcsOf x f,arcFine x.n a:=fun a ha=>by
 obtain⟨n1,n2,g2,h2,he,hp,_⟩:=flowOk_facts h
 obtain⟨i,hi,_,hm⟩:=arcsK_mem (Nat.le_refl _) ha
 have hi2:i<x.edges.length:=by simp at hi;omega
 have hz:(x.edges.zip f)[i]=(x.edges[i],f[i]'(by omega)):=List.getElem_zip
 have e1:=edgeOk_iff.1 (he _ (List.getElem_mem hi2))
 have e2:=hp _ (List.getElem_mem hi)
 rw[hz]at e2 hm
 simp only at e2
 obtain⟨p1,p2,p3,p4,p5,p6,p7,p8,p9⟩:=e1
 unfold arcFine
 rcases arcsAt_mem hm with⟨q,rfl⟩|⟨q,rfl⟩
 ·simp only at q ⊢;refine⟨by omega,by omega,by omega,by omega,by omega,by omega,by omega,by omega,by omega,by omega,by omega⟩
 ·simp only at q ⊢;refine⟨by omega,by omega,by omega,by omega,by omega,by omega,by omega,by omega,by omega,by omega,by omega⟩
theorem arcFine.wf{n:Int}(hn:n≤24){a:Arc}(h:arcFine n a):wfArc a:=by
 obtain⟨_,_,_,_,_,_,_,_,_,_,_⟩:=h
 unfold wfArc i64;refine⟨⟨?_,?_⟩,⟨?_,?_⟩,⟨?_,?_⟩,⟨?_,?_⟩,?_,?_⟩<;>omega
theorem arcsOf_len{x:Graph}{f:List Int}(h:flowOk x f=true):(arcsOf x f).length≤120:=by
 obtain⟨_,_,g2,h2,_⟩:=flowOk_facts h
 have:=arcsK_len (x.edges.zip f) (x.edges.zip f).length
 have h3:(x.edges.zip f).length≤60:=by simp;omega
 unfold arcsOf;omega
-- ---------- pushing
def leastStep(id:Int)(r:Int)(a:Arc):Int:=if a.id=id∧a.room<r then a.room else r
def leastAt(l:List Arc)(r:Int)(id:Int):Int:=l.foldl (leastStep id) r
def leastOf(l:List Arc)(r:Int)(ring:List Int):Int:=ring.foldl (leastAt l) r
def hasArc(l:List Arc)(id:Int):Bool:=l.any fun a=>a.id==id
def ringAt(l:List Arc)(ring:List Int)(i:Nat):Bool:=match ring[i]? with|some id=>hasArc l id&&!((ring.take i).any fun v=>v==id)|none=>true
def pushStep(r:Int)(o:List Int)(id:Int):List Int:=o.set (id/2).toNat (o.getD (id/2).toNat 0+(if id%2=0 then r else -r))
def pushAll(r:Int)(ring:List Int)(f:List Int):List Int:=ring.foldl (pushStep r) f
def ringsOk(l:List Arc)(ring:List Int):Bool:=(List.range ring.length).all (ringAt l ring)
def pushTo(x:Graph)(f ring:List Int):List Int:=pushAll (leastOf (arcsOf x f) 1000000000 ring) ring f
def pushOk(x:Graph)(f ring:List Int):Bool:=flowOk x f&&!(ring.length==0)&&ringsOk (arcsOf x f) ring&&flowOk x (pushTo x f ring)
def pushL(x:Graph)(f ring:List Int):List Int:=if pushOk x f ring=true then pushTo x f ring else []
-- ---------- rings
structure RS where
 dist:List Int
 last:List Int
 node:Int
def relax(s:RS)(k:Nat)(a:Arc):RS:=
 if s.dist.getD a.frm.toNat 0+a.cost<s.dist.getD a.to.toNat 0 then ⟨s.dist.set a.to.toNat (s.dist.getD a.frm.toNat 0+a.cost),s.last.set a.to.toNat (k:Int),a.to⟩else s
def scan(l:List Arc)(s:RS):Nat→RS
 |0=>s
 |k+1=>match l[k]? with|some a=>relax (scan l s k) k a|none=>scan l s k
def pass(l:List Arc)(s:RS):RS:=scan l ⟨s.dist,s.last,-1⟩ l.length
def passes(n:Nat)(l:List Arc):Nat→RS
 |0=>⟨List.replicate n 0,List.replicate n 0,-1⟩
 |j+1=>pass l (passes n l j)
def arcAt(l:List Arc)(last:List Int)(v:Int):Arc:=l.getD (last.getD v.toNat 0).toNat ⟨0,0,0,0,0⟩
def par(l:List Arc)(last:List Int)(v:Int):Int:=(arcAt l last v).frm
def iter(p:Int→Int):Nat→Int→Int
 |0,v=>v
 |j+1,v=>p (iter p j v)
def ringFrom(l:List Arc)(last:List Int)(v:Int):Nat→Int→List Int
 |0,_=>[]
 |m+1,u=>(arcAt l last u).id::(if par l last u=v then []else ringFrom l last v m (par l last u))
def ringIt(n:Nat)(l:List Arc):List Int×Bool:=
 let s:=passes n l n
 if s.node<0 then ([],false)else let v:=iter (par l s.last) n s.node;(ringFrom l s.last v n v,true)
def ringOk(x:Graph)(f:List Int):Bool:=flowOk x f&&(ringIt x.n.toNat (arcsOf x f)).2
def ringL(x:Graph)(f:List Int):List Int:=if ringOk x f=true then (ringIt x.n.toNat (arcsOf x f)).1 else []
-- ---------- the cheapest flow
def cheapIt(x:Graph):Nat→List Int→Bool×List Int
 |0,f=>if ringOk x f=true then (false,[])else (true,f)
 |m+1,f=>if ringOk x f=true then (if pushOk x f (ringL x f)=true then cheapIt x m (pushL x f (ringL x f))else (false,[]))else (true,f)
def cheapOk(x:Graph):Bool:=graphOk x&&(cheapIt x 400 (List.replicate x.edges.length 0)).1
def cheapL(x:Graph):List Int:=if cheapOk x=true then (cheapIt x 400 (List.replicate x.edges.length 0)).2 else []
end Go.Proofs.Ytnlpbgljaecdmaa
namespace Go.Proofs.Ytnlpbgljaecdmaa
open Go.RowKit
set_option linter.unusedSimpArgs false
set_option linter.unusedVariables false
theorem pigeon:∀(n:Nat) (f:Nat→Nat),(∀i,i≤n→f i<n)→∃i j,i<j∧j≤n∧f i=f j
 |0,f,h=>absurd (h 0 (by omega)) (by omega)
 |n+1,f,h=>by
  by_cases hx:∃i,i≤n∧f i=f (n+1)
  ·obtain⟨i,hi,he⟩:=hx
   exact⟨i,n+1,by omega,by omega,he⟩
  ·have hx':∀i,i≤n→f i≠f (n+1):=fun i hi he=>hx ⟨i,hi,he⟩
   obtain⟨i,j,hij,hj,he⟩:=pigeon n (fun i=>if f i=n then f (n+1)else f i) (fun i hi=>by
    have h1:=h i (by omega)
    have h2:=h (n+1) (by omega)
    have h3:=hx' i hi
    split<;>omega)
   have h3:=hx' i (by omega)
   have h4:=hx' j (by omega)
   refine⟨i,j,hij,by omega,?_⟩
   split at he<;>split at he<;>omega
theorem iter_add(p:Int→Int)(a:Nat):∀(b:Nat) (v:Int),iter p (a+b) v=iter p a (iter p b v):=by
 induction a with
 |zero=>intro b v;rw[Nat.zero_add];rfl
 |succ a ih=>intro b v;rw[show a+1+b=(a+b)+1 by omega];show p (iter p (a+b) v)=p (iter p a (iter p b v));rw[ih]
theorem iter_succ'(p:Int→Int)(a:Nat)(v:Int):iter p (a+1) v=iter p a (p v):=iter_add p a 1 v
def Stays(n:Nat)(p:Int→Int):Prop:=∀v:Int,0≤v→v<n→0≤p v∧p v<n
theorem Stays.iter{n:Nat}{p:Int→Int}(h:Stays n p){v:Int}(h0:0≤v)(h1:v<n):∀j,0≤iter p j v∧iter p j v<n
 |0=>⟨h0,h1⟩
 |j+1=>h _ (Stays.iter h h0 h1 j).1 (Stays.iter h h0 h1 j).2
theorem iter_twice{n:Nat}{p:Int→Int}(h:Stays n p){v:Int}(h0:0≤v)(h1:v<n):∃i j,i<j∧j≤n∧iter p i v=iter p j v:=by
 obtain⟨i,j,h2,h3,h4⟩:=pigeon n (fun i=>(iter p i v).toNat) (fun i _=>by have:=h.iter h0 h1 i;omega)
 have:=h.iter h0 h1 i
 have:=h.iter h0 h1 j
 exact⟨i,j,h2,h3,by omega⟩
theorem comes_back{n:Nat}{p:Int→Int}(h:Stays n p){v:Int}(h0:0≤v)(h1:v<n):∃d,1≤d∧d≤n∧iter p d (iter p n v)=iter p n v:=by
 obtain⟨i,j,h2,h3,h4⟩:=iter_twice h h0 h1
 refine⟨j-i,by omega,by omega,?_⟩
 rw[←iter_add,show j-i+n=(n-i)+j by omega,iter_add,←h4,←iter_add,show n-i+i=n by omega]
theorem least_of{q:Nat→Prop}:∀(d:Nat),q d→∃m,m≤d∧q m∧∀k,k<m→¬q k:=by
 intro d
 induction d using Nat.strongRecOn with
 |ind d ih=>
  intro h
  by_cases hx:∃k,k<d∧q k
  ·obtain⟨k,h1,h2⟩:=hx
   obtain⟨m,h3,h4⟩:=ih k h1 h2
   exact⟨m,by omega,h4⟩
  ·exact⟨d,Nat.le_refl _,h,fun k h1 h2=>hx ⟨k,h1,h2⟩⟩
-- ---------- the state of the scan
def RS.fine(n:Nat)(m:Nat)(s:RS):Prop:=s.dist.length=n∧s.last.length=n∧s.node<n∧-1≤s.node∧(∀i (h:i<s.last.length),0≤s.last[i]∧s.last[i]<m)
theorem relax_yes{s:RS}{k:Nat}{a:Arc}(h:s.dist.getD a.frm.toNat 0+a.cost<s.dist.getD a.to.toNat 0):relax s k a=⟨s.dist.set a.to.toNat (s.dist.getD a.frm.toNat 0+a.cost),s.last.set a.to.toNat (k:Int),a.to⟩:=if_pos h
theorem relax_no{s:RS}{k:Nat}{a:Arc}(h:¬s.dist.getD a.frm.toNat 0+a.cost<s.dist.getD a.to.toNat 0):relax s k a=s:=if_neg h
theorem relax_fine{n m:Nat}{s:RS}(h:s.fine n m){k:Nat}(hk:k<m){a:Arc}(ha:arcFine n a):(relax s k a).fine n m:=by
 obtain⟨h1,h2,h3,h4,h5⟩:=h
 obtain⟨a1,a2,a3,a4,a5,a6,_⟩:=ha
 unfold relax
 split
 ·refine⟨by simpa using h1,by simpa using h2,a6,by show -1≤a.to;omega,fun i hi=>?_⟩
  have hi':i<s.last.length:=by simpa using hi
  show 0≤(s.last.set a.to.toNat (k:Int))[i]∧(s.last.set a.to.toNat (k:Int))[i]<m
  by_cases e:a.to.toNat=i
  ·subst e;rw[List.getElem_set_self];omega
  ·rw[List.getElem_set_ne e];exact h5 i hi'
 ·exact⟨h1,h2,h3,h4,h5⟩
theorem scan_succ{l:List Arc}{s:RS}{k:Nat}(h:k<l.length):scan l s (k+1)=relax (scan l s k) k l[k]:=by
 show (match l[k]? with|some a=>relax (scan l s k) k a|none=>scan l s k)=_
 rw[List.getElem?_eq_getElem h]
theorem scan_fine{n:Nat}{l:List Arc}(hl:∀a∈l,arcFine n a){s:RS}(h:s.fine n l.length):∀k,k≤l.length→(scan l s k).fine n l.length
 |0,_=>h
 |k+1,hk=>by rw[scan_succ (by omega)];exact relax_fine (scan_fine hl h k (by omega)) (by omega) (hl _ (List.getElem_mem _))
theorem pass_start{n m:Nat}{s:RS}(h:s.fine n m):(RS.mk s.dist s.last (-1)).fine n m:=⟨h.1,h.2.1,by show (-1:Int)<n;omega,by show (-1:Int)≤-1;omega,h.2.2.2.2⟩
theorem passes_fine{n:Nat}{l:List Arc}(hl:∀a∈l,arcFine n a)(h0:1≤l.length):∀j,(passes n l j).fine n l.length
 |0=>⟨by simp[passes],by simp[passes],by show (-1:Int)<n;omega,by show (-1:Int)≤-1;omega,fun i hi=>by simp[passes];omega⟩
 |j+1=>scan_fine hl (pass_start (passes_fine hl h0 j)) l.length (Nat.le_refl _)
theorem par_stays{n:Nat}{l:List Arc}(hl:∀a∈l,arcFine n a){s:RS}(h:s.fine n l.length):Stays n (par l s.last):=fun v h0 h1=>by
 obtain⟨_,h2,_,_,h5⟩:=h
 have hv:v.toNat<s.last.length:=by omega
 have hb:=h5 _ hv
 have e:s.last.getD v.toNat 0=s.last[v.toNat]:=by rw[List.getD_eq_getElem?_getD,List.getElem?_eq_getElem hv];rfl
 unfold par arcAt
 rw[e]
 have hb2:(s.last[v.toNat]).toNat<l.length:=by omega
 have e2:l.getD (s.last[v.toNat]).toNat ⟨0,0,0,0,0⟩=l[(s.last[v.toNat]).toNat]:=by rw[List.getD_eq_getElem?_getD,List.getElem?_eq_getElem hb2];rfl
 rw[e2]
 obtain⟨_,_,a3,a4,_⟩:=hl _ (List.getElem_mem hb2)
 exact⟨a3,a4⟩
theorem relax_bdd{n:Nat}{s:RS}{b:Int}(hb:0≤b)(h:bdd b s.dist){k:Nat}{a:Arc}(ha:arcFine n a):bdd (b+1000000) (relax s k a).dist:=by
 obtain⟨_,_,_,_,_,_,_,_,_,a10,a11⟩:=ha
 unfold relax
 split
 ·have:=bdd_getD h hb a.frm.toNat
  exact bdd_set h _ _ (by omega) (by omega) (by omega)
 ·intro i hi;have:=h i hi;omega
theorem scan_bdd{n:Nat}{l:List Arc}(hl:∀a∈l,arcFine n a){s:RS}{b:Int}(hb:0≤b)(h:bdd b s.dist):∀k,k≤l.length→bdd (b+1000000*k) (scan l s k).dist
 |0,_=>by simpa[scan]using h
 |k+1,hk=>by
  rw[scan_succ (by omega)]
  have:=relax_bdd (n:=n) (k:=k) (by omega) (scan_bdd hl hb h k (by omega)) (hl _ (List.getElem_mem (show k<l.length by omega)))
  intro i hi
  have:=this i hi
  push_cast;omega
theorem passes_bdd{n:Nat}{l:List Arc}(hl:∀a∈l,arcFine n a)(h120:l.length≤120):∀j:Nat,bdd (120000000*j) (passes n l j).dist
 |0=>fun i hi=>by simp[passes]
 |j+1=>by
  have:=scan_bdd hl (s:=⟨(passes n l j).dist,(passes n l j).last,-1⟩) (b:=120000000*j) (by omega) (passes_bdd hl h120 j) l.length (Nat.le_refl _)
  show bdd _ (scan l ⟨(passes n l j).dist,(passes n l j).last,-1⟩ l.length).dist
  intro i hi
  have:=this i hi
  push_cast;omega
-- ---------- all nodes on the ring have been relaxed
structure Rnd(n:Nat)(l:List Arc)(s:RS)(R k:Nat)(rr:Int→Nat):Prop where
 le:∀v,rr v≤R
 nod:∀v,1≤rr v→0≤v∧v<n
 arc:∀v,1≤rr v→(arcAt l s.last v).to=v∧rr v≤rr (par l s.last v)+1
 done:∀i (h:i<l.length),1≤(if i<k then R else R-1)→s.dist.getD l[i].to.toNat 0≤s.dist.getD l[i].frm.toNat 0+l[i].cost∨(if i<k then R else R-1)≤rr l[i].frm
 now:0≤s.node→rr s.node=R
theorem getD_set_self'{l:List Int}{i:Nat}{v:Int}(h:i<l.length):(l.set i v).getD i 0=v:=by
 rw[List.getD_eq_getElem?_getD,List.getElem?_set_self h];rfl
theorem getD_set_ne'{l:List Int}{i j:Nat}{v:Int}(h:i≠j):(l.set i v).getD j 0=l.getD j 0:=by
 rw[List.getD_eq_getElem?_getD,List.getElem?_set_ne h,List.getD_eq_getElem?_getD]
theorem arcAt_of{l:List Arc}{last:List Int}{v:Int}{i:Nat}(h:last.getD v.toNat 0=(i:Int))(hi:i<l.length):arcAt l last v=l[i]:=by
 unfold arcAt;rw[h,Int.toNat_natCast,List.getD_eq_getElem?_getD,List.getElem?_eq_getElem hi];rfl
def rnx(s:RS)(a:Arc)(R:Nat)(rr:Int→Nat):Int→Nat:=if s.dist.getD a.frm.toNat 0+a.cost<s.dist.getD a.to.toNat 0 then fun v=>if v=a.to then R else rr v else rr
theorem Rnd.step0{n:Nat}{l:List Arc}(hl:∀a∈l,arcFine n a){s:RS}(hs:s.fine n l.length){R k:Nat}(hR:1≤R){rr:Int→Nat}(h:Rnd n l s R k rr)(hk:k<l.length):Rnd n l (relax s k l[k]) R (k+1) (rnx s l[k] R rr):=by
 obtain⟨a1,a2,a3,a4,a5,a6,a7,a8,a9,a10,a11⟩:=hl _ (List.getElem_mem hk)
 obtain⟨s1,s2,s3,s4,s5⟩:=hs
 by_cases ht:s.dist.getD l[k].frm.toNat 0+l[k].cost<s.dist.getD l[k].to.toNat 0
 ·rw[relax_yes ht,show rnx s l[k] R rr=_ from if_pos ht]
  have htl:l[k].to.toNat<s.dist.length:=by omega
  have htl2:l[k].to.toNat<s.last.length:=by omega
  have hge:∀v:Int,rr v≤(if v=l[k].to then R else rr v):=fun v=>by
   split
   ·exact h.le v
   ·exact Nat.le_refl _
  have hfr:(if l[k].frm=l[k].to then R else rr l[k].frm)=rr l[k].frm:=if_neg a7
  refine⟨fun v=>?_,fun v hv=>?_,fun v hv=>?_,fun i hi hq=>?_,fun _=>if_pos rfl⟩
  ·show (if v=l[k].to then R else rr v)≤R
   split
   ·exact Nat.le_refl _
   ·exact h.le v
  ·have hv:1≤(if v=l[k].to then R else rr v):=hv
   by_cases e:v=l[k].to
   ·subst e;exact⟨a5,a6⟩
   ·rw[if_neg e]at hv;exact h.nod v hv
  ·by_cases e:v=l[k].to
   ·have hat:arcAt l (s.last.set l[k].to.toNat (k:Int)) v=l[k]:=by subst e;exact arcAt_of (getD_set_self' htl2) hk
    have hpr:par l (s.last.set l[k].to.toNat (k:Int)) v=l[k].frm:=by unfold par;rw[hat]
    show (arcAt l (s.last.set l[k].to.toNat (k:Int)) v).to=v∧(if v=l[k].to then R else rr v)≤(if par l (s.last.set l[k].to.toNat (k:Int)) v=l[k].to then R else rr (par l (s.last.set l[k].to.toNat (k:Int)) v))+1
    rw[hat,hpr,if_pos e,hfr]
    refine⟨e.symm,?_⟩
    have hd:=h.done k hk
    rw[if_neg (Nat.lt_irrefl k)]at hd
    by_cases h1:1≤R-1
    ·rcases hd h1 with h2|h2
     ·omega
     ·omega
    ·omega
   ·have hv':1≤rr v:=by
     have hv:1≤(if v=l[k].to then R else rr v):=hv
     rwa [if_neg e]at hv
    obtain⟨q1,q2⟩:=h.nod v hv'
    have hne:l[k].to.toNat≠v.toNat:=by omega
    have hat:arcAt l (s.last.set l[k].to.toNat (k:Int)) v=arcAt l s.last v:=by unfold arcAt;rw[getD_set_ne' hne]
    have hpr:par l (s.last.set l[k].to.toNat (k:Int)) v=par l s.last v:=by unfold par;rw[hat]
    show (arcAt l (s.last.set l[k].to.toNat (k:Int)) v).to=v∧(if v=l[k].to then R else rr v)≤(if par l (s.last.set l[k].to.toNat (k:Int)) v=l[k].to then R else rr (par l (s.last.set l[k].to.toNat (k:Int)) v))+1
    rw[hat,hpr,if_neg e]
    obtain⟨r1,r2⟩:=h.arc v hv'
    have:=hge (par l s.last v)
    exact⟨r1,by omega⟩
  ·obtain⟨b1,b2,b3,b4,b5,b6,b7,_⟩:=hl _ (List.getElem_mem hi)
   show (s.dist.set l[k].to.toNat _).getD l[i].to.toNat 0≤(s.dist.set l[k].to.toNat _).getD l[i].frm.toNat 0+l[i].cost∨(if i<k+1 then R else R-1)≤(if l[i].frm=l[k].to then R else rr l[i].frm)
   by_cases e:l[i].frm=l[k].to
   ·right;rw[if_pos e];split<;>omega
   ·rw[if_neg e]
    have hne:l[k].to.toNat≠l[i].frm.toNat:=by omega
    rw[getD_set_ne' hne]
    by_cases hik:i=k
    ·subst hik
     left
     rw[getD_set_self' htl]
     exact Int.le_refl _
    ·have hq2:(if i<k+1 then R else R-1)=(if i<k then R else R-1):=by
      by_cases h1:i<k
      ·rw[if_pos h1,if_pos (by omega)]
      ·rw[if_neg h1,if_neg (by omega)]
     rw[hq2]at hq ⊢
     rcases h.done i hi hq with h2|h2
     ·left
      by_cases e2:l[i].to=l[k].to
      ·rw[e2,getD_set_self' htl]
       rw[e2]at h2
       omega
      ·rw[getD_set_ne' (by omega)];exact h2
     ·right;exact h2
 ·rw[relax_no ht,show rnx s l[k] R rr=_ from if_neg ht]
  refine⟨h.le,h.nod,h.arc,fun i hi hq=>?_,h.now⟩
  by_cases hik:i=k
  ·subst hik;left;omega
  ·have hq2:(if i<k+1 then R else R-1)=(if i<k then R else R-1):=by
    by_cases h1:i<k
    ·rw[if_pos h1,if_pos (by omega)]
    ·rw[if_neg h1,if_neg (by omega)]
   rw[hq2]at hq ⊢
   exact h.done i hi hq
theorem Rnd.step{n:Nat}{l:List Arc}(hl:∀a∈l,arcFine n a){s:RS}(hs:s.fine n l.length){R k:Nat}(hR:1≤R){rr:Int→Nat}(h:Rnd n l s R k rr)(hk:k<l.length):∃rr',Rnd n l (relax s k l[k]) R (k+1) rr':=⟨_,h.step0 hl hs hR hk⟩
theorem Rnd.scan{n:Nat}{l:List Arc}(hl:∀a∈l,arcFine n a){s:RS}(hs:s.fine n l.length){R:Nat}(hR:1≤R)(h:∃rr,Rnd n l s R 0 rr):∀k,k≤l.length→∃rr,Rnd n l (scan l s k) R k rr
 |0,_=>h
 |k+1,hk=>by
  obtain⟨rr,h1⟩:=Rnd.scan hl hs hR h k (by omega)
  rw[scan_succ (by omega)]
  exact h1.step hl (scan_fine hl hs k (by omega)) hR (by omega)
theorem Rnd.passes{n:Nat}{l:List Arc}(hl:∀a∈l,arcFine n a)(h0:1≤l.length)(j:Nat):∃rr,Rnd n l (passes n l (j+1)) (j+1) l.length rr:=by
 induction j with
 |zero=>
  refine Rnd.scan hl (pass_start (passes_fine hl h0 0)) (by omega) ?_ l.length (Nat.le_refl _)
  exact⟨fun _=>0,⟨fun _=>by omega,fun _ h=>absurd h (by omega),fun _ h=>absurd h (by omega),fun i hi hq=>absurd hq (by simp),fun h=>absurd h (by show ¬(0:Int)≤-1;omega)⟩⟩
 |succ j ih=>
  refine Rnd.scan hl (pass_start (passes_fine hl h0 (j+1))) (by omega) ?_ l.length (Nat.le_refl _)
  obtain⟨rr,h⟩:=ih
  refine⟨rr,⟨fun v=>by have:=h.le v;omega,h.nod,h.arc,fun i hi hq=>?_,fun h=>absurd h (by show ¬(0:Int)≤-1;omega)⟩⟩
  have:=h.done i hi
  rw[if_pos hi]at this
  rw[if_neg (by omega)]at hq ⊢
  exact this (by omega)
theorem all_relaxed{n:Nat}{l:List Arc}(hl:∀a∈l,arcFine n a)(hn:1≤n)(h0:1≤l.length)(hv:0≤(passes n l n).node)(m:Nat) :
 (arcAt l (passes n l n).last (iter (par l (passes n l n).last) m (passes n l n).node)).to=iter (par l (passes n l n).last) m (passes n l n).node:=by
 obtain⟨rr,h⟩:∃rr,Rnd n l (passes n l n) n l.length rr:=by
  have:=Rnd.passes hl h0 (n-1)
  rwa [show n-1+1=n by omega]at this
 have hf:=passes_fine hl h0 n
 have hst:=par_stays hl hf
 generalize hs:passes n l n=s at *
 have hnode:s.node<n:=hf.2.2.1
 have hch:∀j,j<n→n-j≤rr (iter (par l s.last) j s.node):=by
  intro j
  induction j with
  |zero=>intro _;have:=h.now hv;show n-0≤rr s.node;omega
  |succ j ih=>
   intro hj
   have h1:=ih (by omega)
   have h2:=(h.arc _ (by omega:1≤rr (iter (par l s.last) j s.node))).2
   show n-(j+1)≤rr (par l s.last (iter (par l s.last) j s.node))
   omega
 obtain⟨i,j,hij,hjn,he⟩:=iter_twice hst hv hnode
 have hall:∀m,1≤rr (iter (par l s.last) m s.node):=by
  intro m
  induction m using Nat.strongRecOn with
  |ind m ih=>
   by_cases hm:m<n
   ·have:=hch m hm;omega
   ·have e:iter (par l s.last) m s.node=iter (par l s.last) (m-j+i) s.node:=by
     rw[iter_add,he,←iter_add,show m-j+j=m by omega]
    rw[e]
    exact ih _ (by omega)
 exact(h.arc _ (hall m)).1
end Go.Proofs.Ytnlpbgljaecdmaa
namespace Go.Proofs.Ytnlpbgljaecdmaa
open Go.RowKit
set_option linter.unusedSimpArgs false
set_option linter.unusedVariables false
-- ---------- balances
def ind(b:Bool):Int:=if b then 1 else 0
def balz(v:Nat):List (Edge×Int)→Int
 |[]=>0
 |p::r=>(if p.1.to.toNat=v then p.2 else 0)-(if p.1.frm.toNat=v then p.2 else 0)+balz v r
theorem stepSum_getD{s:List Int}{p:Edge×Int}{v:Nat}(h1:p.1.frm.toNat<s.length)(h2:p.1.to.toNat<s.length) :
 (stepSum s p).getD v 0=s.getD v 0+((if p.1.to.toNat=v then p.2 else 0)-(if p.1.frm.toNat=v then p.2 else 0)):=by
 unfold stepSum
 dsimp only
 have h2':p.1.to.toNat<(s.set p.1.frm.toNat (s.getD p.1.frm.toNat 0-p.2)).length:=by simpa using h2
 by_cases e1:p.1.to.toNat=v
 ·subst e1
  rw[getD_set_self' h2',if_pos rfl]
  by_cases e2:p.1.frm.toNat=p.1.to.toNat
  ·rw[if_pos e2,e2,getD_set_self' h2];omega
  ·rw[if_neg e2,getD_set_ne' e2];omega
 ·rw[getD_set_ne' e1,if_neg e1]
  by_cases e2:p.1.frm.toNat=v
  ·subst e2;rw[if_pos rfl,getD_set_self' h1];omega
  ·rw[if_neg e2,getD_set_ne' e2];omega
theorem fold_getD{v:Nat}:∀(z:List (Edge×Int)) (s:List Int),(∀p∈z,p.1.frm.toNat<s.length∧p.1.to.toNat<s.length)→(z.foldl stepSum s).getD v 0=s.getD v 0+balz v z
 |[],s,_=>by simp[balz]
 |p::r,s,h=>by
  obtain⟨h1,h2⟩:=h p (by simp)
  rw[List.foldl_cons,fold_getD r (stepSum s p) (fun q hq=>by rw[stepSum_length];exact h q (by simp[hq])),stepSum_getD h1 h2]
  show _=s.getD v 0+((if p.1.to.toNat=v then p.2 else 0)-(if p.1.frm.toNat=v then p.2 else 0)+balz v r)
  omega
theorem balz_set{v:Nat}:∀(es:List Edge) (o:List Int) (i:Nat) (y:Int),∀(h1:i<es.length) (h2:i<o.length),
 balz v (es.zip (o.set i y))=balz v (es.zip o)+((if es[i].to.toNat=v then y-o[i]else 0)-(if es[i].frm.toNat=v then y-o[i]else 0))
 |[],_,_,_,h,_=>absurd h (by simp)
 |_::_,[],_,_,_,h=>absurd h (by simp)
 |e::es,a::o,0,y,_,_=>by
  show (if e.to.toNat=v then y else 0)-(if e.frm.toNat=v then y else 0)+balz v (es.zip o)=(if e.to.toNat=v then a else 0)-(if e.frm.toNat=v then a else 0)+balz v (es.zip o)+((if e.to.toNat=v then y-a else 0)-(if e.frm.toNat=v then y-a else 0))
  split<;>split<;>omega
 |e::es,a::o,i+1,y,h1,h2=>by
  have h1':i<es.length:=by simpa using h1
  have h2':i<o.length:=by simpa using h2
  have ih:=balz_set (v:=v) es o i y h1' h2'
  show (if e.to.toNat=v then a else 0)-(if e.frm.toNat=v then a else 0)+balz v (es.zip (o.set i y))=(if e.to.toNat=v then a else 0)-(if e.frm.toNat=v then a else 0)+balz v (es.zip o)+((if es[i].to.toNat=v then y-o[i]else 0)-(if es[i].frm.toNat=v then y-o[i]else 0))
  rw[ih];omega
-- ---------- arcs by their numbers
theorem arc_at{x:Graph}{f:List Int}(h:flowOk x f=true){a:Arc}(ha:a∈arcsOf x f):∃i,∃h1:i<x.edges.length,∃h2:i<f.length,
 (a.id=2*i∧f[i]<x.edges[i].cap∧a=⟨2*i,x.edges[i].frm,x.edges[i].to,x.edges[i].cap-f[i],x.edges[i].cost⟩)∨(a.id=2*i+1∧0<f[i]∧a=⟨2*i+1,x.edges[i].to,x.edges[i].frm,f[i],-x.edges[i].cost⟩):=by
 obtain⟨n1,n2,g2,hl,he,hp,_⟩:=flowOk_facts h
 obtain⟨i,hi,_,hm⟩:=arcsK_mem (Nat.le_refl _) ha
 have hi2:i<x.edges.length:=by simp at hi;omega
 have hz:(x.edges.zip f)[i]=(x.edges[i],f[i]'(by omega)):=List.getElem_zip
 rw[hz]at hm
 refine⟨i,hi2,by omega,?_⟩
 rcases arcsAt_mem hm with⟨q,rfl⟩|⟨q,rfl⟩
 ·exact .inl ⟨rfl,q,rfl⟩
 ·exact .inr ⟨rfl,q,rfl⟩
theorem arc_same{x:Graph}{f:List Int}(h:flowOk x f=true){a b:Arc}(ha:a∈arcsOf x f)(hb:b∈arcsOf x f)(e:a.id=b.id):a=b:=by
 obtain⟨i,h1,h2,p⟩:=arc_at h ha
 obtain⟨j,k1,k2,q⟩:=arc_at h hb
 rcases p with⟨p1,_,p3⟩|⟨p1,_,p3⟩<;>rcases q with⟨q1,_,q3⟩|⟨q1,_,q3⟩
 ·obtain rfl:i=j:=by omega
  rw[p3,q3]
 ·omega
 ·omega
 ·obtain rfl:i=j:=by omega
  rw[p3,q3]
-- ---------- the least room
theorem leastStep_le(id r:Int)(a:Arc):leastStep id r a≤r:=by unfold leastStep;split<;>omega
theorem leastAt_le(id:Int):∀(l:List Arc) (r:Int),leastAt l r id≤r
 |[],r=>Int.le_refl r
 |a::l,r=>by
  have h1:=leastAt_le id l (leastStep id r a)
  have h2:=leastStep_le id r a
  show leastAt l (leastStep id r a) id≤r
  omega
theorem leastAt_arc(id:Int):∀(l:List Arc) (r:Int) (a:Arc),a∈l→a.id=id→leastAt l r id≤a.room
 |[],_,_,h,_=>absurd h (by simp)
 |b::l,r,a,h,e=>by
  show leastAt l (leastStep id r b) id≤a.room
  rcases List.mem_cons.1 h with rfl|h
  ·have h1:=leastAt_le id l (leastStep id r a)
   have:leastStep id r a≤a.room:=by unfold leastStep;split<;>omega
   omega
  ·exact leastAt_arc id l _ a h e
theorem leastAt_pos(id:Int):∀(l:List Arc) (r:Int),(∀a∈l,1≤a.room)→1≤r→1≤leastAt l r id
 |[],_,_,h=>h
 |b::l,r,h,hr=>leastAt_pos id l _ (fun a ha=>h a (by simp[ha])) (by have:=h b (by simp);unfold leastStep;split<;>omega)
theorem leastOf_le(l:List Arc):∀(ring:List Int) (r:Int),leastOf l r ring≤r
 |[],r=>Int.le_refl r
 |id::ring,r=>by
  have h1:=leastOf_le l ring (leastAt l r id)
  have h2:=leastAt_le id l r
  show leastOf l (leastAt l r id) ring≤r
  omega
theorem leastOf_arc(l:List Arc):∀(ring:List Int) (r:Int) (a:Arc),a∈l→a.id∈ring→leastOf l r ring≤a.room
 |[],_,_,_,h=>absurd h (by simp)
 |id::ring,r,a,h,e=>by
  show leastOf l (leastAt l r id) ring≤a.room
  rcases List.mem_cons.1 e with e|e
  ·have h1:=leastOf_le l ring (leastAt l r id)
   have:=leastAt_arc id l r a h e
   omega
  ·exact leastOf_arc l ring _ a h e
theorem leastOf_pos(l:List Arc):∀(ring:List Int) (r:Int),(∀a∈l,1≤a.room)→1≤r→1≤leastOf l r ring
 |[],_,_,h=>h
 |id::ring,r,h,hr=>leastOf_pos l ring _ h (leastAt_pos id l r h hr)
-- ---------- what a push leaves at edge i
def contr(i:Nat)(id:Int):Int:=if id=2*i then 1 else if id=2*i+1 then -1 else 0
def contrs(i:Nat)(ring:List Int):Int:=(ring.map (contr i)).sum
theorem pushStep_length(r:Int)(o:List Int)(id:Int):(pushStep r o id).length=o.length:=by simp[pushStep]
theorem pushAll_length(r:Int):∀(ring:List Int) (o:List Int),(pushAll r ring o).length=o.length
 |[],_=>rfl
 |id::ring,o=>by show (pushAll r ring (pushStep r o id)).length=_;rw[pushAll_length r ring,pushStep_length]
theorem pushStep_getD{r:Int}{o:List Int}{id:Int}(h0:0≤id)(i:Nat)(hi:i<o.length):(pushStep r o id).getD i 0=o.getD i 0+r*contr i id:=by
 unfold pushStep contr
 by_cases e:(id/2).toNat=i
 ·rw[e,getD_set_self' hi]
  by_cases e2:id=2*i
  ·rw[if_pos (by omega),if_pos e2];omega
  ·rw[if_neg (by omega),if_neg e2,if_pos (by omega)];omega
 ·rw[getD_set_ne' e,if_neg (by omega),if_neg (by omega)];omega
theorem pushAll_getD{r:Int}:∀(ring:List Int) (o:List Int),(∀id∈ring,0≤id)→∀(i:Nat),i<o.length→(pushAll r ring o).getD i 0=o.getD i 0+r*contrs i ring
 |[],o,_,i,_=>by show o.getD i 0=_;unfold contrs;simp
 |id::ring,o,h,i,hi=>by
  show (pushAll r ring (pushStep r o id)).getD i 0=_
  rw[pushAll_getD ring _ (fun id' h'=>h id' (by simp[h'])) i (by rw[pushStep_length];exact hi),pushStep_getD (h id (by simp)) i hi]
  have:contrs i (id::ring)=contr i id+contrs i ring:=by unfold contrs;simp
  rw[this,Int.mul_add];omega
theorem contrs_bd{i:Nat}:∀ {ring:List Int},ring.Nodup→contrs i ring≤(if (2*i:Int)∈ring then 1 else 0)∧-(if (2*i+1:Int)∈ring then 1 else 0)≤contrs i ring
 |[],_=>by simp[contrs]
 |id::ring,h=>by
  obtain⟨h1,h2⟩:=List.nodup_cons.1 h
  obtain⟨i1,i2⟩:=contrs_bd (i:=i) h2
  have e:contrs i (id::ring)=contr i id+contrs i ring:=by unfold contrs;simp
  rw[e]
  unfold contr
  by_cases e1:id=2*i
  ·subst e1
   rw[if_neg h1]at i1
   rw[if_pos rfl,if_pos (by simp)]
   refine⟨by omega,?_⟩
   by_cases q:(2*i+1:Int)∈ring
   ·rw[if_pos (by simp[q])];rw[if_pos q]at i2;omega
   ·rw[if_neg q]at i2
    split<;>omega
  ·rw[if_neg e1]
   by_cases e2:id=2*i+1
   ·subst e2
    rw[if_neg h1]at i2
    rw[if_pos rfl,if_pos (c:=(2*i+1:Int)∈_) (by simp)]
    refine⟨?_,by omega⟩
    by_cases q:(2*i:Int)∈ring
    ·rw[if_pos (by simp[q])];rw[if_pos q]at i1;omega
    ·rw[if_neg q]at i1
     split<;>omega
   ·rw[if_neg e2]
    have m1:((2*i:Int)∈id::ring)↔((2*i:Int)∈ring):=by simp;omega
    have m2:((2*i+1:Int)∈id::ring)↔((2*i+1:Int)∈ring):=by simp;omega
    simp only[m1,m2]
    omega
-- ---------- the ring as a list
def backs(p:Int→Int)(u v0:Int)(d:Nat):Prop:=iter p d u=v0∧∀k,1≤k→k<d→iter p k u≠v0
theorem ringFrom_eq{l:List Arc}{last:List Int}{v0:Int}:∀(d m:Nat) (u:Int),1≤d→d≤m→backs (par l last) u v0 d→ringFrom l last v0 m u=(List.range d).map (fun j=>(arcAt l last (iter (par l last) j u)).id)
 |0,_,_,h,_,_=>absurd h (by omega)
 |_+1,0,_,_,h,_=>absurd h (by omega)
 |d+1,m+1,u,_,hm,hb=>by
  show (arcAt l last u).id::(if par l last u=v0 then []else ringFrom l last v0 m (par l last u))=_
  rw[List.range_succ_eq_map,List.map_cons,List.map_map]
  by_cases hd:d=0
  ·subst hd
   have:par l last u=v0:=hb.1
   rw[if_pos this];rfl
  ·have hne:par l last u≠v0:=hb.2 1 (by omega) (by omega)
   rw[if_neg hne,ringFrom_eq d m (par l last u) (by omega) (by omega) ⟨by rw[←iter_succ'];exact hb.1,fun k k1 k2=>by rw[←iter_succ'];exact hb.2 (k+1) (by omega) (by omega)⟩]
   rw[List.cons.injEq]
   refine⟨rfl,List.map_congr_left fun j _=>?_⟩
   show _=(arcAt l last (iter (par l last) (j+1) u)).id
   rw[iter_succ']
def Good(l:List Arc)(last:List Int)(u:Int):Prop:=∀j,arcAt l last (iter (par l last) j u)∈l∧(arcAt l last (iter (par l last) j u)).to=iter (par l last) j u
theorem Good.next{l:List Arc}{last:List Int}{u:Int}(h:Good l last u):Good l last (par l last u):=fun j=>by
 have:=h (j+1)
 rwa [iter_succ']at this
theorem push_bal{x:Graph}{f:List Int}(h:flowOk x f=true){last:List Int}{v0:Int}{r:Int}{v:Nat}:∀(d m:Nat) (u:Int) (o:List Int),1≤d→d≤m→backs (par (arcsOf x f) last) u v0 d→Good (arcsOf x f) last u→o.length=x.edges.length→
 balz v (x.edges.zip (pushAll r (ringFrom (arcsOf x f) last v0 m u) o))=balz v (x.edges.zip o)+r*(ind (decide (u.toNat=v))-ind (decide (v0.toNat=v)))
 |0,_,_,_,h,_,_,_,_=>absurd h (by omega)
 |_+1,0,_,_,_,h,_,_,_=>absurd h (by omega)
 |d+1,m+1,u,o,_,hm,hb,hg,ho=>by
  show balz v (x.edges.zip (pushAll r (if par (arcsOf x f) last u=v0 then []else ringFrom (arcsOf x f) last v0 m (par (arcsOf x f) last u)) (pushStep r o (arcAt (arcsOf x f) last u).id)))=_
  obtain⟨g1,g2⟩:=hg 0
  have g1:arcAt (arcsOf x f) last u∈arcsOf x f:=g1
  have g2:(arcAt (arcsOf x f) last u).to=u:=g2
  have hstep:balz v (x.edges.zip (pushStep r o (arcAt (arcsOf x f) last u).id))=balz v (x.edges.zip o)+r*(ind (decide (u.toNat=v))-ind (decide ((par (arcsOf x f) last u).toNat=v))):=by
   unfold par
   obtain⟨i,h1,h2,hc⟩:=arc_at h g1
   generalize arcAt (arcsOf x f) last u=a at *
   have hid:(a.id/2).toNat=i:=by rcases hc with⟨q,_⟩|⟨q,_⟩<;>omega
   have hlt:(a.id/2).toNat<o.length:=by omega
   unfold pushStep
   rw[balz_set x.edges o (a.id/2).toNat _ (by omega) hlt]
   have e0:o.getD (a.id/2).toNat 0=o[(a.id/2).toNat]:=by rw[List.getD_eq_getElem?_getD,List.getElem?_eq_getElem hlt];rfl
   rw[e0]
   rcases hc with⟨q1,_,q3⟩|⟨q1,_,q3⟩
   ·have ta:a.to=x.edges[i].to:=by rw[q3]
    have tb:a.frm=x.edges[i].frm:=by rw[q3]
    have t1:a.to=x.edges[(a.id/2).toNat].to:=by simp only[hid];exact ta
    have t2:a.frm=x.edges[(a.id/2).toNat].frm:=by simp only[hid];exact tb
    rw[←t1,←t2,g2,if_pos (show a.id%2=0 by omega)]
    unfold ind
    by_cases c1:u.toNat=v<;>by_cases c2:a.frm.toNat=v<;>simp[c1,c2]<;>omega
   ·have ta:a.to=x.edges[i].frm:=by rw[q3]
    have tb:a.frm=x.edges[i].to:=by rw[q3]
    have t1:a.to=x.edges[(a.id/2).toNat].frm:=by simp only[hid];exact ta
    have t2:a.frm=x.edges[(a.id/2).toNat].to:=by simp only[hid];exact tb
    rw[←t1,←t2,g2,if_neg (show ¬a.id%2=0 by omega)]
    unfold ind
    by_cases c1:u.toNat=v<;>by_cases c2:a.frm.toNat=v<;>simp[c1,c2]<;>omega
  by_cases hd:d=0
  ·subst hd
   have e:par (arcsOf x f) last u=v0:=hb.1
   rw[if_pos e]
   show balz v (x.edges.zip (pushStep r o (arcAt (arcsOf x f) last u).id))=_
   rw[hstep,e]
  ·have hne:par (arcsOf x f) last u≠v0:=hb.2 1 (by omega) (by omega)
   rw[if_neg hne,push_bal h d m (par (arcsOf x f) last u) _ (by omega) (by omega) ⟨by rw[←iter_succ'];exact hb.1,fun k k1 k2=>by rw[←iter_succ'];exact hb.2 (k+1) (by omega) (by omega)⟩ hg.next (by rw[pushStep_length];exact ho),hstep,Int.add_assoc,←Int.mul_add]
   congr 2
   omega
theorem nodup_range_map{g:Nat→Int}{d:Nat}(h:∀i j,i<j→j<d→g i≠g j):((List.range d).map g).Nodup:=by
 rw[List.Nodup,List.pairwise_map,List.pairwise_iff_getElem]
 intro i j hi hj hij
 simp only[List.getElem_range]
 exact h i j hij (by simpa using hj)
theorem push_ring{x:Graph}{f:List Int}(h:ringOk x f=true):pushOk x f (ringL x f)=true:=by
 have hL:ringL x f=(ringIt x.n.toNat (arcsOf x f)).1:=if_pos h
 unfold ringOk at h
 simp only[Bool.and_eq_true]at h
 obtain⟨hf,h⟩:=h
 obtain⟨n1,n2,g2,hl,he,hp,hs⟩:=flowOk_facts hf
 have hfine:=arcs_fine hf
 have hnn:((x.n.toNat:Nat):Int)=x.n:=by omega
 rw[←hnn]at hfine
 unfold ringIt at h hL
 dsimp only at h hL
 have hnode:0≤(passes x.n.toNat (arcsOf x f) x.n.toNat).node:=by
  by_cases q:(passes x.n.toNat (arcsOf x f) x.n.toNat).node<0
  ·rw[if_pos q]at h;exact absurd h (by simp)
  ·omega
 rw[if_neg (by omega)]at hL
 have h0:1≤(arcsOf x f).length:=by
  rcases Nat.eq_zero_or_pos (arcsOf x f).length with q|q
  ·exfalso
   have e:arcsOf x f=[]:=List.eq_nil_of_length_eq_zero q
   rw[e]at hnode
   rcases hh:x.n.toNat with _|j
   ·omega
   ·rw[hh]at hnode
    exact absurd hnode (by show ¬(0:Int)≤-1;omega)
  ·omega
 have hF:=passes_fine hfine h0 x.n.toNat
 have hrel:=all_relaxed hfine (by omega) h0 hnode
 have hst:=par_stays hfine hF
 generalize hss:passes x.n.toNat (arcsOf x f) x.n.toNat=s at *
 have hnl:s.node<(x.n.toNat:Int):=hF.2.2.1
 obtain⟨d0,hd1,hd2,hd3⟩:=comes_back hst hnode hnl
 obtain⟨d,hd4,⟨hd5,hd6⟩,hd7⟩:=least_of (q:=fun d=>1≤d∧iter (par (arcsOf x f) s.last) d (iter (par (arcsOf x f) s.last) x.n.toNat s.node)=iter (par (arcsOf x f) s.last) x.n.toNat s.node) d0 ⟨hd1,hd3⟩
 have hgood:Good (arcsOf x f) s.last (iter (par (arcsOf x f) s.last) x.n.toNat s.node):=fun j=>by
  rw[←iter_add]
  refine⟨?_,hrel _⟩
  have hb:=hst.iter hnode hnl (j+x.n.toNat)
  generalize iter (par (arcsOf x f) s.last) (j+x.n.toNat) s.node=u at *
  have hv:u.toNat<s.last.length:=by rw[hF.2.1];omega
  have hb2:=hF.2.2.2.2 _ hv
  have e:s.last.getD u.toNat 0=((s.last[u.toNat]).toNat:Int):=by rw[List.getD_eq_getElem?_getD,List.getElem?_eq_getElem hv];show s.last[u.toNat]=_;omega
  rw[arcAt_of e (by omega)]
  exact List.getElem_mem _
 generalize iter (par (arcsOf x f) s.last) x.n.toNat s.node=v at *
 have hbk:backs (par (arcsOf x f) s.last) v v d:=⟨hd6,fun k k1 k2 hk=>hd7 k k2 ⟨k1,hk⟩⟩
 have hring:=ringFrom_eq d x.n.toNat v hd5 (by omega) hbk
 have hbal:=fun(w:Nat) (r:Int)=>push_bal hf (r:=r) (v:=w) d x.n.toNat v f hd5 (by omega) hbk hgood hl
 dsimp only at hL
 rw[←hL]at hring hbal
 generalize ringL x f=ring at *
 have hmem:∀id∈ring,∃a∈arcsOf x f,a.id=id:=fun id hid=>by
  rw[hring]at hid
  obtain⟨j,_,rfl⟩:=List.mem_map.1 hid
  exact⟨_,(hgood j).1,rfl⟩
 have hnd:ring.Nodup:=by
  rw[hring]
  refine nodup_range_map fun i j hij hj e=>?_
  have:=arc_same hf (hgood i).1 (hgood j).1 e
  have e2:iter (par (arcsOf x f) s.last) i v=iter (par (arcsOf x f) s.last) j v:=by rw[←(hgood i).2,←(hgood j).2,this]
  refine hd7 (d-j+i) (by omega) ⟨by omega,?_⟩
  rw[iter_add,e2,←iter_add,show d-j+j=d by omega,hd6]
 have hlen:ring.length≠0:=by rw[hring];simp;omega
 have hroom1:∀a∈arcsOf x f,1≤a.room:=fun a ha=>(hfine a ha).2.2.2.2.2.2.2.1
 have hr1:=leastOf_pos (arcsOf x f) ring 1000000000 hroom1 (by omega)
 have hr2:=leastOf_arc (arcsOf x f) ring 1000000000
 have hrings:ringsOk (arcsOf x f) ring=true:=by
  unfold ringsOk
  rw[List.all_eq_true]
  intro i hi
  have hi':i<ring.length:=by simpa using hi
  unfold ringAt
  rw[List.getElem?_eq_getElem hi']
  dsimp only
  rw[Bool.and_eq_true]
  constructor
  ·obtain⟨a,ha,e⟩:=hmem _ (List.getElem_mem hi')
   unfold hasArc
   rw[List.any_eq_true]
   exact⟨a,ha,by simp[e]⟩
  ·rw[Bool.not_eq_true',List.any_eq_false]
   intro y hy hyy
   obtain⟨j,hj,rfl⟩:=List.mem_take_iff_getElem.1 hy
   have hyy':ring[j]=ring[i]:=by simpa using hyy
   have:=List.pairwise_iff_getElem.1 hnd j i (by omega) hi' (by omega)
   exact this hyy'
 have hto:pushTo x f ring=pushAll (leastOf (arcsOf x f) 1000000000 ring) ring f:=rfl
 generalize hrr:leastOf (arcsOf x f) 1000000000 ring=r at *
 have hid0:∀id∈ring,0≤id:=fun id hid=>by
  obtain⟨a,ha,rfl⟩:=hmem id hid
  exact(hfine a ha).1
 have holen:(pushTo x f ring).length=f.length:=by rw[hto,pushAll_length]
 have hg:graphOk x=true:=by unfold flowOk at hf;simp only[Bool.and_eq_true]at hf;exact hf.1.1.1
 have hfin:flowOk x (pushTo x f ring)=true:=by
  unfold flowOk
  rw[hg,Bool.true_and,Bool.and_eq_true,Bool.and_eq_true]
  refine⟨⟨by simpa[holen]using hl,?_⟩,?_⟩
  ·rw[List.all_eq_true]
   intro p hpm
   obtain⟨i,hi,rfl⟩:=List.getElem_of_mem hpm
   have hi1:i<x.edges.length:=by simp at hi;omega
   have hi2:i<f.length:=by omega
   have hi3:i<(pushTo x f ring).length:=by omega
   have hz:(x.edges.zip (pushTo x f ring))[i]=(x.edges[i],(pushTo x f ring)[i]):=List.getElem_zip
   rw[hz]
   have hpi:=hp (x.edges[i],f[i]) (by
    have:(x.edges.zip f)[i]'(by simp;omega)=(x.edges[i],f[i]):=List.getElem_zip
    rw[←this];exact List.getElem_mem _)
   have hval:=pushAll_getD (r:=r) ring f hid0 i hi2
   rw[←hto]at hval
   have e1:(pushTo x f ring).getD i 0=(pushTo x f ring)[i]:=by rw[List.getD_eq_getElem?_getD,List.getElem?_eq_getElem hi3];rfl
   have e2:f.getD i 0=f[i]:=by rw[List.getD_eq_getElem?_getD,List.getElem?_eq_getElem hi2];rfl
   rw[e1,e2]at hval
   obtain⟨c1,c2⟩:=contrs_bd (i:=i) hnd
   have u1:(2*i:Int)∈ring→r≤x.edges[i].cap-f[i]:=fun hm=>by
    obtain⟨a,ha,e⟩:=hmem _ hm
    have:=hr2 a ha (by rw[e];exact hm)
    obtain⟨j,j1,j2,q⟩:=arc_at hf ha
    rcases q with⟨q1,q2,q3⟩|⟨q1,q2,q3⟩
    ·obtain rfl:i=j:=by omega
     rw[q3]at this;exact this
    ·omega
   have u2:(2*i+1:Int)∈ring→r≤f[i]:=fun hm=>by
    obtain⟨a,ha,e⟩:=hmem _ hm
    have:=hr2 a ha (by rw[e];exact hm)
    obtain⟨j,j1,j2,q⟩:=arc_at hf ha
    rcases q with⟨q1,q2,q3⟩|⟨q1,q2,q3⟩
    ·omega
    ·obtain rfl:i=j:=by omega
     rw[q3]at this;exact this
   unfold flowIn
   refine inB_true.2 ⟨?_,?_⟩
   ·show 0≤(pushTo x f ring)[i]
    rw[hval]
    by_cases q:contrs i ring≤-1
    ·have q2:contrs i ring=-1:=by split at c2<;>omega
     have q3:(2*i+1:Int)∈ring:=by
      by_cases m:(2*i+1:Int)∈ring
      ·exact m
      ·rw[if_neg m]at c2;omega
     have:=u2 q3
     rw[q2];omega
    ·have:=Int.mul_nonneg (show (0:Int)≤r by omega) (show 0≤contrs i ring by omega)
     have:=hpi.1
     simp only at this
     omega
   ·show (pushTo x f ring)[i]≤x.edges[i].cap
    rw[hval]
    by_cases q:1≤contrs i ring
    ·have q2:contrs i ring=1:=by split at c1<;>omega
     have q3:(2*i:Int)∈ring:=by
      by_cases m:(2*i:Int)∈ring
      ·exact m
      ·rw[if_neg m]at c1;omega
     have:=u1 q3
     rw[q2];omega
    ·have:=Int.mul_nonneg (show (0:Int)≤r by omega) (show 0≤-contrs i ring by omega)
     rw[Int.mul_neg]at this
     have:=hpi.2
     simp only at this
     omega
  ·rw[List.all_eq_true]
   intro y hy
   obtain⟨w,hw,rfl⟩:=List.getElem_of_mem hy
   have hends:∀(o:List Int),∀p∈x.edges.zip o,p.1.frm.toNat<(List.replicate x.n.toNat (0:Int)).length∧p.1.to.toNat<(List.replicate x.n.toNat (0:Int)).length:=fun o p hp=>by
    obtain⟨e1,_⟩:=List.of_mem_zip hp
    obtain⟨p1,p2,p3,p4,_⟩:=edgeOk_iff.1 (he _ e1)
    rw[List.length_replicate];omega
   have k1:=fold_getD (v:=w) (x.edges.zip (pushTo x f ring)) (List.replicate x.n.toNat 0) (hends _)
   have k2:=fold_getD (v:=w) (x.edges.zip f) (List.replicate x.n.toNat 0) (hends _)
   have hw2:w<(sumsOf x.n.toNat (x.edges.zip f)).length:=by rw[sumsOf_length]at hw ⊢;exact hw
   have k3:=hs _ (List.getElem_mem hw2)
   have k4:(sumsOf x.n.toNat (x.edges.zip f)).getD w 0=(sumsOf x.n.toNat (x.edges.zip f))[w]:=by rw[List.getD_eq_getElem?_getD,List.getElem?_eq_getElem hw2];rfl
   have k5:(sumsOf x.n.toNat (x.edges.zip (pushTo x f ring))).getD w 0=(sumsOf x.n.toNat (x.edges.zip (pushTo x f ring)))[w]:=by rw[List.getD_eq_getElem?_getD,List.getElem?_eq_getElem hw];rfl
   have k6:=hbal w r
   rw[←hto]at k6
   have k7:r*(ind (decide (v.toNat=w))-ind (decide (v.toNat=w)))=0:=by rw[Int.sub_self];simp
   rw[k7]at k6
   unfold sumsOf at k3 k4 k5 ⊢
   simp only[beq_iff_eq]
   rw[←k5,k1]
   rw[←k4,k2]at k3
   omega
 unfold pushOk
 rw[hf,hrings,hfin]
 simp[hlen]
end Go.Proofs.Ytnlpbgljaecdmaa
