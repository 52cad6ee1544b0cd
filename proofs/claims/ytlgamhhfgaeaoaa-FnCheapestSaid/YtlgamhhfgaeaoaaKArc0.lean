/- Residual arcs, pushes and rings as plain functions. -/
import Derived.Test.YtlgamhhfgaeaoaaKFlow2
import Derived.Test.YtlgamhhfgaeaoaaKAp
namespace Go.Proofs.Ytlgamhhfgaeaoaa
open Go.RowKit
set_option linter.unusedSimpArgs false
set_option linter.unusedVariables false
structure Arc where
 id:Int
 frm:Int
 to:Int
 room:Int
 cost:Int
def wfArc(x:Arc):Prop:=i64 (x.id)∧i64 (x.frm)∧i64 (x.to)∧i64 (x.room)∧i64 (x.cost)
def encArc(x:Arc):List Value:=[.int .i64 x.id,.int .i64 x.frm,.int .i64 x.to,.int .i64 x.room,.int .i64 x.cost]
def repArc(_:World)(_ _:Nat)(cs:List Value)(x:Arc):Prop:=cs=encArc x∧wfArc x
theorem repArc_stable:Stable repArc:=fun _ _ _ _ _ _ _ _ _ _ _ h=>h
theorem Arc.atCell{w:World}{b off lo hi:Nat}{xs:List Arc}(h:Elems 5 repArc w lo hi b off xs)(i:Nat)(hi':i<xs.length) :
 w.cell? ⟨b,off+i*5,none⟩=some (.int .i64 xs[i].id)∧w.cell? ⟨b,off+i*5+1,none⟩=some (.int .i64 xs[i].frm)∧w.cell? ⟨b,off+i*5+2,none⟩=some (.int .i64 xs[i].to)∧w.cell? ⟨b,off+i*5+3,none⟩=some (.int .i64 xs[i].room)∧w.cell? ⟨b,off+i*5+4,none⟩=some (.int .i64 xs[i].cost)∧wfArc xs[i]:=by
 obtain⟨cs,⟨rfl,hw⟩,hc⟩:=h i hi'
 exact⟨hc 0 _ rfl,hc 1 _ rfl,hc 2 _ rfl,hc 3 _ rfl,hc 4 _ rfl,hw⟩
theorem length_encArc(x:Arc):(encArc x).length=5:=rfl
def arcUp(i:Nat)(p:Edge×Int):List Arc:=if p.2<p.1.cap then [⟨2*i,p.1.frm,p.1.to,p.1.cap-p.2,p.1.cost⟩]else []
def arcDn(i:Nat)(p:Edge×Int):List Arc:=if 0<p.2 then [⟨2*i+1,p.1.to,p.1.frm,p.2,-p.1.cost⟩]else []
def arcsAt(i:Nat)(p:Edge×Int):List Arc:=arcUp i p++arcDn i p
def arcsK(z:List (Edge×Int)):Nat→List Arc
 |0=>[]
 |k+1=>arcsK z k++(match z[k]? with|some p=>arcsAt k p|none=>[])
def arcsOf(x:Graph)(f:List Int):List Arc:=arcsK (x.edges.zip f) (x.edges.zip f).length
theorem arcsK_succ{z:List (Edge×Int)}{k:Nat}(h:k<z.length):arcsK z (k+1)=arcsK z k++arcsAt k z[k]:=by
 show arcsK z k++(match z[k]? with|some p=>arcsAt k p|none=>[])=_
 rw[List.getElem?_eq_getElem h]
theorem arcUp_yes{i:Nat}{p:Edge×Int}(h:p.2<p.1.cap):arcUp i p=[⟨2*i,p.1.frm,p.1.to,p.1.cap-p.2,p.1.cost⟩]:=if_pos h
theorem arcUp_no{i:Nat}{p:Edge×Int}(h:¬p.2<p.1.cap):arcUp i p=[]:=if_neg h
theorem arcDn_yes{i:Nat}{p:Edge×Int}(h:0<p.2):arcDn i p=[⟨2*i+1,p.1.to,p.1.frm,p.2,-p.1.cost⟩]:=if_pos h
theorem arcDn_no{i:Nat}{p:Edge×Int}(h:¬0<p.2):arcDn i p=[]:=if_neg h
theorem arcsAt_len(i:Nat)(p:Edge×Int):(arcsAt i p).length≤2:=by
 unfold arcsAt arcUp arcDn;split<;>split<;>simp
theorem arcsK_len(z:List (Edge×Int)):∀k,(arcsK z k).length≤2*k
 |0=>by simp[arcsK]
 |k+1=>by
  have ih:=arcsK_len z k
  show (arcsK z k++(match z[k]? with|some p=>arcsAt k p|none=>[])).length≤_
  rw[List.length_append]
  cases h:z[k]? with
  |none=>simp;omega
  |some p=>have:=arcsAt_len k p;simp only[];omega
theorem arcsK_mem{z:List (Edge×Int)}{a:Arc}:∀ {k:Nat},k≤z.length→a∈arcsK z k→∃i,∃h:i<z.length,i<k∧a∈arcsAt i z[i]
 |0,_,h=>absurd h (by simp[arcsK])
 |k+1,hk,h=>by
  rw[arcsK_succ (by omega)]at h
  rcases List.mem_append.1 h with h|h
  ·obtain⟨i,h1,h2,h3⟩:=arcsK_mem (k:=k) (by omega) h
   exact⟨i,h1,by omega,h3⟩
  ·exact⟨k,by omega,by omega,h⟩
theorem arcsAt_mem{i:Nat}{p:Edge×Int}{a:Arc}(h:a∈arcsAt i p):(p.2<p.1.cap∧a=⟨2*i,p.1.frm,p.1.to,p.1.cap-p.2,p.1.cost⟩)∨(0<p.2∧a=⟨2*i+1,p.1.to,p.1.frm,p.2,-p.1.cost⟩):=by
 unfold arcsAt at h
 rcases List.mem_append.1 h with h|h
 ·unfold arcUp at h
  split at h
  ·exact .inl ⟨by assumption,by simpa using h⟩
  ·exact absurd h (by simp)
 ·unfold arcDn at h
  split at h
  ·exact .inr ⟨by assumption,by simpa using h⟩
  ·exact absurd h (by simp)
theorem flowOk_facts{x:Graph}{f:List Int}(h:flowOk x f=true):1≤x.n∧x.n≤24∧x.edges.length≤60∧f.length=x.edges.length∧(∀e∈x.edges,edgeOk x.n e=true)∧(∀p∈x.edges.zip f,0≤p.2∧p.2≤p.1.cap)∧(∀s∈sumsOf x.n.toNat (x.edges.zip f),s=0):=by
 unfold flowOk at h
 simp only[Bool.and_eq_true,decide_eq_true_eq]at h
 obtain⟨⟨⟨h1,h2⟩,h3⟩,h4⟩:=h
 unfold graphOk at h1
 simp only[Bool.and_eq_true,decide_eq_true_eq]at h1
 obtain⟨⟨g1,g2⟩,g3⟩:=h1
 obtain⟨n1,n2⟩:=inB_true.1 g1
 refine⟨n1,n2,g2,h2,fun e he=>List.all_eq_true.1 g3 e he,fun p hp=>inB_true.1 (List.all_eq_true.1 h3 p hp),fun s hs=>by simpa using List.all_eq_true.1 h4 s hs⟩
def arcFine(n:Int)(a:Arc):Prop:=0≤a.id∧a.id<120∧0≤a.frm∧a.frm<n∧0≤a.to∧a.to<n∧a.frm≠a.to∧1≤a.room∧a.room≤1000000000∧-1000000≤a.cost∧a.cost≤1000000
theorem arcs_fine{x:Graph}{f:List Int}(h:flowOk x f=true):∀a∈arcsOf x f,arcFine x.n a:=fun a ha=>by
 obtain⟨n1,n2,g2,h2,he,hp,_⟩:=flowOk_facts h
 obtain⟨i,hi,_,hm⟩:=arcsK_mem (Nat.le_refl _) ha
 have hi2:i<x.edges.length:=by simp at hi;omega
 have hz:(x.edges.zip f)[i]=(x.edges[i],f[i]'(by omega)):=List.getElem_zip
 have e1:=edgeOk_iff.1 (he _ (List.getElem_mem hi2))
 have e2:=hp _ (List.getElem_mem hi)
 rw[hz]at e2 hm
 simp only at e2
 obtain⟨p1,p2,p3,p4,p5,p6,p7,p8,p9⟩:=e1
 unfold arcFine
 rcases arcsAt_mem hm with⟨q,rfl⟩|⟨q,rfl⟩
 ·simp only at q ⊢;refine⟨by omega,by omega,by omega,by omega,by omega,by omega,by omega,by omega,by omega,by omega,by omega⟩
 ·simp only at q ⊢;refine⟨by omega,by omega,by omega,by omega,by omega,by omega,by omega,by omega,by omega,by omega,by omega⟩
theorem arcFine.wf{n:Int}(hn:n≤24){a:Arc}(h:arcFine n a):wfArc a:=by
 obtain⟨_,_,_,_,_,_,_,_,_,_,_⟩:=h
 unfold wfArc i64;refine⟨⟨?_,?_⟩,⟨?_,?_⟩,⟨?_,?_⟩,⟨?_,?_⟩,?_,?_⟩<;>omega
theorem arcsOf_len{x:Graph}{f:List Int}(h:flowOk x f=true):(arcsOf x f).length≤120:=by
 obtain⟨_,_,g2,h2,_⟩:=flowOk_facts h
 have:=arcsK_len (x.edges.zip f) (x.edges.zip f).length
 have h3:(x.edges.zip f).length≤60:=by simp;omega
 unfold arcsOf;omega
-- ---------- pushing
def leastStep(id:Int)(r:Int)(a:Arc):Int:=if a.id=id∧a.room<r then a.room else r
def leastAt(l:List Arc)(r:Int)(id:Int):Int:=l.foldl (leastStep id) r
def leastOf(l:List Arc)(r:Int)(ring:List Int):Int:=ring.foldl (leastAt l) r
def hasArc(l:List Arc)(id:Int):Bool:=l.any fun a=>a.id==id
def ringAt(l:List Arc)(ring:List Int)(i:Nat):Bool:=match ring[i]? with|some id=>hasArc l id&&!((ring.take i).any fun v=>v==id)|none=>true
def pushStep(r:Int)(o:List Int)(id:Int):List Int:=o.set (id/2).toNat (o.getD (id/2).toNat 0+(if id%2=0 then r else -r))
def pushAll(r:Int)(ring:List Int)(f:List Int):List Int:=ring.foldl (pushStep r) f
def ringsOk(l:List Arc)(ring:List Int):Bool:=(List.range ring.length).all (ringAt l ring)
def pushTo(x:Graph)(f ring:List Int):List Int:=pushAll (leastOf (arcsOf x f) 1000000000 ring) ring f
def pushOk(x:Graph)(f ring:List Int):Bool:=flowOk x f&&!(ring.length==0)&&ringsOk (arcsOf x f) ring&&flowOk x (pushTo x f ring)
def pushL(x:Graph)(f ring:List Int):List Int:=if pushOk x f ring=true then pushTo x f ring else []
-- ---------- rings
structure RS where
 dist:List Int
 last:List Int
 node:Int
def relax(s:RS)(k:Nat)(a:Arc):RS:=
 if s.dist.getD a.frm.toNat 0+a.cost<s.dist.getD a.to.toNat 0 then ⟨s.dist.set a.to.toNat (s.dist.getD a.frm.toNat 0+a.cost),s.last.set a.to.toNat (k:Int),a.to⟩else s
def scan(l:List Arc)(s:RS):Nat→RS
 |0=>s
 |k+1=>match l[k]? with|some a=>relax (scan l s k) k a|none=>scan l s k
def pass(l:List Arc)(s:RS):RS:=scan l ⟨s.dist,s.last,-1⟩ l.length
def passes(n:Nat)(l:List Arc):Nat→RS
 |0=>⟨List.replicate n 0,List.replicate n 0,-1⟩
 |j+1=>pass l (passes n l j)
def arcAt(l:List Arc)(last:List Int)(v:Int):Arc:=l.getD (last.getD v.toNat 0).toNat ⟨0,0,0,0,0⟩
def par(l:List Arc)(last:List Int)(v:Int):Int:=(arcAt l last v).frm
def iter(p:Int→Int):Nat→Int→Int
 |0,v=>v
 |j+1,v=>p (iter p j v)
def ringFrom(l:List Arc)(last:List Int)(v:Int):Nat→Int→List Int
 |0,_=>[]
 |m+1,u=>(arcAt l last u).id::(if par l last u=v then []else ringFrom l last v m (par l last u))
def ringIt(n:Nat)(l:List Arc):List Int×Bool:=
 let s:=passes n l n
 if s.node<0 then ([],false)else let v:=iter (par l s.last) n s.node;(ringFrom l s.last v n v,true)
def ringOk(x:Graph)(f:List Int):Bool:=flowOk x f&&(ringIt x.n.toNat (arcsOf x f)).2
def ringL(x:Graph)(f:List Int):List Int:=if ringOk x f=true then (ringIt x.n.toNat (arcsOf x f)).1 else []
-- ---------- the cheapest flow
def cheapIt(x:Graph):Nat→List Int→Bool×List Int
 |0,f=>if ringOk x f=true then (false,[])else (true,f)
 |m+1,f=>if ringOk x f=true then (if pushOk x f (ringL x f)=true then cheapIt x m (pushL x f (ringL x f))else (false,[]))else (true,f)
def cheapOk(x:Graph):Bool:=graphOk x&&(cheapIt x 400 (List.replicate x.edges.length 0)).1
def cheapL(x:Graph):List Int:=if cheapOk x=true then (cheapIt x 400 (List.replicate x.edges.length 0)).2 else []
end Go.Proofs.Ytlgamhhfgaeaoaa
