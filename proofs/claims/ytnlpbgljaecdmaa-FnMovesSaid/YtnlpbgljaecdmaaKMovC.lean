/- Moves cost at most the gain for each unit that was lacking. No program in sight. -/
import Derived.Test.YtnlpbgljaecdmaaKMoves
import Derived.Test.YtnlpbgljaecdmaaKMoves1
import Derived.Test.YtnlpbgljaecdmaaKRingC
namespace Go.Proofs.Ytnlpbgljaecdmaa
open Go.RowKit
set_option linter.unusedSimpArgs false
set_option linter.unusedVariables false
def lackE(e:Edge):Int:=if e.to=0 then e.cap else 0
def lackOf(es:List Edge):Int:=(es.map lackE).sum
theorem lackOf_app(a b:List Edge):lackOf (a++b)=lackOf a+lackOf b:=by unfold lackOf;rw[List.map_append,List.sum_append]
theorem lackOf_zero:∀(es:List Edge),(∀e∈es,e.to≠0)→lackOf es=0
 |[],_=>rfl
 |e::es,h=>by
  have h1:lackE e=0:=if_neg (h e (by simp))
  have h2:=lackOf_zero es (fun e he=>h e (by simp[he]))
  unfold lackOf at h2 ⊢
  rw[List.map_cons,List.sum_cons,h1,h2];rfl
theorem costSum_app(a b:List (Edge×Int)):costSum (a++b)=costSum a+costSum b:=by unfold costSum;rw[List.map_append,List.sum_append]
theorem cost_lack{gain:Int}:∀(es:List Edge) (f:List Int),f.length=es.length→(∀p∈es.zip f,-(gain*lackE p.1)≤p.1.cost*p.2)→-(gain*lackOf es)≤costSum (es.zip f)
 |[],f,_,_=>by simp[lackOf,costSum]
 |e::es,[],h,_=>absurd h (by simp)
 |e::es,a::f,h,hp=>by
  have h1:=hp (e,a) (by simp)
  have h2:=cost_lack es f (by simpa using h) (fun p hq=>hp p (by simp[hq]))
  have e1:lackOf (e::es)=lackE e+lackOf es:=by unfold lackOf;simp
  have e2:costSum ((e::es).zip (a::f))=e.cost*a+costSum (es.zip f):=by unfold costSum;simp
  rw[e1,e2,Int.mul_add]
  dsimp only at h1
  omega
def prSum(f:List Int)(first:Nat)(l:List Price):Nat→Int
 |0=>0
 |k+1=>prSum f first l k+(match l[k]? with|some p=>p.ppm*f.getD (first+k) 0|none=>0)
theorem prSum_succ{f:List Int}{first k:Nat}{l:List Price}(h:k<l.length):prSum f first l (k+1)=prSum f first l k+l[k].ppm*f.getD (first+k) 0:=by
 show prSum f first l k+(match l[k]? with|some p=>p.ppm*f.getD (first+k) 0|none=>0)=_
 rw[List.getElem?_eq_getElem h]
theorem mvSum_app(a b:List Move):mvSum (a++b)=mvSum a+mvSum b:=by unfold mvSum;rw[List.map_append,List.sum_append]
theorem mvSum_prices{f:List Int}{first:Nat}{l:List Price}(h0:∀n∈f,0≤n):∀k,k≤l.length→mvSum (movesK f first l k)=prSum f first l k
 |0,_=>rfl
 |k+1,hk=>by
  rw[movesK_succ (by omega),prSum_succ (by omega),mvSum_app,mvSum_prices h0 k (by omega)]
  have hn:0≤f.getD (first+k) 0:=by
   rw[List.getD_eq_getElem?_getD]
   cases hq:f[first+k]? with
   |none=>simp
   |some y=>exact h0 y (List.mem_of_getElem? hq)
  generalize hy:f.getD (first+k) 0=y at *
  by_cases q:0<y
  ·rw[moveAt_yes hy q]
   have:mvSum [⟨l[k].frm,l[k].to,y,l[k].ppm⟩]=y*l[k].ppm:=by unfold mvSum;simp
   rw[this,Int.mul_comm]
  ·rw[moveAt_no hy q]
   have:y=0:=by omega
   rw[this]
   show _+0=_
   rw[Int.mul_zero]
theorem cost_prices{cs:List Chan}{f g:List Int}{first:Nat}{l:List Price}(hg:g.length=l.length)(hf:∀k,k<l.length→g.getD k 0=f.getD (first+k) 0):∀k,k≤l.length→costSum (((l.map (priceE cs)).zip g).take k)=prSum f first l k
 |0,_=>by simp[costSum,prSum]
 |k+1,hk=>by
  have hz:k<((l.map (priceE cs)).zip g).length:=by simp;omega
  rw[costSum_snoc hz,cost_prices hg hf k (by omega),prSum_succ (by omega),List.getElem_zip]
  have h1:k<g.length:=by omega
  have e:=hf k (by omega)
  rw[List.getD_eq_getElem?_getD,List.getElem?_eq_getElem h1]at e
  have e2:((l.map (priceE cs))[k]'(by simp;omega)).cost=l[k].ppm:=by rw[List.getElem_map];rfl
  dsimp only
  rw[e2,←e];rfl
theorem two_facts{l:List Chan}{a b:Int}(h:two l a b=true):0≤chanAt l a∧0≤chanAt l b:=by
 unfold two at h
 simp only[Bool.and_eq_true,decide_eq_true_eq]at h
 exact⟨h.1.2,h.2⟩
theorem prices_there{x:Book}{l:List Price}(h:pricesOk x l=true):∀p∈l,0≤chanAt x.chans p.to:=fun p hp=>by
 obtain⟨k,hk,rfl⟩:=List.getElem_of_mem hp
 unfold pricesOk at h
 simp only[Bool.and_eq_true]at h
 have h2:=List.all_eq_true.1 h.2 k (by simpa using hk)
 unfold priceAt at h2
 rw[List.getElem?_eq_getElem hk]at h2
 simp only[Bool.and_eq_true]at h2
 exact(two_facts h2.1.1).2
theorem flow_at{x:Graph}{f:List Int}(h:flowOk x f=true):∀p∈x.edges.zip f,0≤p.2∧p.2≤p.1.cap:=(flowOk_facts h).2.2.2.2.2.1
theorem flow_pos{x:Graph}{f:List Int}(h:flowOk x f=true):∀n∈f,0≤n:=fun n hn=>by
 obtain⟨i,hi,rfl⟩:=List.getElem_of_mem hn
 have hl:=(flowOk_facts h).2.2.2.1
 have hz:i<(x.edges.zip f).length:=by simp;omega
 have:=flow_at h _ (List.getElem_mem hz)
 rw[List.getElem_zip]at this
 exact this.1
theorem moves_gain{x:Book}{lo hi gain:Int}{l:List Price}(h:movesOk x lo hi gain l=true):planOk x lo hi gain l=true∧movesCost (movesL x lo hi gain l)≤gain*lackOf (planG x lo hi gain l).edges∧(movesL x lo hi gain l).length≤l.length:=by
 have hm:movesL x lo hi gain l=movesK (cheapL (planG x lo hi gain l)) ((cheapL (planG x lo hi gain l)).length-l.length) l l.length:=if_pos h
 unfold movesOk at h
 simp only[Bool.and_eq_true]at h
 obtain⟨hp,hc⟩:=h
 obtain⟨first,hf1,hf2⟩:=moves_first hp hc
 rw[hm]
 refine⟨hp,?_,movesK_len _⟩
 have hg:graphOk (planG x lo hi gain l)=true:=by unfold cheapOk at hc;simp only[Bool.and_eq_true]at hc;exact hc.1
 obtain⟨b1,_,b3⟩:=cheapL_best hc (zero_flow hg)
 have hpos:=flow_pos b1
 have hat:=flow_at b1
 have hE:(planG x lo hi gain l).edges=planE x.chans lo hi gain l:=by unfold planG;rw[if_pos hp]
 rw[show (cheapL (planG x lo hi gain l)).length-l.length=first by omega]
 generalize cheapL (planG x lo hi gain l)=f at *
 rw[hE]at b3 hat hf2 ⊢
 obtain⟨q1,q2,_,q4,q5⟩:=planOk_facts hp
 unfold planOk at hp
 simp only[Bool.and_eq_true]at hp
 have hpr:=hp.1.1
 have hpp:=prices_ppm hpr
 have hth:=prices_there hpr
 -- the edges ahead of the prices'
 generalize hD:upK (overE lo hi) x.chans x.chans.length++upK (underE lo hi gain) x.chans x.chans.length=D at *
 have hPE:planE x.chans lo hi gain l=D++l.map (priceE x.chans):=by unfold planE;rw[hD]
 rw[hPE]at b3 hat hf2 ⊢
 have hDl:D.length=first:=by rw[List.length_append,List.length_map]at hf2;omega
 have hsplit:f=f.take first++f.drop first:=(List.take_append_drop first f).symm
 have hz:(D++l.map (priceE x.chans)).zip f=D.zip (f.take first)++(l.map (priceE x.chans)).zip (f.drop first):=by
  rw[show (D++l.map (priceE x.chans)).zip f=(D++l.map (priceE x.chans)).zip (f.take first++f.drop first) by rw[List.take_append_drop]]
  exact List.zip_append (by rw[List.length_take];omega)
 rw[hz]at b3 hat
 rw[costSum_app]at b3
 have hto:∀e∈D,e.to=0∧e.cost=-gain∨e.to≠0∧e.cost=0:=fun e he=>by
  rw[←hD]at he
  rcases List.mem_append.1 he with h2|h2
  ·refine upK_all (q:=fun e=>e.to=0∧e.cost=-gain∨e.to≠0∧e.cost=0) (Nat.le_refl _) (fun i hx e he=>?_) e h2
   unfold overE at he
   split at he
   ·have hm:=List.mem_singleton.1 he
    subst hm
    exact .inr ⟨by dsimp only;omega,rfl⟩
   ·exact absurd he (by simp)
  ·refine upK_all (q:=fun e=>e.to=0∧e.cost=-gain∨e.to≠0∧e.cost=0) (Nat.le_refl _) (fun i hx e he=>?_) e h2
   unfold underE at he
   split at he
   ·have hm:=List.mem_singleton.1 he
    subst hm
    exact .inl ⟨rfl,rfl⟩
   ·exact absurd he (by simp)
 have h1:-(gain*lackOf D)≤costSum (D.zip (f.take first)):=cost_lack D _ (by rw[List.length_take];omega) (fun p hp2=>by
  have hm:=hto p.1 (List.of_mem_zip hp2).1
  obtain⟨r1,r2⟩:=hat p (List.mem_append.2 (.inl hp2))
  rcases hm with⟨m1,m2⟩|⟨m1,m2⟩
  ·have e:lackE p.1=p.1.cap:=if_pos m1
   rw[e,m2,Int.neg_mul]
   have:=Int.mul_le_mul_of_nonneg_left r2 q4
   omega
  ·have e:lackE p.1=0:=if_neg m1
   rw[e,m2];simp)
 have h2:lackOf (l.map (priceE x.chans))=0:=lackOf_zero _ (fun e he=>by
  obtain⟨p,hp2,rfl⟩:=List.mem_map.1 he
  have:=hth p hp2
  show chanAt x.chans p.to+1≠0
  omega)
 have h3:costSum ((l.map (priceE x.chans)).zip (f.drop first))=prSum f first l l.length:=by
  have hlen:(f.drop first).length=l.length:=by rw[List.length_drop];omega
  have:=cost_prices (cs:=x.chans) (f:=f) (g:=f.drop first) (first:=first) (l:=l) hlen (fun k hk=>by rw[List.getD_eq_getElem?_getD,List.getD_eq_getElem?_getD,List.getElem?_drop]) l.length (Nat.le_refl _)
  rwa [List.take_of_length_le (by simp;omega)]at this
 have h4:=mvSum_prices (f:=f) (first:=first) (l:=l) hpos l.length (Nat.le_refl _)
 have hall:(movesK f first l l.length).all mvOk=true:=by
  rw[List.all_eq_true]
  have key:∀k,k≤l.length→∀m∈movesK f first l k,mvOk m=true:=by
   intro k
   induction k with
   |zero=>intro _ m hm;exact absurd hm (by simp[movesK])
   |succ k ih=>
    intro hk m hm
    rw[movesK_succ (by omega)]at hm
    rcases List.mem_append.1 hm with hm|hm
    ·exact ih (by omega) m hm
    ·have hl1:first+k<f.length:=by omega
     have e:f.getD (first+k) 0=f[first+k]:=by rw[List.getD_eq_getElem?_getD,List.getElem?_eq_getElem hl1];rfl
     have hcap:f[first+k]≤1000000000:=by
      have hzl:k<((l.map (priceE x.chans)).zip (f.drop first)).length:=by simp;omega
      have hq:=hat _ (List.mem_append.2 (.inr (List.getElem_mem hzl)))
      rw[List.getElem_zip,List.getElem_map,List.getElem_drop]at hq
      exact hq.2
     by_cases q:0<f[first+k]
     ·rw[moveAt_yes e q]at hm
      have hm:=List.mem_singleton.1 hm
      subst hm
      have hz:=hpp l[k] (List.getElem_mem (by omega))
      exact mvOk_iff.2 ⟨by dsimp only;omega,hcap,hz.1,hz.2⟩
     ·rw[moveAt_no e q]at hm;exact absurd hm (by simp)
  exact key l.length (Nat.le_refl _)
 have hlen2:=movesK_len (f:=f) (first:=first) (l:=l) l.length
 have hmc:movesCost (movesK f first l l.length)=mvSum (movesK f first l l.length):=by
  unfold movesCost
  rw[hall,if_pos (by simp;omega)]
 rw[hmc,h4,lackOf_app,h2,Int.add_zero]
 rw[h3]at b3
 omega
end Go.Proofs.Ytnlpbgljaecdmaa
