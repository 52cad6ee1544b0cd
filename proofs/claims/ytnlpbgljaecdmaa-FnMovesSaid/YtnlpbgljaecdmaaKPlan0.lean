/- The graph of a plan as plain functions; a row that grows inside a struct of the call's own. -/
import Derived.Test.YtnlpbgljaecdmaaKPrices
import Derived.Test.YtnlpbgljaecdmaaKPrice1
import Derived.Test.YtnlpbgljaecdmaaKArcs
namespace Go.Proofs.Ytnlpbgljaecdmaa
open Go.RowKit
set_option linter.unusedSimpArgs false
set_option linter.unusedVariables false
def capE(n:Int):Int:=min n 1000000000
def overE(lo hi:Int)(i:Nat)(c:Chan):List Edge:=if ends2 c.size lo hi<c.loc then [⟨0,(i:Int)+1,capE (c.loc-ends2 c.size lo hi),0⟩]else []
def underE(lo hi gain:Int)(i:Nat)(c:Chan):List Edge:=if c.loc<ends1 c.size lo hi then [⟨(i:Int)+1,0,capE (ends1 c.size lo hi-c.loc),-gain⟩]else []
def priceE(cs:List Chan)(p:Price):Edge:=⟨chanAt cs p.frm+1,chanAt cs p.to+1,1000000000,p.ppm⟩
def upK{α:Type}(f:Nat→α→List Edge)(l:List α):Nat→List Edge
 |0=>[]
 |k+1=>upK f l k++(match l[k]? with|some c=>f k c|none=>[])
theorem upK_succ{α:Type}{f:Nat→α→List Edge}{l:List α}{k:Nat}(h:k<l.length):upK f l (k+1)=upK f l k++f k l[k]:=by
 show upK f l k++(match l[k]? with|some c=>f k c|none=>[])=_
 rw[List.getElem?_eq_getElem h]
theorem upK_len{α:Type}{f:Nat→α→List Edge}{l:List α}(hf:∀i c,(f i c).length≤1):∀k,(upK f l k).length≤k
 |0=>by simp[upK]
 |k+1=>by
  have ih:=upK_len (l:=l) hf k
  show (upK f l k++(match l[k]? with|some c=>f k c|none=>[])).length≤_
  rw[List.length_append]
  cases h:l[k]? with
  |none=>simp;omega
  |some c=>have:=hf k c;simp only[];omega
theorem overE_len(lo hi:Int)(i:Nat)(c:Chan):(overE lo hi i c).length≤1:=by unfold overE;split<;>simp
theorem underE_len(lo hi gain:Int)(i:Nat)(c:Chan):(underE lo hi gain i c).length≤1:=by unfold underE;split<;>simp
theorem overE_yes{lo hi:Int}{i:Nat}{c:Chan}(h:ends2 c.size lo hi<c.loc):overE lo hi i c=[⟨0,(i:Int)+1,capE (c.loc-ends2 c.size lo hi),0⟩]:=if_pos h
theorem overE_no{lo hi:Int}{i:Nat}{c:Chan}(h:¬ends2 c.size lo hi<c.loc):overE lo hi i c=[]:=if_neg h
theorem underE_yes{lo hi gain:Int}{i:Nat}{c:Chan}(h:c.loc<ends1 c.size lo hi):underE lo hi gain i c=[⟨(i:Int)+1,0,capE (ends1 c.size lo hi-c.loc),-gain⟩]:=if_pos h
theorem underE_no{lo hi gain:Int}{i:Nat}{c:Chan}(h:¬c.loc<ends1 c.size lo hi):underE lo hi gain i c=[]:=if_neg h
def planE(cs:List Chan)(lo hi gain:Int)(l:List Price):List Edge:=upK (overE lo hi) cs cs.length++upK (underE lo hi gain) cs cs.length++l.map (priceE cs)
def planOk(x:Book)(lo hi gain:Int)(l:List Price):Bool:=pricesOk x l&&band lo hi&&inB gain 0 1000000
def planG(x:Book)(lo hi gain:Int)(l:List Price):Graph:=if planOk x lo hi gain l=true then ⟨(x.chans.length:Int)+1,planE x.chans lo hi gain l⟩else ⟨0,[]⟩
theorem ends_bd{size lo hi:Int}:(0≤ends1 size lo hi∧ends1 size lo hi≤1125899906842624)∧(0≤ends2 size lo hi∧ends2 size lo hi≤1125899906842624):=by
 unfold ends1 ends2
 cases h:(band lo hi&&amtOk size)
 ·simp
 ·simp only[Bool.and_eq_true]at h
  obtain⟨h1,h2⟩:=h
  obtain⟨b1,b2,b3⟩:=band_iff.1 h1
  obtain⟨a1,a2⟩:=amtOk_true.1 h2
  have p1:=pct_bd a1 a2 (show 0≤lo by omega) (show lo≤100 by omega)
  have p2:=pct_bd a1 a2 (show 0≤hi by omega) (show hi≤100 by omega)
  simp only[if_true]
  omega
theorem bookOk_loc{x:Book}(h:bookOk x=true):x.chans.length≤20∧∀c∈x.chans,0≤c.loc∧c.loc≤1125899906842624:=by
 unfold bookOk at h
 simp only[Bool.and_eq_true,decide_eq_true_eq]at h
 refine⟨h.1.1.2,fun c hc=>?_⟩
 obtain⟨k,hk,rfl⟩:=List.getElem_of_mem hc
 have h2:=h.2
 unfold chansOk at h2
 have h3:=List.all_eq_true.1 h2 k (by simpa using hk)
 unfold chanAtOk at h3
 rw[List.getElem?_eq_getElem hk]at h3
 simp only[Bool.and_eq_true]at h3
 have h4:=h3.1.1
 unfold chanOk1 at h4
 simp only[Bool.and_eq_true]at h4
 exact amtOk_true.1 h4.1.1.1.1.1.2
theorem planOk_facts{x:Book}{lo hi gain:Int}{l:List Price}(h:planOk x lo hi gain l=true):x.chans.length≤20∧l.length≤20∧(∀c∈x.chans,0≤c.loc∧c.loc≤1125899906842624)∧0≤gain∧gain≤1000000:=by
 unfold planOk at h
 simp only[Bool.and_eq_true]at h
 obtain⟨⟨h1,_⟩,h3⟩:=h
 unfold pricesOk at h1
 simp only[Bool.and_eq_true,decide_eq_true_eq]at h1
 obtain⟨a,b⟩:=bookOk_loc h1.1.1
 obtain⟨c,d⟩:=inB_true.1 h3
 exact⟨a,h1.1.2,b,c,d⟩
theorem chanAt_bd(l:List Chan)(ch:Int):-1≤chanAt l ch∧chanAt l ch<(l.length:Int)∨(chanAt l ch=-1):=by
 rcases chanAt_cases l ch with h|⟨k,hk,h,_⟩
 ·right;exact h
 ·left;omega
theorem planG_len(x:Book)(lo hi gain:Int)(l:List Price):(planG x lo hi gain l).edges.length≤60:=by
 unfold planG
 split
 ·rename_i h
  obtain⟨a,b,_⟩:=planOk_facts h
  show (planE x.chans lo hi gain l).length≤60
  unfold planE
  have h1:=upK_len (f:=overE lo hi) (l:=x.chans) (overE_len lo hi) x.chans.length
  have h2:=upK_len (f:=underE lo hi gain) (l:=x.chans) (underE_len lo hi gain) x.chans.length
  simp only[List.length_append,List.length_map]
  omega
 ·simp
def small(e:Edge):Prop:=-10000000000≤e.frm∧e.frm≤10000000000∧-10000000000≤e.to∧e.to≤10000000000∧-2000000000000000≤e.cap∧e.cap≤2000000000000000∧-10000000000≤e.cost∧e.cost≤10000000000
theorem upK_all{α:Type}{f:Nat→α→List Edge}{l:List α}{q:Edge→Prop}:∀ {k:Nat},k≤l.length→(∀i (h:i<l.length),∀e∈f i l[i],q e)→∀e∈upK f l k,q e
 |0,_,_,e,he=>absurd he (by simp[upK])
 |k+1,hk,hf,e,he=>by
  rw[upK_succ (by omega)]at he
  rcases List.mem_append.1 he with h|h
  ·exact upK_all (k:=k) (by omega) hf e h
  ·exact hf k (by omega) e h
theorem small.wf{e:Edge}(h:small e):wfEdge e:=by
 obtain⟨_,_,_,_,_,_,_,_⟩:=h
 unfold wfEdge i64;refine⟨⟨?_,?_⟩,⟨?_,?_⟩,⟨?_,?_⟩,?_,?_⟩<;>omega
theorem plan_small{x:Book}{lo hi gain:Int}{l:List Price}(h:planOk x lo hi gain l=true)(hw:∀p∈l,0≤p.ppm∧p.ppm≤1000000):∀e∈planE x.chans lo hi gain l,small e:=fun e he=>by
 obtain⟨a,b,c,g1,g2⟩:=planOk_facts h
 unfold planE at he
 rcases List.mem_append.1 he with h1|h1
 ·rcases List.mem_append.1 h1 with h2|h2
  ·refine upK_all (Nat.le_refl _) (fun i hx e he=>?_) e h2
   unfold overE at he
   split at he
   ·have hm:=List.mem_singleton.1 he
    subst hm
    have:=(ends_bd (size:=x.chans[i].size) (lo:=lo) (hi:=hi)).2
    have:=c _ (List.getElem_mem hx)
    unfold small capE;dsimp only;omega
   ·exact absurd he (by simp)
  ·refine upK_all (Nat.le_refl _) (fun i hx e he=>?_) e h2
   unfold underE at he
   split at he
   ·have hm:=List.mem_singleton.1 he
    subst hm
    have:=(ends_bd (size:=x.chans[i].size) (lo:=lo) (hi:=hi)).1
    have:=c _ (List.getElem_mem hx)
    unfold small capE;dsimp only;omega
   ·exact absurd he (by simp)
 ·obtain⟨p,hp,rfl⟩:=List.mem_map.1 h1
  have h2:=hw p hp
  have h3:=chanAt_bd x.chans p.frm
  have h4:=chanAt_bd x.chans p.to
  unfold small priceE;dsimp only;omega
theorem prices_ppm{x:Book}{l:List Price}(h:pricesOk x l=true):∀p∈l,0≤p.ppm∧p.ppm≤1000000:=fun p hp=>by
 obtain⟨k,hk,rfl⟩:=List.getElem_of_mem hp
 unfold pricesOk at h
 simp only[Bool.and_eq_true]at h
 have h2:=List.all_eq_true.1 h.2 k (by simpa using hk)
 unfold priceAt at h2
 rw[List.getElem?_eq_getElem hk]at h2
 simp only[Bool.and_eq_true]at h2
 exact inB_true.1 h2.1.2
-- ---------- a row inside a struct
theorem Box.kept{w w':World}{b:Nat}{cs:List Value}{row:Option Nat}(h:Box w b cs)(hg:w.grownBy w' row)(hr:row≠some b):Box w' b cs:=
 ⟨Nat.lt_of_lt_of_le h.lt hg.size,fun j v hj=>cellKept hg hr (h.c j v hj),fun o=>by
   rw[World.frozen?_of_block (w:=w) (a:=⟨b,o,none⟩) (hg.block b h.lt (fun q=>hr q.symm))];exact h.f o⟩
structure GRow(w W:World)(gB:Nat)(n:Int)(v:Value)(es:List Edge):Prop where
 box:Box w gB [.int .i64 n,v]
 own:w.ownsRow W.heap.size 40 4 v es.length (es.flatMap encEdge)
 ne:v.ownBlock≠some gB
theorem GRow.grow{w w' W:World}{gB:Nat}{n:Int}{v:Value}{es:List Edge}(h:GRow w W gB n v es)(g:Grow w w'):GRow w' W gB n v es:=⟨h.box.grow g,own_grow h.own g,h.ne⟩
end Go.Proofs.Ytnlpbgljaecdmaa
