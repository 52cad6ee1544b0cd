/- Texts of the proof of FnForward, joined: E20, EZ, ET, EA1. -/
import Derived.Test.YtogkbcmfoalpiaaGreatJForward3
import Derived.Test.YtogkbcmfoalpiaaGreatKNum
namespace Go.Proofs.YtogkbcmfoalpiaaGreat
open Go.RowKit
set_option linter.unusedSimpArgs false
set_option linter.unusedVariables false
-- A value of own rows and of what refers to no memory.
mutual
def ownA:AV→Bool
 |.p (.v _)=>true
 |.own _=>true
 |.agg l=>ownAL l
 |.tup l=>ownAL l
 |_=>false
def ownAL:List AV→Bool
 |[]=>true
 |x::l=>ownA x&&ownAL l
end
section
variable {L L':Nat→Prop}{H H':Nat→AO}{ρ ρ':Nat→Value}{w w':World}
mutual
def ownN:AV→List Nat
 |.own id=>[id]
 |.agg l=>ownNL l
 |.tup l=>ownNL l
 |_=>[]
def ownNL:List AV→List Nat
 |[]=>[]
 |x::l=>ownN x++ownNL l
end
mutual
theorem RV.owned:∀(x:AV) {c:Value},ownA x=true→RV L ρ H w x c→(∀id∈ownN x,(H id).here=true∧ρ' id=ρ id)→RV L' ρ' H' w' x c
 |.p (.v v),c,_,h,_=>by
  rw[RV]at *
  obtain⟨fp,h1,_⟩:=h
  rw[RW]at h1
  obtain⟨h1,rfl,h2⟩:=h1
  exact⟨[],by rw[RW];exact⟨h1,rfl,h2⟩,by simp⟩
 |.own id,c,_,h,k=>by
  rw[RV]at *
  obtain⟨q1,q2⟩:=k id (by simp[ownN])
  exact⟨h.1,fun q=>by rw[h.2 q1,q2]⟩
 |.agg l,c,hf,h,k=>by
  unfold ownA at hf
  rw[RV]at *
  obtain⟨cs,rfl,h1⟩:=h
  exact⟨cs,rfl,RVL.owned l hf h1 fun id hid=>k id (by unfold ownN;exact hid)⟩
 |.tup l,c,hf,h,k=>by
  unfold ownA at hf
  rw[RV]at *
  obtain⟨cs,rfl,h1⟩:=h
  exact⟨cs,rfl,RVL.owned l hf h1 fun id hid=>k id (by unfold ownN;exact hid)⟩
 |.p (.lst _ _ _),_,hf,_,_=>by simp[ownA]at hf
 |.sub _ _ _,_,hf,_,_=>by simp[ownA]at hf
 |.ptr _ _ _,_,hf,_,_=>by simp[ownA]at hf
 |.rp _,_,hf,_,_=>by simp[ownA]at hf
 |.clo _ _ _,_,hf,_,_=>by simp[ownA]at hf
 |.dead,_,hf,_,_=>by simp[ownA]at hf
 |.bad,_,hf,_,_=>by simp[ownA]at hf
theorem RVL.owned:∀(x:List AV) {c:List Value},ownAL x=true→RVL L ρ H w x c→(∀id∈ownNL x,(H id).here=true∧ρ' id=ρ id)→RVL L' ρ' H' w' x c
 |[],c,_,h,_=>by rw[RVL]at *;exact h
 |x::xs,c,hf,h,k=>by
  unfold ownAL at hf
  simp only[Bool.and_eq_true]at hf
  rw[RVL]at *
  obtain⟨c,r,rfl,h1,h2⟩:=h
  exact⟨c,r,rfl,RV.owned x hf.1 h1 (fun id hid=>k id (by unfold ownNL;exact List.mem_append_left _ hid)),RVL.owned xs hf.2 h2 (fun id hid=>k id (by unfold ownNL;exact List.mem_append_right _ hid))⟩
end
end
def inO(l:List (Nat×AO))(i:Nat):Bool:=(l.map Prod.fst).contains i
theorem ofO_app{l m:List (Nat×AO)}{i:Nat}:ofO (l++m) i=if inO l i=true then ofO l i else ofO m i:=by
 induction l with
 |nil=>simp[inO]
 |cons p l ih=>
  obtain⟨j,o⟩:=p
  by_cases e:j=i
  ·subst e
   simp[ofO,inO]
  ·have e':¬i=j:=fun q=>e q.symm
   have h1:inO ((j,o)::l) i=inO l i:=by simp[inO,e']
   rw[h1]
   simp only[List.cons_append,ofO,if_neg e']
   exact ih
theorem ofO_out{l:List (Nat×AO)}{i:Nat}(h:inO l i=false):ofO l i=.gone:=by
 induction l with
 |nil=>rfl
 |cons p l ih=>
  obtain⟨j,o⟩:=p
  by_cases e:i=j
  ·subst e;simp[inO]at h
  ·have h1:inO ((j,o)::l) i=inO l i:=by simp[inO,e]
   rw[h1]at h
   simp only[ofO,if_neg e]
   exact ih h
def flatO:AO→Prop
 |.arr e sz rows=>e.pt=none∧∀r∈rows,∀p∈r,∃v,p=PV.v v
 |_=>False
def arrO:AO→Bool
 |.arr _ _ _=>true
 |_=>false
theorem ofO_mem{l:List (Nat×AO)}{i:Nat}(h:inO l i=true):∃o,(i,o)∈l∧ofO l i=o:=by
 induction l with
 |nil=>simp[inO]at h
 |cons p l ih=>
  obtain⟨j,o⟩:=p
  by_cases e:i=j
  ·subst e;exact⟨o,by simp,by simp[ofO]⟩
  ·have h1:inO ((j,o)::l) i=inO l i:=by simp[inO,e]
   rw[h1]at h
   obtain⟨o',q1,q2⟩:=ih h
   exact⟨o',List.mem_cons_of_mem _ q1,by simp only[ofO,if_neg e];exact q2⟩
theorem GC.lent{P:Program}{f:FuncId}{args args':List AV}{x:AV}{ob0 ob1:List (Nat×AO)}(hc:GC P f args [] x ob1)(hl:lendL (ofO ob0) args'=args)(hx:ownA x=true)(hn:∀id∈ownN x,inO ob1 id=true)(h0:∀p∈ob0,arrO p.2=true)(h1:∀p∈ob1,flatO p.2)(hd:∀p∈ob0,inO ob1 p.1=false) :
 GC P f args' ob0 x (ob1++ob0):=by
 intro L w cs ρ fp hL hargs hob hdj hLf
 have hv:=RVL.lend (fun id=>⟨_,hob id⟩) args' hargs
 rw[hl]at hv
 refine Calls.mono (hc L0 w cs ρ0 (fun _=>[]) (fun _ q=>q.elim) hv (fun i=>rfl) (by simp) (by simp)) ?_
 rintro e w' ⟨y,o,⟨hy,ho⟩,v,ρ',fp',rfl,g1,g2,g3,g4,g5⟩
 replace hy:=hy.symm
 replace ho:=ho.symm
 subst hy ho
 have hnew:∀i,∀b∈fp' i,w.heap.size≤b:=fun i b hb=>by
  rcases(g5 i b hb).1 with⟨j,q⟩|q
  ·cases q
  ·exact q
 have hsame:∀b,b<w.heap.size→w'.heap[b]? = w.heap[b]?:=fun b hb=>g1.block b hb (by simp)
 generalize hρ2:(fun i=>if inO ob1 i=true then ρ' i else ρ i)=ρ2
 generalize hf2:(fun i=>if inO ob1 i=true then fp' i else fp i)=f2
 have eρ1:∀ {i},inO ob1 i=true→ρ2 i=ρ' i:=fun{i} h=>by rw[←hρ2];simp only[h,if_true]
 have eρ0:∀ {i},inO ob1 i=false→ρ2 i=ρ i:=fun{i} h=>by rw[←hρ2];simp[h]
 have ef1:∀ {i},inO ob1 i=true→f2 i=fp' i:=fun{i} h=>by rw[←hf2];simp only[h,if_true]
 have ef0:∀ {i},inO ob1 i=false→f2 i=fp i:=fun{i} h=>by rw[←hf2];simp[h]
 have eH1:∀ {i},inO ob1 i=true→ofO (ob1++ob0) i=ofO ob1 i:=fun{i} h=>by rw[ofO_app,if_pos h]
 have eH0:∀ {i},inO ob1 i=false→ofO (ob1++ob0) i=ofO ob0 i:=fun{i} h=>by rw[ofO_app,if_neg (by simp[h])]
 have hlive:∀b,b<w.heap.size→¬live L ρ (ofO ob0) b→¬live L ρ2 (ofO (ob1++ob0)) b:=by
  rintro b hb hn (hl|⟨i,q1,q2⟩)
  ·exact hn (.inl hl)
  ·rcases hi:inO ob1 i with _|_
   ·rw[eH0 hi]at q1;rw[eρ0 hi]at q2;exact hn (.inr ⟨i,q1,q2⟩)
   ·rw[eH1 hi]at q1;rw[eρ1 hi]at q2
    have:=hnew i b ((g3 i).top q1 q2)
    omega
 have E:Env L ρ ρ2 (ofO ob0) (ofO (ob1++ob0)) w w' (inO ob1):=⟨g1.size,fun b hb hn=>⟨hsame b hb,hlive b hb hn⟩,fun i hk hi=>by
  rw[eH0 hk]at hi ⊢
  exact⟨hi,eρ0 hk,rfl,rfl⟩⟩
 refine⟨x,ob1++ob0,⟨rfl,rfl⟩,v,ρ2,f2,rfl,⟨g1.os,g1.tape,g1.output,g1.size,fun b hb _=>hsame b hb,fun b o hb hlt=>?_⟩,?_,fun i=>?_,fun i j hij b hb hb'=>?_,fun i b hb=>?_⟩
 ·rcases Nat.lt_or_ge b w.heap.size with hb2|hb2
  ·rcases hb with⟨i,hi⟩|hb
   ·rw[World.frozen?_of_block (w:=w) (hsame b hb2)]
    exact(hob i).frozen b hi o
   ·omega
  ·exact g1.nf b o (.inr hb2) hlt
 ·refine RV.owned x hx g2 fun id hid=>?_
  obtain⟨o,q1,q2⟩:=ofO_mem (hn id hid)
  have hfl:=h1 _ q1
  refine⟨?_,eρ1 (hn id hid)⟩
  rw[q2]
  cases o with
  |arr e sz rows=>rfl
  |box T p c=>exact hfl.elim
  |gone=>exact hfl.elim
 ·rcases hi:inO ob1 i with _|_
  ·rw[eH0 hi,eρ0 hi,ef0 hi]
   have h:=(hob i).env E (fun b hb=>hsame b ((hob i).lt b hb))
   have ek:(ofO ob0 i).kil (inO ob1)=ofO ob0 i:=by
    rcases hj:inO ob0 i with _|_
    ·rw[ofO_out hj];rfl
    ·obtain⟨o,q1,q2⟩:=ofO_mem hj
     have:=h0 _ q1
     rw[q2]
     cases o with
     |arr e sz rows=>rfl
     |box T p c=>cases this
     |gone=>rfl
   rwa [ek]at h
  ·rw[eH1 hi,eρ1 hi,ef1 hi]
   obtain⟨o,q1,q2⟩:=ofO_mem hi
   have hfl:=h1 _ q1
   have h:=g3 i
   rw[q2]at h ⊢
   cases o with
   |arr e sz rows=>
    obtain⟨xs,fr,k1,k2,k3,k4,k5⟩:=h
    have hfr:=k1.flat_fp hfl.2
    subst hfr
    exact⟨xs,[],k1,by simp,k3,k4,k5⟩
   |box T p c=>exact hfl.elim
   |gone=>exact hfl.elim
 ·rcases hi:inO ob1 i with _|_<;>rcases hj:inO ob1 j with _|_
  ·rw[ef0 hi]at hb;rw[ef0 hj]at hb';exact hdj i j hij b hb hb'
  ·rw[ef0 hi]at hb;rw[ef1 hj]at hb'
   have:=(hob i).lt b hb
   have:=hnew j b hb'
   omega
  ·rw[ef1 hi]at hb;rw[ef0 hj]at hb'
   have:=(hob j).lt b hb'
   have:=hnew i b hb
   omega
  ·rw[ef1 hi]at hb;rw[ef1 hj]at hb';exact g4 i j hij b hb hb'
 ·rcases hi:inO ob1 i with _|_
  ·rw[ef0 hi]at hb;exact⟨.inl ⟨i,hb⟩,hLf i b hb⟩
  ·rw[ef1 hi]at hb
   have:=hnew i b hb
   exact⟨.inr this,fun hl=>by have:=hL b hl;omega⟩
section
variable {P:Program}{L O:Nat→Prop}{w0:World}{N:Nat}{τ:Nat→AV}{H:Nat→AO}{Q:AQ}{ops:Array Oper}{F:List Nat}{n:Nat}{listed:Array Bool}
theorem pd_ext{o:Oper}{x:Operand}{k:Nat}{r:AV}(ho:o.op=.extract x k)(h:extv (ev τ x) k=some r):Pd P o τ H r:=by
 apply Pd.pure;intro L ρ a w he
 have hx:=he x
 generalize ev τ x=vx at *
 unfold extv at h
 split at h
 ·rw[RV]at hx
  obtain⟨cs,e,hl⟩:=hx
  obtain⟨u,k1,k2⟩:=RVL.get hl h
  refine⟨u,k2,fun W=>?_⟩
  simp[execOp,ho,e,Instr.extract,k1]
 ·cases h
theorem AF.three{i j k:Nat}(hr:Region.ready .any ops listed=[i,j,k])(h1:AF1 P L O w0 N ops F n listed i τ H Q)(h2:AF1 P L O w0 N ops F n listed j τ H Q)(h3:AF1 P L O w0 N ops F n listed k τ H Q):AF P L O w0 N ops F (n+1) listed τ H Q:=fun ρ fp a w hrr=>by
 refine⟨fun h0=>(by rw[hr]at h0;cases h0),fun m hm=>?_⟩
 rw[hr]at hm
 simp only[List.mem_cons,List.not_mem_nil,or_false]at hm
 rcases hm with rfl|rfl|rfl
 ·exact h1 ρ fp a w hrr
 ·exact h2 ρ fp a w hrr
 ·exact h3 ρ fp a w hrr
end

class CNP(Q:AQ):Prop where
 np:NP Q
section
variable {K:(Nat→AV)→(Nat→AO)→Prop}{Q:AQ}{τ:Nat→AV}{H:Nat→AO}{id i:Nat}
instance [h:CNP Q]:CNP (AQ.andThen K Q):=⟨h.np⟩
instance [h:CNP Q]:CNP (AQ.inBlock id Q):=⟨h.np⟩
instance [h:CNP Q]:CNP (AQ.noGoto Q):=⟨h.np⟩
instance {rs:List RVar} {x:AV} {ob1:List (Nat×AO)}:CNP (Ends rs x ob1):=⟨NP.ends⟩
instance {rs:List RVar} {R:AV→List (Nat×AO)→Prop}:CNP (EndsX rs R):=⟨NP.endsX⟩
theorem gT(h:K τ H):AQ.andThen K Q .normal τ H:=h
theorem eT(h:Q (.exit i) τ H):AQ.andThen K Q (.exit i) τ H:=h
theorem rT(h:Q .ret τ H):AQ.andThen K Q .ret τ H:=h
theorem gB(h:Q .normal τ H):AQ.inBlock id Q .normal τ H:=h
theorem eB(h:Q .normal τ H):AQ.inBlock id Q (.exit id) τ H:=ex_block h
theorem rB(h:Q .ret τ H):AQ.inBlock id Q .ret τ H:=h
end
theorem Z{α:Sort _}{a:α}:a=a:=rfl
theorem iq{a b:Int}{x:AV}(h1:x=.p (.v (.int .i64 a)))(h:a=b:=by omega):x=.p (.v (.int .i64 b)):=by rw[h1,h]
theorem zb1{b:Bool}:((!b)=true)=(b=false):=by cases b<;>simp
theorem zb2{b:Bool}:((!b)=false)=(b=true):=by cases b<;>simp
theorem zb3{p:Prop}[Decidable p]:(decide p=false)=¬p:=by simp
theorem zb4{p:Prop}[Decidable p]:(decide p=true)=p:=by simp
abbrev vI(k:IntKind)(n:Int):AV:=.p (.v (.int k n))
abbrev vB(b:Bool):AV:=.p (.v (.bool b))
abbrev vV(v:Value):AV:=.p (.v v)
abbrev vL(e:TypeId)(sz:Nat)(l:List (List PV)):AV:=.p (.lst e sz l)
theorem nN{α:Type}{x:List α}(h:x=[]):x=[]:=h
theorem nC{α:Type}(x:α){l r q:List α}(h:l=x::r)(k:r=q):l=x::q:=by rw[h,k]
theorem nU{l r q:List AV}{c d:List AV}(h:l=.agg c::r)(e:c=d)(k:r=q):l=.agg d::q:=by rw[h,e,k]
theorem nT{l r q:List AV}{c d:List AV}(h:l=.tup c::r)(e:c=d)(k:r=q):l=.tup d::q:=by rw[h,e,k]
theorem nK{l r q:List AV}{f:Fn}{a c d:List AV}(h:l=.clo f a c::r)(e:c=d)(k:r=q):l=.clo f a d::q:=by rw[h,e,k]
theorem nB{l r q:List AO}{T:TypeId}{p:Option Value}{c d:List AV}(h:l=.box T p c::r)(e:c=d)(k:r=q):l=.box T p d::q:=by rw[h,e,k]
theorem nz{α:Type}{x y:List α}(h:x=y:=by repeat' (first|exact nN rfl|apply nC (vI _ _) rfl|apply nC (AV.ptr _ _ _) rfl|apply nC (vB _) rfl|apply nC (AV.own _) rfl|apply nC (vL _ _ _) rfl|apply nC (vV _) rfl|apply nU rfl|apply nC (AV.rp _) rfl|apply nC AV.dead rfl|apply nB rfl|apply nC (AO.arr _ _ _) rfl|apply nC (AV.tup []) rfl|apply nT rfl|apply nK rfl|apply nC (AV.sub _ _ _) rfl|apply nC (AV.p _) rfl|apply nC _ rfl)):x=y:=h
def ofK:List (Nat×AV)→(Nat→AV)→Nat→AV
 |[],f,t=>f t
 |(s,x)::l,f,t=>if t=s then x else ofK l f t
def ofH:List (Nat×AO)→(Nat→AO)→Nat→AO
 |[],f,t=>f t
 |(s,x)::l,f,t=>if t=s then x else ofH l f t
def of2{α:Type}(z:α):List Nat→List α→Nat→α
 |s::l,x::r,t=>if t=s then x else of2 z l r t
 |_,_,_=>z
def at2{α:Type}(τ:Nat→α):List Nat→List α
 |[]=>[]
 |s::l=>τ s::at2 τ l
theorem at2.weak{α:Type}{z:α}{τ:Nat→α}:∀ {l:List Nat} {v:List α},at2 τ l=v→∀t,of2 z l v t=z∨of2 z l v t=τ t
 |[],_,h,t=>.inl (by subst h;rfl)
 |s::l,v,h,t=>by
  subst h
  show (if t=s then τ s else of2 z l (at2 τ l) t)=z∨(if t=s then τ s else of2 z l (at2 τ l) t)=τ t
  split
  ·rename_i q;subst q;exact .inr rfl
  ·exact at2.weak rfl t
def dstOk(o:Option Nat)(N:Nat):Bool:=match o with|some t=>Nat.blt t N|none=>true
theorem dstOk.at{o:Option Nat}{N:Nat}(h:dstOk o N=true):∀s,o=some s→s<N:=fun s e=>by subst e;exact Nat.le_of_ble_eq_true h
def allv(r:List (Nat×Nat))(H:Nat→AO):List (Nat×AO)→List (Option AO)
 |[]=>[]
 |(i,_)::l=>(rn r i).map (fun j=>(H j).ren (sw r))::allv r H l
def allw:List (Nat×AO)→List (Option AO)
 |[]=>[]
 |(_,o)::l=>some o::allw l
theorem allv.all0{r:List (Nat×Nat)}{H:Nat→AO}:∀ {l:List (Nat×AO)},allv r H l=allw l→all0 r H l
 |[],_=>trivial
 |(i,o)::l,h=>by
  unfold allv allw at h
  injection h with h1 h2
  refine⟨?_,allv.all0 h2⟩
  cases e:rn r i with
  |none=>rw[e]at h1;cases h1
  |some j=>rw[e]at h1;injection h1 with h1;exact⟨j,rfl,h1⟩
section
variable {P:Program}{L O:Nat→Prop}{w0:World}{N:Nat}{τ τ':Nat→AV}{H H':Nat→AO}{Q:AQ}
theorem aS{x y:Code}(h:AW P L O w0 N x τ H (Q.andThen fun τ H=>AW P L O w0 N y τ H Q)):AW P L O w0 N (.seq x y) τ H Q:=AW.seq h
theorem aL{id:Nat}{l:List Oper}(h:AL P L O w0 N l.toArray l τ H Q):AW P L O w0 N (.region id l.toArray false) τ H Q:=AW.list h
theorem aK(h:Q .normal τ H):AW P L O w0 N .skip τ H Q:=AW.skip h
theorem aR(h:Q .ret τ H):AW P L O w0 N .ret τ H Q:=AW.ret h
theorem aE{id:Nat}(h:Q (.exit id) τ H):AW P L O w0 N (.exit id) τ H Q:=AW.exit h
theorem aB{id:Nat}{c:Code}(h:AW P L O w0 N c τ H (Q.inBlock id)):AW P L O w0 N (.block id c) τ H Q:=AW.block h
theorem aY{c:Operand}{x y:Code}(hc:ev τ c=.p (.v (.bool true)))(h:AW P L O w0 N x τ H Q):AW P L O w0 N (.cond c x y) τ H Q:=AW.yes hc h
theorem aN{c:Operand}{x y:Code}(hc:ev τ c=.p (.v (.bool false)))(h:AW P L O w0 N y τ H Q):AW P L O w0 N (.cond c x y) τ H Q:=AW.no hc h
theorem aT(k i:List Nat){v:List AV}{b:List AO}{c:Code}(h:AW P L O w0 N c (of2 .bad k v) (of2 .gone i b) Q)(h1:at2 τ k=v:=by exact nz)(h2:at2 H i=b:=by exact nz):AW P L O w0 N c τ H Q:=AW.weak (at2.weak h1) (at2.weak h2) h
variable {ops:Array Oper}{o:Oper}{l:List Oper}
theorem lN(h:Q .normal τ H):AL P L O w0 N ops [] τ H Q:=AL.nil h
theorem lno{t:Nat}(h:(gv τ ops o,o.dst,Nat.blt t N)=(some false,some t,true))(K:AL P L O w0 N ops l (upd τ t (.tup [])) H Q):AL P L O w0 N ops (o::l) τ H Q:=by
 simp only[Prod.mk.injEq]at h
 exact AL.no h.1 h.2.1 (Nat.le_of_ble_eq_true h.2.2) K
theorem lst{E:List Nat}(hs:St P o N τ H E τ' H')(hg:gv τ ops o=some true)(h:AL P L O w0 N ops l τ' H' Q):AL P L O w0 N ops (o::l) τ H Q:=AL.st hs hg h
theorem lT(k i:List Nat){v:List AV}{b:List AO}(h:AL P L O w0 N ops l (of2 .bad k v) (of2 .gone i b) Q)(h1:at2 τ k=v:=by exact nz)(h2:at2 H i=b:=by exact nz):AL P L O w0 N ops l τ H Q:=AL.weak (at2.weak h1) (at2.weak h2) h
end
section
variable {P:Program}{L O:Nat→Prop}{w0:World}{N:Nat}{τ τ':Nat→AV}{H H':Nat→AO}{Q:AQ}{ops:Array Oper}{o:Oper}{F:List Nat}{n f:Nat}{X:Nat→Bool}{listed:Array Bool}
def tkG(ops:Array Oper)(f:Nat)(listed:Array Bool)(i:Nat):Bool:=(Region.ready .any ops listed).contains i&&(Region.noSelect ops&&(Region.free .any ops listed i&&((reachB .any ops f).getD i false&&closedB .any ops listed)))
theorem and5{a b c d e:Bool}(h:(a&&(b&&(c&&(d&&e))))=true):a=true∧b=true∧c=true∧d=true∧e=true:=by simpa[Bool.and_eq_true]using h
theorem and4{a b c e:Bool}(h:(a&&(b&&(c&&e)))=true):a=true∧b=true∧c=true∧e=true:=by simpa[Bool.and_eq_true]using h
def tkF(ops:Array Oper)(F:List Nat)(listed:Array Bool)(i:Nat):Bool:=(Region.ready .any ops listed).contains i&&(Region.noSelect ops&&(Region.free .any ops listed i&&(reachF .any ops F listed i&&closedB .any ops listed)))
def tkP(ops:Array Oper)(listed:Array Bool)(i:Nat):Bool:=(Region.ready .any ops listed).contains i&&(Region.noSelect ops&&(Region.free .any ops listed i&&closedB .any ops listed))
theorem aF{id:Nat}(F:List Nat)(h:AF P L O w0 N ops F ops.size (Array.replicate ops.size false) τ H Q)(hm:P.follows .mixedOrders=true:=by kernel_rfl):AW P L O w0 N (.region id ops true) τ H Q:=AW.drawF F hm h
theorem aG{id:Nat}(f:Nat)(X:List Nat)(h:AG P L O w0 N ops f (inK X) ops.size (Array.replicate ops.size false) τ H Q)(hm:P.follows .mixedOrders=true:=by kernel_rfl):AW P L O w0 N (.region id ops true) τ H Q:=AW.draw f (inK X) hm h
theorem fD(h:Q .normal τ H)(hr:Region.ready .any ops listed=[]:=by kernel_rfl):AF P L O w0 N ops F n listed τ H Q:=AF.done hr h
theorem gD(h:Q .normal τ H)(hr:Region.ready .any ops listed=[]:=by kernel_rfl):AG P L O w0 N ops f X n listed τ H Q:=AG.done hr h
theorem vst(i:Nat){E:List Nat}(h0:(ops[i]?,gv τ ops o)=(some o,some true))(hs:St P o N τ H E τ' H')(hF:F.contains i=true∨E=[])(h:AF P L O w0 N ops F n (listed.setIfInBounds i true) τ' H' Q)(hr:Region.ready .any ops listed=[i]:=by kernel_rfl):AF P L O w0 N ops F (n+1) listed τ H Q:=by
 simp only[Prod.mk.injEq]at h0
 exact AF.st h0.1 hr hs hF h0.2 h
theorem yst(i:Nat){E:List Nat}(h0:(ops[i]?,gv τ ops o)=(some o,some true))(hs:St P o N τ H E τ' H')(h:AG P L O w0 N ops f X n (listed.setIfInBounds i true) τ' H' Q)(hX:∀id∈E,X id=true:=by decide)(hr:Region.ready .any ops listed=[i]:=by kernel_rfl):AG P L O w0 N ops f X (n+1) listed τ H Q:=by
 simp only[Prod.mk.injEq]at h0
 exact AG.st h0.1 hr hs hX h0.2 h
theorem yno(i:Nat){t:Nat}(h0:(ops[i]?,gv τ ops o,o.dst,Nat.blt t N)=(some o,some false,some t,true))(h:AG P L O w0 N ops f X n (listed.setIfInBounds i true) (upd τ t (.tup [])) H Q)(hr:Region.ready .any ops listed=[i]:=by kernel_rfl):AG P L O w0 N ops f X (n+1) listed τ H Q:=by
 simp only[Prod.mk.injEq]at h0
 exact AG.no h0.1 hr h0.2.1 h0.2.2.1 (Nat.le_of_ble_eq_true h0.2.2.2) h
theorem vno(i:Nat){t:Nat}(h0:(ops[i]?,gv τ ops o,o.dst,Nat.blt t N)=(some o,some false,some t,true))(h:AF P L O w0 N ops F n (listed.setIfInBounds i true) (upd τ t (.tup [])) H Q)(hr:Region.ready .any ops listed=[i]:=by kernel_rfl):AF P L O w0 N ops F (n+1) listed τ H Q:=by
 simp only[Prod.mk.injEq]at h0
 exact AF.no h0.1 hr h0.2.1 h0.2.2.1 (Nat.le_of_ble_eq_true h0.2.2.2) h
theorem tno[cq:CNP Q](i:Nat){t:Nat}(h0:(ops[i]?,gv τ ops o,o.dst,Nat.blt t N)=(some o,some false,some t,true))(h:AG P L O w0 N ops f X n (listed.setIfInBounds i true) (upd τ t (.tup [])) H Q)(hb:tkG ops f listed i=true:=by kernel_rfl):AG P L O w0 N ops f X (n+1) listed τ H Q:=by
 simp only[Prod.mk.injEq]at h0
 exact AG.skip h0.1 (and5 hb).1 (and5 hb).2.1 (and5 hb).2.2.1 (and5 hb).2.2.2.1 (and5 hb).2.2.2.2 h0.2.1 h0.2.2.1 (Nat.le_of_ble_eq_true h0.2.2.2) cq.np h
theorem pno[cq:CNP Q](i:Nat){t:Nat}(h0:(ops[i]?,gv τ ops o,o.dst,Nat.blt t N)=(some o,some false,some t,true))(h:AF P L O w0 N ops F n (listed.setIfInBounds i true) (upd τ t (.tup [])) H Q)(hb:tkP ops listed i=true:=by kernel_rfl):AF P L O w0 N ops F (n+1) listed τ H Q:=by
 simp only[Prod.mk.injEq]at h0
 exact AF.skip h0.1 (and4 hb).1 (and4 hb).2.1 (and4 hb).2.2.1 (and4 hb).2.2.2 h0.2.1 h0.2.2.1 (Nat.le_of_ble_eq_true h0.2.2.2) cq.np h
theorem fTv(k:List Nat)(v:List AV)(i:List Nat)(b:List AO)(h1:at2 τ k=v)(h2:at2 H i=b)(h:AF P L O w0 N ops F n listed (of2 .bad k v) (of2 .gone i b) Q):AF P L O w0 N ops F n listed τ H Q:=fun ρ fp a w hr=>by
 obtain⟨fp',hr',_⟩:=hr.weak (at2.weak (z:=AV.bad) h1) (at2.weak (z:=AO.gone) h2)
 exact h ρ fp' a w hr'
theorem fT(k i:List Nat){v:List AV}{b:List AO}(h:AF P L O w0 N ops F n listed (of2 .bad k v) (of2 .gone i b) Q)(h1:at2 τ k=v:=by exact nz)(h2:at2 H i=b:=by exact nz):AF P L O w0 N ops F n listed τ H Q:=fTv k v i b h1 h2 h
theorem of2_zip:∀ {k:List Nat} {v:List AV},ofT (k.zip v)=of2 .bad k v
 |[],v=>funext fun t=>by simp[ofT,of2]
 |s::k,[]=>funext fun t=>by simp[ofT,of2]
 |s::k,x::v=>funext fun t=>by simp only[List.zip_cons_cons,ofT,of2,of2_zip]
theorem of2_zipO:∀ {k:List Nat} {v:List AO},ofO (k.zip v)=of2 .gone k v
 |[],v=>funext fun t=>by simp[ofO,of2]
 |s::k,[]=>funext fun t=>by simp[ofO,of2]
 |s::k,x::v=>funext fun t=>by simp only[List.zip_cons_cons,ofO,of2,of2_zipO]
theorem allT_zip:∀ {k:List Nat} {v:List AV},at2 τ k=v→allT (k.zip v) τ
 |[],v,h=>by subst h;trivial
 |s::k,v,h=>by subst h;exact⟨rfl,allT_zip rfl⟩
theorem allO_zip:∀ {k:List Nat} {v:List AO},at2 H k=v→allO (k.zip v) H
 |[],v,h=>by subst h;trivial
 |s::k,v,h=>by subst h;exact⟨rfl,allO_zip rfl⟩
def eqX(B H:Nat→AO):List Nat→Prop
 |[]=>True
 |i::l=>B i=H i∧eqX B H l
theorem eqX.to{B:List (Nat×AO)}{B':Nat→AO}(hB:ofO B=B'):∀ {X:List Nat},eqX B' H X→sameX B H X
 |[],_=>trivial
 |_::_,h=>⟨by rw[hB];exact h.1,eqX.to hB h.2⟩
theorem gXv(k:List Nat)(v:List AV)(i:List Nat)(b:List AO){X:List Nat}(h1:at2 τ k=v)(h2:at2 H i=b)(hX:eqX (of2 .gone i b) H X)(h:AG P L O w0 N ops f (inK X) n listed (of2 .bad k v) (of2 .gone i b) Q):AG P L O w0 N ops f (inK X) n listed τ H Q:=
 AG.tidyX (k.zip v) (i.zip b) (allT_zip h1) (allO_zip h2) (eqX.to of2_zipO hX) (by rw[of2_zip,of2_zipO];exact h)
theorem gX(k i:List Nat){v:List AV}{b:List AO}{X:List Nat}(h:AG P L O w0 N ops f (inK X) n listed (of2 .bad k v) (of2 .gone i b) Q)(h1:at2 τ k=v:=by exact nz)(h2:at2 H i=b:=by exact nz)(hX:eqX (of2 .gone i b) H X:=by repeat (first|exact trivial|refine⟨rfl,?_⟩)):AG P L O w0 N ops f (inK X) n listed τ H Q:=gXv k v i b h1 h2 hX h
end
section
variable {P:Program}{o:Oper}{N:Nat}{τ:Nat→AV}{H:Nat→AO}{X:Nat→Bool}
def FA(P:Program)(T k off ft:Nat):Prop:=fldA P T k=some (off,ft)∧P.cellsOf ft≠0∧(P.underlying ft).isSome=true
theorem zfr{t k off ft:Nat}{x:Operand}{cells:List PV}(hf:FA P t k off ft)(h:(o.op,ev τ x)=(.fieldAddr t x k,.rp cells)):Rd P o τ H X (.rp (cells.drop off)):=by
 simp only[Prod.mk.injEq]at h
 exact rd_faddr_rp h.1 hf.1 hf.2.1 hf.2.2 h.2
theorem zpfr{t k off ft:Nat}{x:Operand}{cells:List PV}(hf:FA P t k off ft)(h:(o.op,ev τ x)=(.fieldAddr t x k,.rp cells)):Pd P o τ H (.rp (cells.drop off)):=by
 simp only[Prod.mk.injEq]at h
 exact pd_faddr_rp h.1 hf.1 hf.2.1 hf.2.2 h.2
theorem zB(id:Nat){t T:TypeId}{x y:Operand}{k:Nat}{p:Option Value}{cells l:List AV}(hsz:P.cellsOf t=l.length)(hi:(P.info? t).isSome=true)(h:(o.op,o.dst,ev τ x,H id,cellsA (ev τ y),Nat.ble (k+l.length) cells.length)=(.store t x y,none,.ptr id 0 k,.box T p cells,some l,true)) :
 St P o N τ H [id] τ (upd H id (.box T p (cells.take k++l++cells.drop (k+l.length)))):=
 St.storeBox (P:=P) (o:=o) (N:=N) (τ:=τ) (H:=H) id (t:=t) (T:=T) (x:=x) (y:=y) (k:=k) (p:=p) (cells:=cells) (l:=l) (congrArg (·.1) h) (congrArg (·.2.1) h) (congrArg (·.2.2.1) h) (congrArg (·.2.2.2.1) h) (congrArg (·.2.2.2.2.1) h) hsz hi (Nat.le_of_ble_eq_true (congrArg (·.2.2.2.2.2) h))
theorem zA(id:Nat){T:TypeId}{t:Nat}{zs:List Value}(hz:zeroA P T=some zs)(h:(o.op,o.dst,Nat.blt t N)=(.alloc T,some t,true)) :
 St P o N τ H [] (upd (fun s=>kil (one? id) (τ s)) t (.ptr id 0 0)) (upd (fun j=>(H j).kil (one? id)) id (.box T none (zs.map fun c=>.p (.v c)))):=
 St.alloc (P:=P) (o:=o) (N:=N) (τ:=τ) (H:=H) id (T:=T) (t:=t) (zs:=zs) (congrArg (·.1) h) (congrArg (·.2.1) h) (Nat.le_of_ble_eq_true (congrArg (·.2.2) h)) hz
theorem zX(id:Nat){T:TypeId}{t:Nat}{x:Operand}{l:List AV}(h:(o.op,o.dst,Nat.blt t N,cellsA (ev τ x))=(.box T x,some t,true,some l)) :
 St P o N τ H [] (upd (fun s=>kil (one? id) (τ s)) t (.ptr id 0 0)) (upd (fun j=>(H j).kil (one? id)) id (.box T none (kilL (one? id) l))):=
 St.box (P:=P) (o:=o) (N:=N) (τ:=τ) (H:=H) id (T:=T) (t:=t) (x:=x) (l:=l) (congrArg (·.1) h) (congrArg (·.2.1) h) (Nat.le_of_ble_eq_true (congrArg (·.2.2.1) h)) (congrArg (·.2.2.2) h)
theorem zC(r:List (Nat×Nat))(kl pl:List Nat){y:Operand}{l:List Operand}{ts:Array TypeId}{f:FuncId}{fn:Func}{fs caps args:List AV}{ob0 ob1:List (Nat×AO)}{x:AV}(hf:P.funcs[f]? = some fn)(hc:GC P f args ob0 x ob1)(hp:pins ob0 ob1 pl)
 (h : (o.op,dstOk o.dst N,ev τ y,(fn.name == "runtime.NumGoroutine"),fn.body.isNone,renL (sw r) (fs ++ l.map (ev τ) ++ caps)) = (.call { callee := .value y,args := l.toArray,argTypes := ts },true,.clo (.func f) fs caps,false,false,args)) (h0 : allv r H ob0 = allw ob0)
 (hr:(nodupB (r.map Prod.fst)&&(nodupB (r.map Prod.snd)&&okK r kl pl))=true:=by decide) :
 St P o N τ H (exL r ob0) (updo (fun t=>kil (inK kl) (τ t)) o.dst (ren r x)) (callH r (inK kl) ob1 H):=by
 simp only[Prod.mk.injEq]at h
 simp only[Bool.and_eq_true]at hr
 exact St.call r kl pl h.1 (dstOk.at h.2.1) h.2.2.1 hf h.2.2.2.1 h.2.2.2.2.1 hc hr (allv.all0 h0) hp h.2.2.2.2.2
theorem z5a{y:Operand}{l:List Operand}{ts:Array TypeId}{f:FuncId}{fn:Func}{fs caps args:List AV}{ob0 ob1:List (Nat×AO)}{x:AV}(hf:P.funcs[f]? = some fn)(hc:GC P f args ob0 x ob1)(hp:pins ob0 ob1 [0])
 (h : (o.op,dstOk o.dst N,ev τ y,(fn.name == "runtime.NumGoroutine"),fn.body.isNone,renL (sw [(0,0),(1,1),(2,2),(3,3),(4,4)]) (fs ++ l.map (ev τ) ++ caps)) = (.call { callee := .value y,args := l.toArray,argTypes := ts },true,.clo (.func f) fs caps,false,false,args)) (h0 : allv [(0,0),(1,1),(2,2),(3,3),(4,4)] H ob0 = allw ob0) :
 St P o N τ H (exL [(0,0),(1,1),(2,2),(3,3),(4,4)] ob0) (updo (fun t=>kil (inK [1,2,3,4]) (τ t)) o.dst (ren [(0,0),(1,1),(2,2),(3,3),(4,4)] x)) (callH [(0,0),(1,1),(2,2),(3,3),(4,4)] (inK [1,2,3,4]) ob1 H):=zC [(0,0),(1,1),(2,2),(3,3),(4,4)] [1,2,3,4] [0] hf hc hp h h0
theorem z5b{y:Operand}{l:List Operand}{ts:Array TypeId}{f:FuncId}{fn:Func}{fs caps args:List AV}{ob0 ob1:List (Nat×AO)}{x:AV}(hf:P.funcs[f]? = some fn)(hc:GC P f args ob0 x ob1)(hp:pins ob0 ob1 [0,1])
 (h : (o.op,dstOk o.dst N,ev τ y,(fn.name == "runtime.NumGoroutine"),fn.body.isNone,renL (sw [(0,0),(1,1),(2,2),(3,3),(4,4)]) (fs ++ l.map (ev τ) ++ caps)) = (.call { callee := .value y,args := l.toArray,argTypes := ts },true,.clo (.func f) fs caps,false,false,args)) (h0 : allv [(0,0),(1,1),(2,2),(3,3),(4,4)] H ob0 = allw ob0) :
 St P o N τ H (exL [(0,0),(1,1),(2,2),(3,3),(4,4)] ob0) (updo (fun t=>kil (inK [2,3,4]) (τ t)) o.dst (ren [(0,0),(1,1),(2,2),(3,3),(4,4)] x)) (callH [(0,0),(1,1),(2,2),(3,3),(4,4)] (inK [2,3,4]) ob1 H):=zC [(0,0),(1,1),(2,2),(3,3),(4,4)] [2,3,4] [0,1] hf hc hp h h0
theorem gi(t:Nat){f:FuncId}{fn:Func}{c:Code}{args:List AV}{ob0 ob1:List (Nat×AO)}{x:AV}(hf:P.funcs[f]? = some fn)(hb:fn.body=some c)(hn:fn.ntmps=N)(h0:(Nat.ble args.length N,fn.results.toList)=(true,[.tmp t]))
 (h:∀L O w0,AW P L O w0 N c (ofL args) (ofO ob0) (Ends [.tmp t] x ob1)):GC P f args ob0 x ob1:=GC.intro hf hb hn (Nat.le_of_ble_eq_true (congrArg (·.1) h0)) (by rw[show fn.results.toList=_ from congrArg (·.2) h0];exact⟨rfl,trivial⟩) h
theorem zL{y:Operand}{l:List Operand}{ts:Array TypeId}{f:FuncId}{fn:Func}{args:List AV}{x:AV}(hf:P.funcs[f]? = some fn)(hc:GC P f args [] x [])
 (h : (o.op,dstOk o.dst N,ev τ y,(fn.name == "runtime.NumGoroutine"),fn.body.isNone,flatA x,lendL H (l.map (ev τ))) = (.call { callee := .value y,args := l.toArray,argTypes := ts },true,.clo (.func f) [] [],false,false,true,args)) : St P o N τ H [] (updo τ o.dst x) H := by
 simp only[Prod.mk.injEq]at h
 exact St.lend h.1 (dstOk.at h.2.1) h.2.2.1 hf h.2.2.2.1 h.2.2.2.2.1 hc h.2.2.2.2.2.1 h.2.2.2.2.2.2
end
section
variable {P:Program}{L O:Nat→Prop}{w0:World}{N:Nat}{τ:Nat→AV}{H:Nat→AO}{Q:AQ}{ops:Array Oper}{l:List Oper}{F:List Nat}{n f:Nat}{X:Nat→Bool}{listed:Array Bool}{c:Code}
theorem lsB(t:Nat)(x:Bool){y:Bool}(ht:τ t=boo y)(e:y=x)(h:AL P L O w0 N ops l (upd τ t (boo x)) H Q):AL P L O w0 N ops l τ H Q:=AL.slot t _ (ht.trans (congrArg boo e)) h
theorem lsN(t:Nat)(x:Int){y:Int}(ht:τ t=int y)(e:y=x)(h:AL P L O w0 N ops l (upd τ t (int x)) H Q):AL P L O w0 N ops l τ H Q:=AL.slot t _ (ht.trans (congrArg int e)) h
theorem gsB(t:Nat)(x:Bool){y:Bool}(ht:τ t=boo y)(e:y=x)(h:AG P L O w0 N ops f X n listed (upd τ t (boo x)) H Q):AG P L O w0 N ops f X n listed τ H Q:=AG.slot t _ (ht.trans (congrArg boo e)) h
theorem gsN(t:Nat)(x:Int){y:Int}(ht:τ t=int y)(e:y=x)(h:AG P L O w0 N ops f X n listed (upd τ t (int x)) H Q):AG P L O w0 N ops f X n listed τ H Q:=AG.slot t _ (ht.trans (congrArg int e)) h
theorem fsB(t:Nat)(x:Bool){y:Bool}(ht:τ t=boo y)(e:y=x)(h:AF P L O w0 N ops F n listed (upd τ t (boo x)) H Q):AF P L O w0 N ops F n listed τ H Q:=AF.slot t _ (ht.trans (congrArg boo e)) h
theorem fsN(t:Nat)(x:Int){y:Int}(ht:τ t=int y)(e:y=x)(h:AF P L O w0 N ops F n listed (upd τ t (int x)) H Q):AF P L O w0 N ops F n listed τ H Q:=AF.slot t _ (ht.trans (congrArg int e)) h
theorem asB(t:Nat)(x:Bool){y:Bool}(ht:τ t=boo y)(e:y=x)(h:AW P L O w0 N c (upd τ t (boo x)) H Q):AW P L O w0 N c τ H Q:=AW.slot t _ (ht.trans (congrArg boo e)) h
end
def Rdy(R:Prop)(N:Nat)(τ:Nat→AV)(ops:Array Oper)(o:Oper)(t:Nat):Prop:=R∧gv τ ops o=some true∧o.dst=some t∧t<N
def oAt(ops:Array Oper)(i:Nat):Oper:=ops.getD i default
theorem oAt.some{ops:Array Oper}{i:Nat}(h:Nat.blt i ops.size=true):ops[i]? = some (oAt ops i):=by
 have h':i<ops.size:=Nat.le_of_ble_eq_true h
 unfold oAt
 rw[Array.getElem?_eq_getElem h']
 simp[Array.getD,h']
section
variable {P:Program}{L O:Nat→Prop}{w0:World}{N:Nat}{τ:Nat→AV}{H:Nat→AO}{Q:AQ}{ops:Array Oper}{o:Oper}{l:List Oper}{F:List Nat}{n f:Nat}{X:Nat→Bool}{listed:Array Bool}{x:AV}{t:Nat}
theorem lq(r:Rdy (Rd P o τ H (fun _=>false) x) N τ ops o t)(K:AL P L O w0 N ops l (upd τ t x) H Q):AL P L O w0 N ops (o::l) τ H Q:=AL.rd r.1 r.2.1 r.2.2.1 r.2.2.2 K
theorem lor{o1 o2 o3:Oper}{A B:Bool}{y c z:Operand}{s1 s2 s3:Nat}{T:TypeId}(h:(o1.op,ev τ y,o1.dst,o2.op,o2.dst,o3.op,o3.dst,Nat.blt s1 N,Nat.blt s2 N,Nat.blt s3 N)=(.move y,vB B,some s1,.unOp .not T (.tmp s1),some s2,.pick c z (.tmp s2),some s3,true,true,true))
 (h2:(gv τ ops o1,gv (upd τ s1 (.tup [])) ops o2,gv (upd τ s1 (vB B)) ops o2,gv (upd (upd τ s1 (.tup [])) s2 (.tup [])) ops o3,gv (upd (upd τ s1 (vB B)) s2 (vB (!B))) ops o3)=(some (A==false),some (A==false),some (A==false),some true,some true))
 (h3:(ev (upd (upd τ s1 (.tup [])) s2 (.tup [])) c,ev (upd (upd τ s1 (vB B)) s2 (vB (!B))) c,ev (upd (upd τ s1 (.tup [])) s2 (.tup [])) z,ev (upd (upd τ s1 (vB B)) s2 (vB (!B))) z,ev (upd (upd τ s1 (vB B)) s2 (vB (!B))) (.tmp s2))=(vB A,vB A,vB true,vB true,vB (!B)))
 (K:AL P L O w0 N ops l (upd (upd (upd τ s1 .bad) s2 .bad) s3 (vB (A||!B))) H Q):AL P L O w0 N ops (o1::o2::o3::l) τ H Q:=by
 simp only[Prod.mk.injEq]at h h2 h3
 obtain⟨a1,a2,a3,a4,a5,a6,a7,a8,a9,a10⟩:=h
 obtain⟨b1,b2,b3,b4,b5⟩:=h2
 obtain⟨c1,c2,c3,c4,c5⟩:=h3
 have l1:=Nat.le_of_ble_eq_true a8
 have l2:=Nat.le_of_ble_eq_true a9
 have l3:=Nat.le_of_ble_eq_true a10
 have wk:∀(u v:AV) t,upd (upd (upd τ s1 .bad) s2 .bad) s3 (vB (A||!B)) t=.bad∨upd (upd (upd τ s1 .bad) s2 .bad) s3 (vB (A||!B)) t=upd (upd (upd τ s1 u) s2 v) s3 (vB (A||!B)) t:=fun u v t=>by
  unfold upd
  by_cases e3:t=s3
  ·simp[e3]
  ·by_cases e2:t=s2
   ·simp only[e3,if_false,e2,if_true];split<;>simp
   ·by_cases e1:t=s1
    ·simp only[e3,e2,if_false,e1,if_true];(repeat' split)<;>simp
    ·simp[e3,e2,e1]
 cases A with
 |true=>
  refine AL.no b1 a3 l1 (AL.no b2 a5 l2 (AL.rd (x:=vB true) (rd_pick a6 ?_) b4 a7 l3 (AL.weak (wk _ _) (fun _=>.inr rfl) K)))
  rw[c1,c3];rfl
 |false=>
  refine AL.rd (x:=vB B) (rd_mvx (.inl a1) a2) b1 a3 l1 (AL.rd (x:=vB (!B)) (rd_un a4 (pre:=True) ?_ trivial) b3 a5 l2 (AL.rd (x:=vB (!B)) (rd_pick a6 ?_) b5 a7 l3 (AL.weak (wk _ _) (fun _=>.inr rfl) K)))
  ·show unv .not (upd τ s1 (vB B) s1)=_
   rw[upd_same];rfl
  ·rw[c2,c4,c5];rfl
theorem rd{X:Nat→Bool}(hr:Rd P o τ H X x)(h:(gv τ ops o,o.dst,Nat.blt t N)=(some true,some t,true)):Rdy (Rd P o τ H X x) N τ ops o t:=by
 simp only[Prod.mk.injEq]at h
 exact⟨hr,h.1,h.2.1,Nat.le_of_ble_eq_true h.2.2⟩
theorem qd(hr:Pd P o τ H x)(h:(gv τ ops o,o.dst,Nat.blt t N)=(some true,some t,true)):Rdy (Pd P o τ H x) N τ ops o t:=by
 simp only[Prod.mk.injEq]at h
 exact⟨hr,h.1,h.2.1,Nat.le_of_ble_eq_true h.2.2⟩
def tk1(ops:Array Oper)(listed:Array Bool)(i:Nat):Bool:=Nat.blt i ops.size&&(Region.ready .any ops listed==[i])
theorem tk1.at{i:Nat}(h:tk1 ops listed i=true):ops[i]? = some (oAt ops i)∧Region.ready .any ops listed=[i]:=by
 unfold tk1 at h
 rw[Bool.and_eq_true]at h
 exact⟨oAt.some h.1,by simpa using h.2⟩
theorem yq(i:Nat)(r:Rdy (Rd P (oAt ops i) τ H (fun _=>false) x) N τ ops (oAt ops i) t)(K:AG P L O w0 N ops f X n (listed.setIfInBounds i true) (upd τ t x) H Q)(hb:tk1 ops listed i=true:=by kernel_rfl):AG P L O w0 N ops f X (n+1) listed τ H Q:=
 AG.rd (tk1.at hb).1 (tk1.at hb).2 r.1 r.2.1 r.2.2.1 r.2.2.2 K
theorem vq(i:Nat)(r:Rdy (Rd P (oAt ops i) τ H (fun _=>false) x) N τ ops (oAt ops i) t)(K:AF P L O w0 N ops F n (listed.setIfInBounds i true) (upd τ t x) H Q)(hb:tk1 ops listed i=true:=by kernel_rfl):AF P L O w0 N ops F (n+1) listed τ H Q:=
 AF.rd (tk1.at hb).1 (tk1.at hb).2 r.1 r.2.1 r.2.2.1 r.2.2.2 K
theorem tq[cq:CNP Q](i:Nat)(r:Rdy (Rd P (oAt ops i) τ H X x) N τ ops (oAt ops i) t)(K:AG P L O w0 N ops f X n (listed.setIfInBounds i true) (upd τ t x) H Q)(hb:(Nat.blt i ops.size&&tkG ops f listed i)=true:=by kernel_rfl):AG P L O w0 N ops f X (n+1) listed τ H Q:=by
 rw[Bool.and_eq_true]at hb
 have hc:=and5 hb.2
 exact AG.take (oAt.some hb.1) hc.1 hc.2.1 hc.2.2.1 hc.2.2.2.1 hc.2.2.2.2 r.1 r.2.1 r.2.2.1 r.2.2.2 cq.np K
theorem sq[cq:CNP Q](i:Nat)(r:Rdy (Rd P (oAt ops i) τ H (fun _=>false) x) N τ ops (oAt ops i) t)(K:AF P L O w0 N ops F n (listed.setIfInBounds i true) (upd τ t x) H Q)(hb:(Nat.blt i ops.size&&tkF ops F listed i)=true:=by kernel_rfl):AF P L O w0 N ops F (n+1) listed τ H Q:=by
 rw[Bool.and_eq_true]at hb
 have hc:=and5 hb.2
 exact AF.take (oAt.some hb.1) hc.1 hc.2.1 hc.2.2.1 hc.2.2.2.1 hc.2.2.2.2 r.1 r.2.1 r.2.2.1 r.2.2.2 cq.np K
theorem pq[cq:CNP Q](i:Nat)(r:Rdy (Pd P (oAt ops i) τ H x) N τ ops (oAt ops i) t)(K:AF P L O w0 N ops F n (listed.setIfInBounds i true) (upd τ t x) H Q)(hb:(Nat.blt i ops.size&&tkP ops listed i)=true:=by kernel_rfl):AF P L O w0 N ops F (n+1) listed τ H Q:=by
 rw[Bool.and_eq_true]at hb
 have hc:=and4 hb.2
 exact AF.takeP (oAt.some hb.1) hc.1 hc.2.1 hc.2.2.1 hc.2.2.2 r.1 r.2.1 r.2.2.1 r.2.2.2 cq.np K
end
section
variable {P:Program}{o:Oper}{N:Nat}{τ:Nat→AV}{H:Nat→AO}
theorem zS(id:Nat)(rows:List (List PV)){t e:TypeId}{len d sz:Nat}{parts:List (Nat×Operand)}{zs:List Value}{bp:List (Nat×Nat×AV)}(he:elA P t=some (e,sz))(hz:zeroA P e=some zs)
 (h:(o.op,o.dst,Nat.blt d N,bparts (fun i=>some (i*sz,sz)) τ parts,buildv ((List.replicate len zs).flatten.map fun c=>.p (.v c)) bp,rows.length,Nat.ble (len*sz) 16777216,Nat.blt 0 sz,zs.length)=(.buildSlice t len parts.toArray,some d,true,some bp,some (rows.flatten.map AV.p),len,true,true,sz))
 (hrs:∀r∈rows,r.length=sz:=by intro r hr;simp[rowsOf]at hr;subst hr;rfl) :
 St P o N τ H [] (upd (fun s=>kil (one? id) (τ s)) d (.own id)) (upd (fun j=>(H j).kil (one? id)) id (.arr e sz rows)):=by
 simp only[Prod.mk.injEq]at h
 obtain⟨h1,h2,h3,h4,h5,h6,h7,h8,h9⟩:=h
 exact St.bslice id h1 h2 (Nat.le_of_ble_eq_true h3) he hz h9 h4 h5 rfl hrs h6 (Nat.le_of_ble_eq_true h7) (Nat.le_of_ble_eq_true h8)
theorem zP(id:Nat){t e:TypeId}{s x:Operand}{d sz:Nat}{zs:List Value}{rows rows2:List (List PV)}{pn:Option Value}(he:elA P t=some (e,sz))(hz:zeroA P e=some zs)(hb:P.bytesOf e≤512)
 (h:(o.op,o.dst,Nat.blt d N,zs.length,Nat.blt 0 sz,ev τ s,H id)=(.call { callee:=.builtin .append,args:=#[s,x],argTypes:=#[t,t] },some d,true,sz,true,.own id,.arr ⟨e,pn⟩ sz rows)) (hsrc:Src τ H x sz rows2) (hm:rows.length+rows2.length≤274877906944:=by simp[rowsOf]at *;omega) :
 St P o N τ H [id] (upd (fun s=>kil (one? id) (τ s)) d (.own id)) (upd (fun j=>(H j).kil (one? id)) id (.arr e sz (rows++rows2))):=by
 simp only[Prod.mk.injEq]at h
 obtain⟨h1,h2,h3,h4,h5,h6,h7⟩:=h
 exact St.app id h1 h2 (Nat.le_of_ble_eq_true h3) he hz h4 (Nat.le_of_ble_eq_true h5) h6 h7 hsrc (by unfold maxLen;omega) (Nat.le_trans (Nat.mul_le_mul_left _ hb) (by omega))
theorem zQ(id:Nat)(pl:List PV){t:TypeId}{e:Pin}{x y:Operand}{i k sz:Nat}{rows:List (List PV)}{row:List PV}(hsz:P.cellsOf t=pl.length)(hi:(P.info? t).isSome=true)
 (h:(o.op,o.dst,ev τ x,H id,cellsA (ev τ y),Nat.ble (k+pl.length) sz)=(.store t x y,none,.ptr id i k,.arr e sz rows,some (pl.map AV.p),true)) (hrow:rows[i]? = some row) :
 St P o N τ H [id] τ (upd H id (.arr e sz (rows.set i (row.take k++pl++row.drop (k+pl.length))))):=by
 simp only[Prod.mk.injEq]at h
 obtain⟨h1,h2,h3,h4,h5,h6⟩:=h
 exact St.storeArr id h1 h2 h3 h4 hrow h5 hsz hi (Nat.le_of_ble_eq_true h6)
variable {ops:Array Oper}{X:Nat→Bool}{t:Nat}
theorem rj(i1:Nat){T e:TypeId}{e':Pin}{y y2:Operand}{k0:IntKind}{sz id:Nat}{n1:Int}{rows:List (List PV)}(f0:elA P T=some (e,sz))(h:(o.op,ev τ y,H id,ev τ y2,n1,gv τ ops o,o.dst,Nat.blt t N)=(.indexAddr T y y2,.own id,.arr e' sz rows,.p (.v (.int k0 n1)),(i1:Int),some true,some t,true))(hi:i1<rows.length):Rdy (Rd P o τ H X (.ptr id i1 0)) N τ ops o t:=by
 simp only[Prod.mk.injEq]at h
 obtain⟨h1,h2,h3,h4,h5,h6,h7,h8⟩:=h
 exact⟨rd_iaddr_own h1 f0 h2 h3 h4 h5 hi,h6,h7,Nat.le_of_ble_eq_true h8⟩
end
section
variable {P:Program}{L O:Nat→Prop}{w0:World}{N:Nat}{τ τ':Nat→AV}{H H':Nat→AO}{Q:AQ}{ops:Array Oper}{o:Oper}{F:List Nat}{n f:Nat}{X:Nat→Bool}{listed:Array Bool}
theorem v1(i:Nat){E:List Nat}(h0:(ops[i]?,gv τ ops o)=(some o,some true))(hs:St P o N τ H E τ' H')(hF:F.contains i=true∨E=[])(h:AF P L O w0 N ops F n (listed.setIfInBounds i true) τ' H' Q):AF1 P L O w0 N ops F n listed i τ H Q:=by
 simp only[Prod.mk.injEq]at h0
 exact AF1.st h0.1 hs hF h0.2 h
theorem yl{E:List Nat}(h0:(ops[f]?,gv τ ops o)=(some o,some true))(hs:St P o N τ H E τ' H')(h:Q .normal τ' H')(hr:(Region.ready .any ops listed==[f]&&Region.ready .any ops (listed.setIfInBounds f true)==[])=true:=by kernel_rfl):AG P L O w0 N ops f X (n+1) listed τ H Q:=by
 simp only[Prod.mk.injEq]at h0
 simp only[Bool.and_eq_true,beq_iff_eq]at hr
 exact AG.last h0.1 hr.1 hr.2 hs h0.2 h
variable {id:Nat}{l l2:List Oper}{y:Code}
theorem nG{K:(Nat→AV)→(Nat→AO)→Prop}(h:K τ H):AL P L O w0 N ops [] τ H (AQ.andThen K Q):=AL.nil h
theorem sL(h:AL P L O w0 N l2.toArray l2 τ H (Q.andThen fun τ H=>AW P L O w0 N y τ H Q)):AW P L O w0 N (.seq (.region id l2.toArray false) y) τ H Q:=AW.seq (AW.list h)
theorem gA(h:AL P L O w0 N l2.toArray l2 τ H (Q.andThen fun τ H=>AW P L O w0 N y τ H Q)):AQ.andThen (fun τ H=>AW P L O w0 N (.seq (.region id l2.toArray false) y) τ H Q) Q .normal τ H:=sL (id:=id) h
theorem nA(h:AL P L O w0 N l2.toArray l2 τ H (Q.andThen fun τ H=>AW P L O w0 N y τ H Q)):AL P L O w0 N ops [] τ H (AQ.andThen (fun τ H=>AW P L O w0 N (.seq (.region id l2.toArray false) y) τ H Q) Q):=AL.nil (sL (id:=id) h)
end
theorem ofK_zip{k:List Nat}{v:List AV}:∀ {l:List (Nat×AV)},ofT (l++k.zip v)=ofK l (of2 .bad k v)
 |[]=>of2_zip
 |(s,x)::l=>funext fun t=>by simp only[List.cons_append,ofT,ofK,ofK_zip (l:=l)]
theorem ofH_zip{k:List Nat}{v:List AO}:∀ {l:List (Nat×AO)},ofO (l++k.zip v)=ofH l (of2 .gone k v)
 |[]=>of2_zipO
 |(s,x)::l=>funext fun t=>by simp only[List.cons_append,ofO,ofH,ofH_zip (l:=l)]
section
variable {P:Program}{L O:Nat→Prop}{w0:World}{N:Nat}{τ:Nat→AV}{H:Nat→AO}{Q:AQ}
theorem aW(ks os:List Nat){v:List AV}{b:List AO}{D:Type}(T:D→List (Nat×AV))(B:D→List (Nat×AO))(I:D→Prop)(μ:D→Nat){c:Code}(d:D)(h0:I d)(h1:allT (T d) τ)(h2:allO (B d) H)
 (round:∀d,I d→AW P L O w0 N c (ofK (T d) (of2 .bad ks v)) (ofH (B d) (of2 .gone os b)) (Q.andThen fun τ' H'=>∃d',I d'∧μ d'<μ d∧allT (T d') τ'∧allO (B d') H'∧at2 τ' ks=v∧at2 H' os=b)) (h3:at2 τ ks=v:=by exact nz) (h4:at2 H os=b:=by exact nz):AW P L O w0 N (.loop c) τ H Q:=
 AW.loopE (ks.zip v) (os.zip b) T B I μ d h0 h1 h2 (allT_zip h3) (allO_zip h4) fun d hI=>by
  rw[ofK_zip,ofH_zip]
  exact(round d hI).mono fun e τ' H' q=>by
   cases e<;>first|exact q|(obtain⟨d',q1,q2,q3,q4,q5,q6⟩:=q;exact⟨d',q1,q2,q3,q4,allT_zip q5,allO_zip q6⟩)
theorem aJ(ks os:List Nat){v:List AV}{b:List AO}{D:Type}(T:D→List (Nat×AV))(B:D→List (Nat×AO))(I:D→Prop){x y:Code}
 (h:AW P L O w0 N x τ H (Q.andThen fun τ H=>∃d,I d∧allT (T d) τ∧allO (B d) H∧at2 τ ks=v∧at2 H os=b)) (h2:∀d,I d→AW P L O w0 N y (ofK (T d) (of2 .bad ks v)) (ofH (B d) (of2 .gone os b)) Q) (h3:at2 τ ks=v:=by exact nz) (h4:at2 H os=b:=by exact nz):AW P L O w0 N (.seq x y) τ H Q:=
 AW.seqE (ks.zip v) (os.zip b) T B I (allT_zip h3) (allO_zip h4) (h.mono fun e τ' H' q=>by
  cases e<;>first|exact q|(obtain⟨d',q1,q3,q4,q5,q6⟩:=q;exact⟨d',q1,q3,q4,allT_zip q5,allO_zip q6⟩)) fun d hI=>by
  rw[ofK_zip,ofH_zip]
  exact h2 d hI
end
theorem eBo{τ:Nat→AV}{H:Nat→AO}{rs:List RVar}{b c:Bool}{ob1:List (Nat×AO)}(h2:allO ob1 H)(h:b=c)(h1:retX τ H rs=some (boo b):=by rfl):Ends rs (boo c) ob1 .ret τ H:=⟨by rw[h1,h],h2⟩
theorem lX{P:Program}{L O:Nat→Prop}{w0:World}{N:Nat}{ops:Array Oper}{o:Oper}{os:List Oper}{τ:Nat→AV}{H:Nat→AO}{Q:AQ}(r:List (Nat×Nat))(kl pl:List Nat){y:Operand}{l:List Operand}{ts:Array TypeId}{f:FuncId}{fn:Func}{fs caps args:List AV}{ob0:List (Nat×AO)}{R:AV→List (Nat×AO)→Prop}(hf:P.funcs[f]? = some fn)(hc:GX P f args ob0 R)(h0:all0 r H ob0)(hp:∀x ob1,R x ob1→pins ob0 ob1 pl)
 (h1:(o.op,ev τ y,renL (sw r) (fs++l.map (ev τ)++caps))=(.call { callee:=.value y,args:=l.toArray,argTypes:=ts },.clo (.func f) fs caps,args))
 (h:∀x ob1,R x ob1→AL P L O w0 N ops os (updo (fun t=>kil (inK kl) (τ t)) o.dst (ren r x)) (callH r (inK kl) ob1 H) Q)
 (ht : ∀ s,o.dst = some s → s < N := by intro s hs;cases hs;decide) (hf1 : (fn.name == "runtime.NumGoroutine") = false := by rfl) (hf2 : fn.body.isNone = false := by rfl) (hr : nodupB (r.map Prod.fst) = true ∧ nodupB (r.map Prod.snd) = true ∧ okK r kl pl = true := by exact ⟨rfl,rfl,rfl⟩) (hg : gv τ ops o = some true := by rfl) : AL P L O w0 N ops (o :: os) τ H Q :=
 AL.stx (St.callX r kl pl (Prod.mk.inj h1).1 ht (Prod.mk.inj (Prod.mk.inj h1).2).1 hf hf1 hf2 hc hr h0 hp (Prod.mk.inj (Prod.mk.inj h1).2).2) hg (by rintro _ _ ⟨x,ob,hR,rfl,rfl⟩;exact h x ob hR)
abbrev Hm(o:Oper)(N:Nat)(τ:Nat→AV)(H:Nat→AO)(X:Nat→Bool)(ops:Array Oper)(t:Nat)(x:AV)(y:Operand):Prop:=(o.op,ev τ y,gv τ ops o,o.dst,Nat.blt t N)=(.move y,x,some true,some t,true)
abbrev Ha(o:Oper)(N:Nat)(τ:Nat→AV)(H:Nat→AO)(X:Nat→Bool)(ops:Array Oper)(t:Nat)(x:AV)(y:Operand):Prop:=(o.op,ev τ y,gv τ ops o,o.dst,Nat.blt t N)=(.assign y,x,some true,some t,true)
abbrev Hb(o:Oper)(N:Nat)(τ:Nat→AV)(H:Nat→AO)(X:Nat→Bool)(ops:Array Oper)(t:Nat)(x:AV)(op:BinOp)(T yT:TypeId)(y y2:Operand)(A:IntKind):Prop:=(o.op,binv op (ev τ y) (ev τ y2),gv τ ops o,o.dst,Nat.blt t N)=(.binOp op T y y2 yT,some ((A=A),x),some true,some t,true)
abbrev Hk(o:Oper)(N:Nat)(τ:Nat→AV)(H:Nat→AO)(X:Nat→Bool)(ops:Array Oper)(t:Nat)(x:AV)(c y y2:Operand):Prop:=(o.op,pickv (ev τ c) (ev τ y) (ev τ y2),gv τ ops o,o.dst,Nat.blt t N)=(.pick c y y2,some x,some true,some t,true)
abbrev Hu(o:Oper)(N:Nat)(τ:Nat→AV)(H:Nat→AO)(X:Nat→Bool)(ops:Array Oper)(t:Nat)(x:AV)(uop:UnOp)(T:TypeId)(y:Operand):Prop:=(o.op,unv uop (ev τ y),gv τ ops o,o.dst,Nat.blt t N)=(.unOp uop T y,some (True,x),some true,some t,true)
abbrev Hx(o:Oper)(N:Nat)(τ:Nat→AV)(H:Nat→AO)(X:Nat→Bool)(ops:Array Oper)(t:Nat)(x:AV)(y:Operand)(k:Nat):Prop:=(o.op,extv (ev τ y) k,gv τ ops o,o.dst,Nat.blt t N)=(.extract y k,some x,some true,some t,true)
abbrev Hn(o:Oper)(N:Nat)(τ:Nat→AV)(H:Nat→AO)(X:Nat→Bool)(ops:Array Oper)(t:Nat)(x:AV)(y:Operand)(T:TypeId):Prop:=(o.op,lenv H (ev τ y),gv τ ops o,o.dst,Nat.blt t N)=(.call { callee:=.builtin .len,args:=#[y],argTypes:=#[T] },some x,some true,some t,true)
abbrev Ho(o:Oper)(N:Nat)(τ:Nat→AV)(H:Nat→AO)(X:Nat→Bool)(ops:Array Oper)(t:Nat)(x:AV)(y:Operand)(T T2:TypeId)(n0:Option Nat)(id k:Nat)(p:Option Value)(cells:List AV):Prop:=(o.op,ev τ y,H id,X id,ldA n0 (cells.drop k),gv τ ops o,o.dst,Nat.blt t N)=(.load T y,.ptr id 0 k,.box T2 p cells,false,some x,some true,some t,true)
abbrev Hr(o:Oper)(N:Nat)(τ:Nat→AV)(H:Nat→AO)(X:Nat→Bool)(ops:Array Oper)(t:Nat)(x:AV)(y:Operand)(T:TypeId)(n0:Option Nat)(cellp:List PV):Prop:=(o.op,ev τ y,ldA n0 (cellp.map AV.p),gv τ ops o,o.dst,Nat.blt t N)=(.load T y,.rp cellp,some x,some true,some t,true)
abbrev Hh(o:Oper)(N:Nat)(τ:Nat→AV)(H:Nat→AO)(X:Nat→Bool)(ops:Array Oper)(t:Nat)(x:AV)(op:BinOp)(T yT:TypeId)(y y2:Operand)(pre:Prop):Prop:=(o.op,binv op (ev τ y) (ev τ y2),gv τ ops o,o.dst,Nat.blt t N)=(.binOp op T y y2 yT,some (pre,x),some true,some t,true)
abbrev Hg(o:Oper)(N:Nat)(τ:Nat→AV)(H:Nat→AO)(X:Nat→Bool)(ops:Array Oper)(t:Nat)(x:AV)(op:BinOp)(T yT:TypeId)(y y2:Operand)(A:IntKind)(n1:Int):Prop:=(o.op,binv op (ev τ y) (ev τ y2),gv τ ops o,o.dst,Nat.blt t N)=(.binOp op T y y2 yT,some ((A=A∧Fits .i64 n1),x),some true,some t,true)
abbrev Hf(o:Oper)(N:Nat)(τ:Nat→AV)(H:Nat→AO)(X:Nat→Bool)(ops:Array Oper)(t:Nat)(x:AV)(k1:Nat)(T k off ft:Nat)(y:Operand)(id i1 j:Nat):Prop:=(o.op,ev τ y,(H id).here,j+off,gv τ ops o,o.dst,Nat.blt t N)=(.fieldAddr T y k,.ptr id i1 j,true,k1,some true,some t,true)
abbrev Hc(o:Oper)(N:Nat)(τ:Nat→AV)(H:Nat→AO)(X:Nat→Bool)(ops:Array Oper)(t:Nat)(x:AV)(y:Operand)(id i1 k1:Nat):Prop:=(o.op,ev τ y,(H id).here,gv τ ops o,o.dst,Nat.blt t N)=(.nilCheck y,.ptr id i1 k1,true,some true,some t,true)
abbrev Hi(o:Oper)(N:Nat)(τ:Nat→AV)(H:Nat→AO)(X:Nat→Bool)(ops:Array Oper)(t:Nat)(x:AV)(i1:Nat)(T e e2 sz:Nat)(y y2:Operand)(k0:IntKind)(n1:Int)(rows:List (List PV))(row:List PV):Prop:=(o.op,ev τ y,ev τ y2,n1,gv τ ops o,o.dst,Nat.blt t N)=(.indexAddr T y y2,.p (.lst e2 sz rows),.p (.v (.int k0 n1)),(i1:Int),some true,some t,true)
section
variable {P:Program}{o:Oper}{N:Nat}{τ:Nat→AV}{H:Nat→AO}{X:Nat→Bool}{ops:Array Oper}{y y2 c:Operand}{op:BinOp}{uop:UnOp}{T T2 yT e e2 ft:TypeId}{A k0:IntKind}{n0:Option Nat}{id k t off i1 j sz k1:Nat}{p:Option Value}{cells:List AV}{cellp:List PV}{pre:Prop}{n1:Int}{rows:List (List PV)}{row:List PV}{xi:Int}{xb:Bool}{xv:Value}{xo xp xq xt:Nat}{xl:List (List PV)}{xr:List PV}
theorem rmX(x:AV)(h:Hm o N τ H X ops t x y):Rdy (Rd P o τ H X x) N τ ops o t:=by
 have ⟨q0,h⟩:=Prod.mk.inj h
 have ⟨q1,h⟩:=Prod.mk.inj h
 have ⟨q2,h⟩:=Prod.mk.inj h
 have ⟨q3,q4⟩:=Prod.mk.inj h
 exact⟨rd_mvx (.inl q0) q1,q2,q3,Nat.le_of_ble_eq_true q4⟩
theorem rmI(h:Hm o N τ H X ops t (vI k0 xi) y):Rdy (Rd P o τ H X (vI k0 xi)) N τ ops o t:=rmX (vI k0 xi) h
theorem rmB(h:Hm o N τ H X ops t (vB xb) y):Rdy (Rd P o τ H X (vB xb)) N τ ops o t:=rmX (vB xb) h
theorem rmT(h:Hm o N τ H X ops t (vB true) y):Rdy (Rd P o τ H X (vB true)) N τ ops o t:=rmX (vB true) h
theorem rmZ(h:Hm o N τ H X ops t (vB false) y):Rdy (Rd P o τ H X (vB false)) N τ ops o t:=rmX (vB false) h
theorem rmO(h:Hm o N τ H X ops t (.own xo) y):Rdy (Rd P o τ H X (.own xo)) N τ ops o t:=rmX (.own xo) h
theorem rmP(h:Hm o N τ H X ops t (.ptr xo xp xq) y):Rdy (Rd P o τ H X (.ptr xo xp xq)) N τ ops o t:=rmX (.ptr xo xp xq) h
theorem rmL(h:Hm o N τ H X ops t (vL xt xo xl) y):Rdy (Rd P o τ H X (vL xt xo xl)) N τ ops o t:=rmX (vL xt xo xl) h
theorem qmX(x:AV)(h:Hm o N τ H (fun _=>false) ops t x y):Rdy (Pd P o τ H x) N τ ops o t:=by
 have ⟨q0,h⟩:=Prod.mk.inj h
 have ⟨q1,h⟩:=Prod.mk.inj h
 have ⟨q2,h⟩:=Prod.mk.inj h
 have ⟨q3,q4⟩:=Prod.mk.inj h
 exact⟨pd_mvx (.inl q0) q1,q2,q3,Nat.le_of_ble_eq_true q4⟩
theorem qmP(h:Hm o N τ H (fun _=>false) ops t (.ptr xo xp xq) y):Rdy (Pd P o τ H (.ptr xo xp xq)) N τ ops o t:=qmX (.ptr xo xp xq) h
theorem qmL(h:Hm o N τ H (fun _=>false) ops t (vL xt xo xl) y):Rdy (Pd P o τ H (vL xt xo xl)) N τ ops o t:=qmX (vL xt xo xl) h
theorem raX(x:AV)(h:Ha o N τ H X ops t x y):Rdy (Rd P o τ H X x) N τ ops o t:=by
 have ⟨q0,h⟩:=Prod.mk.inj h
 have ⟨q1,h⟩:=Prod.mk.inj h
 have ⟨q2,h⟩:=Prod.mk.inj h
 have ⟨q3,q4⟩:=Prod.mk.inj h
 exact⟨rd_mvx (.inr q0) q1,q2,q3,Nat.le_of_ble_eq_true q4⟩
theorem raI(h:Ha o N τ H X ops t (vI k0 xi) y):Rdy (Rd P o τ H X (vI k0 xi)) N τ ops o t:=raX (vI k0 xi) h
theorem raB(h:Ha o N τ H X ops t (vB xb) y):Rdy (Rd P o τ H X (vB xb)) N τ ops o t:=raX (vB xb) h
theorem raT(h:Ha o N τ H X ops t (vB true) y):Rdy (Rd P o τ H X (vB true)) N τ ops o t:=raX (vB true) h
theorem raZ(h:Ha o N τ H X ops t (vB false) y):Rdy (Rd P o τ H X (vB false)) N τ ops o t:=raX (vB false) h
theorem raV(h:Ha o N τ H X ops t (vV xv) y):Rdy (Rd P o τ H X (vV xv)) N τ ops o t:=raX (vV xv) h
theorem raO(h:Ha o N τ H X ops t (.own xo) y):Rdy (Rd P o τ H X (.own xo)) N τ ops o t:=raX (.own xo) h
theorem raP(h:Ha o N τ H X ops t (.ptr xo xp xq) y):Rdy (Rd P o τ H X (.ptr xo xp xq)) N τ ops o t:=raX (.ptr xo xp xq) h
theorem raL(h:Ha o N τ H X ops t (vL xt xo xl) y):Rdy (Rd P o τ H X (vL xt xo xl)) N τ ops o t:=raX (vL xt xo xl) h
theorem rbB(h:Hb o N τ H X ops t (vB xb) op T yT y y2 A):Rdy (Rd P o τ H X (vB xb)) N τ ops o t:=by
 have ⟨q0,h⟩:=Prod.mk.inj h
 have ⟨q1,h⟩:=Prod.mk.inj h
 have ⟨q2,h⟩:=Prod.mk.inj h
 have ⟨q3,q4⟩:=Prod.mk.inj h
 exact⟨rd_bin q0 q1 rfl,q2,q3,Nat.le_of_ble_eq_true q4⟩
theorem rkX(x:AV)(h:Hk o N τ H X ops t x c y y2):Rdy (Rd P o τ H X x) N τ ops o t:=by
 have ⟨q0,h⟩:=Prod.mk.inj h
 have ⟨q1,h⟩:=Prod.mk.inj h
 have ⟨q2,h⟩:=Prod.mk.inj h
 have ⟨q3,q4⟩:=Prod.mk.inj h
 exact⟨rd_pick q0 q1,q2,q3,Nat.le_of_ble_eq_true q4⟩
theorem rkB(h:Hk o N τ H X ops t (vB xb) c y y2):Rdy (Rd P o τ H X (vB xb)) N τ ops o t:=rkX (vB xb) h
theorem rkT(h:Hk o N τ H X ops t (vB true) c y y2):Rdy (Rd P o τ H X (vB true)) N τ ops o t:=rkX (vB true) h
theorem rkZ(h:Hk o N τ H X ops t (vB false) c y y2):Rdy (Rd P o τ H X (vB false)) N τ ops o t:=rkX (vB false) h
theorem ruB(h:Hu o N τ H X ops t (vB xb) uop T y):Rdy (Rd P o τ H X (vB xb)) N τ ops o t:=by
 have ⟨q0,h⟩:=Prod.mk.inj h
 have ⟨q1,h⟩:=Prod.mk.inj h
 have ⟨q2,h⟩:=Prod.mk.inj h
 have ⟨q3,q4⟩:=Prod.mk.inj h
 exact⟨rd_un q0 q1 trivial,q2,q3,Nat.le_of_ble_eq_true q4⟩
theorem ruT(h:Hu o N τ H X ops t (vB true) uop T y):Rdy (Rd P o τ H X (vB true)) N τ ops o t:=by
 have ⟨q0,h⟩:=Prod.mk.inj h
 have ⟨q1,h⟩:=Prod.mk.inj h
 have ⟨q2,h⟩:=Prod.mk.inj h
 have ⟨q3,q4⟩:=Prod.mk.inj h
 exact⟨rd_un q0 q1 trivial,q2,q3,Nat.le_of_ble_eq_true q4⟩
theorem ruZ(h:Hu o N τ H X ops t (vB false) uop T y):Rdy (Rd P o τ H X (vB false)) N τ ops o t:=by
 have ⟨q0,h⟩:=Prod.mk.inj h
 have ⟨q1,h⟩:=Prod.mk.inj h
 have ⟨q2,h⟩:=Prod.mk.inj h
 have ⟨q3,q4⟩:=Prod.mk.inj h
 exact⟨rd_un q0 q1 trivial,q2,q3,Nat.le_of_ble_eq_true q4⟩
theorem rxX(x:AV)(h:Hx o N τ H X ops t x y k):Rdy (Rd P o τ H X x) N τ ops o t:=by
 have ⟨q0,h⟩:=Prod.mk.inj h
 have ⟨q1,h⟩:=Prod.mk.inj h
 have ⟨q2,h⟩:=Prod.mk.inj h
 have ⟨q3,q4⟩:=Prod.mk.inj h
 exact⟨rd_ext q0 q1,q2,q3,Nat.le_of_ble_eq_true q4⟩
theorem rxI(h:Hx o N τ H X ops t (vI k0 xi) y k):Rdy (Rd P o τ H X (vI k0 xi)) N τ ops o t:=rxX (vI k0 xi) h
theorem rxB(h:Hx o N τ H X ops t (vB xb) y k):Rdy (Rd P o τ H X (vB xb)) N τ ops o t:=rxX (vB xb) h
theorem rxV(h:Hx o N τ H X ops t (vV xv) y k):Rdy (Rd P o τ H X (vV xv)) N τ ops o t:=rxX (vV xv) h
theorem rxO(h:Hx o N τ H X ops t (.own xo) y k):Rdy (Rd P o τ H X (.own xo)) N τ ops o t:=rxX (.own xo) h
theorem rxL(h:Hx o N τ H X ops t (vL xt xo xl) y k):Rdy (Rd P o τ H X (vL xt xo xl)) N τ ops o t:=rxX (vL xt xo xl) h
theorem qxX(x:AV)(h:Hx o N τ H (fun _=>false) ops t x y k):Rdy (Pd P o τ H x) N τ ops o t:=by
 have ⟨q0,h⟩:=Prod.mk.inj h
 have ⟨q1,h⟩:=Prod.mk.inj h
 have ⟨q2,h⟩:=Prod.mk.inj h
 have ⟨q3,q4⟩:=Prod.mk.inj h
 exact⟨pd_ext q0 q1,q2,q3,Nat.le_of_ble_eq_true q4⟩
theorem rnI(f0:isSlice P T=true)(h:Hn o N τ H X ops t (vI k0 xi) y T):Rdy (Rd P o τ H X (vI k0 xi)) N τ ops o t:=by
 have ⟨q0,h⟩:=Prod.mk.inj h
 have ⟨q1,h⟩:=Prod.mk.inj h
 have ⟨q2,h⟩:=Prod.mk.inj h
 have ⟨q3,q4⟩:=Prod.mk.inj h
 exact⟨rd_len q0 f0 q1,q2,q3,Nat.le_of_ble_eq_true q4⟩
theorem roX(x:AV)(f0:kindA P T=some n0)(h:Ho o N τ H X ops t x y T T2 n0 id k p cells):Rdy (Rd P o τ H X x) N τ ops o t:=by
 have ⟨q0,h⟩:=Prod.mk.inj h
 have ⟨q1,h⟩:=Prod.mk.inj h
 have ⟨q2,h⟩:=Prod.mk.inj h
 have ⟨q3,h⟩:=Prod.mk.inj h
 have ⟨q4,h⟩:=Prod.mk.inj h
 have ⟨q5,h⟩:=Prod.mk.inj h
 have ⟨q6,q7⟩:=Prod.mk.inj h
 exact⟨rd_load_box q0 f0 q1 q2 q3 q4,q5,q6,Nat.le_of_ble_eq_true q7⟩
theorem roI(f0:kindA P T=some n0)(h:Ho o N τ H X ops t (vI k0 xi) y T T2 n0 id k p cells):Rdy (Rd P o τ H X (vI k0 xi)) N τ ops o t:=roX (vI k0 xi) f0 h
theorem roB(f0:kindA P T=some n0)(h:Ho o N τ H X ops t (vB xb) y T T2 n0 id k p cells):Rdy (Rd P o τ H X (vB xb)) N τ ops o t:=roX (vB xb) f0 h
theorem roO(f0:kindA P T=some n0)(h:Ho o N τ H X ops t (.own xo) y T T2 n0 id k p cells):Rdy (Rd P o τ H X (.own xo)) N τ ops o t:=roX (.own xo) f0 h
theorem roL(f0:kindA P T=some n0)(h:Ho o N τ H X ops t (vL xt xo xl) y T T2 n0 id k p cells):Rdy (Rd P o τ H X (vL xt xo xl)) N τ ops o t:=roX (vL xt xo xl) f0 h
theorem rrX(x:AV)(f0:kindA P T=some n0)(h:Hr o N τ H X ops t x y T n0 cellp):Rdy (Rd P o τ H X x) N τ ops o t:=by
 have ⟨q0,h⟩:=Prod.mk.inj h
 have ⟨q1,h⟩:=Prod.mk.inj h
 have ⟨q2,h⟩:=Prod.mk.inj h
 have ⟨q3,h⟩:=Prod.mk.inj h
 have ⟨q4,q5⟩:=Prod.mk.inj h
 exact⟨rd_load_rp q0 f0 q1 q2,q3,q4,Nat.le_of_ble_eq_true q5⟩
theorem rrI(f0:kindA P T=some n0)(h:Hr o N τ H X ops t (vI k0 xi) y T n0 cellp):Rdy (Rd P o τ H X (vI k0 xi)) N τ ops o t:=rrX (vI k0 xi) f0 h
theorem rrL(f0:kindA P T=some n0)(h:Hr o N τ H X ops t (vL xt xo xl) y T n0 cellp):Rdy (Rd P o τ H X (vL xt xo xl)) N τ ops o t:=rrX (vL xt xo xl) f0 h
theorem rhX(x:AV)(h:Hh o N τ H X ops t x op T yT y y2 pre)(hp:pre):Rdy (Rd P o τ H X x) N τ ops o t:=by
 have ⟨q0,h⟩:=Prod.mk.inj h
 have ⟨q1,h⟩:=Prod.mk.inj h
 have ⟨q2,h⟩:=Prod.mk.inj h
 have ⟨q3,q4⟩:=Prod.mk.inj h
 exact⟨rd_bin q0 q1 hp,q2,q3,Nat.le_of_ble_eq_true q4⟩
theorem rhI(h:Hh o N τ H X ops t (vI k0 xi) op T yT y y2 pre)(hp:pre):Rdy (Rd P o τ H X (vI k0 xi)) N τ ops o t:=rhX (vI k0 xi) h hp
theorem rgI(h:Hg o N τ H X ops t (vI k0 xi) op T yT y y2 A n1)(hp:i64 n1):Rdy (Rd P o τ H X (vI k0 xi)) N τ ops o t:=by
 have ⟨q0,h⟩:=Prod.mk.inj h
 have ⟨q1,h⟩:=Prod.mk.inj h
 have ⟨q2,h⟩:=Prod.mk.inj h
 have ⟨q3,q4⟩:=Prod.mk.inj h
 exact⟨rd_bin q0 q1 ⟨rfl,fits_i64 hp⟩,q2,q3,Nat.le_of_ble_eq_true q4⟩
theorem rf(k1:Nat)(f0:FA P T k off ft)(h:Hf o N τ H X ops t (.ptr id i1 k1) k1 T k off ft y id i1 j):Rdy (Rd P o τ H X (.ptr id i1 k1)) N τ ops o t:=by
 have ⟨q0,h⟩:=Prod.mk.inj h
 have ⟨q1,h⟩:=Prod.mk.inj h
 have ⟨q2,h⟩:=Prod.mk.inj h
 have ⟨q3,h⟩:=Prod.mk.inj h
 have ⟨q4,h⟩:=Prod.mk.inj h
 have ⟨q5,q6⟩:=Prod.mk.inj h
 subst q3
 exact⟨rd_faddr q0 f0.1 f0.2.1 f0.2.2 q1 q2,q4,q5,Nat.le_of_ble_eq_true q6⟩
theorem qf(k1:Nat)(f0:FA P T k off ft)(h:Hf o N τ H (fun _=>false) ops t (.ptr id i1 k1) k1 T k off ft y id i1 j):Rdy (Pd P o τ H (.ptr id i1 k1)) N τ ops o t:=by
 have ⟨q0,h⟩:=Prod.mk.inj h
 have ⟨q1,h⟩:=Prod.mk.inj h
 have ⟨q2,h⟩:=Prod.mk.inj h
 have ⟨q3,h⟩:=Prod.mk.inj h
 have ⟨q4,h⟩:=Prod.mk.inj h
 have ⟨q5,q6⟩:=Prod.mk.inj h
 subst q3
 exact⟨pd_faddr q0 f0.1 f0.2.1 f0.2.2 q1 q2,q4,q5,Nat.le_of_ble_eq_true q6⟩
theorem rc(h:Hc o N τ H X ops t (.ptr id i1 k1) y id i1 k1):Rdy (Rd P o τ H X (.ptr id i1 k1)) N τ ops o t:=by
 have ⟨q0,h⟩:=Prod.mk.inj h
 have ⟨q1,h⟩:=Prod.mk.inj h
 have ⟨q2,h⟩:=Prod.mk.inj h
 have ⟨q3,h⟩:=Prod.mk.inj h
 have ⟨q4,q5⟩:=Prod.mk.inj h
 exact⟨rd_nilc q0 q1 q2,q3,q4,Nat.le_of_ble_eq_true q5⟩
theorem qc(h:Hc o N τ H (fun _=>false) ops t (.ptr id i1 k1) y id i1 k1):Rdy (Pd P o τ H (.ptr id i1 k1)) N τ ops o t:=by
 have ⟨q0,h⟩:=Prod.mk.inj h
 have ⟨q1,h⟩:=Prod.mk.inj h
 have ⟨q2,h⟩:=Prod.mk.inj h
 have ⟨q3,h⟩:=Prod.mk.inj h
 have ⟨q4,q5⟩:=Prod.mk.inj h
 exact⟨pd_nilc q0 q1 q2,q3,q4,Nat.le_of_ble_eq_true q5⟩
theorem ri(i1:Nat)(f0:elA P T=some (e,sz))(h:Hi o N τ H X ops t (.rp row) i1 T e e2 sz y y2 k0 n1 rows row)(hr:rows[i1]? = some row):Rdy (Rd P o τ H X (.rp row)) N τ ops o t:=by
 have ⟨q0,h⟩:=Prod.mk.inj h
 have ⟨q1,h⟩:=Prod.mk.inj h
 have ⟨q2,h⟩:=Prod.mk.inj h
 have ⟨q3,h⟩:=Prod.mk.inj h
 have ⟨q4,h⟩:=Prod.mk.inj h
 have ⟨q5,q6⟩:=Prod.mk.inj h
 exact⟨rd_iaddr_p q0 f0 q1 q2 q3 hr,q4,q5,Nat.le_of_ble_eq_true q6⟩
variable {L O:Nat→Prop}{w0:World}{Q:AQ}{l:List Oper}
theorem lmI(h:Hm o N τ H (fun _=>false) ops t (vI k0 xi) y)(K:AL P L O w0 N ops l (upd τ t (vI k0 xi)) H Q):AL P L O w0 N ops (o::l) τ H Q:=lq (rmI h) K
theorem lmB(h:Hm o N τ H (fun _=>false) ops t (vB xb) y)(K:AL P L O w0 N ops l (upd τ t (vB xb)) H Q):AL P L O w0 N ops (o::l) τ H Q:=lq (rmB h) K
theorem lmT(h:Hm o N τ H (fun _=>false) ops t (vB true) y)(K:AL P L O w0 N ops l (upd τ t (vB true)) H Q):AL P L O w0 N ops (o::l) τ H Q:=lq (rmT h) K
theorem lmZ(h:Hm o N τ H (fun _=>false) ops t (vB false) y)(K:AL P L O w0 N ops l (upd τ t (vB false)) H Q):AL P L O w0 N ops (o::l) τ H Q:=lq (rmZ h) K
theorem lmO(h:Hm o N τ H (fun _=>false) ops t (.own xo) y)(K:AL P L O w0 N ops l (upd τ t (.own xo)) H Q):AL P L O w0 N ops (o::l) τ H Q:=lq (rmO h) K
theorem lmP(h:Hm o N τ H (fun _=>false) ops t (.ptr xo xp xq) y)(K:AL P L O w0 N ops l (upd τ t (.ptr xo xp xq)) H Q):AL P L O w0 N ops (o::l) τ H Q:=lq (rmP h) K
theorem lmL(h:Hm o N τ H (fun _=>false) ops t (vL xt xo xl) y)(K:AL P L O w0 N ops l (upd τ t (vL xt xo xl)) H Q):AL P L O w0 N ops (o::l) τ H Q:=lq (rmL h) K
theorem lmX(x:AV)(h:Hm o N τ H (fun _=>false) ops t x y)(K:AL P L O w0 N ops l (upd τ t x) H Q):AL P L O w0 N ops (o::l) τ H Q:=lq (rmX x h) K
theorem laI(h:Ha o N τ H (fun _=>false) ops t (vI k0 xi) y)(K:AL P L O w0 N ops l (upd τ t (vI k0 xi)) H Q):AL P L O w0 N ops (o::l) τ H Q:=lq (raI h) K
theorem laB(h:Ha o N τ H (fun _=>false) ops t (vB xb) y)(K:AL P L O w0 N ops l (upd τ t (vB xb)) H Q):AL P L O w0 N ops (o::l) τ H Q:=lq (raB h) K
theorem laT(h:Ha o N τ H (fun _=>false) ops t (vB true) y)(K:AL P L O w0 N ops l (upd τ t (vB true)) H Q):AL P L O w0 N ops (o::l) τ H Q:=lq (raT h) K
theorem laZ(h:Ha o N τ H (fun _=>false) ops t (vB false) y)(K:AL P L O w0 N ops l (upd τ t (vB false)) H Q):AL P L O w0 N ops (o::l) τ H Q:=lq (raZ h) K
theorem laV(h:Ha o N τ H (fun _=>false) ops t (vV xv) y)(K:AL P L O w0 N ops l (upd τ t (vV xv)) H Q):AL P L O w0 N ops (o::l) τ H Q:=lq (raV h) K
theorem laO(h:Ha o N τ H (fun _=>false) ops t (.own xo) y)(K:AL P L O w0 N ops l (upd τ t (.own xo)) H Q):AL P L O w0 N ops (o::l) τ H Q:=lq (raO h) K
theorem laP(h:Ha o N τ H (fun _=>false) ops t (.ptr xo xp xq) y)(K:AL P L O w0 N ops l (upd τ t (.ptr xo xp xq)) H Q):AL P L O w0 N ops (o::l) τ H Q:=lq (raP h) K
theorem laL(h:Ha o N τ H (fun _=>false) ops t (vL xt xo xl) y)(K:AL P L O w0 N ops l (upd τ t (vL xt xo xl)) H Q):AL P L O w0 N ops (o::l) τ H Q:=lq (raL h) K
theorem lbB(h:Hb o N τ H (fun _=>false) ops t (vB xb) op T yT y y2 A)(K:AL P L O w0 N ops l (upd τ t (vB xb)) H Q):AL P L O w0 N ops (o::l) τ H Q:=lq (rbB h) K
theorem lkB(h:Hk o N τ H (fun _=>false) ops t (vB xb) c y y2)(K:AL P L O w0 N ops l (upd τ t (vB xb)) H Q):AL P L O w0 N ops (o::l) τ H Q:=lq (rkB h) K
theorem lkT(h:Hk o N τ H (fun _=>false) ops t (vB true) c y y2)(K:AL P L O w0 N ops l (upd τ t (vB true)) H Q):AL P L O w0 N ops (o::l) τ H Q:=lq (rkT h) K
theorem lkZ(h:Hk o N τ H (fun _=>false) ops t (vB false) c y y2)(K:AL P L O w0 N ops l (upd τ t (vB false)) H Q):AL P L O w0 N ops (o::l) τ H Q:=lq (rkZ h) K
theorem luB(h:Hu o N τ H (fun _=>false) ops t (vB xb) uop T y)(K:AL P L O w0 N ops l (upd τ t (vB xb)) H Q):AL P L O w0 N ops (o::l) τ H Q:=lq (ruB h) K
theorem luT(h:Hu o N τ H (fun _=>false) ops t (vB true) uop T y)(K:AL P L O w0 N ops l (upd τ t (vB true)) H Q):AL P L O w0 N ops (o::l) τ H Q:=lq (ruT h) K
theorem luZ(h:Hu o N τ H (fun _=>false) ops t (vB false) uop T y)(K:AL P L O w0 N ops l (upd τ t (vB false)) H Q):AL P L O w0 N ops (o::l) τ H Q:=lq (ruZ h) K
theorem lxI(h:Hx o N τ H (fun _=>false) ops t (vI k0 xi) y k)(K:AL P L O w0 N ops l (upd τ t (vI k0 xi)) H Q):AL P L O w0 N ops (o::l) τ H Q:=lq (rxI h) K
theorem lxB(h:Hx o N τ H (fun _=>false) ops t (vB xb) y k)(K:AL P L O w0 N ops l (upd τ t (vB xb)) H Q):AL P L O w0 N ops (o::l) τ H Q:=lq (rxB h) K
theorem lxV(h:Hx o N τ H (fun _=>false) ops t (vV xv) y k)(K:AL P L O w0 N ops l (upd τ t (vV xv)) H Q):AL P L O w0 N ops (o::l) τ H Q:=lq (rxV h) K
theorem lxO(h:Hx o N τ H (fun _=>false) ops t (.own xo) y k)(K:AL P L O w0 N ops l (upd τ t (.own xo)) H Q):AL P L O w0 N ops (o::l) τ H Q:=lq (rxO h) K
theorem lxL(h:Hx o N τ H (fun _=>false) ops t (vL xt xo xl) y k)(K:AL P L O w0 N ops l (upd τ t (vL xt xo xl)) H Q):AL P L O w0 N ops (o::l) τ H Q:=lq (rxL h) K
theorem lxX(x:AV)(h:Hx o N τ H (fun _=>false) ops t x y k)(K:AL P L O w0 N ops l (upd τ t x) H Q):AL P L O w0 N ops (o::l) τ H Q:=lq (rxX x h) K
theorem lnI(f0:isSlice P T=true)(h:Hn o N τ H (fun _=>false) ops t (vI k0 xi) y T)(K:AL P L O w0 N ops l (upd τ t (vI k0 xi)) H Q):AL P L O w0 N ops (o::l) τ H Q:=lq (rnI f0 h) K
theorem loI(f0:kindA P T=some n0)(h:Ho o N τ H (fun _=>false) ops t (vI k0 xi) y T T2 n0 id k p cells)(K:AL P L O w0 N ops l (upd τ t (vI k0 xi)) H Q):AL P L O w0 N ops (o::l) τ H Q:=lq (roI f0 h) K
theorem loB(f0:kindA P T=some n0)(h:Ho o N τ H (fun _=>false) ops t (vB xb) y T T2 n0 id k p cells)(K:AL P L O w0 N ops l (upd τ t (vB xb)) H Q):AL P L O w0 N ops (o::l) τ H Q:=lq (roB f0 h) K
theorem loO(f0:kindA P T=some n0)(h:Ho o N τ H (fun _=>false) ops t (.own xo) y T T2 n0 id k p cells)(K:AL P L O w0 N ops l (upd τ t (.own xo)) H Q):AL P L O w0 N ops (o::l) τ H Q:=lq (roO f0 h) K
theorem loL(f0:kindA P T=some n0)(h:Ho o N τ H (fun _=>false) ops t (vL xt xo xl) y T T2 n0 id k p cells)(K:AL P L O w0 N ops l (upd τ t (vL xt xo xl)) H Q):AL P L O w0 N ops (o::l) τ H Q:=lq (roL f0 h) K
theorem loX(x:AV)(f0:kindA P T=some n0)(h:Ho o N τ H (fun _=>false) ops t x y T T2 n0 id k p cells)(K:AL P L O w0 N ops l (upd τ t x) H Q):AL P L O w0 N ops (o::l) τ H Q:=lq (roX x f0 h) K
theorem lrI(f0:kindA P T=some n0)(h:Hr o N τ H (fun _=>false) ops t (vI k0 xi) y T n0 cellp)(K:AL P L O w0 N ops l (upd τ t (vI k0 xi)) H Q):AL P L O w0 N ops (o::l) τ H Q:=lq (rrI f0 h) K
theorem lrL(f0:kindA P T=some n0)(h:Hr o N τ H (fun _=>false) ops t (vL xt xo xl) y T n0 cellp)(K:AL P L O w0 N ops l (upd τ t (vL xt xo xl)) H Q):AL P L O w0 N ops (o::l) τ H Q:=lq (rrL f0 h) K
theorem lrX(x:AV)(f0:kindA P T=some n0)(h:Hr o N τ H (fun _=>false) ops t x y T n0 cellp)(K:AL P L O w0 N ops l (upd τ t x) H Q):AL P L O w0 N ops (o::l) τ H Q:=lq (rrX x f0 h) K
theorem lhI(h:Hh o N τ H (fun _=>false) ops t (vI k0 xi) op T yT y y2 pre)(hp:pre)(K:AL P L O w0 N ops l (upd τ t (vI k0 xi)) H Q):AL P L O w0 N ops (o::l) τ H Q:=lq (rhI h hp) K
theorem lgI(h:Hg o N τ H (fun _=>false) ops t (vI k0 xi) op T yT y y2 A n1)(K:AL P L O w0 N ops l (upd τ t (vI k0 xi)) H Q)(hp:i64 n1:=by unfold i64;omega):AL P L O w0 N ops (o::l) τ H Q:=lq (rgI h hp) K
theorem lf(k1:Nat)(f0:FA P T k off ft)(h:Hf o N τ H (fun _=>false) ops t (.ptr id i1 k1) k1 T k off ft y id i1 j)(K:AL P L O w0 N ops l (upd τ t (.ptr id i1 k1)) H Q):AL P L O w0 N ops (o::l) τ H Q:=lq (rf k1 f0 h) K
theorem lc(h:Hc o N τ H (fun _=>false) ops t (.ptr id i1 k1) y id i1 k1)(K:AL P L O w0 N ops l (upd τ t (.ptr id i1 k1)) H Q):AL P L O w0 N ops (o::l) τ H Q:=lq (rc h) K
theorem li(i1:Nat)(f0:elA P T=some (e,sz))(h:Hi o N τ H (fun _=>false) ops t (.rp row) i1 T e e2 sz y y2 k0 n1 rows row)(hr:rows[i1]? = some row)(K:AL P L O w0 N ops l (upd τ t (.rp row)) H Q):AL P L O w0 N ops (o::l) τ H Q:=lq (ri i1 f0 h hr) K
end
end Go.Proofs.YtogkbcmfoalpiaaGreat

namespace Go.Proofs.YtogkbcmfoalpiaaGreat.ty
open Go Go.Proofs Go.Proofs.YtogkbcmfoalpiaaGreat
theorem kd3:kindA Tryz.prog 3=some none:=by kernel_rfl
theorem co3:Tryz.prog.cellsOf 3=1:=by kernel_rfl
theorem by3:Tryz.prog.bytesOf 3≤512:=Nat.le_of_ble_eq_true (by kernel_rfl)
theorem inf3:(Tryz.prog.info? 3).isSome=true:=by kernel_rfl
theorem ik3:intKind Tryz.prog 3=some .i64:=by kernel_rfl
theorem ze3:zeroA Tryz.prog 3=some [.int .i64 0]:=by kernel_rfl
theorem kd4:kindA Tryz.prog 4=some none:=by kernel_rfl
theorem co4:Tryz.prog.cellsOf 4=1:=by kernel_rfl
theorem inf4:(Tryz.prog.info? 4).isSome=true:=by kernel_rfl
theorem ze4:zeroA Tryz.prog 4=some [.bool false]:=by kernel_rfl
theorem kd5:kindA Tryz.prog 5=some none:=by kernel_rfl
theorem ik5:intKind Tryz.prog 5=some .u8:=by kernel_rfl
theorem kd22:kindA Tryz.prog 22=some none:=by kernel_rfl
theorem el22:elA Tryz.prog 22=some (5,1):=by kernel_rfl
theorem sl22:isSlice Tryz.prog 22=true:=by kernel_rfl
theorem kd23:kindA Tryz.prog 23=some none:=by kernel_rfl
theorem co23:Tryz.prog.cellsOf 23=1:=by kernel_rfl
theorem inf23:(Tryz.prog.info? 23).isSome=true:=by kernel_rfl
theorem el23:elA Tryz.prog 23=some (40,7):=by kernel_rfl
theorem sl23:isSlice Tryz.prog 23=true:=by kernel_rfl
theorem kd24:kindA Tryz.prog 24=some none:=by kernel_rfl
theorem co24:Tryz.prog.cellsOf 24=1:=by kernel_rfl
theorem inf24:(Tryz.prog.info? 24).isSome=true:=by kernel_rfl
theorem el24:elA Tryz.prog 24=some (68,7):=by kernel_rfl
theorem sl24:isSlice Tryz.prog 24=true:=by kernel_rfl
theorem kd25:kindA Tryz.prog 25=some none:=by kernel_rfl
theorem co25:Tryz.prog.cellsOf 25=1:=by kernel_rfl
theorem inf25:(Tryz.prog.info? 25).isSome=true:=by kernel_rfl
theorem el25:elA Tryz.prog 25=some (78,5):=by kernel_rfl
theorem sl25:isSlice Tryz.prog 25=true:=by kernel_rfl
theorem kd27:kindA Tryz.prog 27=some (some 6):=by kernel_rfl
theorem co27:Tryz.prog.cellsOf 27=6:=by kernel_rfl
theorem inf27:(Tryz.prog.info? 27).isSome=true:=by kernel_rfl
theorem F27_0:FA Tryz.prog 27 0 0 3:=⟨by kernel_rfl,by rw[show Tryz.prog.cellsOf 3=1 by kernel_rfl];decide,by kernel_rfl⟩
theorem F27_1:FA Tryz.prog 27 1 1 3:=⟨by kernel_rfl,by rw[show Tryz.prog.cellsOf 3=1 by kernel_rfl];decide,by kernel_rfl⟩
theorem F27_2:FA Tryz.prog 27 2 2 3:=⟨by kernel_rfl,by rw[show Tryz.prog.cellsOf 3=1 by kernel_rfl];decide,by kernel_rfl⟩
theorem F27_3:FA Tryz.prog 27 3 3 23:=⟨by kernel_rfl,by rw[show Tryz.prog.cellsOf 23=1 by kernel_rfl];decide,by kernel_rfl⟩
theorem F27_4:FA Tryz.prog 27 4 4 24:=⟨by kernel_rfl,by rw[show Tryz.prog.cellsOf 24=1 by kernel_rfl];decide,by kernel_rfl⟩
theorem F27_5:FA Tryz.prog 27 5 5 25:=⟨by kernel_rfl,by rw[show Tryz.prog.cellsOf 25=1 by kernel_rfl];decide,by kernel_rfl⟩
theorem ze27:zeroA Tryz.prog 27=some [.int .i64 0,.int .i64 0,.int .i64 0,.slice none 0 0,.slice none 0 0,.slice none 0 0]:=by kernel_rfl
theorem sa27:structA Tryz.prog 27=some ([.int .i64 0,.int .i64 0,.int .i64 0,.slice none 0 0,.slice none 0 0,.slice none 0 0],[(0,1),(1,1),(2,1),(3,1),(4,1),(5,1)]):=by kernel_rfl
theorem kd29:kindA Tryz.prog 29=some (some 7):=by kernel_rfl
theorem co29:Tryz.prog.cellsOf 29=7:=by kernel_rfl
theorem by29:Tryz.prog.bytesOf 29≤512:=Nat.le_of_ble_eq_true (by kernel_rfl)
theorem inf29:(Tryz.prog.info? 29).isSome=true:=by kernel_rfl
theorem F29_0:FA Tryz.prog 29 0 0 3:=⟨by kernel_rfl,by rw[show Tryz.prog.cellsOf 3=1 by kernel_rfl];decide,by kernel_rfl⟩
theorem F29_1:FA Tryz.prog 29 1 1 3:=⟨by kernel_rfl,by rw[show Tryz.prog.cellsOf 3=1 by kernel_rfl];decide,by kernel_rfl⟩
theorem F29_2:FA Tryz.prog 29 2 2 3:=⟨by kernel_rfl,by rw[show Tryz.prog.cellsOf 3=1 by kernel_rfl];decide,by kernel_rfl⟩
theorem F29_3:FA Tryz.prog 29 3 3 3:=⟨by kernel_rfl,by rw[show Tryz.prog.cellsOf 3=1 by kernel_rfl];decide,by kernel_rfl⟩
theorem F29_4:FA Tryz.prog 29 4 4 3:=⟨by kernel_rfl,by rw[show Tryz.prog.cellsOf 3=1 by kernel_rfl];decide,by kernel_rfl⟩
theorem F29_5:FA Tryz.prog 29 5 5 3:=⟨by kernel_rfl,by rw[show Tryz.prog.cellsOf 3=1 by kernel_rfl];decide,by kernel_rfl⟩
theorem F29_6:FA Tryz.prog 29 6 6 4:=⟨by kernel_rfl,by rw[show Tryz.prog.cellsOf 4=1 by kernel_rfl];decide,by kernel_rfl⟩
theorem ze29:zeroA Tryz.prog 29=some [.int .i64 0,.int .i64 0,.int .i64 0,.int .i64 0,.int .i64 0,.int .i64 0,.bool false]:=by kernel_rfl
theorem sa29:structA Tryz.prog 29=some ([.int .i64 0,.int .i64 0,.int .i64 0,.int .i64 0,.int .i64 0,.int .i64 0,.bool false],[(0,1),(1,1),(2,1),(3,1),(4,1),(5,1),(6,1)]):=by kernel_rfl
theorem kd32:kindA Tryz.prog 32=some none:=by kernel_rfl
theorem co32:Tryz.prog.cellsOf 32=1:=by kernel_rfl
theorem inf32:(Tryz.prog.info? 32).isSome=true:=by kernel_rfl
theorem el32:elA Tryz.prog 32=some (120,3):=by kernel_rfl
theorem sl32:isSlice Tryz.prog 32=true:=by kernel_rfl
theorem kd34:kindA Tryz.prog 34=some (some 2):=by kernel_rfl
theorem co34:Tryz.prog.cellsOf 34=2:=by kernel_rfl
theorem by34:Tryz.prog.bytesOf 34≤512:=Nat.le_of_ble_eq_true (by kernel_rfl)
theorem inf34:(Tryz.prog.info? 34).isSome=true:=by kernel_rfl
theorem F34_0:FA Tryz.prog 34 0 0 3:=⟨by kernel_rfl,by rw[show Tryz.prog.cellsOf 3=1 by kernel_rfl];decide,by kernel_rfl⟩
theorem F34_1:FA Tryz.prog 34 1 1 32:=⟨by kernel_rfl,by rw[show Tryz.prog.cellsOf 32=1 by kernel_rfl];decide,by kernel_rfl⟩
theorem ze34:zeroA Tryz.prog 34=some [.int .i64 0,.slice none 0 0]:=by kernel_rfl
theorem sa34:structA Tryz.prog 34=some ([.int .i64 0,.slice none 0 0],[(0,1),(1,1)]):=by kernel_rfl
theorem kd40:kindA Tryz.prog 40=some (some 7):=by kernel_rfl
theorem co40:Tryz.prog.cellsOf 40=7:=by kernel_rfl
theorem by40:Tryz.prog.bytesOf 40≤512:=Nat.le_of_ble_eq_true (by kernel_rfl)
theorem inf40:(Tryz.prog.info? 40).isSome=true:=by kernel_rfl
theorem F40_0:FA Tryz.prog 40 0 0 3:=⟨by kernel_rfl,by rw[show Tryz.prog.cellsOf 3=1 by kernel_rfl];decide,by kernel_rfl⟩
theorem F40_1:FA Tryz.prog 40 1 1 3:=⟨by kernel_rfl,by rw[show Tryz.prog.cellsOf 3=1 by kernel_rfl];decide,by kernel_rfl⟩
theorem F40_2:FA Tryz.prog 40 2 2 3:=⟨by kernel_rfl,by rw[show Tryz.prog.cellsOf 3=1 by kernel_rfl];decide,by kernel_rfl⟩
theorem F40_3:FA Tryz.prog 40 3 3 3:=⟨by kernel_rfl,by rw[show Tryz.prog.cellsOf 3=1 by kernel_rfl];decide,by kernel_rfl⟩
theorem F40_4:FA Tryz.prog 40 4 4 3:=⟨by kernel_rfl,by rw[show Tryz.prog.cellsOf 3=1 by kernel_rfl];decide,by kernel_rfl⟩
theorem F40_5:FA Tryz.prog 40 5 5 3:=⟨by kernel_rfl,by rw[show Tryz.prog.cellsOf 3=1 by kernel_rfl];decide,by kernel_rfl⟩
theorem F40_6:FA Tryz.prog 40 6 6 3:=⟨by kernel_rfl,by rw[show Tryz.prog.cellsOf 3=1 by kernel_rfl];decide,by kernel_rfl⟩
theorem ze40:zeroA Tryz.prog 40=some [.int .i64 0,.int .i64 0,.int .i64 0,.int .i64 0,.int .i64 0,.int .i64 0,.int .i64 0]:=by kernel_rfl
theorem sa40:structA Tryz.prog 40=some ([.int .i64 0,.int .i64 0,.int .i64 0,.int .i64 0,.int .i64 0,.int .i64 0,.int .i64 0],[(0,1),(1,1),(2,1),(3,1),(4,1),(5,1),(6,1)]):=by kernel_rfl
theorem el44:elA Tryz.prog 44=some (29,7):=by kernel_rfl
theorem sl44:isSlice Tryz.prog 44=true:=by kernel_rfl
theorem el49:elA Tryz.prog 49=some (34,2):=by kernel_rfl
theorem sl49:isSlice Tryz.prog 49=true:=by kernel_rfl
theorem el50:elA Tryz.prog 50=some (3,1):=by kernel_rfl
theorem sl50:isSlice Tryz.prog 50=true:=by kernel_rfl
theorem kd54:kindA Tryz.prog 54=some (some 2):=by kernel_rfl
theorem co54:Tryz.prog.cellsOf 54=2:=by kernel_rfl
theorem inf54:(Tryz.prog.info? 54).isSome=true:=by kernel_rfl
theorem F54_0:FA Tryz.prog 54 0 0 3:=⟨by kernel_rfl,by rw[show Tryz.prog.cellsOf 3=1 by kernel_rfl];decide,by kernel_rfl⟩
theorem F54_1:FA Tryz.prog 54 1 1 32:=⟨by kernel_rfl,by rw[show Tryz.prog.cellsOf 32=1 by kernel_rfl];decide,by kernel_rfl⟩
theorem ze54:zeroA Tryz.prog 54=some [.int .i64 0,.slice none 0 0]:=by kernel_rfl
theorem sa54:structA Tryz.prog 54=some ([.int .i64 0,.slice none 0 0],[(0,1),(1,1)]):=by kernel_rfl
theorem kd68:kindA Tryz.prog 68=some (some 7):=by kernel_rfl
theorem co68:Tryz.prog.cellsOf 68=7:=by kernel_rfl
theorem by68:Tryz.prog.bytesOf 68≤512:=Nat.le_of_ble_eq_true (by kernel_rfl)
theorem inf68:(Tryz.prog.info? 68).isSome=true:=by kernel_rfl
theorem F68_0:FA Tryz.prog 68 0 0 3:=⟨by kernel_rfl,by rw[show Tryz.prog.cellsOf 3=1 by kernel_rfl];decide,by kernel_rfl⟩
theorem F68_1:FA Tryz.prog 68 1 1 3:=⟨by kernel_rfl,by rw[show Tryz.prog.cellsOf 3=1 by kernel_rfl];decide,by kernel_rfl⟩
theorem F68_2:FA Tryz.prog 68 2 2 3:=⟨by kernel_rfl,by rw[show Tryz.prog.cellsOf 3=1 by kernel_rfl];decide,by kernel_rfl⟩
theorem F68_3:FA Tryz.prog 68 3 3 3:=⟨by kernel_rfl,by rw[show Tryz.prog.cellsOf 3=1 by kernel_rfl];decide,by kernel_rfl⟩
theorem F68_4:FA Tryz.prog 68 4 4 3:=⟨by kernel_rfl,by rw[show Tryz.prog.cellsOf 3=1 by kernel_rfl];decide,by kernel_rfl⟩
theorem F68_5:FA Tryz.prog 68 5 5 4:=⟨by kernel_rfl,by rw[show Tryz.prog.cellsOf 4=1 by kernel_rfl];decide,by kernel_rfl⟩
theorem F68_6:FA Tryz.prog 68 6 6 3:=⟨by kernel_rfl,by rw[show Tryz.prog.cellsOf 3=1 by kernel_rfl];decide,by kernel_rfl⟩
theorem ze68:zeroA Tryz.prog 68=some [.int .i64 0,.int .i64 0,.int .i64 0,.int .i64 0,.int .i64 0,.bool false,.int .i64 0]:=by kernel_rfl
theorem sa68:structA Tryz.prog 68=some ([.int .i64 0,.int .i64 0,.int .i64 0,.int .i64 0,.int .i64 0,.bool false,.int .i64 0],[(0,1),(1,1),(2,1),(3,1),(4,1),(5,1),(6,1)]):=by kernel_rfl
theorem kd78:kindA Tryz.prog 78=some (some 5):=by kernel_rfl
theorem co78:Tryz.prog.cellsOf 78=5:=by kernel_rfl
theorem by78:Tryz.prog.bytesOf 78≤512:=Nat.le_of_ble_eq_true (by kernel_rfl)
theorem inf78:(Tryz.prog.info? 78).isSome=true:=by kernel_rfl
theorem F78_0:FA Tryz.prog 78 0 0 3:=⟨by kernel_rfl,by rw[show Tryz.prog.cellsOf 3=1 by kernel_rfl];decide,by kernel_rfl⟩
theorem F78_1:FA Tryz.prog 78 1 1 3:=⟨by kernel_rfl,by rw[show Tryz.prog.cellsOf 3=1 by kernel_rfl];decide,by kernel_rfl⟩
theorem F78_2:FA Tryz.prog 78 2 2 3:=⟨by kernel_rfl,by rw[show Tryz.prog.cellsOf 3=1 by kernel_rfl];decide,by kernel_rfl⟩
theorem F78_3:FA Tryz.prog 78 3 3 3:=⟨by kernel_rfl,by rw[show Tryz.prog.cellsOf 3=1 by kernel_rfl];decide,by kernel_rfl⟩
theorem F78_4:FA Tryz.prog 78 4 4 3:=⟨by kernel_rfl,by rw[show Tryz.prog.cellsOf 3=1 by kernel_rfl];decide,by kernel_rfl⟩
theorem ze78:zeroA Tryz.prog 78=some [.int .i64 0,.int .i64 0,.int .i64 0,.int .i64 0,.int .i64 0]:=by kernel_rfl
theorem sa78:structA Tryz.prog 78=some ([.int .i64 0,.int .i64 0,.int .i64 0,.int .i64 0,.int .i64 0],[(0,1),(1,1),(2,1),(3,1),(4,1)]):=by kernel_rfl
theorem F84_0:FA Tryz.prog 84 0 0 27:=⟨by kernel_rfl,by rw[show Tryz.prog.cellsOf 27=6 by kernel_rfl];decide,by kernel_rfl⟩
theorem F84_1:FA Tryz.prog 84 1 6 32:=⟨by kernel_rfl,by rw[show Tryz.prog.cellsOf 32=1 by kernel_rfl];decide,by kernel_rfl⟩
theorem F84_2:FA Tryz.prog 84 2 7 3:=⟨by kernel_rfl,by rw[show Tryz.prog.cellsOf 3=1 by kernel_rfl];decide,by kernel_rfl⟩
theorem sa84:structA Tryz.prog 84=some ([.int .i64 0,.int .i64 0,.int .i64 0,.slice none 0 0,.slice none 0 0,.slice none 0 0,.slice none 0 0,.int .i64 0],[(0,6),(6,1),(7,1)]):=by kernel_rfl
theorem F91_0:FA Tryz.prog 91 0 0 27:=⟨by kernel_rfl,by rw[show Tryz.prog.cellsOf 27=6 by kernel_rfl];decide,by kernel_rfl⟩
theorem F91_1:FA Tryz.prog 91 1 6 32:=⟨by kernel_rfl,by rw[show Tryz.prog.cellsOf 32=1 by kernel_rfl];decide,by kernel_rfl⟩
theorem F91_2:FA Tryz.prog 91 2 7 3:=⟨by kernel_rfl,by rw[show Tryz.prog.cellsOf 3=1 by kernel_rfl];decide,by kernel_rfl⟩
theorem sa91:structA Tryz.prog 91=some ([.int .i64 0,.int .i64 0,.int .i64 0,.slice none 0 0,.slice none 0 0,.slice none 0 0,.slice none 0 0,.int .i64 0],[(0,6),(6,1),(7,1)]):=by kernel_rfl
theorem kd110:kindA Tryz.prog 110=some (some 2):=by kernel_rfl
theorem co110:Tryz.prog.cellsOf 110=2:=by kernel_rfl
theorem F110_0:FA Tryz.prog 110 0 0 3:=⟨by kernel_rfl,by rw[show Tryz.prog.cellsOf 3=1 by kernel_rfl];decide,by kernel_rfl⟩
theorem F110_1:FA Tryz.prog 110 1 1 3:=⟨by kernel_rfl,by rw[show Tryz.prog.cellsOf 3=1 by kernel_rfl];decide,by kernel_rfl⟩
theorem sa110:structA Tryz.prog 110=some ([.int .i64 0,.int .i64 0],[(0,1),(1,1)]):=by kernel_rfl
theorem kd120:kindA Tryz.prog 120=some (some 3):=by kernel_rfl
theorem co120:Tryz.prog.cellsOf 120=3:=by kernel_rfl
theorem by120:Tryz.prog.bytesOf 120≤512:=Nat.le_of_ble_eq_true (by kernel_rfl)
theorem inf120:(Tryz.prog.info? 120).isSome=true:=by kernel_rfl
theorem F120_0:FA Tryz.prog 120 0 0 110:=⟨by kernel_rfl,by rw[show Tryz.prog.cellsOf 110=2 by kernel_rfl];decide,by kernel_rfl⟩
theorem F120_1:FA Tryz.prog 120 1 2 3:=⟨by kernel_rfl,by rw[show Tryz.prog.cellsOf 3=1 by kernel_rfl];decide,by kernel_rfl⟩
theorem ze120:zeroA Tryz.prog 120=some [.int .i64 0,.int .i64 0,.int .i64 0]:=by kernel_rfl
theorem sa120:structA Tryz.prog 120=some ([.int .i64 0,.int .i64 0,.int .i64 0],[(0,2),(2,1)]):=by kernel_rfl
theorem F122_0:FA Tryz.prog 122 0 0 22:=⟨by kernel_rfl,by rw[show Tryz.prog.cellsOf 22=1 by kernel_rfl];decide,by kernel_rfl⟩
theorem F122_1:FA Tryz.prog 122 1 1 3:=⟨by kernel_rfl,by rw[show Tryz.prog.cellsOf 3=1 by kernel_rfl];decide,by kernel_rfl⟩
theorem F122_2:FA Tryz.prog 122 2 2 3:=⟨by kernel_rfl,by rw[show Tryz.prog.cellsOf 3=1 by kernel_rfl];decide,by kernel_rfl⟩
theorem sa122:structA Tryz.prog 122=some ([.slice none 0 0,.int .i64 0,.int .i64 0],[(0,1),(1,1),(2,1)]):=by kernel_rfl
theorem el124:elA Tryz.prog 124=some (4,1):=by kernel_rfl
theorem ik143:intKind Tryz.prog 143=some .u64:=by kernel_rfl
theorem ik150:intKind Tryz.prog 150=some .u64:=by kernel_rfl
theorem sf29 : Tryz.prog.fieldsOf 29 = ([{ name := "Kind",type := 3,offset := 0,embedded := false,tag := "",pkgPath := "",byteOffset := 0 },{ name := "Key",type := 3,offset := 1,embedded := false,tag := "",pkgPath := "",byteOffset := 8 },{ name := "Ch",type := 3,offset := 2,embedded := false,tag := "",pkgPath := "",byteOffset := 16 },{ name := "To",type := 3,offset := 3,embedded := false,tag := "",pkgPath := "",byteOffset := 24 },{ name := "Amt",type := 3,offset := 4,embedded := false,tag := "",pkgPath := "",byteOffset := 32 },{ name := "Fee",type := 3,offset := 5,embedded := false,tag := "",pkgPath := "",byteOffset := 40 },{ name := "Yes",type := 4,offset := 6,embedded := false,tag := "",pkgPath := "",byteOffset := 48 }] : List Field).toArray := by unfold Program.fieldsOf;rw [Tryz.underlying29]
theorem su29:Tryz.prog.underlying 29=some (.struct (Tryz.prog.fieldsOf 29)):=by rw[sf29];exact Tryz.underlying29
theorem sh29:Tryz.prog.stoodInHeld 29=false:=by kernel_rfl
theorem sg29:Tryz.prog.eqGuardType Tryz.prog.depth 29=false:=by kernel_rfl
theorem sf110 : Tryz.prog.fieldsOf 110 = ([{ name := "Kind",type := 3,offset := 0,embedded := false,tag := "",pkgPath := "",byteOffset := 0 },{ name := "Ch",type := 3,offset := 1,embedded := false,tag := "",pkgPath := "",byteOffset := 8 }] : List Field).toArray := by unfold Program.fieldsOf;rw [Tryz.underlying110]
theorem su110:Tryz.prog.underlying 110=some (.struct (Tryz.prog.fieldsOf 110)):=by rw[sf110];exact Tryz.underlying110
theorem sh110:Tryz.prog.stoodInHeld 110=false:=by kernel_rfl
theorem sg110:Tryz.prog.eqGuardType Tryz.prog.depth 110=false:=by kernel_rfl
end Go.Proofs.YtogkbcmfoalpiaaGreat.ty

namespace Go.Proofs.YtogkbcmfoalpiaaGreat
open Go.RowKit
set_option maxHeartbeats 16000000
set_option maxRecDepth 100000
set_option linter.unusedSimpArgs false
set_option linter.unusedVariables false
def lessA(a b:Acc):Bool:=decide (a.kind<b.kind)||((a.kind==b.kind)&&decide (a.ch<b.ch))
def rangeA(n:Int):Bool:=inB n (-1125899906842624) 1125899906842624
theorem dec_beq(x y:Int):decide (x=y)=(x==y):=by by_cases h:x=y<;>simp[h]
def mergeL:List Line→List Line→Option (List Line)
 |[],b=>some b
 |x::a,[]=>some (x::a)
 |x::a,y::b=>
  if lessA x.acc y.acc then (mergeL a (y::b)).map (x::·)
  else if lessA y.acc x.acc then (mergeL (x::a) b).map (y::·)
  else if rangeA (x.amt+y.amt)then (if x.amt+y.amt=0 then mergeL a b else (mergeL a b).map (⟨x.acc,x.amt+y.amt⟩::·))
  else none
termination_by a b=>a.length+b.length
theorem mergeL_nil(b:List Line):mergeL [] b=some b:=by unfold mergeL;rfl
theorem mergeL_nil2:∀(a:List Line),mergeL a []=some a
 |[]=>by unfold mergeL;rfl
 |x::a=>by unfold mergeL;rfl
theorem mergeL_lt{x y:Line}{a b:List Line}(h:lessA x.acc y.acc=true):mergeL (x::a) (y::b)=(mergeL a (y::b)).map (x::·):=by
 conv=>lhs;unfold mergeL
 rw[if_pos h]
theorem mergeL_gt{x y:Line}{a b:List Line}(h:lessA x.acc y.acc=false)(h2:lessA y.acc x.acc=true):mergeL (x::a) (y::b)=(mergeL (x::a) b).map (y::·):=by
 conv=>lhs;unfold mergeL
 rw[if_neg (by simp[h]),if_pos h2]
theorem mergeL_bad{x y:Line}{a b:List Line}(h:lessA x.acc y.acc=false)(h2:lessA y.acc x.acc=false)(h3:rangeA (x.amt+y.amt)=false):mergeL (x::a) (y::b)=none:=by
 unfold mergeL
 rw[if_neg (by simp[h]),if_neg (by simp[h2]),if_neg (by simp[h3])]
theorem mergeL_zero{x y:Line}{a b:List Line}(h:lessA x.acc y.acc=false)(h2:lessA y.acc x.acc=false)(h3:rangeA (x.amt+y.amt)=true)(h4:x.amt+y.amt=0):mergeL (x::a) (y::b)=mergeL a b:=by
 conv=>lhs;unfold mergeL
 rw[if_neg (by simp[h]),if_neg (by simp[h2]),if_pos h3,if_pos h4]
theorem mergeL_sum{x y:Line}{a b:List Line}(h:lessA x.acc y.acc=false)(h2:lessA y.acc x.acc=false)(h3:rangeA (x.amt+y.amt)=true)(h4:¬x.amt+y.amt=0):mergeL (x::a) (y::b)=(mergeL a b).map (⟨x.acc,x.amt+y.amt⟩::·):=by
 conv=>lhs;unfold mergeL
 rw[if_neg (by simp[h]),if_neg (by simp[h2]),if_pos h3,if_neg h4]
theorem map_app1{o:List Line}{x:Line}{m:Option (List Line)}:(m.map (x::·)).map (o++·)=m.map ((o++[x])++·):=by cases m<;>simp
theorem rowsOf_app{α:Type}(enc:α→List Value)(xs ys:List α):rowsOf enc (xs++ys)=rowsOf enc xs++rowsOf enc ys:=List.map_append
theorem take_rows{α:Type}{enc:α→List Value}{x:α}{xs:List α}:((rowsOf enc (x::xs)).take (rowsOf enc (x::xs)).length).drop 1=rowsOf enc xs:=by rw[List.take_length];rfl
def mgR(a b:List Line):AV→List (Nat×AO)→Prop:=fun x ob1=>match mergeL a b with
 |some l=>x=.tup [.own 50,boo true]∧ob1=[(50,.arr 120 3 (rowsOf encLine l))]
 |none=>x=.tup [.p (.v (.slice none 0 0)),boo false]∧ob1=[]
theorem in_e(a b c:Int):GC Tryz.prog 63 [int a,int b,int c] [] (boo (inB a b c)) []:=by
 refine gi 6 Tryz.func63 rfl Tryz.ntmps63 rfl ?_
 intro L O w0
 refine sL<|laZ Z<|nA<|lmI Z<|lmI Z<|lbB Z<|lmB Z ?_
 refine AL.bool (t:=10) rfl ?_ ?_
 ·intro h1
  refine lmI Z<|lmI Z<|lbB Z<|lkB Z<|laB Z<|nG<|aR ?_
  refine eBo trivial ?_
  first|rfl|(simp_all[inB];done)|(simp_all[inB];omega)
 ·intro h1
  refine lno Z<|lno Z<|lno Z<|lkZ Z<|laZ Z<|nG<|aR ?_
  refine eBo trivial ?_
  first|rfl|(simp_all[inB];done)|(simp_all[inB];omega)
theorem lessA_e(a b:Acc):GC Tryz.prog 121 [.agg [int a.kind,int a.ch],.agg [int b.kind,int b.ch]] [] (boo (lessA a b)) []:=by
 refine gi 4 Tryz.func121 rfl Tryz.ntmps121 rfl ?_
 intro L O w0
 refine sL<|lst (zX 2002 Z) Z<|lst (zX 2003 Z) Z<|laZ Z<|nA<|lf 0 ty.F110_0 Z<|loI ty.kd3 Z<|lf 0 ty.F110_0 Z<|loI ty.kd3 Z<|lbB Z<|lmB Z ?_
 refine AL.bool (t:=10) rfl ?_ ?_
 ·intro h1
  refine lno Z<|lno Z<|lno Z<|lno Z<|lno Z<|lno Z<|lno Z<|lno Z<|lno Z<|lno Z<|lno Z<|lno Z<|lkT Z<|laT Z<|nG<|aR ?_
  refine eBo trivial ?_
  unfold lessA;simp_all
 ·intro h1
  refine lf 0 ty.F110_0 Z<|loI ty.kd3 Z<|lf 0 ty.F110_0 Z<|loI ty.kd3 Z<|lbB Z<|lmB Z ?_
  refine AL.bool (t:=16) rfl ?_ ?_
  ·intro h2
   refine lf 1 ty.F110_1 Z<|loI ty.kd3 Z<|lf 1 ty.F110_1 Z<|loI ty.kd3 Z<|lbB Z<|lkB Z<|lkB Z<|laB Z<|nG<|aR ?_
   refine eBo trivial ?_
   unfold lessA;simp_all
  ·intro h2
   refine lno Z<|lno Z<|lno Z<|lno Z<|lno Z<|lkZ Z<|lkZ Z<|laZ Z<|nG<|aR ?_
   refine eBo trivial ?_
   unfold lessA;simp_all
theorem merged_e(a b:List Line)(hn:a.length+b.length≤1000000)(ha:∀z∈a,rangeA z.amt=true)(hb:∀z∈b,rangeA z.amt=true):GX Tryz.prog 89 [.p (.lst 120 3 (rowsOf encLine a)),.p (.lst 120 3 (rowsOf encLine b))] [] (mgR a b):=by
 refine GX.intro (rs:=[.tmp 4,.tmp 5]) Tryz.func89 rfl Tryz.ntmps89 (Nat.le_of_ble_eq_true rfl) ⟨rfl,rfl,trivial⟩ ?_
 intro L O w0
 refine sL<|laV Z<|laZ Z<|nA<|laV Z<|nG<|aS<|aB ?_
 refine AW.adoptT 50 6 120 3 rfl ?_
 refine aW [4,5] [] (D:=List Line×List Line×List Line) (fun d=>[(0,.p (.lst 120 3 (rowsOf encLine d.1))),(1,.p (.lst 120 3 (rowsOf encLine d.2.1))),(6,.own 50)]) (fun d=>[(50,.arr 120 3 (rowsOf encLine d.2.2))]) (fun d=>(mergeL d.1 d.2.1).map (d.2.2++·)=mergeL a b∧d.2.2.length+d.1.length+d.2.1.length≤a.length+b.length∧(∀z∈d.1,rangeA z.amt=true)∧∀z∈d.2.1,rangeA z.amt=true) (fun d=>d.1.length+d.2.1.length) ((a,b,[])) (⟨by cases mergeL a b<;>simp,by simp,ha,hb⟩) ⟨rfl,rfl,rfl,trivial⟩ ⟨rfl,trivial⟩ ?_
 intro d hI
 obtain⟨a',b',o⟩:=d
 obtain⟨hI,hlen,hra,hrb⟩:=hI
 dsimp only at hI hlen hra hrb ⊢
 rcases a' with _|⟨x,a2⟩<;>rcases b' with _|⟨y,b2⟩
 ·skip
  refine aS<|sL<|lmL Z<|lnI ty.sl32 Z<|lbB Z<|lsB 10 false rfl (by first|(simp[rowsOf];done)|(simp[rowsOf];omega))<|lmZ Z<|lmL Z<|lnI ty.sl32 Z<|lbB Z<|lsB 14 false rfl (by first|(simp[rowsOf];done)|(simp[rowsOf];omega))<|lkZ Z<|nG<|aN Z<|aE<|eT<|eT<|eB<|gA<|lmO Z<|laO Z<|laT Z<|nG<|aR ?_
  have hm:mergeL a b=some o:=by rw[←hI,mergeL_nil];simp
  refine end_xret (.tup [.own 50,boo true]) [(50,.arr 120 3 (rowsOf encLine o))] ?_ rfl ⟨rfl,trivial⟩
  unfold mgR;rw[hm];exact⟨rfl,rfl⟩
 ·skip
  refine aS<|sL<|lmL Z<|lnI ty.sl32 Z<|lbB Z<|lsB 10 false rfl (by first|(simp[rowsOf];done)|(simp[rowsOf];omega))<|lmZ Z<|lmL Z<|lnI ty.sl32 Z<|lbB Z<|lsB 14 true rfl (by first|(simp[rowsOf];done)|(simp[rowsOf];omega))<|lkT Z<|nG<|aY Z<|aK<|gT<|aB<|aB<|aS<|aG 19 []<|yq 0 (rmL rfl)<|yq 1 (rnI ty.sl32 rfl)<|yq 2 (rbB rfl)<|gsB 46 false rfl (by first|(simp[rowsOf];done)|(simp[rowsOf];omega))<|yq 3 (rmZ rfl)<|yq 4 (rmL rfl)<|yq 5 (rnI ty.sl32 rfl)<|yq 6 (rbB rfl) ?_
  refine gsB 50 false rfl (by first|(simp[rowsOf];done)|(simp[rowsOf];omega))<|yq 7 (rmZ rfl)<|gX [0,1,4,5,6,47,51] [50] ?_
  refine tno 8 Z<|tno 9 Z<|tno 10 Z<|tno 11 Z<|yno 12 Z<|yno 13 Z<|yno 14 Z<|yno 15 Z<|yno 16 Z<|yq 17 (rkZ rfl)<|yq 18 (rkZ rfl)<|yq 19 (raZ rfl)<|gD<|gT<|aN Z<|aS<|aG 14 []<|yq 0 (rmL rfl)<|yq 1 (rnI ty.sl32 rfl)<|yq 2 (rbB rfl)<|gsB 74 true rfl (by first|(simp[rowsOf];done)|(simp[rowsOf];omega))<|yq 3 (rmT rfl)<|tno 4 Z<|tno 5 Z<|tno 6 Z<|tno 7 Z<|yno 8 Z<|yno 9 Z<|yno 10 Z<|yno 11 rfl ?_
  refine yno 12 Z<|yq 13 (rkT Z)<|yq 14 (raT Z)<|gD<|gT<|aY Z<|sL<|lmO Z<|lmL Z<|li 0 ty.el32 Z (Z)<|lrX (.agg [vI _ _,vI _ _,vI _ _]) ty.kd120 Z<|lst (zS 2090 (rowsOf encLine [y]) ty.el32 ty.ze120 Z) Z<|lT [0,1,4,5,6,86,90] [50,2090] ?_
  refine lst (zP 50 ty.el32 ty.ze120 ty.by120 Z (Src.own Z Z)) Z<|laO Z<|nG<|aL<|lmL Z ?_
  refine lq (rd (x:=vL _ _ _) (rd_slc_p (l:=1) (h:=_) rfl ty.el32 rfl ⟨_,rfl⟩ rfl (by simp[rowsOf]) (Nat.le_refl _)) rfl)<|laL Z<|lN<|gB<|gB<|gT ?_
  refine⟨([],b2,o++[y]),⟨by rw[←hI,mergeL_nil,mergeL_nil];simp,by simp at *;omega,hra,fun z hz=>hrb z (List.mem_cons_of_mem _ hz)⟩,by simp,⟨rfl,(congrArg (fun r=>AV.p (.lst 120 3 r)) take_rows),rfl,trivial⟩,⟨(congrArg (AO.arr 120 3) (rowsOf_app encLine _ [_]).symm),trivial⟩,rfl,rfl⟩
 ·skip
  refine aS<|sL<|lmL Z<|lnI ty.sl32 Z<|lbB Z<|lsB 10 true rfl (by first|(simp[rowsOf];done)|(simp[rowsOf];omega))<|lmT Z<|lno Z<|lno Z<|lno Z<|lkT Z<|nG<|aY Z<|aK<|gT<|aB<|aB<|aS<|aG 19 []<|yq 0 (rmL rfl)<|yq 1 (rnI ty.sl32 rfl)<|yq 2 (rbB rfl)<|gsB 46 true rfl (by first|(simp[rowsOf];done)|(simp[rowsOf];omega))<|yq 3 (rmT rfl)<|yno 4 Z<|yno 5 Z<|yno 6 Z<|yno 7 rfl ?_
  refine tno 8 Z<|tno 9 Z<|tno 10 Z<|tno 11 Z<|yno 12 Z<|yno 13 Z<|yno 14 Z<|yno 15 Z<|yno 16 Z<|yno 17 Z<|yq 18 (rkT Z)<|yq 19 (raT Z)<|gD<|gT<|aY Z<|sL<|lmO Z<|lmL Z<|li 0 ty.el32 Z (Z)<|lrX (.agg [vI _ _,vI _ _,vI _ _]) ty.kd120 Z<|lst (zS 2067 (rowsOf encLine [x]) ty.el32 ty.ze120 Z) Z<|lT [0,1,4,5,6,63,67] [50,2067] ?_
  refine lst (zP 50 ty.el32 ty.ze120 ty.by120 Z (Src.own Z Z)) Z<|laO Z<|nG<|aL<|lmL Z ?_
  refine lq (rd (x:=vL _ _ _) (rd_slc_p (l:=1) (h:=_) rfl ty.el32 rfl ⟨_,rfl⟩ rfl (by simp[rowsOf]) (Nat.le_refl _)) rfl)<|laL Z<|lN<|gB<|gB<|gT ?_
  refine⟨(a2,[],o++[x]),⟨by rw[←hI,mergeL_nil2,mergeL_nil2];simp,by simp at *;omega,fun z hz=>hra z (List.mem_cons_of_mem _ hz),hrb⟩,by simp,⟨(congrArg (fun r=>AV.p (.lst 120 3 r)) take_rows),rfl,rfl,trivial⟩,⟨(congrArg (AO.arr 120 3) (rowsOf_app encLine _ [_]).symm),trivial⟩,rfl,rfl⟩
 ·skip
  refine aS<|sL<|lmL Z<|lnI ty.sl32 Z<|lbB Z<|lsB 10 true rfl (by first|(simp[rowsOf];done)|(simp[rowsOf];omega))<|lmT Z<|lno Z<|lno Z<|lno Z<|lkT Z<|nG<|aY Z<|aK<|gT<|aB<|aB<|aS<|aG 19 []<|yq 0 (rmL rfl)<|yq 1 (rnI ty.sl32 rfl)<|yq 2 (rbB rfl)<|gsB 46 false rfl (by first|(simp[rowsOf];done)|(simp[rowsOf];omega))<|yq 3 (rmZ rfl)<|yq 4 (rmL rfl)<|yq 5 (rnI ty.sl32 rfl)<|yq 6 (rbB rfl)<|gsB 50 true rfl (by first|(simp[rowsOf];done)|(simp[rowsOf];omega)) ?_
  refine yq 7 (rmT Z)<|tq 8 (rmL Z)<|tq 9 (ri 0 ty.el32 Z (Z))<|tq 10 (rd (x:=.rp _) (zfr ty.F120_0 Z) Z)<|tq 11 (rrX (.agg [vI _ _,vI _ _]) ty.kd110 Z)<|yq 12 (rmL Z)<|yq 13 (ri 0 ty.el32 Z (Z))<|yq 14 (rd (x:=.rp _) (zfr ty.F120_0 Z) Z)<|yq 15 (rrX (.agg [vI _ _,vI _ _]) ty.kd110 Z)<|yst 16 Z (zL Tryz.func121 (lessA_e _ _) Z)<|gX [0,1,4,5,6,47,51,60] [50] ?_
  refine yq 17 (rkB Z)<|yq 18 (rkB Z)<|yq 19 (raB Z)<|gD<|gT ?_
  refine AW.cond rfl ?_ ?_
  ·intro h1
   refine sL<|lmO Z<|lmL Z<|li 0 ty.el32 Z (Z)<|lrX (.agg [vI _ _,vI _ _,vI _ _]) ty.kd120 Z<|lst (zS 2067 (rowsOf encLine [x]) ty.el32 ty.ze120 Z) Z<|lst (zP 50 ty.el32 ty.ze120 ty.by120 Z (Src.own Z Z)) Z<|laO Z<|nG<|aL<|lmL Z ?_
   refine lq (rd (x:=vL _ _ _) (rd_slc_p (l:=1) (h:=_) rfl ty.el32 rfl ⟨_,rfl⟩ rfl (by simp[rowsOf]) (Nat.le_refl _)) rfl)<|laL Z<|lN<|gB<|gB<|gT ?_
   refine⟨(a2,y::b2,o++[x]),⟨by rw[←hI,mergeL_lt h1,map_app1],by simp at *;omega,fun z hz=>hra z (List.mem_cons_of_mem _ hz),hrb⟩,by simp,⟨(congrArg (fun r=>AV.p (.lst 120 3 r)) take_rows),rfl,rfl,trivial⟩,⟨(congrArg (AO.arr 120 3) (rowsOf_app encLine _ [_]).symm),trivial⟩,rfl,rfl⟩
  ·intro h1
   refine aS<|aG 14 []<|yq 0 (rmL rfl)<|yq 1 (rnI ty.sl32 rfl)<|yq 2 (rbB rfl)<|gsB 74 false rfl (by first|(simp[rowsOf];done)|(simp[rowsOf];omega))<|yq 3 (rmZ rfl)<|tq 4 (rmL rfl)<|tq 5 (ri 0 ty.el32 rfl (rfl))<|tq 6 (rd (x:=.rp _) (zfr ty.F120_0 rfl) rfl)<|tq 7 (rrX (.agg [vI _ _,vI _ _]) ty.kd110 rfl)<|yq 8 (rmL rfl)<|yq 9 (ri 0 ty.el32 rfl (rfl))<|yq 10 (rd (x:=.rp _) (zfr ty.F120_0 rfl) rfl)<|yq 11 (rrX (.agg [vI _ _,vI _ _]) ty.kd110 rfl)<|yst 12 rfl (zL Tryz.func121 (lessA_e _ _) rfl)<|gX [0,1,4,5,6,75,84] [50] ?_
   refine yq 13 (rkB Z)<|yq 14 (raB Z)<|gD<|gT ?_
   refine AW.cond rfl ?_ ?_
   ·intro h2
    refine sL<|lmO Z<|lmL Z<|li 0 ty.el32 Z (Z)<|lrX (.agg [vI _ _,vI _ _,vI _ _]) ty.kd120 Z<|lst (zS 2090 (rowsOf encLine [y]) ty.el32 ty.ze120 Z) Z<|lst (zP 50 ty.el32 ty.ze120 ty.by120 Z (Src.own Z Z)) Z<|laO Z<|nG<|aL<|lmL Z ?_
    refine lq (rd (x:=vL _ _ _) (rd_slc_p (l:=1) (h:=_) rfl ty.el32 rfl ⟨_,rfl⟩ rfl (by simp[rowsOf]) (Nat.le_refl _)) rfl)<|laL Z<|lN<|gB<|gB<|gT ?_
    refine⟨(x::a2,b2,o++[y]),⟨by rw[←hI,mergeL_gt h1 h2,map_app1],by simp at *;omega,hra,fun z hz=>hrb z (List.mem_cons_of_mem _ hz)⟩,by simp,⟨rfl,(congrArg (fun r=>AV.p (.lst 120 3 r)) take_rows),rfl,trivial⟩,⟨(congrArg (AO.arr 120 3) (rowsOf_app encLine _ [_]).symm),trivial⟩,rfl,rfl⟩
   ·intro h2
    refine aS<|aG 9 []<|tq 0 (rmL Z)<|tq 1 (ri 0 ty.el32 Z (Z))<|tq 2 (rd (x:=.rp _) (zfr ty.F120_1 Z) Z)<|tq 3 (rrI ty.kd3 Z)<|yq 4 (rmL Z)<|yq 5 (ri 0 ty.el32 Z (Z))<|yq 6 (rd (x:=.rp _) (zfr ty.F120_1 Z) Z)<|yq 7 (rrI ty.kd3 Z) ?_
    have q1:=inB_true.1 (hra x (by simp))
    have q2:=inB_true.1 (hrb y (by simp))
    refine yq 8 (rgI rfl (by unfold i64;omega))<|yq 9 (raI rfl)<|gD<|gT<|aS<|sL<|lmI Z<|lst (zL Tryz.func63 (in_e _ _ _) rfl) Z<|lT [0,1,4,5,6,7,26] [50] ?_
    refine luB Z<|nG ?_
    refine AW.cond rfl ?_ ?_
    ·intro h3
     refine sL<|laV Z<|laZ Z<|nG<|aR<|rT<|rB<|rB<|rT<|rB<|rT ?_
     have hm:mergeL a b=none:=by rw[←hI,mergeL_bad h1 h2 (by simpa[rangeA]using h3)];rfl
     refine end_xret (.tup [.p (.v (.slice none 0 0)),boo false]) [] ?_ rfl trivial
     unfold mgR;rw[hm];exact⟨rfl,rfl⟩
    ·intro h3
     refine aK<|gT<|aS<|sL<|lmI Z<|lbB Z<|nG ?_
     refine AW.cond rfl ?_ ?_
     ·intro h4
      refine aL<|lmO Z<|lmL Z<|li 0 ty.el32 Z (Z)<|lq (rd (x:=.rp _) (zfr ty.F120_0 Z) Z)<|lrX (.agg [vI _ _,vI _ _]) ty.kd110 Z<|lmI Z<|lq (rd (x:=.agg [vI _ _,vI _ _,vI _ _]) (rd_build Z ty.sa120 Z Z Z) Z) ?_
      refine lst (zS 2037 (rowsOf encLine [⟨x.acc,x.amt+y.amt⟩]) ty.el32 ty.ze120 rfl) Z<|lst (zP 50 ty.el32 ty.ze120 ty.by120 rfl (Src.own rfl rfl)) Z<|lT [0,1,4,5,38] [50,2037] ?_
      refine laO Z<|nG<|aG 5 []<|tq 0 (rmL Z) ?_
      refine tq 1 (rd (x:=vL _ _ _) (rd_slc_p (l:=1) (h:=_) rfl ty.el32 rfl ⟨_,rfl⟩ rfl (by simp[rowsOf]) (Nat.le_refl _)) rfl)<|tq 2 (rmL rfl) ?_
      refine tq 3 (rd (x:=vL _ _ _) (rd_slc_p (l:=1) (h:=_) rfl ty.el32 rfl ⟨_,rfl⟩ rfl (by simp[rowsOf]) (Nat.le_refl _)) rfl)<|yq 4 (raL rfl)<|yq 5 (raL rfl)<|gD<|gB<|gB<|gT ?_
      refine⟨(a2,b2,o++[⟨x.acc,x.amt+y.amt⟩]),⟨by rw[←hI,mergeL_sum h1 h2 (by simpa[rangeA]using h3) (by simpa using h4),map_app1],by simp at *;omega,fun z hz=>hra z (List.mem_cons_of_mem _ hz),fun z hz=>hrb z (List.mem_cons_of_mem _ hz)⟩,by simp;omega,⟨(congrArg (fun r=>AV.p (.lst 120 3 r)) take_rows),(congrArg (fun r=>AV.p (.lst 120 3 r)) take_rows),rfl,trivial⟩,⟨(congrArg (AO.arr 120 3) (rowsOf_app encLine _ [_]).symm),trivial⟩,rfl,rfl⟩
     ·intro h4
      refine aK<|gT<|aG 5 []<|tq 0 (rmL Z) ?_
      refine tq 1 (rd (x:=vL _ _ _) (rd_slc_p (l:=1) (h:=_) rfl ty.el32 rfl ⟨_,rfl⟩ rfl (by simp[rowsOf]) (Nat.le_refl _)) rfl)<|tq 2 (rmL rfl) ?_
      refine tq 3 (rd (x:=vL _ _ _) (rd_slc_p (l:=1) (h:=_) rfl ty.el32 rfl ⟨_,rfl⟩ rfl (by simp[rowsOf]) (Nat.le_refl _)) rfl)<|yq 4 (raL rfl)<|yq 5 (raL rfl)<|gD<|gB<|gB<|gT ?_
      refine⟨(a2,b2,o),⟨by rw[←hI,mergeL_zero h1 h2 (by simpa[rangeA]using h3) (by simpa using h4)],by simp at *;omega,fun z hz=>hra z (List.mem_cons_of_mem _ hz),fun z hz=>hrb z (List.mem_cons_of_mem _ hz)⟩,by simp;omega,⟨(congrArg (fun r=>AV.p (.lst 120 3 r)) take_rows),(congrArg (fun r=>AV.p (.lst 120 3 r)) take_rows),rfl,trivial⟩,⟨rfl,trivial⟩,rfl,rfl⟩
end Go.Proofs.YtogkbcmfoalpiaaGreat

