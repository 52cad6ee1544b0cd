/- Texts of the proof of FnFnAgain, joined: E20, EZ, E21. -/
import Derived.Test.YtflhgkmhmcfimaaGreatJAgain3
namespace Go.Proofs.YtflhgkmhmcfimaaGreat
set_option maxRecDepth 100000
open Go.RowKit
set_option linter.unusedSimpArgs false
set_option linter.unusedVariables false
mutual
def ql:AV->Bool
 |.p (.v _)=>true
 |.own _=>true
 |.agg l=>Ct l
 |.au l=>Ct l
 |_=>false
def Ct:List AV->Bool
 |[]=>true
 |x::l=>ql x&&Ct l
end
section
variable {L L':Nat->Prop}{H H':Nat->AO}{ρ ci:Nat->Value}{w w':World}
mutual
def s7:AV->List Nat
 |.own id=>[id]
 |.agg l=>vN l
 |.au l=>vN l
 |_=>[]
def vN:List AV->List Nat
 |[]=>[]
 |x::l=>s7 x++vN l
end
mutual
theorem GR:∀(x:AV) {c:Value},ql x=true->RV L ρ H w x c->(∀id∈s7 x,(H id).here=true/\ci id=ρ id)->RV L' ci H' w' x c
 |.p (.v v),c,_,h,_=>by
  rw[RV]at *;obtain⟨fp,V,_⟩:=h;rw[RW]at V;obtain⟨V,rfl,h2⟩:=V;simp_all[RW]
 |.own id,c,_,h,k=>by
  grind[RV,s7]
 |.agg l,c,hf,h,k=>by
  unfold ql at hf;rw[RV]at *;obtain⟨cs,rfl,V⟩:=h;simp_all[HY,s7]
 |.au l,c,hf,h,k=>by
  unfold ql at hf;rw[RV]at *;obtain⟨cs,rfl,V⟩:=h;simp_all[HY,s7]
 |.p (.ab _ _ _),_,hf,_,_=>by trivial
 |.sub _ _ _,_,hf,_,_=>by trivial
 |.ptr _ _ _,_,hf,_,_=>by trivial
 |.rp _,_,hf,_,_=>by trivial
 |.fQ _ _ _,_,hf,_,_=>by trivial
 |.dead,_,hf,_,_=>by trivial
 |.bad,_,hf,_,_=>by trivial
theorem HY:∀(x:List AV) {c:List Value},Ct x=true->bf L ρ H w x c->(∀id∈vN x,(H id).here=true/\ci id=ρ id)->bf L' ci H' w' x c
 |[],c,_,h,_=>by trivial
 |x::xs,c,hf,h,k=>by
  unfold Ct at hf;simp only[Bool.and_eq_true]at hf;rw[bf]at *;obtain⟨c,r,rfl,V,h2⟩:=h;exact⟨c,r,rfl,GR x hf.1 V (fun id hid=>k id (by grind[vN])),HY xs hf.2 h2 (fun id hid=>k id (by grind[vN]))⟩
end
end
def eb(l:List (Nat×AO))(i:Nat):Bool:=(l.map Prod.fst).contains i
theorem yK{l m:List (Nat×AO)}{i:Nat}:bx (l++m) i=if eb l i=true then bx l i else bx m i:=by
 induction l with
 |nil=>rfl
 |cons p l ih=>
  obtain⟨j,o⟩:=p;by_cases e:j=i
  ·grind[bx,eb]
  have e':¬i=j:=fun q=>e q.symm;have V:eb ((j,o)::l) i=eb l i:=by simp[eb,e']
  simp_all[bx]
theorem D6{l:List (Nat×AO)}{i:Nat}(h:eb l i=false):bx l i=.gone:=by
 induction l with
 |nil=>rfl
 |cons p l ih=>
  simp_all[eb,bx]
def M2:AO->Prop
 |.ai e sz rows=>e.pt=none/\∀r∈rows,∀p∈r,∃v,p=PV.v v
 |_=>False
def GQ:AO->Bool
 |.ai _ _ _=>true
 |_=>false
theorem wS{l:List (Nat×AO)}{i:Nat}(h:eb l i=true):∃o,(i,o)∈l/\bx l i=o:=by
 induction l with
 |nil=>trivial
 |cons p l ih=>
  obtain⟨j,o⟩:=p;by_cases e:i=j
  ·grind[bx]
  have V:eb ((j,o)::l) i=eb l i:=by simp[eb,e]
  simp_all[bx]
theorem x_137{p:Prop}(c:p:=by simp[h]):p:=c
theorem GC.Ae{P:Program}{f:FuncId}{args qj:List AV}{x:AV}{ob0 bd:List (Nat×AO)}(hc:GC P f args [] x bd)(hl:qk (bx ob0) qj=args)(hx:ql x=true)(hn:∀id∈s7 x,eb bd id=true)(h0:∀p∈ob0,GQ p.2=true)(V:∀p∈bd,M2 p.2)(hd:∀p∈ob0,eb bd p.1=false) :
 GC P f qj ob0 x (bd++ob0):=by
 intro L w cs ρ fp hL pF bY pG ud
 have hv:=bf.jB (fun id=>⟨_,bY id⟩) qj pF
 rw[hl]at hv
 refine Calls.mono (hc L0 w cs s8 (fun _=>[]) (fun _ q=>q.elim) hv (fun i=>rfl) x_19 x_19) ?_
 rintro e w' ⟨y,o,⟨hy,ho⟩,v,ci,bH,rfl,g1,g2,g3,g4,g5⟩
 replace hy:=hy.symm
 replace ho:=ho.symm
 subst hy ho
 have nW:∀i,∀b∈bH i,w.heap.size<=b:=fun i b hb=>by
  rcases(g5 i b hb).1 with⟨j,q⟩|q
  ·cases q
  exact q
 have oY:∀b,b<w.heap.size->w'.heap[b]? = w.heap[b]?:=fun b hb=>g1.block b hb x_19
 generalize wR:(fun i=>if eb bd i=true then ci i else ρ i)=jR
 generalize nX:(fun i=>if eb bd i=true then bH i else fp i)=f2
 have yI:∀ {i},eb bd i=true->jR i=ci i:=fun{i} h=>by rw[<-wR];simp only[h,if_true]
 have yJ:∀ {i},eb bd i=false->jR i=ρ i:=fun{i} h=>by rw[<-wR];simp[h]
 have rb:∀ {i},eb bd i=true->f2 i=bH i:=fun{i} h=>by rw[<-nX];simp only[h,if_true]
 have oZ:∀ {i},eb bd i=false->f2 i=fp i:=fun{i} h=>by rw[<-nX];simp[h]
 have BY:∀ {i},eb bd i=true->bx (bd++ob0) i=bx bd i:=fun{i} h=>by rw[yK,if_pos h]
 have yL:∀ {i},eb bd i=false->bx (bd++ob0) i=bx ob0 i:=fun{i} h=>by rw[yK,if_neg x_137]
 have re:∀b,b<w.heap.size->¬live L ρ (bx ob0) b->¬live L jR (bx (bd++ob0)) b:=by
  rintro b hb hn (hl|⟨i,q1,q2⟩)
  ·exact hn (.inl hl)
  rcases hi:eb bd i with _|_
  ·rw[yL hi]at q1;rw[yJ hi]at q2;exact hn (.inr ⟨i,q1,q2⟩)
  rw[BY hi]at q1;rw[yI hi]at q2;have:=nW i b ((g3 i).top q1 q2);omega
 have E:Env L ρ jR (bx ob0) (bx (bd++ob0)) w w' (eb bd):=⟨g1.size,fun b hb hn=>⟨oY b hb,re b hb hn⟩,fun i hk hi=>by
  rw[yL hk]at hi ⊢;exact⟨hi,yJ hk,rfl,rfl⟩⟩
 refine⟨x,bd++ob0,⟨rfl,rfl⟩,v,jR,f2,rfl,⟨g1.os,g1.tape,g1.output,g1.size,fun b hb _=>oY b hb,fun b o hb eI=>?_⟩,?_,fun i=>?_,fun i j gF b hb ec=>?_,fun i b hb=>?_⟩
 ·rcases Nat.lt_or_ge b w.heap.size with kA|kA
  ·rcases hb with⟨i,hi⟩|hb
   ·rw[World.frozen?_of_block (w:=w) (oY b kA)]
    exact(bY i).frozen b hi o
   omega
  exact g1.nf b o (.inr kA) eI
 ·refine GR x hx g2 fun id hid=>?_
  obtain⟨o,q1,q2⟩:=wS (hn id hid)
  have jC:=V _ q1
  refine⟨?_,yI (hn id hid)⟩
  rw[q2]
  cases o with
  |ai e sz rows=>rfl
  |box T p c=>exact jC.elim
  |gone=>exact jC.elim
 ·rcases hi:eb bd i with _|_
  ·rw[yL hi,yJ hi,oZ hi]
   have h:=(bY i).env E (fun b hb=>oY b ((bY i).lt b hb))
   have ek:(bx ob0 i).bq (eb bd)=bx ob0 i:=by
    rcases hj:eb ob0 i with _|_
    ·rw[D6 hj];rfl
    obtain⟨o,q1,q2⟩:=wS hj;have:=h0 _ q1;rw[q2];cases o with
    |ai e sz rows=>rfl
    |box T p c=>cases this
    |gone=>rfl
   rwa [ek]at h
  rw[BY hi,yI hi,rb hi]
  obtain⟨o,q1,q2⟩:=wS hi
  have jC:=V _ q1
  have h:=g3 i
  rw[q2]at h ⊢
  cases o with
  |ai e sz rows=>
   obtain⟨xs,fr,k1,k2,k3,k4,k5⟩:=h
   have ke:=k1.vj jC.2
   subst ke
   exact⟨xs,[],k1,by simp,k3,k4,k5⟩
  |box T p c=>exact jC.elim
  |gone=>exact jC.elim
 ·rcases hi:eb bd i with _|_<;>rcases hj:eb bd j with _|_
  ·rw[oZ hi]at hb;rw[oZ hj]at ec;exact pG i j gF b hb ec
  ·rw[oZ hi]at hb;rw[rb hj]at ec
   have:=(bY i).lt b hb
   have:=nW j b ec
   omega
  ·rw[rb hi]at hb;rw[oZ hj]at ec
   have:=(bY j).lt b ec
   have:=nW i b hb
   omega
  rw[rb hi]at hb;rw[rb hj]at ec;exact g4 i j gF b hb ec
 grind
section
variable {P:Program}{L O:Nat->Prop}{w0:World}{N:Nat}{τ:Nat->AV}{H:Nat->AO}{Q:AQ}{ops:Array Oper}{F:List Nat}{n:Nat}{av:Array Bool}
theorem akx{o:Oper}{x:Operand}{k:Nat}{r:AV}(ho:o.op=.extract x k)(h:H8 (ev τ x) k=some r):Pd P o τ H r:=by
 apply Pd.pure;intro L ρ a w he;have hx:=he x;generalize ev τ x=vx at *;unfold H8 at h;split at h
 ·rw[RV]at hx;obtain⟨cs,e,hl⟩:=hx;obtain⟨u,k1,k2⟩:=Co hl h;refine⟨u,k2,fun W=>?_⟩;simp[execOp,ho,e,Instr.extract,k1]
 cases h
theorem Dt{i j k:Nat}(hr:Region.ready .any ops av=[i,j,k])(V:d9 P L O w0 N ops F n av i τ H Q)(h2:d9 P L O w0 N ops F n av j τ H Q)(h3:d9 P L O w0 N ops F n av k τ H Q):AF P L O w0 N ops F (n+1) av τ H Q:=fun ρ fp a w bV=>by
 refine⟨fun h0=>x_14,fun m hm=>?_⟩;rw[hr]at hm;simp only[List.mem_cons,List.not_mem_nil,or_false]at hm;rcases hm with rfl|rfl|rfl
 ·exact V ρ fp a w bV
 ·exact h2 ρ fp a w bV
 exact h3 ρ fp a w bV
end

class rr(Q:AQ):Prop where
 np:NP Q
section
variable {K:(Nat->AV)->(Nat->AO)->Prop}{Q:AQ}{τ:Nat->AV}{H:Nat->AO}{id i:Nat}
instance [h:rr Q]:rr (AQ.andThen K Q):=⟨h.np⟩
instance [h:rr Q]:rr (AQ.inBlock id Q):=⟨h.np⟩
instance [h:rr Q]:rr (US Q):=⟨h.np⟩
instance {rs:List mQ} {x:AV} {bd:List (Nat×AO)}:rr (Ends rs x bd):=⟨UT⟩
instance {rs:List mQ} {R:AV->List (Nat×AO)->Prop}:rr (yX rs R):=⟨UU⟩
theorem gT(h:K τ H):AQ.andThen K Q .normal τ H:=h
theorem eT(h:Q (.exit i) τ H):AQ.andThen K Q (.exit i) τ H:=h
theorem rT(h:Q .ret τ H):AQ.andThen K Q .ret τ H:=h
theorem gB(h:Q .normal τ H):AQ.inBlock id Q .normal τ H:=h
theorem eB(h:Q .normal τ H):AQ.inBlock id Q (.exit id) τ H:=UV h
theorem eO(h:Q (.exit i) τ H)(hi:i≠id:=by decide):AQ.inBlock id Q (.exit i) τ H:=UW hi h
theorem rB(h:Q .ret τ H):AQ.inBlock id Q .ret τ H:=h
end
theorem Z{α:Sort _}{a:α}:a=a:=rfl
theorem iq{a b:Int}{x:AV}(V:x=.p (.v (.int .i64 a)))(h:a=b:=by omega):x=.p (.v (.int .i64 b)):=by rw[V,h]
theorem eA{b:Bool}:((!b)=true)=(b=false):=by simp
theorem eC{b:Bool}:((!b)=false)=(b=true):=by simp
theorem eD{p:Prop}[Decidable p]:(decide p=false)=¬p:=by simp
theorem eE{p:Prop}[Decidable p]:(decide p=true)=p:=by simp
abbrev U(k:IntKind)(n:Int):AV:=.p (.v (.int k n))
abbrev vB(b:Bool):AV:=.p (.v (.bool b))
abbrev vV(v:Value):AV:=.p (.v v)
abbrev vL(e:TypeId)(sz:Nat)(l:List (List PV)):AV:=.p (.ab e sz l)
abbrev c6{a b}:=(U a b:AV)
abbrev c7{a b c}:=(vL a b c:AV)
abbrev fy{a}:=(vB a:AV)
abbrev fG{a b c d e f g h i j k l m n o p q r s t u v w x y z x26 x27 x28 x29 x30 x31}:=(AV.agg [.own a,vL b c d,U e f,U g h,U i j,U k l,U m n,vL o p q,vL r s t,vL u v w,U x y,vL z x26 x27,.own x28,vL x29 x30 x31]:AV)
abbrev h1{a b c d e f g h i j k l m n o}:=(AV.agg [U a b,U c d,U e f,vL g h i,vL j k l,vL m n o]:AV)
abbrev iK{a b c d e f g h i j k l m}:=(AV.agg [U a b,U c d,U e f,U g h,U i j,U k l,vB m]:AV)
abbrev js{a b c d e f g h i j k l m n o p q r s t u v w x y z x26 x27 x28 x29 x30 x31 x32 x33 x34 x35}:=(AV.agg [vL a b c,vL d e f,U g h,U i j,U k l,U m n,U o p,vL q r s,vL t u v,vL w x y,U z x26,vL x27 x28 x29,vL x30 x31 x32,vL x33 x34 x35]:AV)
abbrev jG{a b c d e f g h i}:=(AV.agg [U a b,U c d,U e f,.own g,.own h,.own i]:AV)
abbrev kj{a b c d e}:=(AV.agg [U a b,vL c d e]:AV)
abbrev k7{a b c d e f g h i j k l m n}:=(AV.agg [U a b,U c d,U e f,U g h,U i j,U k l,U m n]:AV)
abbrev nq{a b c d e f}:=(AV.agg [vL a b c,vL d e f]:AV)
abbrev nG{a b c d e f g h i j k l m}:=(AV.agg [U a b,U c d,U e f,U g h,U i j,vB k,U l m]:AV)
abbrev oo{a b c d e f}:=(AV.agg [U a b,U c d,U e f]:AV)
abbrev ow{a b c d e f g h i j}:=(AV.agg [U a b,U c d,U e f,U g h,U i j]:AV)
abbrev pv{a b c d e f g}:=(AV.agg [U a b,U c d,vL e f g]:AV)
abbrev pP{a b c d}:=(AV.agg [U a b,U c d]:AV)
abbrev qa{a b c}:=(AV.agg [U a b,.own c]:AV)
abbrev qb{a b c d e f}:=(AV.agg [.own a,.own b,U c d,U e f]:AV)
abbrev qm{a b}:=(AV.agg [.own a,.own b]:AV)
abbrev qu{a b c d e}:=(AV.agg [U a b,U c d,.own e]:AV)
abbrev qN{a b c}:=(AV.agg [vL a b c]:AV)
abbrev rm{a b c d}:=(AV.agg [.own a,vL b c d]:AV)
theorem nN{α:Type}{x:List α}(h:x=[]):x=[]:=h
theorem nC{α:Type}(x:α){l r q:List α}(h:l=x::r)(k:r=q):l=x::q:=by rw[h,k]
theorem nU{l r q:List AV}{c d:List AV}(h:l=.agg c::r)(e:c=d)(k:r=q):l=.agg d::q:=by grind
theorem nT{l r q:List AV}{c d:List AV}(h:l=.au c::r)(e:c=d)(k:r=q):l=.au d::q:=by grind
theorem nK{l r q:List AV}{f:Fn}{a c d:List AV}(h:l=.fQ f a c::r)(e:c=d)(k:r=q):l=.fQ f a d::q:=by grind
theorem nB{l r q:List AO}{T:TypeId}{p:Option Value}{c d:List AV}(h:l=.box T p c::r)(e:c=d)(k:r=q):l=.box T p d::q:=by grind
theorem nz{α:Type}{x y:List α}(h:x=y:=by repeat' (first|exact nN rfl|apply nC c6 rfl|apply nC (AV.ptr _ _ _) rfl|apply nC fy rfl|apply nC (AV.own _) rfl|apply nC c7 rfl|apply nC (vV _) rfl|apply nU rfl|apply nC (AV.rp _) rfl|apply nC AV.dead rfl|apply nB rfl|apply nC (AO.ai _ _ _) rfl|apply nC (AV.au []) rfl|apply nT rfl|apply nK rfl|apply nC (AV.sub _ _ _) rfl|apply nC (AV.p _) rfl|apply nC _ rfl)):x=y:=h
def Cu:List (Nat×AV)->(Nat->AV)->Nat->AV
 |[],f,t=>f t
 |(s,x)::l,f,t=>if t=s then x else Cu l f t
def Cv:List (Nat×AO)->(Nat->AO)->Nat->AO
 |[],f,t=>f t
 |(s,x)::l,f,t=>if t=s then x else Cv l f t
def eh{α:Type}(z:α):List Nat->List α->Nat->α
 |s::l,x::r,t=>if t=s then x else eh z l r t
 |_,_,_=>z
def ge{α:Type}(τ:Nat->α):List Nat->List α
 |[]=>[]
 |s::l=>τ s::ge τ l
theorem ge.eJ{α:Type}{z:α}{τ:Nat->α}:∀ {l:List Nat} {v:List α},ge τ l=v->∀t,eh z l v t=z\/eh z l v t=τ t
 |[],_,h,t=>.inl (by rfl)
 |s::l,v,h,t=>by
  subst h;show (if t=s then τ s else eh z l (ge τ l) t)=z\/(if t=s then τ s else eh z l (ge τ l) t)=τ t;split
  ·rename_i q;subst q;exact .inr rfl
  exact ge.eJ rfl t
def ux(o:Option Nat)(N:Nat):Bool:=match o with|some t=>Nat.blt t N|none=>true
theorem ux.at{o:Option Nat}{N:Nat}(h:ux o N=true):∀s,o=some s->s<N:=fun s e=>by subst e;exact Nat.le_of_ble_eq_true h
def si(r:List (Nat×Nat))(H:Nat->AO):List (Nat×AO)->List (Option AO)
 |[]=>[]
 |(i,_)::l=>(rn r i).map (fun j=>(H j).cX (sw r))::si r H l
def zh:List (Nat×AO)->List (Option AO)
 |[]=>[]
 |(_,o)::l=>some o::zh l
theorem si.mP{r:List (Nat×Nat)}{H:Nat->AO}:∀ {l:List (Nat×AO)},si r H l=zh l->mP r H l
 |[],_=>trivial
 |(i,o)::l,h=>by
  unfold si zh at h;injection h with V h2;refine⟨?_,si.mP h2⟩;simp_all
section
variable {P:Program}{L O:Nat->Prop}{w0:World}{N:Nat}{τ τ':Nat->AV}{H H':Nat->AO}{Q:AQ}
theorem aS{x y:Code}(h:AW P L O w0 N x τ H (Q.andThen fun τ H=>AW P L O w0 N y τ H Q)):AW P L O w0 N (.seq x y) τ H Q:=AW.seq h
theorem aL{id:Nat}{l:List Oper}(h:AL P L O w0 N l.toArray l τ H Q):AW P L O w0 N (.region id l.toArray false) τ H Q:=M3 h
theorem aK(h:Q .normal τ H):AW P L O w0 N .skip τ H Q:=AW.skip h
theorem aR(h:Q .ret τ H):AW P L O w0 N .ret τ H Q:=AW.ret h
theorem aE{id:Nat}(h:Q (.exit id) τ H):AW P L O w0 N (.exit id) τ H Q:=AW.exit h
theorem aB{id:Nat}{c:Code}(h:AW P L O w0 N c τ H (Q.inBlock id)):AW P L O w0 N (.block id c) τ H Q:=AW.block h
theorem aY{c:Operand}{x y:Code}(hc:ev τ c=.p (.v (.bool true)))(h:AW P L O w0 N x τ H Q):AW P L O w0 N (.cond c x y) τ H Q:=AW.yes hc h
theorem aN{c:Operand}{x y:Code}(hc:ev τ c=.p (.v (.bool false)))(h:AW P L O w0 N y τ H Q):AW P L O w0 N (.cond c x y) τ H Q:=UX hc h
theorem aT(k i:List Nat){v:List AV}{b:List AO}{c:Code}(h:AW P L O w0 N c (eh .bad k v) (eh .gone i b) Q)(V:ge τ k=v:=by exact nz)(h2:ge H i=b:=by exact nz):AW P L O w0 N c τ H Q:=AW.eJ (ge.eJ V) (ge.eJ h2) h
variable {ops:Array Oper}{o:Oper}{l:List Oper}
theorem lN(h:Q .normal τ H):AL P L O w0 N ops [] τ H Q:=AL.nil h
theorem aa{t:Nat}(h:(gv τ ops o,o.dst,Nat.blt t N)=(some false,some t,true))(K:AL P L O w0 N ops l (aH τ t (.au [])) H Q):AL P L O w0 N ops (o::l) τ H Q:=by
 simp only[Prod.mk.injEq]at h;exact HZ h.1 h.2.1 (Nat.le_of_ble_eq_true h.2.2) K
theorem ab{E:List Nat}(hs:St P o N τ H E τ' H')(hg:gv τ ops o=some true)(h:AL P L O w0 N ops l τ' H' Q):AL P L O w0 N ops (o::l) τ H Q:=AL.st hs hg h
theorem lT(k i:List Nat){v:List AV}{b:List AO}(h:AL P L O w0 N ops l (eh .bad k v) (eh .gone i b) Q)(V:ge τ k=v:=by exact nz)(h2:ge H i=b:=by exact nz):AL P L O w0 N ops l τ H Q:=AL.eJ (ge.eJ V) (ge.eJ h2) h
end
section
variable {P:Program}{L O:Nat->Prop}{w0:World}{N:Nat}{τ τ':Nat->AV}{H H':Nat->AO}{Q:AQ}{ops:Array Oper}{o:Oper}{F:List Nat}{n f:Nat}{X:Nat->Bool}{av:Array Bool}
def M4(ops:Array Oper)(f:Nat)(av:Array Bool)(i:Nat):Bool:=(Region.ready .any ops av).contains i&&(Region.noSelect ops&&(Region.free .any ops av i&&((xC .any ops f).getD i false&&rt .any ops av)))
theorem zi{a b c d e:Bool}(h:(a&&(b&&(c&&(d&&e))))=true):a=true/\b=true/\c=true/\d=true/\e=true:=by grind
theorem Cw{a b c e:Bool}(h:(a&&(b&&(c&&e)))=true):a=true/\b=true/\c=true/\e=true:=by grind
def UY(ops:Array Oper)(F:List Nat)(av:Array Bool)(i:Nat):Bool:=(Region.ready .any ops av).contains i&&(Region.noSelect ops&&(Region.free .any ops av i&&(H0 .any ops F av i&&rt .any ops av)))
def M5(ops:Array Oper)(av:Array Bool)(i:Nat):Bool:=(Region.ready .any ops av).contains i&&(Region.noSelect ops&&(Region.free .any ops av i&&rt .any ops av))
theorem aF{id:Nat}(F:List Nat)(h:AF P L O w0 N ops F ops.size (Array.replicate ops.size false) τ H Q)(hm:P.follows .mixedOrders=true:=by kernel_rfl):AW P L O w0 N (.region id ops true) τ H Q:=UZ F hm h
theorem aG{id:Nat}(f:Nat)(X:List Nat)(h:AG P L O w0 N ops f (kh X) ops.size (Array.replicate ops.size false) τ H Q)(hm:P.follows .mixedOrders=true:=by kernel_rfl):AW P L O w0 N (.region id ops true) τ H Q:=U0 f (kh X) hm h
theorem fD(h:Q .normal τ H)(hr:Region.ready .any ops av=[]:=by kernel_rfl):AF P L O w0 N ops F n av τ H Q:=AF.done hr h
theorem gD(h:Q .normal τ H)(hr:Region.ready .any ops av=[]:=by kernel_rfl):AG P L O w0 N ops f X n av τ H Q:=AG.done hr h
theorem bn(i:Nat){E:List Nat}(h0:(ops[i]?,gv τ ops o)=(some o,some true))(hs:St P o N τ H E τ' H')(hF:F.contains i=true\/E=[])(h:AF P L O w0 N ops F n (av.setIfInBounds i true) τ' H' Q)(hr:Region.ready .any ops av=[i]:=by kernel_rfl):AF P L O w0 N ops F (n+1) av τ H Q:=by
 simp only[Prod.mk.injEq]at h0;exact AF.st h0.1 hr hs hF h0.2 h
theorem U1{E:List Nat}{X:Nat->Bool}(h:E.all X=true):∀id∈E,X id=true:=fun id hid=>List.all_eq_true.1 h id hid
theorem cm(i:Nat){E:List Nat}(h0:(ops[i]?,gv τ ops o)=(some o,some true))(hs:St P o N τ H E τ' H')(h:AG P L O w0 N ops f X n (av.setIfInBounds i true) τ' H' Q)(hX:∀id∈E,X id=true:=by first|decide|exact U1 rfl)(hr:Region.ready .any ops av=[i]:=by kernel_rfl):AG P L O w0 N ops f X (n+1) av τ H Q:=by
 simp only[Prod.mk.injEq]at h0;exact AG.st h0.1 hr hs hX h0.2 h
theorem bt(i:Nat){t:Nat}(h0:(ops[i]?,gv τ ops o,o.dst,Nat.blt t N)=(some o,some false,some t,true))(h:AG P L O w0 N ops f X n (av.setIfInBounds i true) (aH τ t (.au [])) H Q)(hr:Region.ready .any ops av=[i]:=by kernel_rfl):AG P L O w0 N ops f X (n+1) av τ H Q:=by
 simp only[Prod.mk.injEq]at h0;exact U2 h0.1 hr h0.2.1 h0.2.2.1 (Nat.le_of_ble_eq_true h0.2.2.2) h
theorem al(i:Nat){t:Nat}(h0:(ops[i]?,gv τ ops o,o.dst,Nat.blt t N)=(some o,some false,some t,true))(h:AF P L O w0 N ops F n (av.setIfInBounds i true) (aH τ t (.au [])) H Q)(hr:Region.ready .any ops av=[i]:=by kernel_rfl):AF P L O w0 N ops F (n+1) av τ H Q:=by
 simp only[Prod.mk.injEq]at h0;exact U3 h0.1 hr h0.2.1 h0.2.2.1 (Nat.le_of_ble_eq_true h0.2.2.2) h
theorem ep[cq:rr Q](i:Nat){t:Nat}(h0:(ops[i]?,gv τ ops o,o.dst,Nat.blt t N)=(some o,some false,some t,true))(h:AG P L O w0 N ops f X n (av.setIfInBounds i true) (aH τ t (.au [])) H Q)(hb:M4 ops f av i=true:=by kernel_rfl):AG P L O w0 N ops f X (n+1) av τ H Q:=by
 simp only[Prod.mk.injEq]at h0;exact AG.skip h0.1 (zi hb).1 (zi hb).2.1 (zi hb).2.2.1 (zi hb).2.2.2.1 (zi hb).2.2.2.2 h0.2.1 h0.2.2.1 (Nat.le_of_ble_eq_true h0.2.2.2) cq.np h
theorem bi[cq:rr Q](i:Nat){t:Nat}(h0:(ops[i]?,gv τ ops o,o.dst,Nat.blt t N)=(some o,some false,some t,true))(h:AF P L O w0 N ops F n (av.setIfInBounds i true) (aH τ t (.au [])) H Q)(hb:M5 ops av i=true:=by kernel_rfl):AF P L O w0 N ops F (n+1) av τ H Q:=by
 simp only[Prod.mk.injEq]at h0;exact AF.skip h0.1 (Cw hb).1 (Cw hb).2.1 (Cw hb).2.2.1 (Cw hb).2.2.2 h0.2.1 h0.2.2.1 (Nat.le_of_ble_eq_true h0.2.2.2) cq.np h
theorem U4(k:List Nat)(v:List AV)(i:List Nat)(b:List AO)(V:ge τ k=v)(h2:ge H i=b)(h:AF P L O w0 N ops F n av (eh .bad k v) (eh .gone i b) Q):AF P L O w0 N ops F n av τ H Q:=fun ρ fp a w hr=>by
 obtain⟨bH,gU,_⟩:=hr.eJ (ge.eJ (z:=AV.bad) V) (ge.eJ (z:=AO.gone) h2);exact h ρ bH a w gU
theorem fT(k i:List Nat){v:List AV}{b:List AO}(h:AF P L O w0 N ops F n av (eh .bad k v) (eh .gone i b) Q)(V:ge τ k=v:=by exact nz)(h2:ge H i=b:=by exact nz):AF P L O w0 N ops F n av τ H Q:=U4 k v i b V h2 h
theorem H3:∀ {k:List Nat} {v:List AV},nY (k.zip v)=eh .bad k v
 |[],v=>funext fun t=>by rfl
 |s::k,[]=>funext fun t=>by rfl
 |s::k,x::v=>funext fun t=>by simp only[List.zip_cons_cons,nY,eh,H3]
theorem EQ:∀ {k:List Nat} {v:List AO},bx (k.zip v)=eh .gone k v
 |[],v=>funext fun t=>by rfl
 |s::k,[]=>funext fun t=>by rfl
 |s::k,x::v=>funext fun t=>by simp only[List.zip_cons_cons,bx,eh,EQ]
theorem AR:∀ {k:List Nat} {v:List AV},ge τ k=v->iN (k.zip v) τ
 |[],v,h=>by trivial
 |s::k,v,h=>by subst h;exact⟨rfl,AR rfl⟩
theorem AS:∀ {k:List Nat} {v:List AO},ge H k=v->fo (k.zip v) H
 |[],v,h=>by trivial
 |s::k,v,h=>by subst h;exact⟨rfl,AS rfl⟩
def zj(B H:Nat->AO):List Nat->Prop
 |[]=>True
 |i::l=>B i=H i/\zj B H l
theorem zj.to{B:List (Nat×AO)}{B':Nat->AO}(hB:bx B=B'):∀ {X:List Nat},zj B' H X->AT B H X
 |[],_=>trivial
 |_::_,h=>⟨by rw[hB];exact h.1,zj.to hB h.2⟩
theorem U5(k:List Nat)(v:List AV)(i:List Nat)(b:List AO){X:List Nat}(V:ge τ k=v)(h2:ge H i=b)(hX:zj (eh .gone i b) H X)(h:AG P L O w0 N ops f (kh X) n av (eh .bad k v) (eh .gone i b) Q):AG P L O w0 N ops f (kh X) n av τ H Q:=
 U6 (k.zip v) (i.zip b) (AR V) (AS h2) (zj.to EQ hX) (by rw[H3,EQ];exact h)
theorem gX(k i:List Nat){v:List AV}{b:List AO}{X:List Nat}(h:AG P L O w0 N ops f (kh X) n av (eh .bad k v) (eh .gone i b) Q)(V:ge τ k=v:=by exact nz)(h2:ge H i=b:=by exact nz)(hX:zj (eh .gone i b) H X:=by repeat (first|exact trivial|refine⟨rfl,?_⟩)):AG P L O w0 N ops f (kh X) n av τ H Q:=U5 k v i b V h2 hX h
end
section
variable {P:Program}{o:Oper}{N:Nat}{τ:Nat->AV}{H:Nat->AO}{X:Nat->Bool}
def FA(P:Program)(T k off ft:Nat):Prop:=zk P T k=some (off,ft)/\P.cellsOf ft≠0/\(P.underlying ft).isSome=true
theorem nM{t k off ft:Nat}{x:Operand}{cells:List PV}(hf:FA P t k off ft)(h:(o.op,ev τ x)=(.fieldAddr t x k,.rp cells)):Rd P o τ H X (.rp (cells.drop off)):=by
 simp only[Prod.mk.injEq]at h;exact U7 h.1 hf.1 hf.2.1 hf.2.2 h.2
theorem EI{t k off ft:Nat}{x:Operand}{cells:List PV}(hf:FA P t k off ft)(h:(o.op,ev τ x)=(.fieldAddr t x k,.rp cells)):Pd P o τ H (.rp (cells.drop off)):=by
 simp only[Prod.mk.injEq]at h;exact U8 h.1 hf.1 hf.2.1 hf.2.2 h.2
theorem zB(id:Nat){t T:TypeId}{x y:Operand}{k:Nat}{p:Option Value}{cells l:List AV}(gR:P.cellsOf t=l.length)(hi:(P.info? t).isSome=true)(h:(o.op,o.dst,ev τ x,H id,o0 (ev τ y),Nat.ble (k+l.length) cells.length)=(.store t x y,none,.ptr id 0 k,.box T p cells,some l,true)) :
 St P o N τ H [id] τ (aH H id (.box T p (cells.take k++l++cells.drop (k+l.length)))):=
 Ua (P:=P) (o:=o) (N:=N) (τ:=τ) (H:=H) id (t:=t) (T:=T) (x:=x) (y:=y) (k:=k) (p:=p) (cells:=cells) (l:=l) (congrArg (·.1) h) (congrArg (·.2.1) h) (congrArg (·.2.2.1) h) (congrArg (·.2.2.2.1) h) (congrArg (·.2.2.2.2.1) h) gR hi (Nat.le_of_ble_eq_true (congrArg (·.2.2.2.2.2) h))
theorem zA(id:Nat){T:TypeId}{t:Nat}{zs:List Value}(hz:jg P T=some zs)(h:(o.op,o.dst,Nat.blt t N)=(.alloc T,some t,true)) :
 St P o N τ H [] (aH (fun s=>bq (cK id) (τ s)) t (.ptr id 0 0)) (aH (fun j=>(H j).bq (cK id)) id (.box T none (zs.map fun c=>.p (.v c)))):=
 St.alloc (P:=P) (o:=o) (N:=N) (τ:=τ) (H:=H) id (T:=T) (t:=t) (zs:=zs) (congrArg (·.1) h) (congrArg (·.2.1) h) (Nat.le_of_ble_eq_true (congrArg (·.2.2) h)) hz
theorem zX(id:Nat){T:TypeId}{t:Nat}{x:Operand}{l:List AV}(h:(o.op,o.dst,Nat.blt t N,o0 (ev τ x))=(.box T x,some t,true,some l)) :
 St P o N τ H [] (aH (fun s=>bq (cK id) (τ s)) t (.ptr id 0 0)) (aH (fun j=>(H j).bq (cK id)) id (.box T none (iA (cK id) l))):=
 St.box (P:=P) (o:=o) (N:=N) (τ:=τ) (H:=H) id (T:=T) (t:=t) (x:=x) (l:=l) (congrArg (·.1) h) (congrArg (·.2.1) h) (Nat.le_of_ble_eq_true (congrArg (·.2.2.1) h)) (congrArg (·.2.2.2) h)
theorem zC(r:List (Nat×Nat))(kl pl:List Nat){y:Operand}{l:List Operand}{ts:Array TypeId}{f:FuncId}{fn:Func}{fs mv args:List AV}{ob0 bd:List (Nat×AO)}{x:AV}(hf:P.funcs[f]? = some fn)(hc:GC P f args ob0 x bd)(hp:pins ob0 bd pl)
 (h : (o.op,ux o.dst N,ev τ y,(fn.name == "runtime.NumGoroutine"),fn.body.isNone,kU (sw r) (fs ++ l.map (ev τ) ++ mv)) = (.call { callee := .value y,args := l.toArray,argTypes := ts },true,.fQ (.func f) fs mv,false,false,args)) (h0 : si r H ob0 = zh ob0)
 (hr:(tg (r.map Prod.fst)&&(tg (r.map Prod.snd)&&xg r kl pl))=true:=by decide) :
 St P o N τ H (AB r ob0) (mb (fun t=>bq (kh kl) (τ t)) o.dst (cX r x)) (mg r (kh kl) bd H):=by
 simp only[Prod.mk.injEq]at h
 simp only[Bool.and_eq_true]at hr
 exact St.call r kl pl h.1 (ux.at h.2.1) h.2.2.1 hf h.2.2.2.1 h.2.2.2.2.1 hc hr (si.mP h0) hp h.2.2.2.2.2
theorem bF{y:Operand}{l:List Operand}{ts:Array TypeId}{f:FuncId}{fn:Func}{fs mv args:List AV}{ob0 bd:List (Nat×AO)}{x:AV}(hf:P.funcs[f]? = some fn)(hc:GC P f args ob0 x bd)(hp:pins ob0 bd [0])
 (h : (o.op,ux o.dst N,ev τ y,(fn.name == "runtime.NumGoroutine"),fn.body.isNone,kU (sw [(0,0),(1,1),(2,2),(3,3),(4,4)]) (fs ++ l.map (ev τ) ++ mv)) = (.call { callee := .value y,args := l.toArray,argTypes := ts },true,.fQ (.func f) fs mv,false,false,args)) (h0 : si [(0,0),(1,1),(2,2),(3,3),(4,4)] H ob0 = zh ob0) :
 St P o N τ H (AB [(0,0),(1,1),(2,2),(3,3),(4,4)] ob0) (mb (fun t=>bq (kh [1,2,3,4]) (τ t)) o.dst (cX [(0,0),(1,1),(2,2),(3,3),(4,4)] x)) (mg [(0,0),(1,1),(2,2),(3,3),(4,4)] (kh [1,2,3,4]) bd H):=zC [(0,0),(1,1),(2,2),(3,3),(4,4)] [1,2,3,4] [0] hf hc hp h h0
theorem et{y:Operand}{l:List Operand}{ts:Array TypeId}{f:FuncId}{fn:Func}{fs mv args:List AV}{ob0 bd:List (Nat×AO)}{x:AV}(hf:P.funcs[f]? = some fn)(hc:GC P f args ob0 x bd)(hp:pins ob0 bd [0,1])
 (h : (o.op,ux o.dst N,ev τ y,(fn.name == "runtime.NumGoroutine"),fn.body.isNone,kU (sw [(0,0),(1,1),(2,2),(3,3),(4,4)]) (fs ++ l.map (ev τ) ++ mv)) = (.call { callee := .value y,args := l.toArray,argTypes := ts },true,.fQ (.func f) fs mv,false,false,args)) (h0 : si [(0,0),(1,1),(2,2),(3,3),(4,4)] H ob0 = zh ob0) :
 St P o N τ H (AB [(0,0),(1,1),(2,2),(3,3),(4,4)] ob0) (mb (fun t=>bq (kh [2,3,4]) (τ t)) o.dst (cX [(0,0),(1,1),(2,2),(3,3),(4,4)] x)) (mg [(0,0),(1,1),(2,2),(3,3),(4,4)] (kh [2,3,4]) bd H):=zC [(0,0),(1,1),(2,2),(3,3),(4,4)] [2,3,4] [0,1] hf hc hp h h0
theorem gi(t:Nat){f:FuncId}{fn:Func}{c:Code}{args:List AV}{ob0 bd:List (Nat×AO)}{x:AV}(hf:P.funcs[f]? = some fn)(hb:fn.body=some c)(hn:fn.ntmps=N)(h0:(Nat.ble args.length N,fn.results.toList)=(true,[.tmp t]))
 (h:∀L O w0,AW P L O w0 N c (AC args) (bx ob0) (Ends [.tmp t] x bd)):GC P f args ob0 x bd:=GC.intro hf hb hn (Nat.le_of_ble_eq_true (congrArg (·.1) h0)) (by rw[show fn.results.toList=_ from congrArg (·.2) h0];trivial) h
theorem zL{y:Operand}{l:List Operand}{ts:Array TypeId}{f:FuncId}{fn:Func}{args:List AV}{x:AV}(hf:P.funcs[f]? = some fn)(hc:GC P f args [] x [])
 (h : (o.op,ux o.dst N,ev τ y,(fn.name == "runtime.NumGoroutine"),fn.body.isNone,qs x,qk H (l.map (ev τ))) = (.call { callee := .value y,args := l.toArray,argTypes := ts },true,.fQ (.func f) [] [],false,false,true,args)) : St P o N τ H [] (mb τ o.dst x) H := by
 simp only[Prod.mk.injEq]at h
 exact St.jB h.1 (ux.at h.2.1) h.2.2.1 hf h.2.2.2.1 h.2.2.2.2.1 hc h.2.2.2.2.2.1 h.2.2.2.2.2.2
end
section
variable {P:Program}{L O:Nat->Prop}{w0:World}{N:Nat}{τ:Nat->AV}{H:Nat->AO}{Q:AQ}{ops:Array Oper}{l:List Oper}{F:List Nat}{n f:Nat}{X:Nat->Bool}{av:Array Bool}{c:Code}
theorem bJ(t:Nat)(x:Bool){y:Bool}(ht:τ t=aD y)(e:y=x)(h:AL P L O w0 N ops l (aH τ t (aD x)) H Q):AL P L O w0 N ops l τ H Q:=dC t _ (ht.trans (congrArg aD e)) h
theorem jK(t:Nat)(x:Int){y:Int}(ht:τ t=int y)(e:y=x)(h:AL P L O w0 N ops l (aH τ t (int x)) H Q):AL P L O w0 N ops l τ H Q:=dC t _ (ht.trans (congrArg int e)) h
theorem zl(t:Nat)(x:Bool){y:Bool}(ht:τ t=aD y)(e:y=x)(h:AG P L O w0 N ops f X n av (aH τ t (aD x)) H Q):AG P L O w0 N ops f X n av τ H Q:=Au t _ (ht.trans (congrArg aD e)) h
theorem vO(t:Nat)(x:Int){y:Int}(ht:τ t=int y)(e:y=x)(h:AG P L O w0 N ops f X n av (aH τ t (int x)) H Q):AG P L O w0 N ops f X n av τ H Q:=Au t _ (ht.trans (congrArg int e)) h
theorem nw(t:Nat)(x:Bool){y:Bool}(ht:τ t=aD y)(e:y=x)(h:AF P L O w0 N ops F n av (aH τ t (aD x)) H Q):AF P L O w0 N ops F n av τ H Q:=DR t _ (ht.trans (congrArg aD e)) h
theorem qM(t:Nat)(x:Int){y:Int}(ht:τ t=int y)(e:y=x)(h:AF P L O w0 N ops F n av (aH τ t (int x)) H Q):AF P L O w0 N ops F n av τ H Q:=DR t _ (ht.trans (congrArg int e)) h
theorem qt(t:Nat)(x:Bool){y:Bool}(ht:τ t=aD y)(e:y=x)(h:AW P L O w0 N c (aH τ t (aD x)) H Q):AW P L O w0 N c τ H Q:=U9 t _ (ht.trans (congrArg aD e)) h
end
def er(R:Prop)(N:Nat)(τ:Nat->AV)(ops:Array Oper)(o:Oper)(t:Nat):Prop:=R/\gv τ ops o=some true/\o.dst=some t/\t<N
def nZ(ops:Array Oper)(i:Nat):Oper:=ops.getD i default
theorem nZ.some{ops:Array Oper}{i:Nat}(h:Nat.blt i ops.size=true):ops[i]? = some (nZ ops i):=by
 simp_all[nZ]
section
variable {P:Program}{L O:Nat->Prop}{w0:World}{N:Nat}{τ:Nat->AV}{H:Nat->AO}{Q:AQ}{ops:Array Oper}{o:Oper}{l:List Oper}{F:List Nat}{n f:Nat}{X:Nat->Bool}{av:Array Bool}{x:AV}{t:Nat}
theorem lq(r:er (Rd P o τ H (fun _=>false) x) N τ ops o t)(K:AL P L O w0 N ops l (aH τ t x) H Q):AL P L O w0 N ops (o::l) τ H Q:=AL.rd r.1 r.2.1 r.2.2.1 r.2.2.2 K
theorem lor{o1 o2 o3:Oper}{A B:Bool}{y c z:Operand}{s1 s2 s3:Nat}{T:TypeId}(h:(o1.op,ev τ y,o1.dst,o2.op,o2.dst,o3.op,o3.dst,Nat.blt s1 N,Nat.blt s2 N,Nat.blt s3 N)=(.move y,vB B,some s1,.unOp .not T (.tmp s1),some s2,.pick c z (.tmp s2),some s3,true,true,true))
 (h2:(gv τ ops o1,gv (aH τ s1 (.au [])) ops o2,gv (aH τ s1 (vB B)) ops o2,gv (aH (aH τ s1 (.au [])) s2 (.au [])) ops o3,gv (aH (aH τ s1 (vB B)) s2 (vB (!B))) ops o3)=(some (A==false),some (A==false),some (A==false),some true,some true))
 (h3:(ev (aH (aH τ s1 (.au [])) s2 (.au [])) c,ev (aH (aH τ s1 (vB B)) s2 (vB (!B))) c,ev (aH (aH τ s1 (.au [])) s2 (.au [])) z,ev (aH (aH τ s1 (vB B)) s2 (vB (!B))) z,ev (aH (aH τ s1 (vB B)) s2 (vB (!B))) (.tmp s2))=(vB A,vB A,vB true,vB true,vB (!B)))
 (K:AL P L O w0 N ops l (aH (aH (aH τ s1 .bad) s2 .bad) s3 (vB (A||!B))) H Q):AL P L O w0 N ops (o1::o2::o3::l) τ H Q:=by
 simp only[Prod.mk.injEq]at h h2 h3
 obtain⟨a1,a2,a3,a4,a5,a6,a7,a8,a9,U'⟩:=h
 obtain⟨b1,b2,b3,b4,b5⟩:=h2
 obtain⟨c1,c2,c3,c4,c5⟩:=h3
 have l1:=Nat.le_of_ble_eq_true a8
 have l2:=Nat.le_of_ble_eq_true a9
 have l3:=Nat.le_of_ble_eq_true U'
 have wk:∀(u v:AV) t,aH (aH (aH τ s1 .bad) s2 .bad) s3 (vB (A||!B)) t=.bad\/aH (aH (aH τ s1 .bad) s2 .bad) s3 (vB (A||!B)) t=aH (aH (aH τ s1 u) s2 v) s3 (vB (A||!B)) t:=fun u v t=>by
  unfold aH;grind
 cases A with
 |true=>
  refine HZ b1 a3 l1 (HZ b2 a5 l2 (AL.rd (x:=vB true) (ku a6 ?_) b4 a7 l3 (AL.eJ (wk _ _) (fun _=>.inr rfl) K)))
  rw[c1,c3];rfl
 |false=>
  refine AL.rd (x:=vB B) (H4 (.inl a1) a2) b1 a3 l1 (AL.rd (x:=vB (!B)) (il a4 (pre:=True) ?_ trivial) b3 a5 l2 (AL.rd (x:=vB (!B)) (ku a6 ?_) b5 a7 l3 (AL.eJ (wk _ _) (fun _=>.inr rfl) K)))
  ·show ER .not (aH τ s1 (vB B) s1)=_
   rw[dV];rfl
  rw[c2,c4,c5];rfl
theorem rd{X:Nat->Bool}(hr:Rd P o τ H X x)(h:(gv τ ops o,o.dst,Nat.blt t N)=(some true,some t,true)):er (Rd P o τ H X x) N τ ops o t:=by
 simp only[Prod.mk.injEq]at h;exact⟨hr,h.1,h.2.1,Nat.le_of_ble_eq_true h.2.2⟩
theorem qd(hr:Pd P o τ H x)(h:(gv τ ops o,o.dst,Nat.blt t N)=(some true,some t,true)):er (Pd P o τ H x) N τ ops o t:=by
 simp only[Prod.mk.injEq]at h;exact⟨hr,h.1,h.2.1,Nat.le_of_ble_eq_true h.2.2⟩
def vP(ops:Array Oper)(av:Array Bool)(i:Nat):Bool:=Nat.blt i ops.size&&(Region.ready .any ops av==[i])
theorem vP.at{i:Nat}(h:vP ops av i=true):ops[i]? = some (nZ ops i)/\Region.ready .any ops av=[i]:=by
 unfold vP at h;rw[Bool.and_eq_true]at h;grind[nZ.some]
theorem yq(i:Nat)(r:er (Rd P (nZ ops i) τ H (fun _=>false) x) N τ ops (nZ ops i) t)(K:AG P L O w0 N ops f X n (av.setIfInBounds i true) (aH τ t x) H Q)(hb:vP ops av i=true:=by kernel_rfl):AG P L O w0 N ops f X (n+1) av τ H Q:=
 AG.rd (vP.at hb).1 (vP.at hb).2 r.1 r.2.1 r.2.2.1 r.2.2.2 K
theorem vq(i:Nat)(r:er (Rd P (nZ ops i) τ H (fun _=>false) x) N τ ops (nZ ops i) t)(K:AF P L O w0 N ops F n (av.setIfInBounds i true) (aH τ t x) H Q)(hb:vP ops av i=true:=by kernel_rfl):AF P L O w0 N ops F (n+1) av τ H Q:=
 AF.rd (vP.at hb).1 (vP.at hb).2 r.1 r.2.1 r.2.2.1 r.2.2.2 K
theorem tq[cq:rr Q](i:Nat)(r:er (Rd P (nZ ops i) τ H X x) N τ ops (nZ ops i) t)(K:AG P L O w0 N ops f X n (av.setIfInBounds i true) (aH τ t x) H Q)(hb:(Nat.blt i ops.size&&M4 ops f av i)=true:=by kernel_rfl):AG P L O w0 N ops f X (n+1) av τ H Q:=by
 rw[Bool.and_eq_true]at hb;have hc:=zi hb.2;exact AG.take (nZ.some hb.1) hc.1 hc.2.1 hc.2.2.1 hc.2.2.2.1 hc.2.2.2.2 r.1 r.2.1 r.2.2.1 r.2.2.2 cq.np K
theorem sq[cq:rr Q](i:Nat)(r:er (Rd P (nZ ops i) τ H (fun _=>false) x) N τ ops (nZ ops i) t)(K:AF P L O w0 N ops F n (av.setIfInBounds i true) (aH τ t x) H Q)(hb:(Nat.blt i ops.size&&UY ops F av i)=true:=by kernel_rfl):AF P L O w0 N ops F (n+1) av τ H Q:=by
 rw[Bool.and_eq_true]at hb;have hc:=zi hb.2;exact AF.take (nZ.some hb.1) hc.1 hc.2.1 hc.2.2.1 hc.2.2.2.1 hc.2.2.2.2 r.1 r.2.1 r.2.2.1 r.2.2.2 cq.np K
theorem pq[cq:rr Q](i:Nat)(r:er (Pd P (nZ ops i) τ H x) N τ ops (nZ ops i) t)(K:AF P L O w0 N ops F n (av.setIfInBounds i true) (aH τ t x) H Q)(hb:(Nat.blt i ops.size&&M5 ops av i)=true:=by kernel_rfl):AF P L O w0 N ops F (n+1) av τ H Q:=by
 rw[Bool.and_eq_true]at hb;have hc:=Cw hb.2;exact Va (nZ.some hb.1) hc.1 hc.2.1 hc.2.2.1 hc.2.2.2 r.1 r.2.1 r.2.2.1 r.2.2.2 cq.np K
end
section
variable {P:Program}{o:Oper}{N:Nat}{τ:Nat->AV}{H:Nat->AO}
theorem zS(id:Nat)(rows:List (List PV)){t e:TypeId}{len d sz:Nat}{parts:List (Nat×Operand)}{zs:List Value}{bp:List (Nat×Nat×AV)}(he:iw P t=some (e,sz))(hz:jg P e=some zs)
 (h:(o.op,o.dst,Nat.blt d N,Aw (fun i=>some (i*sz,sz)) τ parts,Ax ((List.replicate len zs).flatten.map fun c=>.p (.v c)) bp,rows.length,Nat.ble (len*sz) 16777216,Nat.blt 0 sz,zs.length)=(.buildSlice t len parts.toArray,some d,true,some bp,some (rows.flatten.map AV.p),len,true,true,sz))
 (vD:∀r∈rows,r.length=sz:=by intro r hr;simp[ah]at hr;subst hr;rfl) :
 St P o N τ H [] (aH (fun s=>bq (cK id) (τ s)) d (.own id)) (aH (fun j=>(H j).bq (cK id)) id (.ai e sz rows)):=by
 simp only[Prod.mk.injEq]at h
 obtain⟨V,h2,h3,h4,h5,h6,h7,h8,h9⟩:=h
 exact BO id V h2 (Nat.le_of_ble_eq_true h3) he hz h9 h4 h5 rfl vD h6 (Nat.le_of_ble_eq_true h7) (Nat.le_of_ble_eq_true h8)
theorem zP(id:Nat){t e:TypeId}{s x:Operand}{d sz:Nat}{zs:List Value}{rows o5:List (List PV)}{pn:Option Value}(he:iw P t=some (e,sz))(hz:jg P e=some zs)(hb:P.bytesOf e<=512)
 (h:(o.op,o.dst,Nat.blt d N,zs.length,Nat.blt 0 sz,ev τ s,H id)=(.call { callee:=.builtin .append,args:=#[s,x],argTypes:=#[t,t] },some d,true,sz,true,.own id,.ai ⟨e,pn⟩ sz rows)) (yV:Src τ H x sz o5) (hm:rows.length+o5.length<=274877906944:=by simp[ah]at *;omega) :
 St P o N τ H [id] (aH (fun s=>bq (cK id) (τ s)) d (.own id)) (aH (fun j=>(H j).bq (cK id)) id (.ai e sz (rows++o5))):=by
 simp only[Prod.mk.injEq]at h
 obtain⟨V,h2,h3,h4,h5,h6,h7⟩:=h
 exact St.gJ id V h2 (Nat.le_of_ble_eq_true h3) he hz h4 (Nat.le_of_ble_eq_true h5) h6 h7 yV (by grind[maxLen]) (Nat.le_trans (Nat.mul_le_mul_left _ hb) x_2)
theorem zQ(id:Nat)(pl:List PV){t:TypeId}{e:ga}{x y:Operand}{i k sz:Nat}{rows:List (List PV)}{row:List PV}(gR:P.cellsOf t=pl.length)(hi:(P.info? t).isSome=true)
 (h:(o.op,o.dst,ev τ x,H id,o0 (ev τ y),Nat.ble (k+pl.length) sz)=(.store t x y,none,.ptr id i k,.ai e sz rows,some (pl.map AV.p),true)) (um:rows[i]? = some row) :
 St P o N τ H [id] τ (aH H id (.ai e sz (rows.set i (row.take k++pl++row.drop (k+pl.length))))):=by
 simp only[Prod.mk.injEq]at h
 obtain⟨V,h2,h3,h4,h5,h6⟩:=h
 exact Ub id V h2 h3 h4 um h5 gR hi (Nat.le_of_ble_eq_true h6)
variable {ops:Array Oper}{X:Nat->Bool}{t:Nat}
theorem rj(i1:Nat){T e:TypeId}{e':ga}{y y2:Operand}{k0:IntKind}{sz id:Nat}{n1:Int}{rows:List (List PV)}(f0:iw P T=some (e,sz))(h:(o.op,ev τ y,H id,ev τ y2,n1,gv τ ops o,o.dst,Nat.blt t N)=(.indexAddr T y y2,.own id,.ai e' sz rows,.p (.v (.int k0 n1)),(i1:Int),some true,some t,true))(hi:i1<rows.length):er (Rd P o τ H X (.ptr id i1 0)) N τ ops o t:=by
 simp only[Prod.mk.injEq]at h;obtain⟨V,h2,h3,h4,h5,h6,h7,h8⟩:=h;exact⟨pu V f0 h2 h3 h4 h5 hi,h6,h7,Nat.le_of_ble_eq_true h8⟩
end
section
variable {P:Program}{L O:Nat->Prop}{w0:World}{N:Nat}{τ τ':Nat->AV}{H H':Nat->AO}{Q:AQ}{ops:Array Oper}{o:Oper}{F:List Nat}{n f:Nat}{X:Nat->Bool}{av:Array Bool}
theorem v1(i:Nat){E:List Nat}(h0:(ops[i]?,gv τ ops o)=(some o,some true))(hs:St P o N τ H E τ' H')(hF:F.contains i=true\/E=[])(h:AF P L O w0 N ops F n (av.setIfInBounds i true) τ' H' Q):d9 P L O w0 N ops F n av i τ H Q:=by
 simp only[Prod.mk.injEq]at h0;exact d9.st h0.1 hs hF h0.2 h
theorem yl{E:List Nat}(h0:(ops[f]?,gv τ ops o)=(some o,some true))(hs:St P o N τ H E τ' H')(h:Q .normal τ' H')(hr:(Region.ready .any ops av==[f]&&Region.ready .any ops (av.setIfInBounds f true)==[])=true:=by kernel_rfl):AG P L O w0 N ops f X (n+1) av τ H Q:=by
 simp only[Prod.mk.injEq]at h0;simp only[Bool.and_eq_true,beq_iff_eq]at hr;exact AG.last h0.1 hr.1 hr.2 hs h0.2 h
variable {id:Nat}{l l2:List Oper}{y:Code}
theorem Y{K:(Nat->AV)->(Nat->AO)->Prop}(h:K τ H):AL P L O w0 N ops [] τ H (AQ.andThen K Q):=AL.nil h
theorem sL(h:AL P L O w0 N l2.toArray l2 τ H (Q.andThen fun τ H=>AW P L O w0 N y τ H Q)):AW P L O w0 N (.seq (.region id l2.toArray false) y) τ H Q:=AW.seq (M3 h)
theorem gA(h:AL P L O w0 N l2.toArray l2 τ H (Q.andThen fun τ H=>AW P L O w0 N y τ H Q)):AQ.andThen (fun τ H=>AW P L O w0 N (.seq (.region id l2.toArray false) y) τ H Q) Q .normal τ H:=sL (id:=id) h
theorem nA(h:AL P L O w0 N l2.toArray l2 τ H (Q.andThen fun τ H=>AW P L O w0 N y τ H Q)):AL P L O w0 N ops [] τ H (AQ.andThen (fun τ H=>AW P L O w0 N (.seq (.region id l2.toArray false) y) τ H Q) Q):=AL.nil (sL (id:=id) h)
end
theorem H5{k:List Nat}{v:List AV}:∀ {l:List (Nat×AV)},nY (l++k.zip v)=Cu l (eh .bad k v)
 |[]=>H3
 |(s,x)::l=>funext fun t=>by simp only[List.cons_append,nY,Cu,H5 (l:=l)]
theorem H6{k:List Nat}{v:List AO}:∀ {l:List (Nat×AO)},bx (l++k.zip v)=Cv l (eh .gone k v)
 |[]=>EQ
 |(s,x)::l=>funext fun t=>by simp only[List.cons_append,bx,Cv,H6 (l:=l)]
section
variable {P:Program}{L O:Nat->Prop}{w0:World}{N:Nat}{τ:Nat->AV}{H:Nat->AO}{Q:AQ}
theorem aW(ks os:List Nat){v:List AV}{b:List AO}{D:Type}(T:D->List (Nat×AV))(B:D->List (Nat×AO))(I:D->Prop)(μ:D->Nat){c:Code}(d:D)(h0:I d)(V:iN (T d) τ)(h2:fo (B d) H)
 (round:∀d,I d->AW P L O w0 N c (Cu (T d) (eh .bad ks v)) (Cv (B d) (eh .gone os b)) (Q.andThen fun τ' H'=>∃d',I d'/\μ d'<μ d/\iN (T d') τ'/\fo (B d') H'/\ge τ' ks=v/\ge H' os=b)) (h3:ge τ ks=v:=by exact nz) (h4:ge H os=b:=by exact nz):AW P L O w0 N (.loop c) τ H Q:=
 Vb (ks.zip v) (os.zip b) T B I μ d h0 V h2 (AR h3) (AS h4) fun d hI=>by
  rw[H5,H6];exact(round d hI).mono fun e τ' H' q=>by
   cases e<;>first|exact q|(obtain⟨d',q1,q2,q3,q4,q5,q6⟩:=q;exact⟨d',q1,q2,q3,q4,AR q5,AS q6⟩)
theorem aJ(ks os:List Nat){v:List AV}{b:List AO}{D:Type}(T:D->List (Nat×AV))(B:D->List (Nat×AO))(I:D->Prop){x y:Code}
 (h:AW P L O w0 N x τ H (Q.andThen fun τ H=>∃d,I d/\iN (T d) τ/\fo (B d) H/\ge τ ks=v/\ge H os=b)) (h2:∀d,I d->AW P L O w0 N y (Cu (T d) (eh .bad ks v)) (Cv (B d) (eh .gone os b)) Q) (h3:ge τ ks=v:=by exact nz) (h4:ge H os=b:=by exact nz):AW P L O w0 N (.seq x y) τ H Q:=
 Vc (ks.zip v) (os.zip b) T B I (AR h3) (AS h4) (h.mono fun e τ' H' q=>by
  cases e<;>first|exact q|(obtain⟨d',q1,q3,q4,q5,q6⟩:=q;exact⟨d',q1,q3,q4,AR q5,AS q6⟩)) fun d hI=>by
  rw[H5,H6];exact h2 d hI
end
theorem az{τ:Nat->AV}{H:Nat->AO}{rs:List mQ}{b c:Bool}{bd:List (Nat×AO)}(h2:fo bd H)(h:b=c)(V:th τ H rs=some (aD b):=by rfl):Ends rs (aD c) bd .ret τ H:=⟨by rw[V,h],h2⟩
theorem alX{P:Program}{L O:Nat->Prop}{w0:World}{N:Nat}{ops:Array Oper}{o:Oper}{os:List Oper}{τ:Nat->AV}{H:Nat->AO}{Q:AQ}(r:List (Nat×Nat))(kl pl:List Nat){y:Operand}{l:List Operand}{ts:Array TypeId}{f:FuncId}{fn:Func}{fs mv args:List AV}{ob0:List (Nat×AO)}{R:AV->List (Nat×AO)->Prop}(hf:P.funcs[f]? = some fn)(hc:GX P f args ob0 R)(h0:mP r H ob0)(hp:∀x bd,R x bd->pins ob0 bd pl)
 (V:(o.op,ev τ y,kU (sw r) (fs++l.map (ev τ)++mv))=(.call { callee:=.value y,args:=l.toArray,argTypes:=ts },.fQ (.func f) fs mv,args))
 (h:∀x bd,R x bd->AL P L O w0 N ops os (mb (fun t=>bq (kh kl) (τ t)) o.dst (cX r x)) (mg r (kh kl) bd H) Q)
 (ht : ∀ s,o.dst = some s -> s < N := by intro s hs;cases hs;decide) (vG : (fn.name == "runtime.NumGoroutine") = false := by rfl) (nX : fn.body.isNone = false := by rfl) (hr : tg (r.map Prod.fst) = true /\ tg (r.map Prod.snd) = true /\ xg r kl pl = true := by exact ⟨rfl,rfl,rfl⟩) (hg : gv τ ops o = some true := by rfl) : AL P L O w0 N ops (o :: os) τ H Q :=
 A1 (Un r kl pl (Prod.mk.inj V).1 ht (Prod.mk.inj (Prod.mk.inj V).2).1 hf vG nX hc hr h0 hp (Prod.mk.inj (Prod.mk.inj V).2).2) hg (by rintro _ _ ⟨x,ob,hR,rfl,rfl⟩;exact h x ob hR)
abbrev Hm(o:Oper)(N:Nat)(τ:Nat->AV)(H:Nat->AO)(X:Nat->Bool)(ops:Array Oper)(t:Nat)(x:AV)(y:Operand):Prop:=(o.op,ev τ y,gv τ ops o,o.dst,Nat.blt t N)=(.move y,x,some true,some t,true)
abbrev Ha(o:Oper)(N:Nat)(τ:Nat->AV)(H:Nat->AO)(X:Nat->Bool)(ops:Array Oper)(t:Nat)(x:AV)(y:Operand):Prop:=(o.op,ev τ y,gv τ ops o,o.dst,Nat.blt t N)=(.assign y,x,some true,some t,true)
abbrev Hb(o:Oper)(N:Nat)(τ:Nat->AV)(H:Nat->AO)(X:Nat->Bool)(ops:Array Oper)(t:Nat)(x:AV)(op:BinOp)(T yT:TypeId)(y y2:Operand)(A:IntKind):Prop:=(o.op,AU op (ev τ y) (ev τ y2),gv τ ops o,o.dst,Nat.blt t N)=(.binOp op T y y2 yT,some ((A=A),x),some true,some t,true)
abbrev Hk(o:Oper)(N:Nat)(τ:Nat->AV)(H:Nat->AO)(X:Nat->Bool)(ops:Array Oper)(t:Nat)(x:AV)(c y y2:Operand):Prop:=(o.op,H7 (ev τ c) (ev τ y) (ev τ y2),gv τ ops o,o.dst,Nat.blt t N)=(.pick c y y2,some x,some true,some t,true)
abbrev Hu(o:Oper)(N:Nat)(τ:Nat->AV)(H:Nat->AO)(X:Nat->Bool)(ops:Array Oper)(t:Nat)(x:AV)(vQ:UnOp)(T:TypeId)(y:Operand):Prop:=(o.op,ER vQ (ev τ y),gv τ ops o,o.dst,Nat.blt t N)=(.unOp vQ T y,some (True,x),some true,some t,true)
abbrev Hx(o:Oper)(N:Nat)(τ:Nat->AV)(H:Nat->AO)(X:Nat->Bool)(ops:Array Oper)(t:Nat)(x:AV)(y:Operand)(k:Nat):Prop:=(o.op,H8 (ev τ y) k,gv τ ops o,o.dst,Nat.blt t N)=(.extract y k,some x,some true,some t,true)
abbrev Hn(o:Oper)(N:Nat)(τ:Nat->AV)(H:Nat->AO)(X:Nat->Bool)(ops:Array Oper)(t:Nat)(x:AV)(y:Operand)(T:TypeId):Prop:=(o.op,H9 H (ev τ y),gv τ ops o,o.dst,Nat.blt t N)=(.call { callee:=.builtin .len,args:=#[y],argTypes:=#[T] },some x,some true,some t,true)
abbrev Ho(o:Oper)(N:Nat)(τ:Nat->AV)(H:Nat->AO)(X:Nat->Bool)(ops:Array Oper)(t:Nat)(x:AV)(y:Operand)(T T2:TypeId)(n0:Option Nat)(id k:Nat)(p:Option Value)(cells:List AV):Prop:=(o.op,ev τ y,H id,X id,ur n0 (cells.drop k),gv τ ops o,o.dst,Nat.blt t N)=(.load T y,.ptr id 0 k,.box T2 p cells,false,some x,some true,some t,true)
abbrev Hr(o:Oper)(N:Nat)(τ:Nat->AV)(H:Nat->AO)(X:Nat->Bool)(ops:Array Oper)(t:Nat)(x:AV)(y:Operand)(T:TypeId)(n0:Option Nat)(vR:List PV):Prop:=(o.op,ev τ y,ur n0 (vR.map AV.p),gv τ ops o,o.dst,Nat.blt t N)=(.load T y,.rp vR,some x,some true,some t,true)
abbrev Hh(o:Oper)(N:Nat)(τ:Nat->AV)(H:Nat->AO)(X:Nat->Bool)(ops:Array Oper)(t:Nat)(x:AV)(op:BinOp)(T yT:TypeId)(y y2:Operand)(pre:Prop):Prop:=(o.op,AU op (ev τ y) (ev τ y2),gv τ ops o,o.dst,Nat.blt t N)=(.binOp op T y y2 yT,some (pre,x),some true,some t,true)
abbrev Hg(o:Oper)(N:Nat)(τ:Nat->AV)(H:Nat->AO)(X:Nat->Bool)(ops:Array Oper)(t:Nat)(x:AV)(op:BinOp)(T yT:TypeId)(y y2:Operand)(A:IntKind)(n1:Int):Prop:=(o.op,AU op (ev τ y) (ev τ y2),gv τ ops o,o.dst,Nat.blt t N)=(.binOp op T y y2 yT,some ((A=A/\Fits .i64 n1),x),some true,some t,true)
abbrev Hf(o:Oper)(N:Nat)(τ:Nat->AV)(H:Nat->AO)(X:Nat->Bool)(ops:Array Oper)(t:Nat)(x:AV)(k1:Nat)(T k off ft:Nat)(y:Operand)(id i1 j:Nat):Prop:=(o.op,ev τ y,(H id).here,j+off,gv τ ops o,o.dst,Nat.blt t N)=(.fieldAddr T y k,.ptr id i1 j,true,k1,some true,some t,true)
abbrev Hc(o:Oper)(N:Nat)(τ:Nat->AV)(H:Nat->AO)(X:Nat->Bool)(ops:Array Oper)(t:Nat)(x:AV)(y:Operand)(id i1 k1:Nat):Prop:=(o.op,ev τ y,(H id).here,gv τ ops o,o.dst,Nat.blt t N)=(.nilCheck y,.ptr id i1 k1,true,some true,some t,true)
abbrev Hi(o:Oper)(N:Nat)(τ:Nat->AV)(H:Nat->AO)(X:Nat->Bool)(ops:Array Oper)(t:Nat)(x:AV)(i1:Nat)(T e e2 sz:Nat)(y y2:Operand)(k0:IntKind)(n1:Int)(rows:List (List PV))(row:List PV):Prop:=(o.op,ev τ y,ev τ y2,n1,gv τ ops o,o.dst,Nat.blt t N)=(.indexAddr T y y2,.p (.ab e2 sz rows),.p (.v (.int k0 n1)),(i1:Int),some true,some t,true)
section
variable {P:Program}{o:Oper}{N:Nat}{τ:Nat->AV}{H:Nat->AO}{X:Nat->Bool}{ops:Array Oper}{y y2 c:Operand}{op:BinOp}{vQ:UnOp}{T T2 yT e e2 ft:TypeId}{A k0:IntKind}{n0:Option Nat}{id k t off i1 j sz k1:Nat}{p:Option Value}{cells:List AV}{vR:List PV}{pre:Prop}{n1:Int}{rows:List (List PV)}{row:List PV}{xi:Int}{xb:Bool}{xv:Value}{xo xp xq xt:Nat}{xl:List (List PV)}{xr:List PV}
theorem sj(x:AV)(h:Hm o N τ H X ops t x y):er (Rd P o τ H X x) N τ ops o t:=by
 have ⟨q0,h⟩:=Prod.mk.inj h;have ⟨q1,h⟩:=Prod.mk.inj h;have ⟨q2,h⟩:=Prod.mk.inj h;have ⟨q3,q4⟩:=Prod.mk.inj h;exact⟨H4 (.inl q0) q1,q2,q3,Nat.le_of_ble_eq_true q4⟩
theorem dW(h:Hm o N τ H X ops t (U k0 xi) y):er (Rd P o τ H X (U k0 xi)) N τ ops o t:=sj (U k0 xi) h
theorem dx(h:Hm o N τ H X ops t (vB xb) y):er (Rd P o τ H X (vB xb)) N τ ops o t:=sj (vB xb) h
theorem cF(h:Hm o N τ H X ops t (vB true) y):er (Rd P o τ H X (vB true)) N τ ops o t:=sj (vB true) h
theorem rG(h:Hm o N τ H X ops t (vB false) y):er (Rd P o τ H X (vB false)) N τ ops o t:=sj (vB false) h
theorem rmV(h:Hm o N τ H X ops t (vV xv) y):er (Rd P o τ H X (vV xv)) N τ ops o t:=sj (vV xv) h
theorem qo(h:Hm o N τ H X ops t (.own xo) y):er (Rd P o τ H X (.own xo)) N τ ops o t:=sj (.own xo) h
theorem cG(h:Hm o N τ H X ops t (.ptr xo xp xq) y):er (Rd P o τ H X (.ptr xo xp xq)) N τ ops o t:=sj (.ptr xo xp xq) h
theorem ng(h:Hm o N τ H X ops t (vL xt xo xl) y):er (Rd P o τ H X (vL xt xo xl)) N τ ops o t:=sj (vL xt xo xl) h
theorem gL(x:AV)(h:Hm o N τ H (fun _=>false) ops t x y):er (Pd P o τ H x) N τ ops o t:=by
 have ⟨q0,h⟩:=Prod.mk.inj h;have ⟨q1,h⟩:=Prod.mk.inj h;have ⟨q2,h⟩:=Prod.mk.inj h;have ⟨q3,q4⟩:=Prod.mk.inj h;exact⟨Vd (.inl q0) q1,q2,q3,Nat.le_of_ble_eq_true q4⟩
theorem dJ(h:Hm o N τ H (fun _=>false) ops t (.ptr xo xp xq) y):er (Pd P o τ H (.ptr xo xp xq)) N τ ops o t:=gL (.ptr xo xp xq) h
theorem iz(h:Hm o N τ H (fun _=>false) ops t (vL xt xo xl) y):er (Pd P o τ H (vL xt xo xl)) N τ ops o t:=gL (vL xt xo xl) h
theorem vS(x:AV)(h:Ha o N τ H X ops t x y):er (Rd P o τ H X x) N τ ops o t:=by
 have ⟨q0,h⟩:=Prod.mk.inj h;have ⟨q1,h⟩:=Prod.mk.inj h;have ⟨q2,h⟩:=Prod.mk.inj h;have ⟨q3,q4⟩:=Prod.mk.inj h;exact⟨H4 (.inr q0) q1,q2,q3,Nat.le_of_ble_eq_true q4⟩
theorem j8(h:Ha o N τ H X ops t (U k0 xi) y):er (Rd P o τ H X (U k0 xi)) N τ ops o t:=vS (U k0 xi) h
theorem fk(h:Ha o N τ H X ops t (vB xb) y):er (Rd P o τ H X (vB xb)) N τ ops o t:=vS (vB xb) h
theorem Av(h:Ha o N τ H X ops t (vB true) y):er (Rd P o τ H X (vB true)) N τ ops o t:=vS (vB true) h
theorem oA(h:Ha o N τ H X ops t (vB false) y):er (Rd P o τ H X (vB false)) N τ ops o t:=vS (vB false) h
theorem Ve(h:Ha o N τ H X ops t (vV xv) y):er (Rd P o τ H X (vV xv)) N τ ops o t:=vS (vV xv) h
theorem tF(h:Ha o N τ H X ops t (.own xo) y):er (Rd P o τ H X (.own xo)) N τ ops o t:=vS (.own xo) h
theorem Vf(h:Ha o N τ H X ops t (.ptr xo xp xq) y):er (Rd P o τ H X (.ptr xo xp xq)) N τ ops o t:=vS (.ptr xo xp xq) h
theorem Cx(h:Ha o N τ H X ops t (vL xt xo xl) y):er (Rd P o τ H X (vL xt xo xl)) N τ ops o t:=vS (vL xt xo xl) h
theorem dt(h:Hb o N τ H X ops t (vB xb) op T yT y y2 A):er (Rd P o τ H X (vB xb)) N τ ops o t:=by
 have ⟨q0,h⟩:=Prod.mk.inj h;have ⟨q1,h⟩:=Prod.mk.inj h;have ⟨q2,h⟩:=Prod.mk.inj h;have ⟨q3,q4⟩:=Prod.mk.inj h;exact⟨pY q0 q1 rfl,q2,q3,Nat.le_of_ble_eq_true q4⟩
theorem Ia(x:AV)(h:Hk o N τ H X ops t x c y y2):er (Rd P o τ H X x) N τ ops o t:=by
 have ⟨q0,h⟩:=Prod.mk.inj h;have ⟨q1,h⟩:=Prod.mk.inj h;have ⟨q2,h⟩:=Prod.mk.inj h;have ⟨q3,q4⟩:=Prod.mk.inj h;exact⟨ku q0 q1,q2,q3,Nat.le_of_ble_eq_true q4⟩
theorem cv(h:Hk o N τ H X ops t (vB xb) c y y2):er (Rd P o τ H X (vB xb)) N τ ops o t:=Ia (vB xb) h
theorem bA(h:Hk o N τ H X ops t (vB true) c y y2):er (Rd P o τ H X (vB true)) N τ ops o t:=Ia (vB true) h
theorem kK(h:Hk o N τ H X ops t (vB false) c y y2):er (Rd P o τ H X (vB false)) N τ ops o t:=Ia (vB false) h
theorem gQ(h:Hu o N τ H X ops t (vB xb) vQ T y):er (Rd P o τ H X (vB xb)) N τ ops o t:=by
 have ⟨q0,h⟩:=Prod.mk.inj h;have ⟨q1,h⟩:=Prod.mk.inj h;have ⟨q2,h⟩:=Prod.mk.inj h;have ⟨q3,q4⟩:=Prod.mk.inj h;exact⟨il q0 q1 trivial,q2,q3,Nat.le_of_ble_eq_true q4⟩
theorem M6(h:Hu o N τ H X ops t (vB true) vQ T y):er (Rd P o τ H X (vB true)) N τ ops o t:=by
 have ⟨q0,h⟩:=Prod.mk.inj h;have ⟨q1,h⟩:=Prod.mk.inj h;have ⟨q2,h⟩:=Prod.mk.inj h;have ⟨q3,q4⟩:=Prod.mk.inj h;exact⟨il q0 q1 trivial,q2,q3,Nat.le_of_ble_eq_true q4⟩
theorem tJ(h:Hu o N τ H X ops t (vB false) vQ T y):er (Rd P o τ H X (vB false)) N τ ops o t:=by
 have ⟨q0,h⟩:=Prod.mk.inj h;have ⟨q1,h⟩:=Prod.mk.inj h;have ⟨q2,h⟩:=Prod.mk.inj h;have ⟨q3,q4⟩:=Prod.mk.inj h;exact⟨il q0 q1 trivial,q2,q3,Nat.le_of_ble_eq_true q4⟩
theorem AX(x:AV)(h:Hx o N τ H X ops t x y k):er (Rd P o τ H X x) N τ ops o t:=by
 have ⟨q0,h⟩:=Prod.mk.inj h;have ⟨q1,h⟩:=Prod.mk.inj h;have ⟨q2,h⟩:=Prod.mk.inj h;have ⟨q3,q4⟩:=Prod.mk.inj h;exact⟨Vg q0 q1,q2,q3,Nat.le_of_ble_eq_true q4⟩
theorem Cy(h:Hx o N τ H X ops t (U k0 xi) y k):er (Rd P o τ H X (U k0 xi)) N τ ops o t:=AX (U k0 xi) h
theorem Cz(h:Hx o N τ H X ops t (vB xb) y k):er (Rd P o τ H X (vB xb)) N τ ops o t:=AX (vB xb) h
theorem Vh(h:Hx o N τ H X ops t (vV xv) y k):er (Rd P o τ H X (vV xv)) N τ ops o t:=AX (vV xv) h
theorem Vi(h:Hx o N τ H X ops t (.own xo) y k):er (Rd P o τ H X (.own xo)) N τ ops o t:=AX (.own xo) h
theorem Vj(h:Hx o N τ H X ops t (vL xt xo xl) y k):er (Rd P o τ H X (vL xt xo xl)) N τ ops o t:=AX (vL xt xo xl) h
theorem qxX(x:AV)(h:Hx o N τ H (fun _=>false) ops t x y k):er (Pd P o τ H x) N τ ops o t:=by
 have ⟨q0,h⟩:=Prod.mk.inj h;have ⟨q1,h⟩:=Prod.mk.inj h;have ⟨q2,h⟩:=Prod.mk.inj h;have ⟨q3,q4⟩:=Prod.mk.inj h;exact⟨akx q0 q1,q2,q3,Nat.le_of_ble_eq_true q4⟩
theorem qxI(h:Hx o N τ H (fun _=>false) ops t (U k0 xi) y k):er (Pd P o τ H (U k0 xi)) N τ ops o t:=qxX (U k0 xi) h
theorem le(f0:isSlice P T=true)(h:Hn o N τ H X ops t (U k0 xi) y T):er (Rd P o τ H X (U k0 xi)) N τ ops o t:=by
 have ⟨q0,h⟩:=Prod.mk.inj h;have ⟨q1,h⟩:=Prod.mk.inj h;have ⟨q2,h⟩:=Prod.mk.inj h;have ⟨q3,q4⟩:=Prod.mk.inj h;exact⟨x7 q0 f0 q1,q2,q3,Nat.le_of_ble_eq_true q4⟩
theorem dw(x:AV)(f0:dq P T=some n0)(h:Ho o N τ H X ops t x y T T2 n0 id k p cells):er (Rd P o τ H X x) N τ ops o t:=by
 have ⟨q0,h⟩:=Prod.mk.inj h;have ⟨q1,h⟩:=Prod.mk.inj h;have ⟨q2,h⟩:=Prod.mk.inj h;have ⟨q3,h⟩:=Prod.mk.inj h;have ⟨q4,h⟩:=Prod.mk.inj h;have ⟨q5,h⟩:=Prod.mk.inj h;have ⟨q6,q7⟩:=Prod.mk.inj h;exact⟨sC q0 f0 q1 q2 q3 q4,q5,q6,Nat.le_of_ble_eq_true q7⟩
theorem aZ(f0:dq P T=some n0)(h:Ho o N τ H X ops t (U k0 xi) y T T2 n0 id k p cells):er (Rd P o τ H X (U k0 xi)) N τ ops o t:=dw (U k0 xi) f0 h
theorem uY(f0:dq P T=some n0)(h:Ho o N τ H X ops t (vB xb) y T T2 n0 id k p cells):er (Rd P o τ H X (vB xb)) N τ ops o t:=dw (vB xb) f0 h
theorem gC(f0:dq P T=some n0)(h:Ho o N τ H X ops t (.own xo) y T T2 n0 id k p cells):er (Rd P o τ H X (.own xo)) N τ ops o t:=dw (.own xo) f0 h
theorem jj(f0:dq P T=some n0)(h:Ho o N τ H X ops t (vL xt xo xl) y T T2 n0 id k p cells):er (Rd P o τ H X (vL xt xo xl)) N τ ops o t:=dw (vL xt xo xl) f0 h
theorem gm(x:AV)(f0:dq P T=some n0)(h:Hr o N τ H X ops t x y T n0 vR):er (Rd P o τ H X x) N τ ops o t:=by
 have ⟨q0,h⟩:=Prod.mk.inj h;have ⟨q1,h⟩:=Prod.mk.inj h;have ⟨q2,h⟩:=Prod.mk.inj h;have ⟨q3,h⟩:=Prod.mk.inj h;have ⟨q4,q5⟩:=Prod.mk.inj h;exact⟨Vk q0 f0 q1 q2,q3,q4,Nat.le_of_ble_eq_true q5⟩
theorem qU(f0:dq P T=some n0)(h:Hr o N τ H X ops t (U k0 xi) y T n0 vR):er (Rd P o τ H X (U k0 xi)) N τ ops o t:=gm (U k0 xi) f0 h
theorem Vl(f0:dq P T=some n0)(h:Hr o N τ H X ops t (vL xt xo xl) y T n0 vR):er (Rd P o τ H X (vL xt xo xl)) N τ ops o t:=gm (vL xt xo xl) f0 h
theorem Vm(x:AV)(h:Hh o N τ H X ops t x op T yT y y2 pre)(hp:pre):er (Rd P o τ H X x) N τ ops o t:=by
 have ⟨q0,h⟩:=Prod.mk.inj h;have ⟨q1,h⟩:=Prod.mk.inj h;have ⟨q2,h⟩:=Prod.mk.inj h;have ⟨q3,q4⟩:=Prod.mk.inj h;exact⟨pY q0 q1 hp,q2,q3,Nat.le_of_ble_eq_true q4⟩
theorem iC(h:Hh o N τ H X ops t (U k0 xi) op T yT y y2 pre)(hp:pre):er (Rd P o τ H X (U k0 xi)) N τ ops o t:=Vm (U k0 xi) h hp
theorem qV(h:Hg o N τ H X ops t (U k0 xi) op T yT y y2 A n1)(hp:i64 n1):er (Rd P o τ H X (U k0 xi)) N τ ops o t:=by
 have ⟨q0,h⟩:=Prod.mk.inj h;have ⟨q1,h⟩:=Prod.mk.inj h;have ⟨q2,h⟩:=Prod.mk.inj h;have ⟨q3,q4⟩:=Prod.mk.inj h;exact⟨pY q0 q1 ⟨rfl,ce hp⟩,q2,q3,Nat.le_of_ble_eq_true q4⟩
theorem rf(k1:Nat)(f0:FA P T k off ft)(h:Hf o N τ H X ops t (.ptr id i1 k1) k1 T k off ft y id i1 j):er (Rd P o τ H X (.ptr id i1 k1)) N τ ops o t:=by
 have ⟨q0,h⟩:=Prod.mk.inj h;have ⟨q1,h⟩:=Prod.mk.inj h;have ⟨q2,h⟩:=Prod.mk.inj h;have ⟨q3,h⟩:=Prod.mk.inj h;have ⟨q4,h⟩:=Prod.mk.inj h;have ⟨q5,q6⟩:=Prod.mk.inj h;subst q3;exact⟨Vn q0 f0.1 f0.2.1 f0.2.2 q1 q2,q4,q5,Nat.le_of_ble_eq_true q6⟩
theorem qf(k1:Nat)(f0:FA P T k off ft)(h:Hf o N τ H (fun _=>false) ops t (.ptr id i1 k1) k1 T k off ft y id i1 j):er (Pd P o τ H (.ptr id i1 k1)) N τ ops o t:=by
 have ⟨q0,h⟩:=Prod.mk.inj h;have ⟨q1,h⟩:=Prod.mk.inj h;have ⟨q2,h⟩:=Prod.mk.inj h;have ⟨q3,h⟩:=Prod.mk.inj h;have ⟨q4,h⟩:=Prod.mk.inj h;have ⟨q5,q6⟩:=Prod.mk.inj h;subst q3;exact⟨Vo q0 f0.1 f0.2.1 f0.2.2 q1 q2,q4,q5,Nat.le_of_ble_eq_true q6⟩
theorem rc(h:Hc o N τ H X ops t (.ptr id i1 k1) y id i1 k1):er (Rd P o τ H X (.ptr id i1 k1)) N τ ops o t:=by
 have ⟨q0,h⟩:=Prod.mk.inj h;have ⟨q1,h⟩:=Prod.mk.inj h;have ⟨q2,h⟩:=Prod.mk.inj h;have ⟨q3,h⟩:=Prod.mk.inj h;have ⟨q4,q5⟩:=Prod.mk.inj h;exact⟨Vp q0 q1 q2,q3,q4,Nat.le_of_ble_eq_true q5⟩
theorem qc(h:Hc o N τ H (fun _=>false) ops t (.ptr id i1 k1) y id i1 k1):er (Pd P o τ H (.ptr id i1 k1)) N τ ops o t:=by
 have ⟨q0,h⟩:=Prod.mk.inj h;have ⟨q1,h⟩:=Prod.mk.inj h;have ⟨q2,h⟩:=Prod.mk.inj h;have ⟨q3,h⟩:=Prod.mk.inj h;have ⟨q4,q5⟩:=Prod.mk.inj h;exact⟨Vq q0 q1 q2,q3,q4,Nat.le_of_ble_eq_true q5⟩
theorem ri(i1:Nat)(f0:iw P T=some (e,sz))(h:Hi o N τ H X ops t (.rp row) i1 T e e2 sz y y2 k0 n1 rows row)(hr:rows[i1]? = some row):er (Rd P o τ H X (.rp row)) N τ ops o t:=by
 have ⟨q0,h⟩:=Prod.mk.inj h;have ⟨q1,h⟩:=Prod.mk.inj h;have ⟨q2,h⟩:=Prod.mk.inj h;have ⟨q3,h⟩:=Prod.mk.inj h;have ⟨q4,h⟩:=Prod.mk.inj h;have ⟨q5,q6⟩:=Prod.mk.inj h;exact⟨yt q0 f0 q1 q2 q3 hr,q4,q5,Nat.le_of_ble_eq_true q6⟩
variable {L O:Nat->Prop}{w0:World}{Q:AQ}{l:List Oper}
theorem ae(h:Hm o N τ H (fun _=>false) ops t (U k0 xi) y)(K:AL P L O w0 N ops l (aH τ t (U k0 xi)) H Q):AL P L O w0 N ops (o::l) τ H Q:=lq (dW h) K
theorem aQ(h:Hm o N τ H (fun _=>false) ops t (vB xb) y)(K:AL P L O w0 N ops l (aH τ t (vB xb)) H Q):AL P L O w0 N ops (o::l) τ H Q:=lq (dx h) K
theorem bM(h:Hm o N τ H (fun _=>false) ops t (vB true) y)(K:AL P L O w0 N ops l (aH τ t (vB true)) H Q):AL P L O w0 N ops (o::l) τ H Q:=lq (cF h) K
theorem dm(h:Hm o N τ H (fun _=>false) ops t (vB false) y)(K:AL P L O w0 N ops l (aH τ t (vB false)) H Q):AL P L O w0 N ops (o::l) τ H Q:=lq (rG h) K
theorem lmV(h:Hm o N τ H (fun _=>false) ops t (vV xv) y)(K:AL P L O w0 N ops l (aH τ t (vV xv)) H Q):AL P L O w0 N ops (o::l) τ H Q:=lq (rmV h) K
theorem bW(h:Hm o N τ H (fun _=>false) ops t (.own xo) y)(K:AL P L O w0 N ops l (aH τ t (.own xo)) H Q):AL P L O w0 N ops (o::l) τ H Q:=lq (qo h) K
theorem aM(h:Hm o N τ H (fun _=>false) ops t (.ptr xo xp xq) y)(K:AL P L O w0 N ops l (aH τ t (.ptr xo xp xq)) H Q):AL P L O w0 N ops (o::l) τ H Q:=lq (cG h) K
theorem bm(h:Hm o N τ H (fun _=>false) ops t (vL xt xo xl) y)(K:AL P L O w0 N ops l (aH τ t (vL xt xo xl)) H Q):AL P L O w0 N ops (o::l) τ H Q:=lq (ng h) K
theorem cT(x:AV)(h:Hm o N τ H (fun _=>false) ops t x y)(K:AL P L O w0 N ops l (aH τ t x) H Q):AL P L O w0 N ops (o::l) τ H Q:=lq (sj x h) K
theorem ao(h:Ha o N τ H (fun _=>false) ops t (U k0 xi) y)(K:AL P L O w0 N ops l (aH τ t (U k0 xi)) H Q):AL P L O w0 N ops (o::l) τ H Q:=lq (j8 h) K
theorem bv(h:Ha o N τ H (fun _=>false) ops t (vB xb) y)(K:AL P L O w0 N ops l (aH τ t (vB xb)) H Q):AL P L O w0 N ops (o::l) τ H Q:=lq (fk h) K
theorem cI(h:Ha o N τ H (fun _=>false) ops t (vB true) y)(K:AL P L O w0 N ops l (aH τ t (vB true)) H Q):AL P L O w0 N ops (o::l) τ H Q:=lq (Av h) K
theorem ar(h:Ha o N τ H (fun _=>false) ops t (vB false) y)(K:AL P L O w0 N ops l (aH τ t (vB false)) H Q):AL P L O w0 N ops (o::l) τ H Q:=lq (oA h) K
theorem e9(h:Ha o N τ H (fun _=>false) ops t (vV xv) y)(K:AL P L O w0 N ops l (aH τ t (vV xv)) H Q):AL P L O w0 N ops (o::l) τ H Q:=lq (Ve h) K
theorem bD(h:Ha o N τ H (fun _=>false) ops t (.own xo) y)(K:AL P L O w0 N ops l (aH τ t (.own xo)) H Q):AL P L O w0 N ops (o::l) τ H Q:=lq (tF h) K
theorem lC(h:Ha o N τ H (fun _=>false) ops t (.ptr xo xp xq) y)(K:AL P L O w0 N ops l (aH τ t (.ptr xo xp xq)) H Q):AL P L O w0 N ops (o::l) τ H Q:=lq (Vf h) K
theorem nv(h:Ha o N τ H (fun _=>false) ops t (vL xt xo xl) y)(K:AL P L O w0 N ops l (aH τ t (vL xt xo xl)) H Q):AL P L O w0 N ops (o::l) τ H Q:=lq (Cx h) K
theorem Vr(x:AV)(h:Ha o N τ H (fun _=>false) ops t x y)(K:AL P L O w0 N ops l (aH τ t x) H Q):AL P L O w0 N ops (o::l) τ H Q:=lq (vS x h) K
theorem ak(h:Hb o N τ H (fun _=>false) ops t (vB xb) op T yT y y2 A)(K:AL P L O w0 N ops l (aH τ t (vB xb)) H Q):AL P L O w0 N ops (o::l) τ H Q:=lq (dt h) K
theorem bj(h:Hk o N τ H (fun _=>false) ops t (vB xb) c y y2)(K:AL P L O w0 N ops l (aH τ t (vB xb)) H Q):AL P L O w0 N ops (o::l) τ H Q:=lq (cv h) K
theorem aU(h:Hk o N τ H (fun _=>false) ops t (vB true) c y y2)(K:AL P L O w0 N ops l (aH τ t (vB true)) H Q):AL P L O w0 N ops (o::l) τ H Q:=lq (bA h) K
theorem bL(h:Hk o N τ H (fun _=>false) ops t (vB false) c y y2)(K:AL P L O w0 N ops l (aH τ t (vB false)) H Q):AL P L O w0 N ops (o::l) τ H Q:=lq (kK h) K
theorem bX(h:Hu o N τ H (fun _=>false) ops t (vB xb) vQ T y)(K:AL P L O w0 N ops l (aH τ t (vB xb)) H Q):AL P L O w0 N ops (o::l) τ H Q:=lq (gQ h) K
theorem Gq(h:Hu o N τ H (fun _=>false) ops t (vB true) vQ T y)(K:AL P L O w0 N ops l (aH τ t (vB true)) H Q):AL P L O w0 N ops (o::l) τ H Q:=lq (M6 h) K
theorem ma(h:Hu o N τ H (fun _=>false) ops t (vB false) vQ T y)(K:AL P L O w0 N ops l (aH τ t (vB false)) H Q):AL P L O w0 N ops (o::l) τ H Q:=lq (tJ h) K
theorem dE(h:Hx o N τ H (fun _=>false) ops t (U k0 xi) y k)(K:AL P L O w0 N ops l (aH τ t (U k0 xi)) H Q):AL P L O w0 N ops (o::l) τ H Q:=lq (Cy h) K
theorem eU(h:Hx o N τ H (fun _=>false) ops t (vB xb) y k)(K:AL P L O w0 N ops l (aH τ t (vB xb)) H Q):AL P L O w0 N ops (o::l) τ H Q:=lq (Cz h) K
theorem SN(h:Hx o N τ H (fun _=>false) ops t (vV xv) y k)(K:AL P L O w0 N ops l (aH τ t (vV xv)) H Q):AL P L O w0 N ops (o::l) τ H Q:=lq (Vh h) K
theorem qT(h:Hx o N τ H (fun _=>false) ops t (.own xo) y k)(K:AL P L O w0 N ops l (aH τ t (.own xo)) H Q):AL P L O w0 N ops (o::l) τ H Q:=lq (Vi h) K
theorem rF(h:Hx o N τ H (fun _=>false) ops t (vL xt xo xl) y k)(K:AL P L O w0 N ops l (aH τ t (vL xt xo xl)) H Q):AL P L O w0 N ops (o::l) τ H Q:=lq (Vj h) K
theorem iB(x:AV)(h:Hx o N τ H (fun _=>false) ops t x y k)(K:AL P L O w0 N ops l (aH τ t x) H Q):AL P L O w0 N ops (o::l) τ H Q:=lq (AX x h) K
theorem ba(f0:isSlice P T=true)(h:Hn o N τ H (fun _=>false) ops t (U k0 xi) y T)(K:AL P L O w0 N ops l (aH τ t (U k0 xi)) H Q):AL P L O w0 N ops (o::l) τ H Q:=lq (le f0 h) K
theorem aj(f0:dq P T=some n0)(h:Ho o N τ H (fun _=>false) ops t (U k0 xi) y T T2 n0 id k p cells)(K:AL P L O w0 N ops l (aH τ t (U k0 xi)) H Q):AL P L O w0 N ops (o::l) τ H Q:=lq (aZ f0 h) K
theorem tT(f0:dq P T=some n0)(h:Ho o N τ H (fun _=>false) ops t (vB xb) y T T2 n0 id k p cells)(K:AL P L O w0 N ops l (aH τ t (vB xb)) H Q):AL P L O w0 N ops (o::l) τ H Q:=lq (uY f0 h) K
theorem iO(f0:dq P T=some n0)(h:Ho o N τ H (fun _=>false) ops t (.own xo) y T T2 n0 id k p cells)(K:AL P L O w0 N ops l (aH τ t (.own xo)) H Q):AL P L O w0 N ops (o::l) τ H Q:=lq (gC f0 h) K
theorem bo(f0:dq P T=some n0)(h:Ho o N τ H (fun _=>false) ops t (vL xt xo xl) y T T2 n0 id k p cells)(K:AL P L O w0 N ops l (aH τ t (vL xt xo xl)) H Q):AL P L O w0 N ops (o::l) τ H Q:=lq (jj f0 h) K
theorem aP(x:AV)(f0:dq P T=some n0)(h:Ho o N τ H (fun _=>false) ops t x y T T2 n0 id k p cells)(K:AL P L O w0 N ops l (aH τ t x) H Q):AL P L O w0 N ops (o::l) τ H Q:=lq (dw x f0 h) K
theorem oy(f0:dq P T=some n0)(h:Hr o N τ H (fun _=>false) ops t (U k0 xi) y T n0 vR)(K:AL P L O w0 N ops l (aH τ t (U k0 xi)) H Q):AL P L O w0 N ops (o::l) τ H Q:=lq (qU f0 h) K
theorem DO(f0:dq P T=some n0)(h:Hr o N τ H (fun _=>false) ops t (vL xt xo xl) y T n0 vR)(K:AL P L O w0 N ops l (aH τ t (vL xt xo xl)) H Q):AL P L O w0 N ops (o::l) τ H Q:=lq (Vl f0 h) K
theorem d6(x:AV)(f0:dq P T=some n0)(h:Hr o N τ H (fun _=>false) ops t x y T n0 vR)(K:AL P L O w0 N ops l (aH τ t x) H Q):AL P L O w0 N ops (o::l) τ H Q:=lq (gm x f0 h) K
theorem eo(h:Hh o N τ H (fun _=>false) ops t (U k0 xi) op T yT y y2 pre)(hp:pre)(K:AL P L O w0 N ops l (aH τ t (U k0 xi)) H Q):AL P L O w0 N ops (o::l) τ H Q:=lq (iC h hp) K
theorem bg(h:Hg o N τ H (fun _=>false) ops t (U k0 xi) op T yT y y2 A n1)(K:AL P L O w0 N ops l (aH τ t (U k0 xi)) H Q)(hp:i64 n1:=by unfold i64;omega):AL P L O w0 N ops (o::l) τ H Q:=lq (qV h hp) K
theorem lf(k1:Nat)(f0:FA P T k off ft)(h:Hf o N τ H (fun _=>false) ops t (.ptr id i1 k1) k1 T k off ft y id i1 j)(K:AL P L O w0 N ops l (aH τ t (.ptr id i1 k1)) H Q):AL P L O w0 N ops (o::l) τ H Q:=lq (rf k1 f0 h) K
theorem lc(h:Hc o N τ H (fun _=>false) ops t (.ptr id i1 k1) y id i1 k1)(K:AL P L O w0 N ops l (aH τ t (.ptr id i1 k1)) H Q):AL P L O w0 N ops (o::l) τ H Q:=lq (rc h) K
theorem li(i1:Nat)(f0:iw P T=some (e,sz))(h:Hi o N τ H (fun _=>false) ops t (.rp row) i1 T e e2 sz y y2 k0 n1 rows row)(hr:rows[i1]? = some row)(K:AL P L O w0 N ops l (aH τ t (.rp row)) H Q):AL P L O w0 N ops (o::l) τ H Q:=lq (ri i1 f0 h hr) K
end

def nr:AO->Bool
 |.ai _ _ _=>true
 |.gone=>true
 |_=>false
def dS(F:List AO):Prop:=∀o∈F,nr o=true
def tl(h:Nat->AO)(F:List AO):Nat->AO:=fun i=>bif Nat.blt i 1000000 then h i else (F[i-1000000]?).getD .gone
def Tl(H:Nat->AO)(F:List AO):Prop:=(∀i,H (1000000+i)=(F[i]?).getD .gone)/\dS F
theorem nr.bq{k:Nat->Bool}{o:AO}(h:nr o=true):o.bq k=o:=by cases o<;>first|rfl|cases h
theorem nr.cX{r:List (Nat×Nat)}{o:AO}(h:nr o=true):o.cX r=o:=by cases o<;>first|rfl|cases h
theorem nr.cO{id:Nat}{y:PV}{o:AO}(h:nr o=true):o.cO id y=o:=by cases o<;>first|rfl|cases h
theorem dS.nil:dS []:=fun _ h=>by cases h
theorem dS.at{F:List AO}(h:dS F)(i:Nat):nr ((F[i]?).getD .gone)=true:=by
 cases e:F[i]? with
 |none=>rfl
 |some o=>exact h o (List.mem_of_getElem? e)
theorem uI{h:Nat->AO}{F:List AO}{i:Nat}(hi:i<1000000):tl h F i=h i:=by
 grind[tl,Nat.blt,Nat.ble_eq_true_of_le]
theorem uJ{h:Nat->AO}{F:List AO}{i:Nat}:tl h F (1000000+i)=(F[i]?).getD .gone:=by
 unfold tl;rw[show Nat.blt (1000000+i) 1000000=false from by
  cases e:Nat.blt (1000000+i) 1000000 with
  |false=>rfl
  |true=>have:1000000+i<1000000:=Nat.le_of_ble_eq_true e;omega]
 simp
theorem yM(j:Nat):j<1000000\/∃i,j=1000000+i:=by
 rcases Nat.lt_or_ge j 1000000 with h|h
 ·omega
 exact .inr ⟨j-1000000,by omega⟩
theorem Tl.tl{h:Nat->AO}{F:List AO}(hF:dS F):Tl (tl h F) F:=⟨fun _=>uJ,hF⟩
theorem Tl.aH{H:Nat->AO}{F:List AO}{i:Nat}{o:AO}(hi:Nat.blt i 1000000=true)(h:Tl H F):Tl (aH H i o) F:=⟨fun j=>by
 have:i<1000000:=Nat.le_of_ble_eq_true hi;rw[eX _ _ x_2];exact h.1 j,h.2⟩
theorem Tl.bq{H:Nat->AO}{F:List AO}{k:Nat->Bool}(h:Tl H F):Tl (fun j=>(H j).bq k) F:=⟨fun j=>by
 show (H (1000000+j)).bq k=_;rw[h.1 j];exact nr.bq (dS.at h.2 j),h.2⟩
theorem Tl.cO{H:Nat->AO}{F:List AO}{id:Nat}{y:PV}(hi:Nat.blt id 1000000=true)(h:Tl H F):Tl (so id y H) F:=Tl.aH hi ⟨fun j=>by
 show (H (1000000+j)).cO id y=_;rw[h.1 j];exact nr.cO (dS.at h.2 j),h.2⟩
theorem Tl.swap{H:Nat->AO}{F:List AO}{a b:Nat}(hi:(Nat.blt a 1000000&&Nat.blt b 1000000)=true)(h:Tl H F):Tl (fun j=>(H (jH a b j)).gK a b) F:=⟨fun j=>by
 rw[Bool.and_eq_true]at hi;have V:a<1000000:=Nat.le_of_ble_eq_true hi.1;have h2:b<1000000:=Nat.le_of_ble_eq_true hi.2;have e:jH a b (1000000+j)=1000000+j:=by unfold jH;rw[if_neg x_2,if_neg x_2]
 show (H (jH a b (1000000+j))).gK a b=_;rw[e,h.1 j];have:=dS.at h.2 j;cases hq:(F[j]?).getD .gone with
 |box T p cells=>rw[hq]at this;cases this
 |_=>rfl,h.2⟩
theorem Tl.eq{H:Nat->AO}{F:List AO}(h:Tl H F):H=Proofs.YtflhgkmhmcfimaaGreat.tl H F:=funext fun j=>by
 rcases yM j with q|⟨i,rfl⟩
 ·rw[uI q]
 rw[uJ];exact h.1 i
theorem CR{r:List (Nat×Nat)}{i:Nat}(h:∀p∈r,p.1≠i):rn r i=none:=by
 induction r with
 |nil=>rfl
 |cons p r ih=>
  obtain⟨a,b⟩:=p;unfold rn;rw[if_neg (fun q=>h (a,b) x_19 q.symm)];grind
def mV(r:List (Nat×Nat)):Bool:=r.all fun p=>Nat.blt p.1 1000000&&Nat.blt p.2 1000000
theorem mV.at{r:List (Nat×Nat)}(h:mV r=true):∀p∈r,p.1<1000000/\p.2<1000000:=fun p hp=>by
 have:=List.all_eq_true.1 h p hp;simp_all
theorem mV.hi{r:List (Nat×Nat)}(h:mV r=true)(i:Nat):rn (sw r) (1000000+i)=none:=CR fun p hp=>by
 unfold sw at hp;obtain⟨q,hq,rfl⟩:=List.mem_map.1 hp;grind[mV.at]
theorem mV.hU{r:List (Nat×Nat)}(h:mV r=true)(i:Nat):rn r (1000000+i)=none:=CR fun p hp=>by
 grind[mV.at]
theorem Tl.call{H:Nat->AO}{F:List AO}{r:List (Nat×Nat)}{k:Nat->Bool}{bd:List (Nat×AO)}(hr:mV r=true)(h:Tl H F):Tl (mg r k bd H) F:=⟨fun j=>by
 unfold mg;rw[mV.hi hr j];show (H (1000000+j)).bq k=_;rw[h.1 j];exact nr.bq (dS.at h.2 j),h.2⟩
def je(n:Nat):List AO->List (Nat×AO)
 |[]=>[]
 |o::l=>(n,o)::je (n+1) l
theorem Ar:∀(F:List AO) (n i:Nat),bx (je n F) i=if n<=i then (F[i-n]?).getD .gone else .gone
 |[],n,i=>by simp[je,bx]
 |o::F,n,i=>by
  show (if i=n then o else bx (je (n+1) F) i)=_;rw[Ar F];grind
def s9(l:List (Nat×AO)):Bool:=l.all fun p=>Nat.blt p.1 1000000
theorem Af:∀ {l:List (Nat×AO)} {m:List (Nat×AO)} {i:Nat},s9 l=true->bx (l++m) (1000000+i)=bx m (1000000+i)
 |[],m,i,_=>rfl
 |(a,o)::l,m,i,h=>by
  have V:=List.all_eq_true.1 h (a,o) x_19;have h2:a<1000000:=Nat.le_of_ble_eq_true V;show (if 1000000+i=a then o else bx (l++m) (1000000+i))=_;rw[if_neg x_2];exact Af (by unfold s9 at *;grind)
theorem yN:∀ {l:List (Nat×AO)} {F:List AO} {i:Nat},i<1000000->bx (l++je 1000000 F) i=bx l i
 |[],F,i,h=>by
  simp_all[bx,Ar,if_neg]
 |(a,o)::l,F,i,h=>by
  show (if i=a then o else bx (l++je 1000000 F) i)=if i=a then o else bx l i
  rw[yN h]
theorem Gm{l:List (Nat×AO)}{F:List AO}(h:s9 l=true):bx (l++je 1000000 F)=tl (bx l) F:=funext fun j=>by
 rcases yM j with q|⟨i,rfl⟩;all_goals simp_all[uI,yN,uJ,Af,Ar]
theorem Oq:∀ {l m:List (Nat×AO)} {H:Nat->AO},fo l H->fo m H->fo (l++m) H
 |[],m,H,_,h=>h
 |(a,o)::l,m,H,V,h=>⟨V.1,Oq V.2 h⟩
theorem Or:∀ {F:List AO} {n:Nat} {H:Nat->AO},(∀i,i<F.length->H (n+i)=(F[i]?).getD .gone)->fo (je n F) H
 |[],n,H,_=>trivial
 |o::F,n,H,h=>⟨by have:=h 0 x_19;grind,Or fun i hi=>by
  have:=h (i+1) x_74;grind⟩
theorem Tl.all{H:Nat->AO}{F:List AO}(h:Tl H F):fo (je 1000000 F) H:=Or fun i _=>h.1 i
theorem IN{l:List (Nat×AO)}(h:s9 l=true):Tl (bx l) []:=⟨fun i=>by have:=Af (m:=[]) (i:=i) h;rw[List.append_nil]at this;trivial,dS.nil⟩
section
variable {P:Program}{L O:Nat->Prop}{w0:World}{N:Nat}{τ τ':Nat->AV}{H H':Nat->AO}{Q:AQ}{c:Code}{ops:Array Oper}{l:List Oper}{F:List AO}
theorem Fl{h:Nat->AO}(hT:Tl H F)(hh:∀id,h id=.gone\/h id=H id):∀id,tl h F id=.gone\/tl h F id=H id:=fun id=>by
 rcases yM id with q|⟨i,rfl⟩
 ·grind[uI]
 rw[uJ];exact .inr (hT.1 i).symm
theorem x_32{p:Prop}(c:p:=by first|assumption|exact dS.nil):p:=c
theorem mi(F:List AO)(k i:List Nat){v:List AV}{b:List AO}(h:AW P L O w0 N c (eh .bad k v) (tl (eh .gone i b) F) Q)(V:ge τ k=v:=by exact nz)(h2:ge H i=b:=by exact nz)(hT:Tl H F:=by repeat (first|exact IN rfl|exact Tl.tl x_32|refine Tl.cO rfl ?_|refine Tl.aH rfl ?_|refine Tl.bq ?_|refine Tl.call rfl ?_|refine Tl.swap rfl ?_)):AW P L O w0 N c τ H Q:=AW.eJ (ge.eJ V) (Fl hT (ge.eJ h2)) h
theorem xH(F:List AO)(k i:List Nat){v:List AV}{b:List AO}(h:AL P L O w0 N ops l (eh .bad k v) (tl (eh .gone i b) F) Q)(V:ge τ k=v:=by exact nz)(h2:ge H i=b:=by exact nz)(hT:Tl H F:=by repeat (first|exact IN rfl|exact Tl.tl x_32|refine Tl.cO rfl ?_|refine Tl.aH rfl ?_|refine Tl.bq ?_|refine Tl.call rfl ?_|refine Tl.swap rfl ?_)):AL P L O w0 N ops l τ H Q:=AL.eJ (ge.eJ V) (Fl hT (ge.eJ h2)) h
theorem fTt(F:List AO)(k i:List Nat){v:List AV}{b:List AO}{G:List Nat}{n:Nat}{av:Array Bool}(h:AF P L O w0 N ops G n av (eh .bad k v) (tl (eh .gone i b) F) Q)(V:ge τ k=v:=by exact nz)(h2:ge H i=b:=by exact nz)(hT:Tl H F:=by repeat (first|exact IN rfl|exact Tl.tl x_32|refine Tl.cO rfl ?_|refine Tl.aH rfl ?_|refine Tl.bq ?_|refine Tl.call rfl ?_|refine Tl.swap rfl ?_)):AF P L O w0 N ops G n av τ H Q:=fun ρ fp a w hr=>by
 obtain⟨bH,gU,_⟩:=hr.eJ (ge.eJ (z:=AV.bad) V) (Fl hT (ge.eJ (z:=AO.gone) h2));exact h ρ bH a w gU
theorem E8{D:Type}(K:List (Nat×AV))(KO:List (Nat×AO))(T:D->List (Nat×AV))(B:D->List (Nat×AO))(F:D->List AO)(I:D->Prop)(μ:D->Nat)(d:D)(h0:I d)(V:iN (T d) τ)(h2:fo (B d) H)(h3:iN K τ)(h4:fo KO H)(h5:Tl H (F d))
 (round:∀d,I d->AW P L O w0 N c (nY (T d++K)) (tl (bx (B d++KO)) (F d)) (Q.andThen fun τ H=>∃d',I d'/\μ d'<μ d/\iN (T d') τ/\fo (B d') H/\iN K τ/\fo KO H/\Tl H (F d'))):AW P L O w0 N (.loop c) τ H Q:=fun ρ fp a w hr=>by
 obtain⟨bH,gU,_⟩:=hr.eJ (iN.gJ V h3).eJ (Fl h5 (fo.gJ h2 h4).eJ)
 have key:∀n (d:D),μ d=n->I d->∀ρ fp a w,RR L O w0 N (nY (T d++K)) (tl (bx (B d++KO)) (F d)) ρ fp a w->∀b k cs,∃e a' w',QQ L O w0 N Q e a' w'/\Arrives P (lone (b.at a (.code c::.inLoop c::k)) cs w) b k cs e a' w':=by
  intro n;induction n using Nat.strongRecOn with
  |_ n ih=>
   intro d hn hI ρ fp a w hr b k cs;obtain⟨e,ry,rz,hq,ox⟩:=round d hI ρ fp a w hr b (.inLoop c::k) cs;obtain⟨tt,tu,rA,tv,rC,hq⟩:=hq;cases e with
   |normal=>
    obtain⟨d',i1,i2,i3,i4,i5,i6,i7⟩:=hq;obtain⟨IO,IP,_⟩:=rC.eJ (iN.gJ i3 i5).eJ (Fl i7 (fo.gJ i4 i6).eJ);obtain⟨IQ,IR,IS,IT,IU⟩:=ih (μ d') (hn▸i2) d' rfl i1 rA IO ry rz IP b k cs;exact⟨IQ,IR,IS,IT,.of_steps (Steps.trans ox (.one step_inLoop)) IU⟩
   |exit id=>exact⟨_,ry,rz,⟨tt,tu,rA,tv,rC,hq⟩,.pass (x:=.inLoop c) rfl (fun _ _=>.inl x_19) ox⟩
   |goto l=>exact⟨_,ry,rz,⟨tt,tu,rA,tv,rC,hq⟩,.pass (x:=.inLoop c) rfl (fun _ _=>.inl x_19) ox⟩
   |ret=>exact⟨_,ry,rz,⟨tt,tu,rA,tv,rC,hq⟩,.pass (x:=.inLoop c) rfl (fun _ _=>.inl x_19) ox⟩
   |panic ch=>exact⟨_,ry,rz,⟨tt,tu,rA,tv,rC,hq⟩,.pass (x:=.inLoop c) rfl (fun _ _=>.inl x_19) ox⟩
   |outgrown=>exact⟨_,ry,rz,⟨tt,tu,rA,tv,rC,hq⟩,.pass (x:=.inLoop c) rfl (fun _ _=>.inl x_19) ox⟩
 intro b k cs
 obtain⟨e,a',w',hq,ox⟩:=key (μ d) d rfl h0 ρ bH a w gU b k cs
 exact⟨e,a',w',hq,.of_steps (.one step_loop) ox⟩
theorem ahb{D:Type}(K:List (Nat×AV))(KO:List (Nat×AO))(T:D->List (Nat×AV))(B:D->List (Nat×AO))(F:D->List AO)(I:D->Prop){x y:Code}(_:iN K τ)(_:fo KO H)
 (h:AW P L O w0 N x τ H (Q.andThen fun τ H=>∃d,I d/\iN (T d) τ/\fo (B d) H/\iN K τ/\fo KO H/\Tl H (F d))) (h2:∀d,I d->AW P L O w0 N y (nY (T d++K)) (tl (bx (B d++KO)) (F d)) Q):AW P L O w0 N (.seq x y) τ H Q:=
 AW.seq (h.mono fun e τ H q=>by
  cases e<;>first|exact q|(obtain⟨d,q1,q2,q3,q4,q5,q6⟩:=q;exact AW.eJ (iN.gJ q2 q4).eJ (Fl q6 (fo.gJ q3 q5).eJ) (h2 d q1)))
theorem RR.rename{ρ:Nat->Value}{fp:Nat->List Nat}{a:Act}{w:World}(h:RR L O w0 N τ H ρ fp a w){i j:Nat}(gF:i≠j)(hj:H j=.gone)(hi:nr (H i)=true)(k:Nat->Bool)(hk:k j=true) :
 RR L O w0 N (fun t=>bq k (τ t)) (aH (aH (fun x=>(H x).bq k) i .gone) j (H i)) (aH ρ j (ρ i)) (aH (aH fp i []) j (fp i)) a w:=by
 have hfj:fp j=[]:=by have:=h.ob j;rw[hj]at this;exact this
 have e1:∀x,x≠i->x≠j->aH (aH (fun x=>(H x).bq k) i .gone) j (H i) x=(H x).bq k:=fun x q1 q2=>by grind[eX]
 have ei:aH (aH (fun x=>(H x).bq k) i .gone) j (H i) i=.gone:=by rw[eX _ _ gF,dV]
 have ej:aH (aH (fun x=>(H x).bq k) i .gone) j (H i) j=H i:=dV _ _ _
 generalize hH':aH (aH (fun x=>(H x).bq k) i .gone) j (H i)=H' at *
 have re:∀b,live L (aH ρ j (ρ i)) H' b->live L ρ H b:=by
  rintro b (hl|⟨x,q1,q2⟩)
  ·exact .inl hl
  by_cases xj:x=j
  ·subst xj;rw[ej]at q1;rw[dV]at q2;exact .inr ⟨i,q1,q2⟩
  rw[eX _ _ xj]at q2;by_cases xi:x=i
  ·subst xi;rw[ei]at q1;cases q1
  rw[e1 x xi xj,sb]at q1;exact .inr ⟨x,q1,q2⟩
 have E:Env L ρ (aH ρ j (ρ i)) H H' w w k:=⟨Nat.le_refl _,fun b _ hn=>⟨rfl,fun hl=>hn (re b hl)⟩,fun x hx hh=>by
  have xj:x≠j:=fun q=>by subst q;rw[hk]at hx;cases hx
  by_cases xi:x=i
  ·subst xi;rw[ei]at hh;cases hh
  grind[sb,eX,Es,Et]⟩
 refine⟨h.jp,h.size,h.defers,fun t=>RV.env E _ (h.tm t),fun x=>?_,fun x y Ot b hb ec=>?_,fun x b hb=>?_,h.lo⟩
 ·by_cases xj:x=j
  ·subst xj
   rw[ej,dV,dV]
   have:=(h.ob i).env E (fun b _=>rfl)
   grind[nr.bq]
  rw[eX _ _ xj,eX _ _ xj]
  by_cases xi:x=i
  ·subst xi;rw[ei,dV];rfl
  rw[e1 x xi xj,eX _ _ xi]
  exact(h.ob x).env E (fun b _=>rfl)
 ·have f:∀x,x≠j->x≠i->aH (aH fp i []) j (fp i) x=fp x:=fun x q1 q2=>by grind[eX]
  have fj:aH (aH fp i []) j (fp i) j=fp i:=dV _ _ _
  have fi:aH (aH fp i []) j (fp i) i=[]:=by rw[eX _ _ gF,dV]
  by_cases xi:x=i
  ·grind
  by_cases yi:y=i
  ·grind
  by_cases xj:x=j
  ·subst xj
   rw[fj]at hb;rw[f y (Ne.symm Ot) yi]at ec
   exact h.dj i y (Ne.symm yi) b hb ec
  rw[f x xj xi]at hb
  by_cases yj:y=j
  ·subst yj;rw[fj]at ec;exact h.dj x i xi b hb ec
  rw[f y yj yi]at ec;exact h.dj x y Ot b hb ec
 by_cases xj:x=j
 ·subst xj;rw[dV]at hb;exact h.own i b hb
 rw[eX _ _ xj]at hb
 by_cases xi:x=i
 ·grind[dV]
 rw[eX _ _ xi]at hb;exact h.own x b hb
end
end Go.Proofs.YtflhgkmhmcfimaaGreat

