/- Texts of the proof of FnFnAgain, joined: MkD, EP2, E33, EP3, ES2, ES3, ES3b. -/
import Derived.Test.YtflhgkmhmcfimaaGreatJAgain8
import Derived.Test.YtflhgkmhmcfimaaGreatJAgain5
import Derived.Test.YtflhgkmhmcfimaaGreatJAgain13
import Derived.Test.YtflhgkmhmcfimaaGreatJAgain3
namespace Go.Proofs.YtflhgkmhmcfimaaGreat
set_option maxRecDepth 100000
open Tryz
open Go.RowKit
set_option linter.unusedSimpArgs false
set_option linter.unusedVariables false
section
variable {α:Type}(n:α->Int)(g:α->Int->α)
def mT:List α->Int
 |[]=>0
 |x::l=>n x+mT l
variable {n g}
theorem acT{B:Int}:∀ {l:List α},(∀x∈l,0<=n x/\n x<=B)->0<=mT n l/\mT n l<=B*(l.length:Int)
 |[],_=>by simp[mT]
 |x::l,h=>by
  have V:=h x x_19;have h2:=acT (l:=l) (fun q hq=>h q (by simp[hq]));rw[mT,List.length_cons,Int.natCast_add,Int.mul_add];simp only[Int.cast_ofNat_Int,Int.mul_one];omega
end
abbrev uD(c:Cell):Int:=(c.bytes.length:Int)
abbrev E6(w:gq):Int:=1+(w.bytes.length:Int)
theorem CC(c:Cell):0<=uD c:=Int.natCast_nonneg _
theorem abS(w:gq):0<=E6 w:=by unfold E6;omega
structure vU(d:du):Prop where
 lc:d.cells.length<=1048576
 lw:d.bu.length<=1048576
 bc:∀c∈d.cells,c.bytes.length<=1048576
 bw:∀w∈d.bu,w.bytes.length<=1048576
 cc:mT uD d.cells<=1048576
 cw:mT E6 d.bu<=1048576
theorem dS.set{F:List AO}{j:Nat}{o:AO}(h:dS F)(ho:nr o=true):dS (F.set j o):=fun x hx=>by
 rcases List.mem_or_eq_of_mem_set hx with q|rfl
 ·exact h x q
 omega
section
variable {L:Nat->Prop}{ρ:Nat->Value}{H:Nat->AO}
theorem bI.each{α:Type}{row:α->List PV}{sz:Nat}{dg:World->Nat->Nat->List Value->α->Prop}{w:World}{lo hi b:Nat}(hr:∀cs x,dg w lo hi cs x->cs.length=sz/\∃fp,bP w false (row x) cs fp)(hs:∀x,(row x).length=sz) :
 ∀ {xs:List α} {off:Nat},uF sz dg w lo hi b off xs->∃cs fp,bI w false sz (xs.map row) cs fp/\jo w b off cs/\cs.length=sz*xs.length
 |[],off,_=>⟨[],[],by trivial,fun j v hj=>by grind,rfl⟩
 |x::xs,off,h=>by
  obtain⟨cs,V,h2⟩:=h 0 x_19;obtain⟨hl,fp,h3⟩:=hr cs _ V;have ht:uF sz dg w lo hi b (off+sz) xs:=fun i hU=>by
   obtain⟨c,k1,k2⟩:=h (i+1) (by simpa using hU);grind
  obtain⟨uU,EC,q1,q2,q3⟩:=bI.each hr hs ht;refine⟨cs++uU,fp++EC,?_,fun j v hj=>?_,by grind⟩
  ·rw[List.map_cons,bI];grind
  rcases Nat.lt_or_ge j cs.length with z|z
  ·rw[List.getElem?_append_left z]at hj;have:=h2 j v hj;grind
  rw[List.getElem?_append_right z]at hj;have:=q2 _ v hj;grind
end

set_option maxHeartbeats 16000000
set_option maxRecDepth 100000
structure Is(d:du):Prop where
 lc:d.cells.length<=1000000000
 lw:d.bu.length<=1000000000
 bc:∀c∈d.cells,c.bytes.length<=1000000000
 bw:∀w∈d.bu,w.bytes.length<=1000000000
theorem vU.e{d:du}(h:vU d):Is d:=⟨Nat.le_trans h.lc x_3,Nat.le_trans h.lw x_3,fun c hc=>Nat.le_trans (h.bc c hc) x_3,fun c hc=>Nat.le_trans (h.bw c hc) x_3⟩
structure Xb(d:du):Prop where
 lc:d.cells.length<=100000000
 lw:d.bu.length<=100000000
 cc:mT uD d.cells<=100000000
 cw:mT E6 d.bu<=100000000
theorem vU.m{d:du}(h:vU d):Xb d:=⟨Nat.le_trans h.lc x_3,Nat.le_trans h.lw x_3,Int.le_trans h.cc x_3,Int.le_trans h.cw x_3⟩

def y4(l1:List (Nat×AO))(n:Nat)(i:Nat):Option Nat:=if i<1000000 then (if eb l1 i=true then some i else none)else (if 1000000+n<=i then some (i-n)else none)
theorem aef{l1:List (Nat×AO)}{n i i' j:Nat}(h:y4 l1 n i=some j)(h':y4 l1 n i'=some j):i=i':=by
 unfold y4 at h h';split at h<;>split at h
 ·injection h with h;split at h'<;>split at h'
  ·injection h' with h';omega
  ·cases h'
  ·injection h' with h';omega
  cases h'
 ·cases h
 ·injection h with h;split at h'<;>split at h'
  ·injection h' with h';omega
  ·cases h'
  ·injection h' with h';omega
  cases h'
 cases h
theorem aeg{P:Program}{f:FuncId}{args qj:List AV}{ob0:List (Nat×AO)}{F0:List AO}{R:AV->List (Nat×AO)->List AO->Prop}(hc:GN P f args [] [] R)(hl:kf (Reads (tl (bx ob0) F0)) qj args)(hF0:dS F0)(h0:(ob0.all fun p=>GQ p.2&&(kR p.2&&Nat.blt p.1 1000000))=true)
 (hR:∀x l1 F1,R x l1 F1->ql x=true/\(∀id∈s7 x,eb l1 id=true)/\(∀p∈l1,GP p.2)/\(∀o∈F1,GP o)/\F0.length+F1.length<=10000000) :
 GN P f qj ob0 F0 fun x l F=>∃l1 F1,R x l1 F1/\l=l1++ob0/\F=F0++F1:=by
 have wQ:s9 ob0=true:=List.all_eq_true.2 fun p hp=>by
  have:=List.all_eq_true.1 h0 p hp;simp only[Bool.and_eq_true]at this;exact this.2.2
 have aeh:(ob0.all fun p=>kR p.2)=true:=List.all_eq_true.2 fun p hp=>by
  have:=List.all_eq_true.1 h0 p hp;simp only[Bool.and_eq_true]at this;exact this.2.1
 have aei:∀p∈ob0,GQ p.2=true:=fun p hp=>by
  have:=List.all_eq_true.1 h0 p hp;simp only[Bool.and_eq_true]at this;exact this.1
 intro L w cs ρ fp hL pF bY pG ud
 have yL:bx (ob0++je 1000000 F0)=tl (bx ob0) F0:=Gm wQ
 rw[yL]at pF
 simp only[yL]at bY
 have hv:=bf.reads (fun id=>⟨_,bY id⟩) hl pF
 refine Calls.mono (hc L0 w cs s8 (fun _=>[]) (fun _ q=>q.elim) hv (fun i=>rfl) x_19 x_19) ?_
 rintro e w' ⟨x,bd,⟨l1,F1,q1,q2,q3,rfl,hR1⟩,v,ci,bH,rfl,g1,g2,g3,g4,g5⟩
 obtain⟨hx,hn,V,vG,hM⟩:=hR x l1 F1 hR1
 simp only[Bool.and_eq_true]at q1
 obtain⟨s1,s2,s3⟩:=q1
 have BY:bx (l1++je 1000000 F1)=tl (bx l1) F1:=Gm s1
 rw[BY]at g2
 simp only[BY]at g3
 have adn:s9 (l1++ob0)=true:=by unfold s9 at *;rw[List.all_append,s1,wQ];rfl
 have eH2:bx ((l1++ob0)++je 1000000 (F0++F1))=tl (bx (l1++ob0)) (F0++F1):=Gm adn
 have nW:∀i,∀b∈bH i,w.heap.size<=b:=fun i b hb=>by
  rcases(g5 i b hb).1 with⟨j,q⟩|q
  ·cases q
  exact q
 have oY:∀b,b<w.heap.size->w'.heap[b]? = w.heap[b]?:=fun b hb=>g1.block b hb x_19
 generalize hH2:tl (bx (l1++ob0)) (F0++F1)=H2
 generalize hHc:tl (bx l1) F1=H1 at *
 have fs:∀ {i j},y4 l1 F0.length i=some j->H2 i=H1 j:=fun{i j} h=>by
  rw[<-hH2,<-hHc];rcases yM i with q|⟨m,rfl⟩
  ·unfold y4 at h;rw[if_pos q]at h;split at h
   ·rename_i z;injection h with h;subst h;rw[uI q,uI q,yK,if_pos z]
   cases h
  unfold y4 at h;rw[if_neg x_2]at h;split at h
  ·rename_i z;injection h with h;subst h;rw[show 1000000+m-F0.length=1000000+(m-F0.length) by omega,uJ,uJ,List.getElem?_append_right x_2]
  cases h
 have fn:∀ {i},y4 l1 F0.length i=none->H2 i=tl (bx ob0) F0 i:=fun{i} h=>by
  rw[<-hH2];rcases yM i with q|⟨m,rfl⟩
  ·unfold y4 at h;rw[if_pos q]at h;split at h
   ·cases h
   rename_i z;rw[uI q,uI q,yK,if_neg z]
  unfold y4 at h;rw[if_neg x_2]at h;split at h
  ·cases h
  rw[uJ,uJ,List.getElem?_append_left x_2]
 have aej:∀j,H1 j=.gone\/GP (H1 j):=fun j=>by
  rw[<-hHc];rcases yM j with q|⟨m,rfl⟩
  ·rw[uI q];rcases hi:eb l1 j with _|_
   ·exact .inl (D6 hi)
   obtain⟨o,k1,k2⟩:=wS hi;exact .inr (by rw[k2];exact V _ k1)
  rw[uJ];cases hm:F1[m]? with
  |none=>exact .inl rfl
  |some o=>exact .inr (vG o (List.mem_of_getElem? hm))
 have aek:∀j,tl (bx ob0) F0 j=.gone\/∃e sz rows,tl (bx ob0) F0 j=.ai e sz rows:=fun j=>by
  rcases yM j with q|⟨m,rfl⟩
  ·rw[uI q];rcases hi:eb ob0 j with _|_
   ·exact .inl (D6 hi)
   obtain⟨o,k1,k2⟩:=wS hi;have:=aei _ k1;rw[k2];cases o with
   |ai e sz rows=>exact .inr ⟨_,_,_,rfl⟩
   |box T p c=>cases this
   |gone=>exact .inl rfl
  rw[uJ];have:=dS.at hF0 m;cases hm:(F0[m]?).getD .gone with
  |ai e sz rows=>exact .inr ⟨_,_,_,rfl⟩
  |box T p c=>rw[hm]at this;cases this
  |gone=>exact .inl rfl
 generalize wR:(fun i=>match y4 l1 F0.length i with|some j=>ci j|none=>ρ i)=jR
 generalize nX:(fun i=>match y4 l1 F0.length i with|some j=>bH j|none=>fp i)=f2
 have yI:∀ {i j},y4 l1 F0.length i=some j->jR i=ci j:=fun{i j} h=>by rw[<-wR];simp only[h]
 have yJ:∀ {i},y4 l1 F0.length i=none->jR i=ρ i:=fun{i} h=>by rw[<-wR];simp only[h]
 have rb:∀ {i j},y4 l1 F0.length i=some j->f2 i=bH j:=fun{i j} h=>by rw[<-nX];simp only[h]
 have oZ:∀ {i},y4 l1 F0.length i=none->f2 i=fp i:=fun{i} h=>by rw[<-nX];simp only[h]
 have re:∀b,b<w.heap.size->¬live L ρ (tl (bx ob0) F0) b->¬live L jR H2 b:=by
  rintro b hb tN (hl|⟨i,k1,k2⟩)
  ·exact tN (.inl hl)
  cases hi:y4 l1 F0.length i with
  |none=>rw[fn hi]at k1;rw[yJ hi]at k2;exact tN (.inr ⟨i,k1,k2⟩)
  |some j=>
   rw[fs hi]at k1;rw[yI hi]at k2;have:=nW j b ((g3 j).top k1 k2);omega
 have E:Env L ρ jR (tl (bx ob0) F0) H2 w w' (fun i=>(y4 l1 F0.length i).isSome):=⟨g1.size,fun b hb hn=>⟨oY b hb,re b hb hn⟩,fun i hk hi=>by
  have hi0:y4 l1 F0.length i=none:=by cases h:y4 l1 F0.length i with|none=>rfl|some j=>rw[h]at hk;cases hk
  rw[fn hi0]at hi ⊢;exact⟨hi,yJ hi0,rfl,rfl⟩⟩
 have e2:∀i,bx ((l1++ob0)++je 1000000 (F0++F1)) i=H2 i:=fun i=>by rw[eH2,hH2]
 refine⟨x,(l1++ob0)++je 1000000 (F0++F1),⟨l1++ob0,F0++F1,by rw[adn,List.all_append,s2,aeh,s3];rfl,dS.gJ hF0 q2,by rw[List.length_append];exact hM,rfl,l1,F1,hR1,rfl,rfl⟩,v,jR,f2,rfl,⟨g1.os,g1.tape,g1.output,g1.size,fun b hb _=>oY b hb,fun b o hb eI=>?_⟩,?_,fun i=>?_,fun i j gF b hb ec=>?_,fun i b hb=>?_⟩
 ·rcases Nat.lt_or_ge b w.heap.size with kA|kA
  ·rcases hb with⟨i,hi⟩|hb
   ·rw[World.frozen?_of_block (w:=w) (oY b kA)]
    exact(bY i).frozen b hi o
   omega
  exact g1.nf b o (.inr kA) eI
 ·rw[eH2,hH2]
  refine GR x hx g2 fun id hid=>?_
  have i9:=hn id hid
  have eI:id<1000000:=by
   obtain⟨o,k1,_⟩:=wS i9;exact Nat.le_of_ble_eq_true (List.all_eq_true.1 s1 _ k1)
  have yV:y4 l1 F0.length id=some id:=by unfold y4;rw[if_pos eI,if_pos i9]
  refine⟨?_,yI yV⟩
  obtain⟨o,k1,k2⟩:=wS i9
  have jC:=V _ k1
  rw[<-hHc,uI eI,k2]
  cases o with
  |ai e sz rows=>rfl
  |box T p c=>exact jC.elim
  |gone=>exact jC.elim
 ·rw[e2 i]
  rw[show bx ((l1++ob0)++je 1000000 (F0++F1))=H2 from funext e2]
  cases hi:y4 l1 F0.length i with
  |none=>
   rw[fn hi,yJ hi,oZ hi]
   have h:=(bY i).env E (fun b hb=>oY b ((bY i).lt b hb))
   have ek:(tl (bx ob0) F0 i).bq (fun i=>(y4 l1 F0.length i).isSome)=tl (bx ob0) F0 i:=by
    rcases aek i with q|⟨e,sz,rows,q⟩<;>rw[q]<;>rfl
   rwa [ek]at h
  |some j=>
   rw[fs hi,yI hi,rb hi]
   have h:=g3 j
   rcases aej j with q|q
   ·rw[q]at h ⊢;exact h
   cases hj:H1 j with
   |ai e sz rows=>
    rw[hj]at h q
    obtain⟨xs,fr,k1,k2,k3,k4,k5⟩:=h
    have ke:=k1.vj q
    subst ke
    exact⟨xs,[],k1,by simp,k3,k4,k5⟩
   |box T p c=>rw[hj]at q;exact q.elim
   |gone=>rw[hj]at q;exact q.elim
 ·cases hi:y4 l1 F0.length i with
  |none=>
   rw[oZ hi]at hb
   cases hj:y4 l1 F0.length j with
   |none=>rw[oZ hj]at ec;exact pG i j gF b hb ec
   |some j'=>
    rw[rb hj]at ec
    have:=(bY i).lt b hb
    have:=nW j' b ec
    omega
  |some i'=>
   rw[rb hi]at hb
   cases hj:y4 l1 F0.length j with
   |none=>
    rw[oZ hj]at ec
    have:=(bY j).lt b ec
    have:=nW i' b hb
    omega
   |some j'=>
    rw[rb hj]at ec
    exact g4 i' j' (fun q=>gF (aef hi (q▸hj))) b hb ec
 cases hi:y4 l1 F0.length i with
 |none=>rw[oZ hi]at hb;exact⟨.inl ⟨i,hb⟩,ud i b hb⟩
 |some j=>
  rw[rb hi]at hb
  have:=nW j b hb
  exact⟨.inr this,fun hl=>by have:=hL b hl;omega⟩

theorem GC.toN{P:Program}{f:FuncId}{args:List AV}{x:AV}{l1:List (Nat×AO)}(h:GC P f args [] x l1)(hl:(s9 l1&&(l1.all (fun p=>kR p.2)&&ns x))=true):GN P f args [] [] fun y l F=>y=x/\l=l1/\F=[]:=
 (show GX P f args [] _ from h).mono fun y o ⟨e1,e2⟩=>by
  subst e1 e2;exact⟨o,[],hl,dS.nil,by decide,(List.append_nil o).symm,rfl,rfl,rfl⟩
theorem adp:∀(ws:List gq) (cs:List Cell),cs.all lL=true->(∀w∈ws,w.bytes.length=128)->(ws.foldl abT cs).all lL=true
 |[],cs,h,_=>h
 |w::ws,cs,h,hw=>by
  rw[List.foldl_cons];exact adp ws _ (acC h (hw w x_19)) (fun x hx=>hw x (by simp[hx]))
theorem aen{d:du}(h:ik d=true):ik (abM d)=true:=by
 have V:=wL h;rw[acu h];refine PB ⟨by show 1<=(abE d _).length;rw[abW];exact V.1.1,by show (abE d _).length<=600;rw[abW];exact V.1.2.1,Nat.zero_le _⟩ (adp _ _ V.2.1 fun w hw=>?_) rfl;obtain⟨j,hj,rfl⟩:=List.getElem_of_mem (List.mem_of_mem_take hw);exact Jk h hj
theorem aeo{d:du}(h:ik d=true):vU d:=by
 have V:=(wL h).1;have hc:∀c∈d.cells,c.bytes.length<=128:=fun c hc=>by
  obtain⟨j,hj,rfl⟩:=List.getElem_of_mem hc;exact PC h hj
 have hw:∀c∈d.bu,c.bytes.length<=128:=fun c hc=>by
  obtain⟨j,hj,rfl⟩:=List.getElem_of_mem hc;exact Nat.le_of_eq (Jk h hj)
 have k1:=acT (n:=uD) (B:=128) (l:=d.cells) fun c q=>⟨CC c,by have:=hc c q;show (c.bytes.length:Int)<=128;omega⟩;have k2:=acT (n:=E6) (B:=129) (l:=d.bu) fun c q=>⟨abS c,by have:=hw c q;show 1+(c.bytes.length:Int)<=129;omega⟩;exact⟨by omega,by omega,fun c q=>Nat.le_trans (hc c q) x_3,fun c q=>Nat.le_trans (hw c q) x_3,by omega,by omega⟩
theorem adq:vU ⟨[],[]⟩:=⟨by simp,by simp,(fun c h=>by cases h),(fun c h=>by cases h),by simp[mT],by simp[mT]⟩
theorem aep(d:du):m1 d=0/\ik d=true/\ik (m4 d).bT=true\/m1 d≠0/\m4 d=⟨⟨[],[]⟩,0,0⟩:=by
 by_cases hc:m1 d=0
 ·have hd:ik d=true:=by
   unfold m1 at hc;cases h:ik d with
   |true=>rfl
   |false=>rw[h]at hc;cases hc
  have h0:d.bu.length=0:=by
   unfold m1 at hc;by_cases h:d.bu.length=0
   ·exact h
   rw[hd,if_neg x_137]at hc;cases hc
  have h2:¬((dH d).length=d.cells.length\/16000000<=m2 d):=fun q=>by rw[lg2 hd h0 q]at hc;cases hc
  have:=acD hd;refine .inl ⟨hc,hd,?_⟩;rw[acE hc];exact aen (ab7 hd x_2 x_2 (TB x_8))
 exact .inr ⟨hc,abU hc⟩
theorem aeq(d:du):vU (m4 d).bT:=by
 rcases aep d with h|h
 ·exact aeo h.2.2
 rw[h.2];exact adq

theorem RH{a b:aO}(h:¬(a.acc.kind=b.acc.kind/\a.acc.ch=b.acc.ch)):∀(l:List aO),fV (fV l a) b=fV (fV l b) a:=by
 have bG:cg a.acc b.acc=!cg b.acc a.acc:=by
  unfold cg;refine Bool.eq_iff_iff.2 ?_;simp only[Bool.or_eq_true,Bool.and_eq_true,decide_eq_true_eq,beq_iff_eq,Bool.not_eq_true',Bool.or_eq_false_iff,Bool.and_eq_false_iff,decide_eq_false_iff_not,beq_eq_false_iff_ne];omega
 have tr:∀x y z:Acc,cg x y=true->cg x z=false->cg z y=true:=fun x y z=>by
  unfold cg;grind
 intro l;induction l with
 |nil=>
  grind[fV]
 |cons c l ih=>
  grind[fV]
theorem Kx{l:List aO}{k c n k' c' n':Int}(h:¬(k=k'/\c=c')):bR (bR l k c n) k' c' n'=bR (bR l k' c' n') k c n:=by
 grind[bR,RH]
def sI{α:Type}(p:α->Bool)(l:List α)(x:α):List α:=l.take (l.findIdx p)++[x]++l.drop (l.findIdx p)
theorem Ky{α:Type}{p:α->Bool}{l:List α}(h:l.any p=false):l.findIdx p=l.length:=List.findIdx_eq_length.2 fun x hx=>by grind
theorem RI{α:Type}{p:α->Bool}{l:List α}(h:l.any p=true):l.findIdx p<l.length:=by
 grind
theorem RJ{α:Type}{p:α->Bool}{l:List α}{x:α}(h:l.any p=false):sI p l x=l++[x]:=by
 grind[sI,Ky]
theorem RK{α:Type}{p:α->Bool}{l:List α}{x y:α}(h:l.any p=true):sI p (l++[y]) x=sI p l x++[y]:=by
 simp_all[sI,List.findIdx_append,List.take_append_of_le_length,Nat.le_of_lt,List.drop_append_of_le_length]
theorem RL{α:Type}{p:α->Bool}{l:List α}{x y:α}(h:l.any p=false)(h2:p y=true):sI p (l++[y]) x=l++[x,y]:=by
 have q:=Ky h;unfold sI;grind
def lj{α:Type}(p:α->Bool)(x:α)(l:List α):List α:=if l.any p then sI p l x else l
theorem Kz{α:Type}{p:α->Bool}{x:α}{l:List α}{k:Nat}(hk:k<l.length)(h:(l.take k).any p=true):lj p x (l.take (k+1))=lj p x (l.take k)++[l[k]]:=by
 unfold lj;rw[pr hk,h,Bool.true_or,if_pos rfl,if_pos rfl,List.take_succ_eq_append_getElem hk,RK h]
theorem KA{α:Type}{p:α->Bool}{x:α}{l:List α}{k:Nat}(hk:k<l.length)(h:(l.take k).any p=false)(h2:p l[k]=true):lj p x (l.take (k+1))=(lj p x (l.take k)++[x])++[l[k]]:=by
 unfold lj;rw[pr hk,h,h2,Bool.false_or,if_pos rfl,if_neg x_19,List.take_succ_eq_append_getElem hk,RL h h2];simp
theorem KB{α:Type}{p:α->Bool}{x:α}{l:List α}{k:Nat}(hk:k<l.length)(h:(l.take k).any p=false)(h2:p l[k]=false):lj p x (l.take (k+1))=lj p x (l.take k)++[l[k]]:=by
 unfold lj;rw[pr hk,h,h2,Bool.false_or,if_neg x_19,if_neg x_19,List.take_succ_eq_append_getElem hk]
theorem KC{α:Type}{p:α->Bool}{x:α}{l:List α}(h:l.any p=true):lj p x l=sI p l x:=if_pos h
theorem KD{α:Type}{p:α->Bool}{x:α}{l:List α}(h:l.any p=false):lj p x l++[x]=sI p l x:=by simp_all[lj,RJ]
theorem tH{α:Type}{p:α->Bool}{x:α}(l:List α):(lj p x l).length<=l.length+1:=by
 grind[lj,sI]
theorem zY{l:List be}{ch:Int}(h:eS l ch=-1):∀c∈l,c.id≠ch:=fun c hc e=>by
 grind[eS]
def gN(ch:Int)(d:be):Bool:=!decide (d.id<ch)
abbrev jc(e:aV):be:=⟨e.ch,e.af+e.ay,e.af,e.ay,0,0,0⟩
theorem DB{x:aw}{e:aV}(h:gO x e=0):eS x.ag e.ch=-1:=by
 grind[gO,decide,eS,dI,mp]
theorem x_5{p:Prop}(c:p:=by exact ⟨stays.box (Eq.refl 8),trivial⟩):p:=c
theorem x_26{p:Prop}(c:p:=by have:=tH (p:=(gN e.ch)) (x:=jc e) (x.ag.take k);grind[ah]):p:=c
theorem x_68{p:Prop}(c:p:=by exact congrArg (AO.ai 159 7) (fx aX _ [_]).symm):p:=c
theorem RM(g:Value)(x:aw)(e:aV)(sm:kL x)(es:m8 e)(mq:gI e.af e.ay=true):GC prog 199 [.ptr 0 0 0,ju e] (p7 g x [] 0) (.au []) (yd g (sJ x e)):=by
 have hm:x.ag.length<=1000000000:=by have:=sm.lc;omega
 have mG:x.an.length<=1000000000:=by have:=sm.lh;omega
 have lr:x.aq.length<=1000000000:=by have:=sm.li;omega
 have oF:=sm.lc;have hL:decide ((x.ag.length:Int)=20)=decide ((20:Int)<=(x.ag.length:Int)):=by have:=sm.lc;apply decide_eq_decide.2;omega

 refine GC.intro (rs:=[]) func199 rfl ntmps199 x_8 trivial ?_;intro L O w0;refine sL<|ab (zX 2003 Z) Z<|nA<|lf 4 bN Z<|aj ac Z<|lf 5 fC Z<|aj ac Z<|ab (zL func197 (tI _ _) Z) Z<|cT (.au [c6,fy]) Z<|dE Z<|jK 17 (e.af+e.ay) Z (ye mq)<|eU Z<|bJ 18 true Z mq<|ao Z<|cI Z<|Y<|aS<|aS<|aF [3,23,35]<|pq 0 (dJ Z)<|vq 1 (cF Z)<|vq 2 (tJ Z) ?_;refine bn 3 rfl (bF func196 (gt ) x_5 rfl rfl) (.inl rfl) ?_;have f0:bE false 0 2=0:=rfl;refine nw 22 false rfl (by rfl)<|fT [0,3,4,22] [0,1,2,3,4,2003] ?_;refine vq 4 (rG Z)<|pq 5 (dJ Z)<|pq 6 (dJ Z)<|pq 7 (qc Z)<|pq 8 (qf 0 c8 Z)<|sq 9 (dw jG cu Z)<|vq 10 (rf 2 dn Z)<|vq 11 (aZ ac Z)<|bn 12 Z (zL func200 (m9 x _ hm) Z) (.inr Z)<|vq 13 (dt Z)<|vq 14 (dx Z) ?_;refine AF.bool (t:=33) rfl ?_ ?_
 ·intro V;refine al 15 Z<|al 16 Z<|al 17 Z<|al 18 Z<|al 19 Z<|al 20 Z<|al 21 Z<|vq 22 (bA rfl)<|nw 41 (decide (0<=eS x.ag e.ch)||decide ((20:Int)<=(x.ag.length:Int))) rfl (by rw[show decide (0<=eS x.ag e.ch)=true from V];simp) ?_;refine bn 23 rfl (bF func196 (gt ) x_5 rfl rfl) (.inl rfl)<|vq 24 (cv rfl)<|vq 25 (dx rfl) ?_;refine AF.bool (t:=44) rfl ?_ ?_
  ·intro h2;refine bi 26 Z<|bi 27 Z<|bi 28 Z<|bi 29 Z<|bi 30 Z<|bi 31 Z<|al 32 Z<|al 33 Z<|al 34 Z<|al 35 Z<|vq 36 (bA Z)<|fD<|gT<|aY Z<|aR<|rT ?_;have cQ:gO x e≠0:=by
    have h:=h2;unfold gO;simp only[f0,Bool.not_eq_true',decide_eq_false_iff_not]at h;rw[fW h];exact h
   rw[sK cQ];refine ax ?_ ⟨(Eq.trans (b:=cD g x.tick x.next x.aA _) rfl (congrArg (cD g x.tick x.next x.aA) (by grind[gO,fW]))),rfl,rfl,rfl,rfl,trivial⟩;rfl
  intro h2;refine pq 26 (dJ Z)<|pq 27 (dJ Z)<|pq 28 (qc Z)<|pq 29 (qf 0 c8 Z)<|pq 30 (qf 2 iW Z)<|sq 31 (aZ ac Z)<|vq 32 (rf 4 bN Z)<|vq 33 (aZ ac Z)<|vq 34 (dt Z) ?_;refine bn 35 rfl (bF func196 (gt ) x_5 rfl rfl) (.inl rfl)<|fT [0,3,4,44,54] [0,1,2,3,4,2003] ?_;refine vq 36 (cv Z)<|fD<|gT<|cE rfl ?_ ?_
  ·intro h3;refine aR<|rT ?_;have cQ:gO x e≠0:=by
    have h:=h3;unfold gO;simp only[f0,Bool.not_eq_true',decide_eq_false_iff_not]at h;exact h
   rw[sK cQ];trivial
  intro h3;refine aK<|gT<|aS ?_;have cQ:gO x e=0:=by
   have h:=h3;unfold gO;simp only[f0,Bool.not_eq_false',decide_eq_true_eq]at h;exact h
  have iY:=zY (DB cQ);refine aL<|ab (zS 2056 [] cz dy rfl x_19) Z<|bD Z<|nA<|ar Z<|nA<|lf 2 dn Z<|aj ac Z<|ae Z<|lf 4 bN Z<|aj ac Z<|lf 5 fC Z<|aj ac Z<|lq (rd (x:=k7) (cP rfl BB rfl rfl rfl) rfl)<|ab (zA 2008 dy rfl) Z<|ab (zB 2008 lu lv rfl) Z<|lT [0,3,6,7,8] [0,1,2,3,4,2003,2008,2056] ?_;refine Y<|aS<|sL<|aM Z<|lc Z<|lf 0 c8 Z<|lf 3 dr Z<|iO eg Z<|ba kJ Z<|ae Z<|Y<|aB ?_;refine aW [0,3,6,8,69,70] [0,1,2,3,4,2003,2008] (D:=Nat) (fun k=>[(7,aD ((x.ag.take k).any (gN e.ch))),(71,int (k:Int))]) (fun k=>[(2056,AO.ai 159 7 (ah aX (lj (gN e.ch) (jc e) (x.ag.take k))))]) (fun k=>k<=x.ag.length) (fun k=>x.ag.length-k) (0) (Nat.zero_le _) ⟨rfl,rfl,trivial⟩ ⟨rfl,trivial⟩ ?_;intro k hI;refine sL<|ak Z<|Y<|aS<|cE rfl ?_ ?_
  ·intro h4;refine aK<|gT<|aS<|aB<|sL ?_;have hk:k<x.ag.length:=by simpa[ap]using h4
   have RN:=iY x.ag[k] (List.getElem_mem hk);refine lq (rj k cz rfl x_14)<|lq (rd (x:=k7) (dT rfl fF rfl rfl rfl (bS hk) rfl) rfl)<|ab (zA 2010 dy rfl) Z<|ab (zB 2010 lu lv rfl) Z<|Y<|aS<|sL<|aQ Z<|bX Z<|aQ rfl ?_;refine AL.bool (t:=77) rfl ?_ ?_
   ·intro h5;refine lf 0 kM Z<|aj ac Z<|lf 2 dn Z<|aj ac Z<|ak Z<|bj Z<|Y<|cE rfl ?_ ?_
    ·intro h6;refine sL<|bW Z<|aP k7 fF Z<|ab (zS 2086 (ah aX [jc e]) cz dy Z) Z<|lT [0,3,6,7,8,10,69,70,71,84,86] [0,1,2,3,4,2003,2008,2010,2056,2086] ?_;refine ab (zP 2056 cz dy jL rfl x_18 x_26) Z<|bD Z<|Y<|aL<|cI Z<|Y<|aL<|bW Z<|aP k7 fF Z<|ab (zS 2090 (ah aX [x.ag[k]]) cz dy rfl) Z<|ab (zP 2056 cz dy jL rfl x_18 x_26) Z<|bD Z<|lN<|gB<|gT<|aL<|bg Z<|ae Z<|Y ?_;have ha:(x.ag.take k).any (gN e.ch)=false:=by simpa using h5
     have hb:(gN e.ch) x.ag[k]=true:=by unfold gN;have h:=h6;simp at h ⊢;omega
     refine⟨k+1,hk,by omega,⟨(Eq.trans (b:=aD (true)) rfl (congrArg aD (by simp_all[pr]))),(iq rfl),trivial⟩,⟨(Eq.trans (b:=AO.ai 159 7 (ah aX ((lj (gN e.ch) (jc e) (x.ag.take k)++[jc e])++[x.ag[k]]))) (congrArg (AO.ai 159 7) (by grind[fx])) (congrArg (fun l=>AO.ai 159 7 (ah aX l)) (KA hk ha hb).symm)),trivial⟩,rfl,rfl⟩
    intro h6;refine aK<|gT<|aL<|bW Z<|aP k7 fF Z<|ab (zS 2090 (ah aX [x.ag[k]]) cz dy rfl) Z<|ab (zP 2056 cz dy jL rfl x_18 x_26) Z<|lT [0,3,7,8,69,70,71,91] [0,1,2,3,4,2003,2008,2010,2056,2090] ?_;refine bD Z<|lN<|gB<|gT<|aL<|bg Z<|ae Z<|Y ?_;have ha:(x.ag.take k).any (gN e.ch)=false:=by simpa using h5
    have hb:(gN e.ch) x.ag[k]=false:=by unfold gN;have h:=h6;simp at h ⊢;omega
    refine⟨k+1,hk,by omega,⟨(Eq.trans (b:=aD ((x.ag.take k).any (gN e.ch))) rfl (congrArg aD (by simp_all[pr]))),(iq rfl),trivial⟩,⟨(Eq.trans (b:=AO.ai 159 7 (ah aX (lj (gN e.ch) (jc e) (x.ag.take k)++[x.ag[k]]))) (congrArg (AO.ai 159 7) (fx aX _ [_]).symm) (congrArg (fun l=>AO.ai 159 7 (ah aX l)) (KB hk ha hb).symm)),trivial⟩,rfl,rfl⟩
   intro h5;refine aa Z<|aa Z<|aa Z<|aa Z<|aa Z<|bL Z<|Y<|aN Z<|aK<|gT<|aL<|bW Z<|aP k7 fF Z<|ab (zS 2090 (ah aX [x.ag[k]]) cz dy rfl) Z<|ab (zP 2056 cz dy jL rfl x_18 x_26) Z<|bD Z<|lN<|gB<|gT<|aL<|bg Z<|ae Z<|Y ?_;have ha:(x.ag.take k).any (gN e.ch)=true:=by simpa using h5
   refine⟨k+1,hk,by omega,⟨(Eq.trans (b:=aD ((x.ag.take k).any (gN e.ch))) rfl (congrArg aD x_14)),(iq rfl),trivial⟩,⟨(Eq.trans (b:=AO.ai 159 7 (ah aX (lj (gN e.ch) (jc e) (x.ag.take k)++[x.ag[k]]))) (congrArg (AO.ai 159 7) (fx aX _ [_]).symm) (congrArg (fun l=>AO.ai 159 7 (ah aX l)) (Kz hk ha).symm)),trivial⟩,rfl,rfl⟩
  intro h4;refine aE<|eT<|eT<|eB<|gT ?_;refine aJ [0,3,6] [0,1,2,3,4,2003,2008] (D:=Unit) (fun jd=>[]) (fun jd=>[(2056,AO.ai 159 7 (ah aX (ly x.ag (jc e))))]) (fun jd=>True) ?_ ?_
  ·refine aS ?_;have dZ:k=x.ag.length:=by have h:=h4;simp only[ap,decide_eq_false_iff_not]at h;omega
   have qO:x.ag.take k=x.ag:=by rw[dZ,List.take_length]
   refine aL<|aQ Z<|bX Z<|Y<|cE rfl ?_ ?_
   ·intro h7;refine aL<|bW Z<|aP k7 fF Z<|ab (zS 2097 (ah aX [jc e]) cz dy Z) Z<|lT [0,3,6,95,97] [0,1,2,3,4,2003,2008,2056,2097] ?_;refine ab (zP 2056 cz dy jL rfl x_18 x_26) Z<|bD Z<|Y ?_;refine⟨(),trivial,trivial,⟨(Eq.trans (b:=AO.ai 159 7 (ah aX (lj (gN e.ch) (jc e) (x.ag.take k)++[jc e]))) (congrArg (AO.ai 159 7) (fx aX _ [_]).symm) (congrArg (fun l=>AO.ai 159 7 (ah aX l)) (by have h:=h7;rw[qO]at h ⊢;exact KD x_14))),trivial⟩,rfl,rfl⟩
   intro h7;refine aK<|gT ?_;refine⟨(),trivial,trivial,⟨(congrArg (fun l=>AO.ai 159 7 (ah aX l)) (by have h:=h7;rw[qO]at h ⊢;exact KC x_14)),trivial⟩,rfl,rfl⟩
  intro jd hJ;refine sL<|aM Z<|bW Z<|lc Z<|lf 0 c8 Z<|lf 3 dr Z<|ab (zB 0 sM sN Z) Z<|Y<|aS ?_;refine AW.swap 2056 1 ?_;refine aT [0,3] [0,1,2,3,4,2003,2008] ?_;refine aF [12]<|pq 0 (dJ Z)<|pq 1 (dJ Z)<|pq 2 (qc Z)<|pq 3 (qf 0 c8 Z)<|pq 4 (qf 2 iW Z)<|sq 5 (aZ ac Z)<|vq 6 (rf 4 bN Z)<|vq 7 (aZ ac Z) ?_;refine vq 8 (iC rfl ⟨rfl,ce x_111⟩)<|vq 9 (rc rfl)<|vq 10 (rf 0 c8 rfl)<|vq 11 (rf 2 iW rfl)<|bn 12 rfl (zB 0 ca cb rfl) (.inl rfl)<|fD<|gA<|aM Z<|lf 4 bN Z<|aj ac Z<|lq (rd (x:=c6) (il rfl rfl (ce x_124)) rfl) ?_;refine ab (bF func198 (jv ([]) 0 (LG.nil) x_3 _ _ _ (cL.nil _ _) (jM es.af)) x_5 rfl rfl) Z<|lT [0,3] [0,1,2,3,4,2003,2008] ?_;refine Y<|aL<|aM Z<|lf 2 dn Z<|aj ac Z<|lf 4 bN Z<|aj ac Z ?_;refine ab (bF func198 (jv (bR [] 1 0 (-e.af)) 1 (LG.nil.add (jM es.af)) x_3 _ _ _ x_42 (gP es.af)) x_5 rfl rfl) Z<|lN ?_;rw[tK cQ];refine iZ ?_ ⟨(Eq.trans (b:=cD g x.tick x.next (x.aA-e.af) _) rfl (congrArg (cD g x.tick x.next (x.aA-e.af)) x_14)),rfl,rfl,rfl,(congrArg dc (Kx x_2)),trivial⟩;rfl
 intro V;refine vq 15 (cG rfl)<|vq 16 (rc rfl)<|vq 17 (rf 0 c8 rfl)<|vq 18 (rf 3 dr rfl)<|vq 19 (gC eg rfl)<|vq 20 (le kJ rfl)<|vq 21 (dt rfl)<|nw 40 (decide ((20:Int)<=(x.ag.length:Int))) rfl x_33<|vq 22 (cv rfl)<|nw 41 (decide (0<=eS x.ag e.ch)||decide ((20:Int)<=(x.ag.length:Int))) rfl (by rw[show decide (0<=eS x.ag e.ch)=false from V];simp) ?_;refine bn 23 rfl (bF func196 (gt ) x_5 rfl rfl) (.inl rfl)<|fT [0,3,4,23,42] [0,1,2,3,4,2003] ?_;refine vq 24 (cv Z)<|vq 25 (dx Z) ?_;refine AF.bool (t:=44) rfl ?_ ?_
 ·intro h8;refine bi 26 Z<|bi 27 Z<|bi 28 Z<|bi 29 Z<|bi 30 Z<|bi 31 Z<|al 32 Z<|al 33 Z<|al 34 Z<|al 35 Z<|vq 36 (bA Z)<|fD<|gT<|aY Z<|aR<|rT ?_;have cQ:gO x e≠0:=by
   have h:=h8;unfold gO;simp only[f0,Bool.not_eq_true',decide_eq_false_iff_not]at h;rw[fW h];exact h
  rw[sK cQ];refine ax ?_ ⟨(Eq.trans (b:=cD g x.tick x.next x.aA _) rfl (congrArg (cD g x.tick x.next x.aA) (by grind[gO,fW]))),rfl,rfl,rfl,rfl,trivial⟩;rfl
 intro h8;refine pq 26 (dJ Z)<|pq 27 (dJ Z)<|pq 28 (qc Z)<|pq 29 (qf 0 c8 Z)<|pq 30 (qf 2 iW Z)<|sq 31 (aZ ac Z)<|vq 32 (rf 4 bN Z)<|vq 33 (aZ ac Z)<|vq 34 (dt Z) ?_;refine bn 35 rfl (bF func196 (gt ) x_5 rfl rfl) (.inl rfl)<|vq 36 (cv rfl)<|fD<|gT<|cE rfl ?_ ?_
 ·intro h9;refine aR<|rT ?_;have cQ:gO x e≠0:=by
   have h:=h9;unfold gO;simp only[f0,Bool.not_eq_true',decide_eq_false_iff_not]at h;exact h
  rw[sK cQ];trivial
 intro h9;refine aK<|gT<|aS ?_;have cQ:gO x e=0:=by
  have h:=h9;unfold gO;simp only[f0,Bool.not_eq_false',decide_eq_true_eq]at h;exact h
 have iY:=zY (DB cQ);refine aL<|ab (zS 2056 [] cz dy rfl x_19) Z<|lT [0,3,4,56] [0,1,2,3,4,2003,2056] ?_;refine bD Z<|nA<|ar Z<|nA<|lf 2 dn Z<|aj ac Z<|ae Z<|lf 4 bN Z<|aj ac Z<|lf 5 fC Z<|aj ac Z<|lq (rd (x:=k7) (cP Z BB Z Z Z) Z)<|ab (zA 2008 dy Z) Z<|ab (zB 2008 lu lv Z) Z<|Y<|aS<|sL<|aM Z<|lc Z<|lf 0 c8 Z<|lf 3 dr Z<|iO eg Z ?_;refine ba kJ Z<|ae Z<|Y<|aB ?_;refine aW [0,3,6,8,69,70] [0,1,2,3,4,2003,2008] (D:=Nat) (fun k=>[(7,aD ((x.ag.take k).any (gN e.ch))),(71,int (k:Int))]) (fun k=>[(2056,AO.ai 159 7 (ah aX (lj (gN e.ch) (jc e) (x.ag.take k))))]) (fun k=>k<=x.ag.length) (fun k=>x.ag.length-k) (0) (Nat.zero_le _) ⟨rfl,rfl,trivial⟩ ⟨rfl,trivial⟩ ?_;intro k hI;refine sL<|ak Z<|Y<|aS<|cE rfl ?_ ?_
 ·intro dh;refine aK<|gT<|aS<|aB<|sL ?_;have hk:k<x.ag.length:=by simpa[ap]using dh
  have RN:=iY x.ag[k] (List.getElem_mem hk);refine lq (rj k cz rfl x_14)<|lq (rd (x:=k7) (dT rfl fF rfl rfl rfl (bS hk) rfl) rfl)<|ab (zA 2010 dy rfl) Z<|lT [0,3,6,7,8,10,69,70,71,74] [0,1,2,3,4,2003,2008,2010,2056] ?_;refine ab (zB 2010 lu lv Z) Z<|Y<|aS<|sL<|aQ Z<|bX Z<|aQ Z ?_;refine AL.bool (t:=77) rfl ?_ ?_
  ·intro gp;refine lf 0 kM Z<|aj ac Z<|lf 2 dn Z<|aj ac Z<|ak Z<|bj Z<|Y<|cE rfl ?_ ?_
   ·intro gM;refine sL<|bW Z<|aP k7 fF Z<|ab (zS 2086 (ah aX [jc e]) cz dy rfl) Z<|ab (zP 2056 cz dy jL rfl x_18 x_26) Z<|lT [0,3,7,8,10,69,70,71,87] [0,1,2,3,4,2003,2008,2010,2056,2086] ?_;refine bD Z<|Y<|aL<|cI Z<|Y<|aL<|bW Z<|aP k7 fF Z<|ab (zS 2090 (ah aX [x.ag[k]]) cz dy rfl) Z<|ab (zP 2056 cz dy jL rfl x_18 x_26) Z<|bD Z<|lN<|gB<|gT<|aL<|bg Z<|ae Z<|Y ?_;have ha:(x.ag.take k).any (gN e.ch)=false:=by simpa using gp
    have hb:(gN e.ch) x.ag[k]=true:=by unfold gN;have h:=gM;simp at h ⊢;omega
    refine⟨k+1,hk,by omega,⟨(Eq.trans (b:=aD (true)) rfl (congrArg aD (by simp_all[pr]))),(iq rfl),trivial⟩,⟨(Eq.trans (b:=AO.ai 159 7 (ah aX ((lj (gN e.ch) (jc e) (x.ag.take k)++[jc e])++[x.ag[k]]))) (congrArg (AO.ai 159 7) (by grind[fx])) (congrArg (fun l=>AO.ai 159 7 (ah aX l)) (KA hk ha hb).symm)),trivial⟩,rfl,rfl⟩
   intro gM;refine aK<|gT<|aL<|bW Z<|aP k7 fF Z<|ab (zS 2090 (ah aX [x.ag[k]]) cz dy rfl) Z<|ab (zP 2056 cz dy jL rfl x_18 x_26) Z<|bD Z<|lN<|gB<|gT<|aL<|bg Z<|ae Z<|Y ?_;have ha:(x.ag.take k).any (gN e.ch)=false:=by simpa using gp
   have hb:(gN e.ch) x.ag[k]=false:=by unfold gN;have h:=gM;simp at h ⊢;omega
   refine⟨k+1,hk,by omega,⟨(Eq.trans (b:=aD ((x.ag.take k).any (gN e.ch))) rfl (congrArg aD (by simp_all[pr]))),(iq rfl),trivial⟩,⟨(Eq.trans (b:=AO.ai 159 7 (ah aX (lj (gN e.ch) (jc e) (x.ag.take k)++[x.ag[k]]))) (congrArg (AO.ai 159 7) (fx aX _ [_]).symm) (congrArg (fun l=>AO.ai 159 7 (ah aX l)) (KB hk ha hb).symm)),trivial⟩,rfl,rfl⟩
  intro gp;refine aa Z<|aa Z<|aa Z<|aa Z<|aa Z<|bL Z<|Y<|aN Z<|aK<|gT<|aL<|bW Z<|aP k7 fF Z<|ab (zS 2090 (ah aX [x.ag[k]]) cz dy Z) Z<|lT [0,3,6,7,8,69,70,71,88,90] [0,1,2,3,4,2003,2008,2010,2056,2090] ?_;refine ab (zP 2056 cz dy jL rfl x_18 x_26) Z<|bD Z<|lN<|gB<|gT<|aL<|bg Z<|ae Z<|Y ?_;have ha:(x.ag.take k).any (gN e.ch)=true:=by simpa using gp
  refine⟨k+1,hk,by omega,⟨(Eq.trans (b:=aD ((x.ag.take k).any (gN e.ch))) rfl (congrArg aD x_14)),(iq rfl),trivial⟩,⟨(Eq.trans (b:=AO.ai 159 7 (ah aX (lj (gN e.ch) (jc e) (x.ag.take k)++[x.ag[k]]))) (congrArg (AO.ai 159 7) (fx aX _ [_]).symm) (congrArg (fun l=>AO.ai 159 7 (ah aX l)) (Kz hk ha).symm)),trivial⟩,rfl,rfl⟩
 intro dh;refine aE<|eT<|eT<|eB<|gT ?_;refine aJ [0,3,6] [0,1,2,3,4,2003,2008] (D:=Unit) (fun jd=>[]) (fun jd=>[(2056,AO.ai 159 7 (ah aX (ly x.ag (jc e))))]) (fun jd=>True) ?_ ?_
 ·refine aS ?_;have dZ:k=x.ag.length:=by have h:=dh;simp only[ap,decide_eq_false_iff_not]at h;omega
  have qO:x.ag.take k=x.ag:=by rw[dZ,List.take_length]
  refine aL<|aQ Z<|bX Z<|Y<|cE rfl ?_ ?_
  ·intro dO;refine aL<|bW Z<|aP k7 fF Z<|ab (zS 2097 (ah aX [jc e]) cz dy rfl) Z<|ab (zP 2056 cz dy jL rfl x_18 x_26) Z<|bD Z<|Y ?_;refine⟨(),trivial,trivial,⟨(Eq.trans (b:=AO.ai 159 7 (ah aX (lj (gN e.ch) (jc e) (x.ag.take k)++[jc e]))) (congrArg (AO.ai 159 7) (fx aX _ [_]).symm) (congrArg (fun l=>AO.ai 159 7 (ah aX l)) (by have h:=dO;rw[qO]at h ⊢;exact KD x_14))),trivial⟩,rfl,rfl⟩
  intro dO;refine aK<|gT ?_;refine⟨(),trivial,trivial,⟨(congrArg (fun l=>AO.ai 159 7 (ah aX l)) (by have h:=dO;rw[qO]at h ⊢;exact KC x_14)),trivial⟩,rfl,rfl⟩
 intro jd hJ;refine sL<|aM Z<|bW Z<|lc Z<|lf 0 c8 Z<|lf 3 dr Z<|ab (zB 0 sM sN Z) Z<|Y<|aS ?_;refine AW.swap 2056 1 ?_;refine aT [0,3] [0,1,2,3,4,2003,2008] ?_;refine aF [12]<|pq 0 (dJ Z)<|pq 1 (dJ Z)<|pq 2 (qc Z)<|pq 3 (qf 0 c8 Z)<|pq 4 (qf 2 iW Z)<|sq 5 (aZ ac Z)<|vq 6 (rf 4 bN Z)<|vq 7 (aZ ac Z) ?_;refine vq 8 (iC rfl ⟨rfl,ce x_111⟩)<|vq 9 (rc rfl)<|vq 10 (rf 0 c8 rfl)<|vq 11 (rf 2 iW rfl)<|bn 12 rfl (zB 0 ca cb rfl) (.inl rfl)<|fD<|gA<|aM Z<|lf 4 bN Z<|aj ac Z<|lq (rd (x:=c6) (il rfl rfl (ce x_124)) rfl) ?_;refine ab (bF func198 (jv ([]) 0 (LG.nil) x_3 _ _ _ (cL.nil _ _) (jM es.af)) x_5 rfl rfl) Z<|lT [0,3] [0,1,2,3,4,2003,2008] ?_;refine Y<|aL<|aM Z<|lf 2 dn Z<|aj ac Z<|lf 4 bN Z<|aj ac Z ?_;refine ab (bF func198 (jv (bR [] 1 0 (-e.af)) 1 (LG.nil.add (jM es.af)) x_3 _ _ _ x_42 (gP es.af)) x_5 rfl rfl) Z<|lN ?_;rw[tK cQ];refine iZ ?_ ⟨(Eq.trans (b:=cD g x.tick x.next (x.aA-e.af) _) rfl (congrArg (cD g x.tick x.next (x.aA-e.af)) x_14)),rfl,rfl,rfl,(congrArg dc (Kx x_2)),trivial⟩;rfl
theorem KE{l:List be}{ch:Int}{k:Nat}(hk:k<l.length):ny (l.take (k+1)) ch=ny (l.take k) ch++(if l[k].id=ch then []else [l[k]]):=by
 grind[ny,List.take_succ_eq_append_getElem]
theorem RO{l:List be}{ch:Int}:(ny l ch).length<=l.length:=List.length_filter_le _ _
theorem x_138{p:Prop}(c:p:=by rw[show jw (fun c=>c.id==e.ch) x.ag=_ from hi];simp):p:=c
theorem KF(g:Value)(x:aw)(e:aV)(fi:sO x)(es:m8 e)(tL:0<=e.ay):GC prog 201 [.ptr 0 0 0,ju e] (p7 g x [] 0) (.au []) (yd g (rH x e)):=by
 have sm:=fi.sm;have hm:x.ag.length<=1000000000:=by have:=sm.lc;omega
 have mG:x.an.length<=1000000000:=by have:=sm.lh;omega
 have lr:x.aq.length<=1000000000:=by have:=sm.li;omega
 have oF:=sm.lc;have hL:decide ((x.ag.length:Int)=20)=decide ((20:Int)<=(x.ag.length:Int)):=by have:=sm.lc;apply decide_eq_decide.2;omega

 refine GC.intro (rs:=[]) func201 rfl ntmps201 x_8 trivial ?_;intro L O w0;refine sL<|ab (zX 2003 Z) Z<|Y<|aS<|aF []<|pq 0 (dJ Z)<|pq 1 (qc Z)<|pq 2 (qf 0 c8 Z)<|sq 3 (dw jG cu Z)<|vq 4 (rf 2 dn Z)<|vq 5 (aZ ac Z) ?_;rcases jt x.ag e.ch with⟨hi,ho⟩|⟨i,c,hi,hc,ho,hid⟩
 ·skip;refine bn 6 rfl (zL func200 (m9 x _ hm) rfl) (.inr rfl)<|vq 7 (j8 rfl)<|fD<|gT<|aS<|sL<|aM Z<|ae Z<|ak Z<|bJ 18 true rfl x_138 ?_;refine ab (bF func196 (gt ) x_5 rfl rfl) rfl ?_;have f0:bE false 0 6=0:=rfl;refine bJ 19 true rfl (by rfl)<|Y<|aY Z<|aR<|rT ?_;have cU:ir x e=6:=by unfold ir;rw[j9 hi,fW (dI (mp x_3)),fW (mp x_3)];rfl
  have cQ:ir x e≠0:=by rw[cU];decide
  rw[tM cQ,cU];trivial
 have bC:=sm.ag c (dB hc);refine bn 6 Z (zL func200 (m9 x _ hm) Z) (.inr Z)<|fT [0,3,15] [0,1,2,3,4,2003] ?_;refine vq 7 (j8 rfl)<|fD<|gT<|aS<|sL<|aM Z<|ae Z<|ak Z<|bJ 18 false rfl (by grind[jw]) ?_;refine ab (bF func196 (gt ) x_5 rfl rfl) rfl ?_;have f0:bE false 0 6=0:=rfl;refine bJ 19 false rfl (by rfl)<|Y<|aN Z<|aK<|gA<|aM Z<|lc Z<|lf 0 c8 Z<|lf 3 dr Z<|iO eg Z<|ae Z<|lq (rd (x:=.ptr 1 _ 0) (pu (i:=i) rfl cz rfl rfl rfl ?hn1 x_33) rfl) ?_;case hn1=>trivial
 refine lq (rd (x:=k7) (dT Z fF Z Z Z (dk hc) Z) Z)<|ab (zA 2005 dy Z) Z<|lT [0,3,5,27] [0,1,2,3,4,2003,2005] ?_;refine ab (zB 2005 lu lv Z) Z<|Y<|aS<|aS<|aF [8,16]<|pq 0 (dJ Z)<|pq 1 (dJ Z)<|pq 2 (qc Z)<|pq 3 (qf 0 c8 Z)<|sq 4 (dw jG cu Z)<|vq 5 (rf 2 dn Z)<|vq 6 (aZ ac Z)<|bn 7 Z (zL func252 (RP x _ mG lr) Z) (.inr Z) ?_;refine bn 8 rfl (bF func196 (gt ) x_5 rfl rfl) (.inl rfl)<|vq 9 (dx rfl) ?_;refine AF.bool (t:=37) rfl ?_ ?_
 ·intro V;refine bi 10 Z<|bi 11 Z<|bi 12 Z<|al 13 Z<|al 14 Z<|al 15 Z<|al 16 Z<|vq 17 (bA Z)<|fD<|gT<|aY Z<|aR<|rT ?_;have cU:ir x e=bE (oG x e.ch) 0 7:=by
   have h:=V;unfold ir;rw[ka hi,ho];simp only[f0,Bool.not_eq_true',decide_eq_false_iff_not]at h;exact fW h
  have cQ:ir x e≠0:=by
   have h:=V;rw[cU];simp only[f0,Bool.not_eq_true',decide_eq_false_iff_not]at h;exact h
  rw[tM cQ,cU];trivial
 intro V;refine pq 10 (dJ Z)<|pq 11 (qf 5 fC Z)<|sq 12 (aZ ac Z)<|vq 13 (rf 2 fH Z)<|vq 14 (aZ ac Z)<|vq 15 (dt Z) ?_;refine bn 16 rfl (bF func196 (gt ) x_5 rfl rfl) (.inl rfl)<|fT [0,3,5,37,44] [0,1,2,3,4,2003,2005] ?_;refine vq 17 (cv Z)<|fD<|gT<|cE rfl ?_ ?_
 ·intro h2;refine aR<|rT ?_;have cU:ir x e=bE (decide (c.loc<e.ay)) (bE (oG x e.ch) 0 7) 8:=by unfold ir;rw[ka hi,ho]
  have cQ:ir x e≠0:=by
   have h:=h2;rw[cU];simp only[f0,Bool.not_eq_true',decide_eq_false_iff_not]at h;exact h
  rw[tM cQ,cU];trivial
 intro h2;refine aK<|gT<|aS ?_;have cQ:ir x e=0:=by
  have h:=h2;unfold ir;rw[ka hi,ho];simp only[f0,Bool.not_eq_false',decide_eq_true_eq]at h;exact h
 refine aL<|ab (zS 2046 [] cz dy rfl x_19) Z<|bD Z<|Y<|aS<|sL<|aM Z<|lc Z<|lf 0 c8 Z<|lf 3 dr Z<|iO eg Z<|ba kJ Z<|ae Z<|Y<|aB ?_;refine aW [0,3,5,6,51,52] [0,1,2,3,4,2003,2005] (D:=Nat) (fun k=>[(53,int (k:Int))]) (fun k=>[(2046,AO.ai 159 7 (ah aX (ny (x.ag.take k) e.ch)))]) (fun k=>k<=x.ag.length) (fun k=>x.ag.length-k) (0) (Nat.zero_le _) ⟨rfl,trivial⟩ ⟨rfl,trivial⟩ ?_;intro k hI;refine sL<|ak Z<|Y<|aS<|cE rfl ?_ ?_
 ·intro h3;refine aK<|gT<|aS<|aB<|sL ?_;have hk:k<x.ag.length:=by simpa[ap]using h3
  refine lq (rj k cz rfl x_14)<|lq (rd (x:=k7) (dT rfl fF rfl rfl rfl (bS hk) rfl) rfl)<|ab (zA 2008 dy rfl) Z<|lT [0,3,5,6,8,51,52,53,56] [0,1,2,3,4,2003,2005,2008,2046] ?_;refine ab (zB 2008 lu lv Z) Z<|nA<|lf 0 kM Z<|aj ac Z<|lf 2 dn Z<|aj ac Z<|ak Z<|Y<|cE rfl ?_ ?_
  ·intro h4;refine aL<|bW Z<|aP k7 fF Z<|ab (zS 2064 (ah aX [x.ag[k]]) cz dy rfl) Z<|ab (zP 2046 cz dy jL rfl x_18 (by grind[RO,ah])) Z<|bD Z<|lN<|gB<|gT<|aL<|bg Z<|ae Z<|Y ?_;refine⟨k+1,hk,by omega,x_11,⟨(Eq.trans (b:=AO.ai 159 7 (ah aX (ny (x.ag.take k) e.ch++[x.ag[k]]))) (congrArg (AO.ai 159 7) (fx aX _ [_]).symm) (congrArg (fun l=>AO.ai 159 7 (ah aX l)) (by simp_all[KE]))),trivial⟩,rfl,rfl⟩
  intro h4;refine aK<|gB<|gT<|aL<|bg Z<|ae Z<|Y ?_;refine⟨k+1,hk,by omega,x_11,⟨(congrArg (fun l=>AO.ai 159 7 (ah aX l)) (by simp_all[KE])),trivial⟩,rfl,rfl⟩
 intro h3;refine aE<|eT<|eT<|eB<|gT<|aS ?_;have dZ:k=x.ag.length:=by have h:=h3;simp only[ap,decide_eq_false_iff_not]at h;omega
 refine AW.obj 2046 (AO.ai 159 7 (ah aX (ny x.ag e.ch))) (congrArg (fun l=>AO.ai 159 7 (ah aX l)) x_14) ?_;refine aL<|aM Z<|bW Z<|lc Z<|lf 0 c8 Z<|lf 3 dr Z<|ab (zB 0 sM sN Z) Z<|lT [0,3,5] [0,1,2,3,4,2003,2005,2046] ?_;refine Y<|aS ?_;refine AW.swap 2046 1 ?_;refine aT [0,3,5] [0,1,2,3,4,2003,2005] ?_;refine aF [15]<|pq 0 (dJ Z)<|pq 1 (dJ Z)<|pq 2 (qc Z)<|pq 3 (qf 0 c8 Z)<|pq 4 (qf 2 iW Z)<|sq 5 (aZ ac Z)<|pq 6 (qf 2 fH Z)<|sq 7 (aZ ac Z) ?_;refine sq 8 (iC rfl ⟨rfl,ce x_129⟩)<|vq 9 (rf 5 fC rfl)<|vq 10 (aZ ac rfl) ?_;refine vq 11 (iC rfl ⟨rfl,ce x_129⟩)<|qM 83 (x.aA+(c.loc-e.ay)) rfl x_2<|vq 12 (rc rfl)<|vq 13 (rf 0 c8 rfl)<|vq 14 (rf 2 iW rfl)<|bn 15 rfl (zB 0 ca cb rfl) (.inl rfl)<|fT [0,3,5] [0,1,2,3,4,2003,2005] ?_;refine fD<|gA<|aM Z<|lf 2 fH Z<|aj ac Z<|lf 5 fC Z<|aj ac Z ?_;refine eo rfl ⟨rfl,ce x_113⟩ ?_;have tN:¬c.loc<e.ay/\0<=e.ay:=⟨fun q=>by
  grind[mp],tL⟩
 refine ab (bF func198 (jv ([]) 0 (LG.nil) x_3 _ _ _ (cL.nil _ _) (gP (by grind[bk]))) x_5 rfl rfl) Z<|nA<|aM Z<|lf 5 fC Z<|aj ac rfl ?_;refine ab (bF func198 (jv (bR [] 1 0 (c.loc-e.ay)) 1 (LG.nil.add (gP (by grind[bk]))) x_3 _ _ _ x_42 (gP es.ay)) x_5 rfl rfl) Z<|Y<|aL<|aM Z<|lf 2 dn Z<|aj ac Z<|lf 2 fH Z<|aj ac Z<|lq (rd (x:=c6) (il rfl rfl (ce (by grind[bk,i64]))) rfl) ?_;refine ab (bF func198 (jv (bR (bR [] 1 0 (c.loc-e.ay)) 5 0 e.ay) 2 ((LG.nil.add (gP (by grind[bk]))).add (gP es.ay)) x_3 _ _ _ (((cL.nil _ _).add (.inl x_3)).add (.inl x_3)) (jM bC.1)) x_5 rfl rfl) Z<|lT [] [0,1,2,3,4,2003,2005] ?_;refine lN ?_;rw[yf cQ];unfold zZ;rw[ho];refine iZ ?_ ⟨(Eq.trans (b:=cD g x.tick x.next (x.aA+(c.loc-e.ay)) _) rfl (congrArg (cD g x.tick x.next (x.aA+(c.loc-e.ay))) x_14)),rfl,rfl,rfl,rfl,trivial⟩;rfl

theorem RQ{l l':List be}{ch:Int}(h:l.map (·.id)=l'.map (·.id)):eS l ch=eS l' ch:=by
 have e:∀l:List be,l.findIdx? (fun c=>c.id==ch)=(l.map (·.id)).findIdx? (fun k=>k==ch):=fun l=>by rw[List.findIdx?_map];rfl
 grind[eS]
theorem uX{l:List be}{i:Nat}{c c':be}{ch:Int}(hc:l[i]? = some c)(h:c'.id=c.id):eS (l.set i c') ch=eS l ch:=by
 refine RQ ?_;obtain⟨hi,rfl⟩:=List.getElem?_eq_some_iff.1 hc;rw[List.map_set,h];apply List.ext_getElem?;grind
theorem p8{l:List be}{a b c:Int}(kN:a≠b):tO l b (tO l a c)=bE (!two l a b) c 6:=by
 grind[jt,tO,two,bE]
theorem jx{x:aw}{e:aV}(h:dz x e≠0):gg x e=dz x e:=if_neg h
theorem rI{x:aw}{e:aV}(h:dz x e=0):gg x e=bE (decide (ib x e=0)) (dz x e) 13:=if_pos h
theorem x_87{p:Prop}(c:p:=by intro s hs;cases hs;decide):p:=c
theorem x_96{p:Prop}(c:p:=by exact ⟨(),trivial,⟨rfl,trivial⟩,⟨rfl,trivial⟩,rfl,rfl⟩):p:=c
theorem x_136{p:Prop}(c:p:=by rw[List.length_set];exact hm):p:=c
theorem RS(g:Value)(x:aw)(e:aV)(fi:sO x)(es:m8 e)(bO:e.ch≠e.to):GC prog 202 [.ptr 0 0 0,ju e] (p7 g x [] 0) (.au []) (yd g (sP x e)):=by
 have sm:=fi.sm;have hm:x.ag.length<=1000000000:=by have:=sm.lc;omega
 have oa:=sm.lh;have FZ:=sm.li;have F2:x.an.length<=1000:=by omega
 have F4:x.aq.length<=1000:=by omega
 have KG:decide ((x.an.length:Int)=60)=decide ((60:Int)<=(x.an.length:Int)):=by apply decide_eq_decide.2;omega
 have KH:decide ((x.aq.length:Int)=20)=decide ((20:Int)<=(x.aq.length:Int)):=by apply decide_eq_decide.2;omega

 refine GC.intro (rs:=[]) func202 rfl ntmps202 x_8 trivial ?_;intro L O w0;refine sL<|ab (zX 2003 rfl) Z<|Y<|aS<|aS<|aF [9,22,33]<|pq 0 (dJ rfl)<|pq 1 (dJ rfl)<|pq 2 (qc rfl)<|pq 3 (qf 0 c8 rfl)<|sq 4 (dw jG cu rfl)<|pq 6 (qf 1 gE rfl)<|sq 7 (aZ ac rfl)<|bn 5 rfl (KI 2016 rfl x_87 rfl func254 rfl rfl (KJ x F2 F4) yg rfl) (.inr rfl)<|bn 8 rfl (zL func253 (KK (wH x) _ (by unfold wH;simp;omega)) rfl) (.inr rfl)<|nw 19 (nD x e.key) rfl (any_keys x e.key) ?_;refine bn 9 rfl (bF func196 (gt ) x_5 rfl rfl) (.inl rfl)<|vq 10 (dx rfl) ?_;refine AF.bool (t:=21) rfl ?_ ?_
 ·intro V;refine bi 11 Z<|bi 12 Z<|bi 13 Z<|bi 14 Z<|bi 15 Z<|bi 16 Z<|bi 17 Z<|al 18 Z<|al 19 Z<|al 20 Z<|al 21 Z<|al 22 Z<|vq 23 (bA Z)<|vq 24 (cF Z)<|bi 25 Z<|al 26 Z<|al 27 Z<|al 28 Z<|al 29 Z<|al 30 Z<|al 31 Z<|al 32 Z<|al 33 Z<|vq 34 (bA Z)<|fD<|gT<|aY Z<|aR<|rT ?_;have cU:im x e=bE (nD x e.key) 0 9:=by
   have h:=V;unfold im;rw[p8 bO];simp only[eA,eC,eD,eE]at h;rw[fW (c:=bE (!two x.ag e.ch e.to) (bE (nD x e.key) 0 9) 6) (dI h),fW h]
  have hn:im x e≠0:=by
   have h:=V;simp only[eA,eC,eD,eE]at h;rw[cU];exact h
  have oc:gg x e=im x e:=by
   rw[jx (dI (dI (dI hn)))];unfold dz;rw[fW (dI (dI hn)),fW (dI hn),fW hn]
  rw[jm (by rw[oc];exact hn),oc,cU];refine ax ?_ ⟨rfl,rfl,rfl,rfl,rfl,trivial⟩;rfl
 intro V;refine pq 11 (dJ Z)<|pq 12 (dJ Z)<|pq 13 (qc Z)<|pq 14 (qf 0 c8 Z)<|sq 15 (dw jG cu Z)<|pq 16 (qf 2 dn Z)<|sq 17 (aZ ac Z)<|vq 18 (rf 3 fK Z)<|vq 19 (aZ ac Z)<|bn 20 Z (zL func255 (KL x _ _ hm) Z) (.inr Z)<|vq 21 (gQ Z) ?_;refine bn 22 rfl (bF func196 (gt ) x_5 rfl rfl) (.inl rfl)<|vq 23 (cv rfl)<|vq 24 (dx rfl) ?_;refine AF.bool (t:=35) rfl ?_ ?_
 ·intro h2;refine bi 25 Z<|al 26 Z<|al 27 Z<|al 28 Z<|al 29 Z<|al 30 Z<|al 31 Z<|al 32 Z<|al 33 Z<|vq 34 (bA Z)<|fD<|gT<|aT [0,3,45] [0,1,2,3,4,2003,2016] ?_;refine aY Z<|aR<|rT ?_;have cU:im x e=bE (!two x.ag e.ch e.to) (bE (nD x e.key) 0 9) 6:=by
   have h:=h2;unfold im;rw[p8 bO];simp only[eA,eC,eD,eE]at h;rw[fW h]
  have hn:im x e≠0:=by
   have h:=h2;simp only[eA,eC,eD,eE]at h;rw[cU];exact h
  have oc:gg x e=im x e:=by
   rw[jx (dI (dI (dI hn)))];unfold dz;rw[fW (dI (dI hn)),fW (dI hn),fW hn]
  rw[jm (by rw[oc];exact hn),oc,cU];refine ax ?_ ⟨rfl,rfl,rfl,rfl,rfl,trivial⟩;rfl
 intro h2;refine pq 25 (dJ rfl)<|vq 26 (cG rfl)<|vq 27 (rc rfl)<|vq 28 (rf 0 c8 rfl)<|vq 29 (rf 4 eF rfl)<|vq 30 (gC fS rfl)<|vq 31 (le jb rfl)<|vq 32 (dt rfl)<|nw 43 (decide ((60:Int)<=(x.an.length:Int))) rfl (by rw[ap];exact KG) ?_;refine bn 33 rfl (bF func196 (gt ) x_5 rfl rfl) (.inl rfl)<|vq 34 (cv rfl)<|fD<|gT<|cE rfl ?_ ?_
 ·intro h3;refine aR<|rT ?_;have cU:im x e=bE (decide ((60:Int)<=(x.an.length:Int))) (bE (!two x.ag e.ch e.to) (bE (nD x e.key) 0 9) 6) 14:=by
   unfold im;rw[p8 bO]
  have hn:im x e≠0:=by
   have h:=h3;simp only[eA,eC,eD,eE]at h;rw[cU];exact h
  have oc:gg x e=im x e:=by
   rw[jx (dI (dI (dI hn)))];unfold dz;rw[fW (dI (dI hn)),fW (dI hn),fW hn]
  rw[jm (by rw[oc];exact hn),oc,cU];refine ax ?_ ⟨rfl,rfl,rfl,rfl,rfl,trivial⟩;rfl
 intro h3;refine aK<|gT ?_;have qP:im x e=0:=by
  have h:=h3;unfold im;rw[p8 bO];simp only[eA,eC,eD,eE]at h;exact h
 have F5:two x.ag e.ch e.to=true:=by
  rcases q:two x.ag e.ch e.to with _|_
  ·exfalso;have h:=qP;unfold im at h;rw[p8 bO,q]at h;exact dI (mp x_3) h
  rfl
 obtain⟨RT,F6,F7⟩:=BC (show two x.ag e.ch e.to=true by first|(simpa using F5));obtain⟨i,c,hi,hc,ho,hid⟩:=p9 F6;obtain⟨j,d,hj,hd,hp,lz⟩:=p9 F7;have bC:=sm.ag c (dB hc);have ck:=sm.ag d (dB hd);have gF:i≠j:=tP hc hd (by rw[hid,lz];exact bO);refine AW.obj 0 (cD g x.tick x.next x.aA 0) (Eq.trans (b:=cD g x.tick x.next x.aA _) rfl (congrArg (cD g x.tick x.next x.aA) (by have h:=qP;unfold im at h;rw[p8 bO]at h;exact h))) ?_;have hA:dz x e=bE (decide (d.loc<e.af)) (bE (decide (c.aC<cn x e)) (bE (gZ x e) 0 10) 11) 12:=by unfold dz;rw[ho,hp,qP]
 refine aJ [0,3] [0,1,2,3,4,2003,2016] (D:=Unit) (fun jd=>[(4,.ptr 2004 0 0)]) (fun jd=>[(2004,.box 159 none [int c.id,int c.size,int c.loc,int c.aC,int c.base,int c.br,int c.cM])]) (fun jd=>True) ?_ ?_
 ·refine aF [15]<|pq 0 (dJ Z)<|pq 1 (qc Z)<|pq 2 (qf 0 c8 Z)<|pq 3 (qf 3 dr Z)<|sq 4 (gC eg Z)<|pq 5 (dJ Z)<|pq 6 (qc Z)<|pq 7 (qf 0 c8 Z)<|sq 8 (dw jG cu Z)<|pq 9 (qf 2 dn Z)<|sq 10 (aZ ac Z) ?_;refine AF.two (i:=11) (j:=14) x_37 ?_ ?_
  ·refine v1 11 rfl (zL func200 (m9 x _ hm) rfl) (.inr rfl)<|sq 12 (rd (x:=.ptr 1 _ 0) (pu (i:=i) rfl cz rfl rfl rfl ?hn1 (by rw[ap];exact(List.getElem?_eq_some_iff.1 hc).1)) rfl) ?_;case hn1=>rw[<-eW];exact hi
   refine sq 13 (rd (x:=k7) (dT Z fF Z Z Z (dk hc) Z) Z)<|bn 14 Z (zA 2004 dy Z) (.inr Z)<|bn 15 Z (zB 2004 lu lv Z) (.inl Z)<|fD<|gT ?_;refine x_96
  refine v1 14 rfl (zA 2004 dy rfl) (.inr rfl)<|bn 11 rfl (zL func200 (m9 x _ hm) rfl) (.inr rfl)<|vq 12 (rd (x:=.ptr 1 _ 0) (pu (i:=i) rfl cz rfl rfl rfl ?hn2 (by rw[ap];exact(List.getElem?_eq_some_iff.1 hc).1)) rfl) ?_;case hn2=>rw[<-eW];exact hi
  refine vq 13 (rd (x:=k7) (dT Z fF Z Z Z (dk hc) Z) Z)<|bn 15 Z (zB 2004 lu lv Z) (.inl Z)<|fD<|gT ?_;refine x_96
 intro jd hJ;refine aJ [0,3,4] [0,1,2,3,4,2003,2004,2016] (D:=Unit) (fun jd=>[(5,.ptr 2005 0 0)]) (fun jd=>[(2005,.box 159 none [int d.id,int d.size,int d.loc,int d.aC,int d.base,int d.br,int d.cM])]) (fun jd=>True) ?_ ?_
 ·refine aF [15]<|pq 0 (dJ Z)<|pq 1 (qc Z)<|pq 2 (qf 0 c8 Z)<|pq 3 (qf 3 dr Z)<|sq 4 (gC eg Z)<|pq 5 (dJ Z)<|pq 6 (qc Z)<|pq 7 (qf 0 c8 Z)<|sq 8 (dw jG cu Z)<|pq 9 (qf 3 fK Z)<|sq 10 (aZ ac Z) ?_;refine AF.two (i:=11) (j:=14) x_37 ?_ ?_
  ·refine v1 11 rfl (zL func200 (m9 x _ hm) rfl) (.inr rfl)<|sq 12 (rd (x:=.ptr 1 _ 0) (pu (i:=j) rfl cz rfl rfl rfl ?hn3 (by rw[ap];exact(List.getElem?_eq_some_iff.1 hd).1)) rfl) ?_;case hn3=>rw[<-eW];exact hj
   refine sq 13 (rd (x:=k7) (dT Z fF Z Z Z (dk hd) Z) Z)<|bn 14 Z (zA 2005 dy Z) (.inr Z)<|bn 15 Z (zB 2005 lu lv Z) (.inl Z)<|fD<|gT ?_;refine x_96
  refine v1 14 rfl (zA 2005 dy rfl) (.inr rfl)<|bn 11 rfl (zL func200 (m9 x _ hm) rfl) (.inr rfl)<|vq 12 (rd (x:=.ptr 1 _ 0) (pu (i:=j) rfl cz rfl rfl rfl ?hn4 (by rw[ap];exact(List.getElem?_eq_some_iff.1 hd).1)) rfl) ?_;case hn4=>rw[<-eW];exact hj
  refine vq 13 (rd (x:=k7) (dT Z fF Z Z Z (dk hd) Z) Z)<|bn 15 Z (zB 2005 lu lv Z) (.inl Z)<|fD<|gT ?_;refine x_96
 intro jd hJ;refine sL<|lf 4 nE Z<|aj ac Z<|lf 5 mH Z<|aj ac Z<|lf 4 bN Z<|aj ac Z<|ab (zL func256 (DC _ _ _) Z) Z<|cT (.au [c6,fy]) Z<|dE Z<|eU Z<|ao Z<|bv Z<|nA<|lf 4 bN Z<|aj ac Z<|ae Z<|ab (zL func197 (tI _ _) Z) Z<|lT [0,3,4,5,7,88] [0,1,2,3,4,2003,2004,2005,2016] ?_;refine cT (.au [c6,fy]) Z<|dE Z<|jK 89 (cn x e) rfl (by unfold cn;rw[hp])<|eU Z<|ao Z<|bv Z<|Y<|aS<|aF []<|pq 0 (dJ rfl)<|pq 1 (qc rfl)<|pq 2 (qf 0 c8 rfl)<|sq 3 (dw jG cu rfl)<|sq 4 (dw k7 fF rfl)<|sq 5 (dw k7 fF rfl)<|pq 6 (qf 4 bN rfl)<|sq 7 (aZ ac rfl)<|vq 8 (rf 6 pw rfl)<|vq 9 (uY jN rfl)<|bn 10 rfl (zL func257 (DD x c d _ _ sm.hs) rfl) (.inr rfl)<|qM 101 (ib x e) rfl (by unfold ib;rw[ho,hp,lz])<|vq 11 (j8 rfl)<|fD<|gT ?_;refine aJ [0,3,8,10] [1,2,3,4,2003,2004,2005,2016] (D:=Unit) (fun jd=>[]) (fun jd=>[(0,cD g x.tick x.next x.aA 0)]) (fun jd=>gg x e=0) ?_ ?_
 ·refine sL<|aM Z<|aQ Z<|bX Z<|aQ Z ?_;refine lor rfl rfl rfl ?_;refine bJ 108 (gZ x e) rfl (by unfold gZ;rw[hp]) ?_;refine ab (bF func196 (gt ) x_5 rfl rfl) Z<|aQ rfl ?_;refine AL.bool (t:=110) rfl ?_ ?_
  ·intro h4;refine aa Z<|aa Z<|aa Z<|aa Z<|aa Z<|aa Z<|aU Z<|bM Z<|aa Z<|aa Z<|aa Z<|aa Z<|aa Z<|aa Z<|aa Z<|aU Z<|bM Z<|aa Z<|aa Z<|aa Z<|aa Z<|aU Z<|Y<|aY Z<|aR<|rT ?_;have cU:dz x e=bE (gZ x e) 0 10:=by
    have h:=h4;simp only[eA,eC,eD,eE]at h;rw[hA];rw[fW (dI h),fW h]
   have hn:dz x e≠0:=by
    have h:=h4;simp only[eA,eC,eD,eE]at h;rw[cU];exact h
   rw[jm (by rw[jx hn];exact hn),jx hn,cU];refine ax ?_ ⟨rfl,rfl,rfl,rfl,rfl,trivial⟩;rfl
  intro h4;refine aM Z<|lf 3 ic Z<|aj ac Z<|ae Z<|ak Z ?_;refine ab (bF func196 (gt ) x_5 rfl rfl) Z<|bj Z<|aQ rfl ?_;refine AL.bool (t:=118) rfl ?_ ?_
  ·intro h5;refine aa Z<|aa Z<|aa Z<|aa Z<|aa Z<|aa Z<|aa Z<|aU Z<|bM Z<|aa Z<|aa Z<|aa Z<|aa Z<|aU Z<|Y<|aT [0,3,8,10,132] [0,1,2,3,4,2003,2004,2005,2016] ?_;refine aY Z<|aR<|rT ?_;have cU:dz x e=bE (decide (c.aC<cn x e)) (bE (gZ x e) 0 10) 11:=by
    have h:=h5;simp only[eA,eC,eD,eE]at h;rw[hA];rw[fW h]
   have hn:dz x e≠0:=by
    have h:=h5;simp only[eA,eC,eD,eE]at h;rw[cU];exact h
   rw[jm (by rw[jx hn];exact hn),jx hn,cU];refine ax ?_ ⟨rfl,rfl,rfl,rfl,rfl,trivial⟩;rfl
  intro h5;refine aM Z<|lf 2 fH Z<|aj ac Z<|lf 4 bN Z<|aj ac Z<|ak Z ?_;refine ab (bF func196 (gt ) x_5 rfl rfl) Z<|bj Z<|aQ rfl ?_;refine AL.bool (t:=127) rfl ?_ ?_
  ·intro h6;refine aa Z<|aa Z<|aa Z<|aa Z<|aU Z<|Y<|aY Z<|aR<|rT ?_;have cU:dz x e=bE (decide (d.loc<e.af)) (bE (decide (c.aC<cn x e)) (bE (gZ x e) 0 10) 11) 12:=by
    have h:=h6;simp only[eA,eC,eD,eE]at h;rw[hA];skip
   have hn:dz x e≠0:=by
    have h:=h6;simp only[eA,eC,eD,eE]at h;rw[cU];exact h
   rw[jm (by rw[jx hn];exact hn),jx hn,cU];refine ax ?_ ⟨rfl,rfl,rfl,rfl,rfl,trivial⟩;rfl
  intro h6;refine aM Z<|ae Z<|ak Z ?_;refine ab (bF func196 (gt ) x_5 rfl rfl) Z<|bj Z<|Y<|cE rfl ?_ ?_
  ·intro h7;refine aR<|rT ?_;have fa:dz x e=0:=by
    rw[hA];have h:=h6;simp only[eA,eC,eD,eE]at h;exact h
   have cU:gg x e=bE (decide (ib x e=0)) (bE (decide (d.loc<e.af)) (bE (decide (c.aC<cn x e)) (bE (gZ x e) 0 10) 11) 12) 13:=by rw[rI fa,hA]
   have hn:gg x e≠0:=by
    have h:=h7;simp only[eA,eC,eD,eE]at h;rw[cU];exact h
   rw[jm hn,cU];refine ax ?_ ⟨rfl,rfl,rfl,rfl,rfl,trivial⟩;rfl
  intro h7;refine aK<|gT ?_;have fa:dz x e=0:=by
   rw[hA];have h:=h6;simp only[eA,eC,eD,eE]at h;exact h
  have iP:gg x e=0:=by
   have h:=h7;simp only[eA,eC,eD,eE]at h;rw[rI fa,hA];exact h
  refine⟨(),iP,trivial,⟨(Eq.trans (b:=cD g x.tick x.next x.aA _) rfl (congrArg (cD g x.tick x.next x.aA) (by rw[rI fa,hA]at iP;exact iP))),trivial⟩,rfl,rfl⟩
 intro jd iP;refine aS<|aF [19,23]<|pq 0 (dJ Z)<|pq 1 (dJ Z)<|pq 2 (qc Z)<|pq 3 (qf 0 c8 Z)<|pq 4 (qf 4 eF Z)<|sq 5 (gC fS Z)<|pq 6 (qf 1 gE Z)<|sq 7 (aZ ac Z)<|pq 8 (qf 2 dn Z)<|sq 9 (aZ ac Z)<|pq 10 (qf 3 fK Z)<|sq 11 (aZ ac Z)<|pq 12 (gL c6 Z)<|pq 13 (qf 4 bN Z)<|sq 14 (aZ ac Z)<|vq 15 (dW Z)<|vq 16 (dt Z)<|vq 17 (rd (x:=nG) (cP Z z0 Z Z Z) Z) ?_;refine bn 18 rfl (zS 2151 (ah go [⟨e.key,e.ch,e.to,cn x e,e.af,decide (ib x e=2),0⟩]) f7 iu rfl) (.inr rfl)<|bn 19 rfl (zP 2 f7 iu sQ rfl x_18 (by have:=sm.lh;simp[ah];omega)) (.inl rfl)<|vq 20 (rc rfl)<|vq 21 (rf 0 c8 rfl)<|vq 22 (rf 4 eF rfl)<|bn 23 rfl (zB 0 tQ tR rfl) (.inl rfl)<|fD<|gT ?_;refine AW.obj 2 (df (x.an++[⟨e.key,e.ch,e.to,cn x e,e.af,decide (ib x e=2),0⟩])) ((congrArg (AO.ai 218 7) (fx go _ [_]).symm)) ?_;refine sL<|aM Z<|lf 2 dn Z<|aj ac Z<|ae Z<|lq (rd (x:=c6) (il rfl rfl (ce (by have h2:bk (cn x e):=lQ _ _;unfold bk at *;unfold i64;omega))) rfl) ?_;refine ab (bF func258 (nF _ ({ x with an:=x.an++[⟨e.key,e.ch,e.to,cn x e,e.af,decide (ib x e=2),0⟩] }) _ _ _ _ _ (hm) i c (hi) (hc) (by have V:=bC.1;unfold bk at V;unfold i64;omega) (by have V:=bC.2.1;have h2:bk (cn x e):=lQ _ _;unfold bk at *;unfold i64;omega)) x_5 rfl rfl) Z<|lT [0,3] [0,1,2,3,4,2003,2004,2005,2016,2151] ?_;refine nA<|aM Z<|lf 3 fK Z<|aj ac Z<|lf 4 bN Z<|aj ac Z<|lq (rd (x:=c6) (il rfl rfl (ce (by have h2:=es.af;unfold bk at *;unfold i64;omega))) rfl) ?_;refine ab (bF func258 (nF _ ({ x with an:=x.an++[⟨e.key,e.ch,e.to,cn x e,e.af,decide (ib x e=2),0⟩],ag:=x.ag.set i { c with loc:=c.loc+0,aC:=c.aC+-cn x e } }) _ _ _ _ _ (x_136) j d ((uX (c':={ c with loc:=c.loc+0,aC:=c.aC+-cn x e }) hc rfl).trans hj) (jy hd gF _) (by have V:=ck.1;have h2:=es.af;unfold bk at *;unfold i64;omega) (by have V:=ck.2.1;unfold bk at V;unfold i64;omega)) x_5 rfl rfl) Z<|Y ?_;refine AW.obj 1 (AO.ai 159 7 (ah aX (cC (cC x.ag e.ch fun c=>{ c with aC:=c.aC-cn x e }) e.to fun c=>{ c with loc:=c.loc-e.af }))) (congrArg (fun l=>AO.ai 159 7 (ah aX l)) ((by simp only[Int.add_zero,Int.sub_eq_add_neg]:_=((x.ag.set i { c with aC:=c.aC-cn x e }).set j { d with loc:=d.loc-e.af })).trans (px fi.ids hc hd hid lz bO (fun c=>{ c with aC:=c.aC-cn x e }) (fun d=>{ d with loc:=d.loc-e.af }) (fun _=>rfl)))) ?_;refine sL<|aM Z<|lf 3 fK Z<|aj ac Z<|lf 4 bN Z<|aj ac Z<|lq (rd (x:=c6) (il rfl rfl (ce (by have h2:=es.af;unfold bk at *;unfold i64;omega))) rfl) ?_;refine ab (bF func198 (jv ([]) 0 (LG.nil) x_3 _ _ _ (cL.nil _ _) (jM es.af)) x_5 rfl rfl) Z<|lT [0,3] [0,1,2,3,4,2003,2004,2005,2016,2151] ?_;refine Y<|aL<|aM Z<|lf 3 fK Z<|aj ac Z<|lf 4 bN Z<|aj ac Z ?_;refine ab (bF func198 (jv (bR [] 6 e.to (-e.af)) 1 (LG.nil.add (jM es.af)) x_3 _ _ _ x_42 (gP es.af)) x_5 rfl rfl) Z<|lN ?_;rw[sR iP];unfold mI;refine iZ ?_ ⟨rfl,rfl,rfl,rfl,rfl,trivial⟩;rfl

theorem x_64{p:Prop}(c:p:=by exact Eq.trans (b:=cD g x.tick x.next x.aA _) rfl (congrArg (cD g x.tick x.next x.aA) x_14)):p:=c
theorem RU(g:Value)(x:aw)(e:aV)(fi:sO x)(es:m8 e)(bO:e.ch≠e.to):GC prog 205 [.ptr 0 0 0,ju e] (p7 g x [] 0) (.au []) (yd g (sS x e)):=by
 have sm:=fi.sm;have hm:x.ag.length<=1000000000:=by have:=sm.lc;omega
 have oa:=sm.lh;have FZ:=sm.li;have F2:x.an.length<=1000:=by omega
 have F4:x.aq.length<=1000:=by omega
 have KG:decide ((x.an.length:Int)=60)=decide ((60:Int)<=(x.an.length:Int)):=by apply decide_eq_decide.2;omega
 have KH:decide ((x.aq.length:Int)=20)=decide ((20:Int)<=(x.aq.length:Int)):=by apply decide_eq_decide.2;omega

 refine GC.intro (rs:=[]) func205 rfl ntmps205 x_8 trivial ?_;intro L O w0;refine sL<|ab (zX 2003 rfl) Z<|Y<|aS<|aS<|aF [9,22,33]<|pq 0 (dJ rfl)<|pq 1 (dJ rfl)<|pq 2 (qc rfl)<|pq 3 (qf 0 c8 rfl)<|sq 4 (dw jG cu rfl)<|pq 6 (qf 1 gE rfl)<|sq 7 (aZ ac rfl)<|bn 5 rfl (KI 2011 rfl x_19 rfl func254 rfl rfl (KJ x F2 F4) yg rfl) (.inr rfl)<|bn 8 rfl (zL func253 (KK (wH x) _ (by grind[wH])) rfl) (.inr rfl)<|nw 14 (nD x e.key) rfl (any_keys x e.key) ?_;refine bn 9 rfl (bF func196 (gt ) x_5 rfl rfl) (.inl rfl)<|vq 10 (dx rfl) ?_;refine AF.bool (t:=16) rfl ?_ ?_
 ·intro V;refine bi 11 Z<|bi 12 Z<|bi 13 Z<|bi 14 Z<|bi 15 Z<|bi 16 Z<|bi 17 Z<|al 18 Z<|al 19 Z<|al 20 Z<|al 21 Z<|al 22 Z<|vq 23 (bA Z)<|vq 24 (cF Z)<|bi 25 Z<|al 26 Z<|al 27 Z<|al 28 Z<|al 29 Z<|al 30 Z<|al 31 Z<|al 32 Z<|al 33 Z<|vq 34 (bA Z)<|fD<|gT<|aY Z<|aR<|rT ?_;have cU:kv x e=bE (nD x e.key) 0 9:=by
   have h:=V;unfold kv;rw[p8 bO];simp only[eA,eC,eD,eE]at h;rw[fW (c:=bE (!two x.ag e.ch e.to) (bE (nD x e.key) 0 9) 6) (dI h),fW h]
  have hn:kv x e≠0:=by
   have h:=V;simp only[eA,eC,eD,eE]at h;rw[cU];exact h
  have oc:fL x e=kv x e:=by
   unfold fL;rw[fW (dI (dI hn)),fW (dI hn),fW hn]
  rw[od (by rw[oc];exact hn),oc,cU];trivial
 intro V;refine pq 11 (dJ Z)<|pq 12 (dJ Z)<|pq 13 (qc Z)<|pq 14 (qf 0 c8 Z)<|sq 15 (dw jG cu Z)<|pq 16 (qf 2 dn Z)<|sq 17 (aZ ac Z)<|vq 18 (rf 3 fK Z)<|vq 19 (aZ ac Z)<|bn 20 Z (zL func255 (KL x _ _ hm) Z) (.inr Z)<|vq 21 (gQ Z) ?_;refine bn 22 rfl (bF func196 (gt ) x_5 rfl rfl) (.inl rfl)<|vq 23 (cv rfl)<|vq 24 (dx rfl) ?_;refine AF.bool (t:=30) rfl ?_ ?_
 ·intro h2;refine bi 25 Z<|al 26 Z<|al 27 Z<|al 28 Z<|al 29 Z<|al 30 Z<|al 31 Z<|al 32 Z<|al 33 Z<|vq 34 (bA Z)<|fD<|gT<|aT [0,3,40] [0,1,2,3,4,2003,2011] ?_;refine aY Z<|aR<|rT ?_;have cU:kv x e=bE (!two x.ag e.ch e.to) (bE (nD x e.key) 0 9) 6:=by
   have h:=h2;unfold kv;rw[p8 bO];simp only[eA,eC,eD,eE]at h;rw[fW h]
  have hn:kv x e≠0:=by
   have h:=h2;simp only[eA,eC,eD,eE]at h;rw[cU];exact h
  have oc:fL x e=kv x e:=by
   unfold fL;rw[fW (dI (dI hn)),fW (dI hn),fW hn]
  rw[od (by rw[oc];exact hn),oc,cU];trivial
 intro h2;refine pq 25 (dJ rfl)<|vq 26 (cG rfl)<|vq 27 (rc rfl)<|vq 28 (rf 0 c8 rfl)<|vq 29 (rf 5 gn rfl)<|vq 30 (gC ii rfl)<|vq 31 (le j7 rfl)<|vq 32 (dt rfl)<|nw 38 (decide ((20:Int)<=(x.aq.length:Int))) rfl x_33 ?_;refine bn 33 rfl (bF func196 (gt ) x_5 rfl rfl) (.inl rfl)<|vq 34 (cv rfl)<|fD<|gT<|cE rfl ?_ ?_
 ·intro h3;refine aR<|rT ?_;have cU:kv x e=bE (decide ((20:Int)<=(x.aq.length:Int))) (bE (!two x.ag e.ch e.to) (bE (nD x e.key) 0 9) 6) 14:=by
   unfold kv;rw[p8 bO]
  have hn:kv x e≠0:=by
   have h:=h3;simp only[eA,eC,eD,eE]at h;rw[cU];exact h
  have oc:fL x e=kv x e:=by
   unfold fL;rw[fW (dI (dI hn)),fW (dI hn),fW hn]
  rw[od (by rw[oc];exact hn),oc,cU];trivial
 intro h3;refine aK<|gT<|aS ?_;have qP:kv x e=0:=by
  have h:=h3;unfold kv;rw[p8 bO];simp only[eA,eC,eD,eE]at h;exact h
 have F5:two x.ag e.ch e.to=true:=by
  rcases q:two x.ag e.ch e.to with _|_
  ·grind[mp]
  rfl
 obtain⟨RT,F6,F7⟩:=BC (show two x.ag e.ch e.to=true by omega);obtain⟨i,c,hi,hc,ho,hid⟩:=p9 F6;obtain⟨j,d,hj,hd,hp,lz⟩:=p9 F7;have bC:=sm.ag c (dB hc);have ck:=sm.ag d (dB hd);have gF:i≠j:=tP hc hd x_2;refine AW.obj 0 (cD g x.tick x.next x.aA 0) (Eq.trans (b:=cD g x.tick x.next x.aA _) rfl (congrArg (cD g x.tick x.next x.aA) x_14)) ?_;have hA:fL x e=bE (decide (d.aC<e.af)) (bE (decide (c.loc<eM e.af e.ay)) (bE (!gI e.af e.ay) 0 10) 12) 11:=by unfold fL;rw[ho,hp,qP]
 refine aL<|lf 4 bN Z<|aj ac Z<|lf 5 fC Z<|aj ac Z<|ab (zL func197 (tI _ _) Z) Z<|cT (.au [c6,fy]) Z<|dE Z<|eU Z<|ao Z<|bv Z<|Y<|aS<|aS<|aF [3,23,45]<|pq 0 (dJ Z)<|vq 1 (dx Z)<|vq 2 (gQ Z) ?_;refine bn 3 rfl (bF func196 (gt ) x_5 rfl rfl) (.inl rfl)<|vq 4 (dx rfl) ?_;refine AF.bool (t:=53) rfl ?_ ?_
 ·intro h4;refine bi 5 Z<|bi 6 Z<|bi 7 Z<|bi 8 Z<|bi 9 Z<|bi 10 Z<|bi 11 Z<|bi 12 Z<|bi 13 Z<|bi 14 Z<|bi 15 Z<|bi 16 Z<|bi 17 Z<|bi 18 Z<|bi 19 Z<|bi 20 Z<|al 21 Z<|al 22 Z<|al 23 Z<|vq 24 (bA Z)<|vq 25 (cF Z)<|bi 26 Z<|bi 27 Z<|bi 28 Z<|bi 29 Z<|bi 30 Z<|bi 31 Z<|bi 32 Z<|bi 33 Z<|bi 34 Z ?_;refine bi 35 Z<|bi 36 Z<|bi 37 Z<|bi 38 Z<|bi 39 Z<|bi 40 Z<|bi 41 Z<|al 42 Z<|al 43 Z<|al 44 Z<|al 45 Z<|vq 46 (bA Z)<|fD<|gT<|aY Z<|aR<|rT ?_;have cU:fL x e=bE (!gI e.af e.ay) 0 10:=by
   have h:=h4;simp only[eA,eC,eD,eE]at h;rw[hA];rw[fW (dI h),fW h]
  have hn:fL x e≠0:=by
   have h:=h4;simp only[eA,eC,eD,eE]at h;rw[cU];exact h
  rw[od hn,cU];trivial
 intro h4;refine pq 5 (dJ rfl)<|pq 6 (dJ rfl)<|pq 7 (qc rfl)<|pq 8 (qf 0 c8 rfl)<|pq 9 (qf 3 dr rfl)<|sq 10 (gC eg rfl)<|pq 11 (dJ rfl)<|pq 12 (qc rfl)<|pq 13 (qf 0 c8 rfl)<|sq 14 (dw jG cu rfl)<|pq 15 (qf 2 dn rfl)<|sq 16 (aZ ac rfl)<|pq 21 (gL c6 rfl)<|bn 17 rfl (zL func200 (m9 x _ hm) rfl) (.inr rfl)<|vq 18 (rd (x:=.ptr 1 _ 0) (pu (i:=i) rfl cz rfl rfl rfl ?hn1 x_33) rfl) ?_;case hn1=>trivial
 refine vq 19 (rf 2 fH Z)<|vq 20 (rd (x:=c6) (dT Z ac Z Z Z (dk hc) Z) Z)<|vq 22 (dt Z) ?_;refine bn 23 rfl (bF func196 (gt ) x_5 rfl rfl) (.inl rfl)<|vq 24 (cv rfl)<|vq 25 (dx rfl) ?_;refine AF.bool (t:=74) rfl ?_ ?_
 ·intro h5;refine bi 26 Z<|bi 27 Z<|bi 28 Z<|bi 29 Z<|bi 30 Z<|bi 31 Z<|bi 32 Z<|bi 33 Z<|bi 34 Z<|bi 35 Z<|bi 36 Z<|bi 37 Z<|bi 38 Z<|bi 39 Z<|bi 40 Z<|bi 41 Z<|al 42 Z<|al 43 Z<|al 44 Z<|al 45 Z<|vq 46 (bA Z)<|fD<|gT<|aT [0,3,4,95] [0,1,2,3,4,2003,2011] ?_;refine aY Z<|aR<|rT ?_;have cU:fL x e=bE (decide (c.loc<eM e.af e.ay)) (bE (!gI e.af e.ay) 0 10) 12:=by
   have h:=h5;simp only[eA,eC,eD,eE]at h;rw[hA];rw[fW h]
  have hn:fL x e≠0:=by
   have h:=h5;simp only[eA,eC,eD,eE]at h;rw[cU];exact h
  rw[od hn,cU];trivial
 intro h5;refine pq 26 (dJ rfl)<|pq 27 (dJ rfl)<|pq 28 (qc rfl)<|pq 29 (qf 0 c8 rfl)<|pq 30 (qf 3 dr rfl)<|sq 31 (gC eg rfl)<|pq 32 (dJ rfl)<|pq 33 (qc rfl)<|pq 34 (qf 0 c8 rfl)<|sq 35 (dw jG cu rfl)<|pq 36 (qf 3 fK rfl)<|sq 37 (aZ ac rfl)<|pq 42 (qf 4 bN rfl)<|sq 43 (aZ ac rfl)<|bn 38 rfl (zL func200 (m9 x _ hm) rfl) (.inr rfl)<|vq 39 (rd (x:=.ptr 1 _ 0) (pu (i:=j) rfl cz rfl rfl rfl ?hn2 x_33) rfl) ?_;case hn2=>trivial
 refine vq 40 (rf 3 ic Z)<|vq 41 (rd (x:=c6) (dT Z ac Z Z Z (dk hd) Z) Z)<|vq 44 (dt Z) ?_;refine bn 45 rfl (bF func196 (gt ) x_5 rfl rfl) (.inl rfl)<|vq 46 (cv rfl)<|fD<|gT<|cE rfl ?_ ?_
 ·intro h6;refine aR<|rT ?_;have cU:fL x e=bE (decide (d.aC<e.af)) (bE (decide (c.loc<eM e.af e.ay)) (bE (!gI e.af e.ay) 0 10) 12) 11:=hA;have hn:fL x e≠0:=by
   have h:=h6;simp only[eA,eC,eD,eE]at h;rw[cU];exact h
  rw[od hn,cU];trivial
 intro h6;refine aK<|gT<|aS ?_;have iP:fL x e=0:=by
  rw[hA];have h:=h6;simp only[eA,eC,eD,eE]at h;exact h
 refine aF [18,22]<|pq 0 (dJ Z)<|pq 1 (dJ Z)<|pq 2 (qc Z)<|pq 3 (qf 0 c8 Z)<|pq 4 (qf 5 gn Z)<|sq 5 (gC ii Z)<|pq 6 (qf 1 gE Z)<|sq 7 (aZ ac Z)<|pq 8 (qf 2 dn Z)<|fT [0,3,4,96,101,103,104] [0,1,2,3,4,2003,2011] ?_;refine sq 9 (aZ ac Z)<|pq 10 (qf 3 fK Z)<|sq 11 (aZ ac Z)<|pq 12 (qf 4 bN Z)<|sq 13 (aZ ac Z)<|vq 14 (rf 5 fC Z)<|vq 15 (aZ ac Z)<|vq 16 (rd (x:=ow) (cP Z F8 Z Z Z) Z) ?_;refine bn 17 rfl (zS 2113 (ah iX [⟨e.key,e.ch,e.to,e.af,e.ay⟩]) iI jO rfl) (.inr rfl)<|bn 18 rfl (zP 3 iI jO wI rfl x_18 x_69) (.inl rfl)<|vq 19 (rc rfl)<|vq 20 (rf 0 c8 rfl)<|vq 21 (rf 5 gn rfl)<|bn 22 rfl (zB 0 yh yk rfl) (.inl rfl)<|fT [0,3,4] [0,1,2,3,4,2003,2011,2113] ?_;refine fD<|gT ?_;refine AW.obj 3 (d7 (x.aq++[⟨e.key,e.ch,e.to,e.af,e.ay⟩])) ((congrArg (AO.ai 220 5) (fx iX _ [_]).symm)) ?_;refine sL<|aM Z<|lf 2 dn Z<|aj ac Z<|ae Z<|lq (rd (x:=c6) (il rfl rfl (ce (by grind[bk,lQ,i64]))) rfl) ?_;refine ab (bF func258 (nF _ ({ x with aq:=x.aq++[⟨e.key,e.ch,e.to,e.af,e.ay⟩] }) _ _ _ _ _ (hm) i c (hi) (hc) (by grind[bk,lQ,i64]) (by grind[bk,i64])) x_5 rfl rfl) Z<|nA<|aM Z<|lf 3 fK Z<|aj ac Z<|lf 4 bN Z<|aj ac Z<|lq (rd (x:=c6) (il rfl rfl (ce (by have h2:=es.af;grind[bk,i64]))) rfl) ?_;refine ab (bF func258 (nF _ ({ x with aq:=x.aq++[⟨e.key,e.ch,e.to,e.af,e.ay⟩],ag:=x.ag.set i { c with loc:=c.loc+-eM e.af e.ay,aC:=c.aC+0 } }) _ _ _ _ _ (x_14) j d ((uX (c':={ c with loc:=c.loc+-eM e.af e.ay,aC:=c.aC+0 }) hc rfl).trans hj) (jy hd gF _) (by grind[bk,i64]) (by have V:=ck.2.1;have h2:=es.af;grind[bk,i64])) x_5 rfl rfl) Z<|Y ?_;refine AW.obj 1 (AO.ai 159 7 (ah aX (cC (cC x.ag e.ch fun c=>{ c with loc:=c.loc-eM e.af e.ay }) e.to fun c=>{ c with aC:=c.aC-e.af }))) (congrArg (fun l=>AO.ai 159 7 (ah aX l)) ((by grind:_=((x.ag.set i { c with loc:=c.loc-eM e.af e.ay }).set j { d with aC:=d.aC-e.af })).trans (px fi.ids hc hd hid lz bO (fun c=>{ c with loc:=c.loc-eM e.af e.ay }) (fun d=>{ d with aC:=d.aC-e.af }) (fun _=>rfl)))) ?_;refine sL<|aM Z<|lf 2 dn Z<|aj ac Z<|ae Z<|lq (rd (x:=c6) (il rfl rfl (ce (by grind[bk,lQ,i64]))) rfl) ?_;refine ab (bF func198 (jv ([]) 0 (LG.nil) x_3 _ _ _ (cL.nil _ _) (jM (lQ _ _))) x_5 rfl rfl) Z<|Y<|aL<|aM Z<|lf 2 dn Z<|aj ac Z<|ae rfl ?_;refine ab (bF func198 (jv (bR [] 6 e.ch (-eM e.af e.ay)) 1 (LG.nil.add (jM (lQ _ _))) x_3 _ _ _ x_42 (gP (lQ _ _))) x_5 rfl rfl) Z<|lN ?_;rw[uZ iP];unfold oH;refine iZ ?_ ⟨x_64,rfl,rfl,rfl,rfl,trivial⟩;rfl
end Go.Proofs.YtflhgkmhmcfimaaGreat

