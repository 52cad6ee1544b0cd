/- Texts of the proof of FnFnExactHubOk, joined: E24, E26, AllF, ED3, ED4, FwdU, PoEq, E27, Fil, E28, LogD, LogS, LogN, HubS, E29, E30, EO1. -/
import Derived.Test.YtflhgkmhmcfimaaGreatJHubOk12
import Derived.Test.YtflhgkmhmcfimaaGreatKNum
import Derived.Test.YtflhgkmhmcfimaaGreatJHubOk4
import Derived.Test.YtflhgkmhmcfimaaGreatJHubOk9
import Derived.Test.YtflhgkmhmcfimaaGreatJHubOk13
import Derived.Test.YtflhgkmhmcfimaaGreatJHubOk3
import Derived.Laws.BytesArg
import Derived.Laws.Strings
namespace Go.Proofs.YtflhgkmhmcfimaaGreat
open Tryz
open Go.RowKit
set_option linter.unusedSimpArgs false
set_option linter.unusedVariables false
def GP:AO->Prop
 |.ai e sz rows=>∀r∈rows,∀p∈r,∃v,p=PV.v v
 |_=>False
theorem GX.Ae{P:Program}{f:FuncId}{args qj:List AV}{ob0:List (Nat×AO)}{R:AV->List (Nat×AO)->Prop}(hc:GX P f args [] R)(hl:qk (bx ob0) qj=args)(h0:∀p∈ob0,GQ p.2=true)
 (hR:∀x bd,R x bd->ql x=true/\(∀id∈s7 x,eb bd id=true)/\(∀p∈bd,GP p.2)/\(∀p∈ob0,eb bd p.1=false)) :
 GX P f qj ob0 fun x ob=>∃bd,R x bd/\ob=bd++ob0:=by
 intro L w cs ρ fp hL pF bY pG ud
 have hv:=bf.jB (fun id=>⟨_,bY id⟩) qj pF
 rw[hl]at hv
 refine Calls.mono (hc L0 w cs s8 (fun _=>[]) (fun _ q=>q.elim) hv (fun i=>rfl) (by simp) (by simp)) ?_
 rintro e w' ⟨x,bd,hR1,v,ci,bH,rfl,g1,g2,g3,g4,g5⟩
 obtain⟨hx,hn,V,hd⟩:=hR x bd hR1
 have nW:∀i,∀b∈bH i,w.heap.size<=b:=fun i b hb=>by
  rcases(g5 i b hb).1 with⟨j,q⟩|q
  ·cases q
  exact q
 have oY:∀b,b<w.heap.size->w'.heap[b]? = w.heap[b]?:=fun b hb=>g1.block b hb (by simp)
 generalize wR:(fun i=>if eb bd i=true then ci i else ρ i)=jR
 generalize nX:(fun i=>if eb bd i=true then bH i else fp i)=f2
 have yI:∀ {i},eb bd i=true->jR i=ci i:=fun{i} h=>by rw[<-wR];simp only[h,if_true]
 have yJ:∀ {i},eb bd i=false->jR i=ρ i:=fun{i} h=>by rw[<-wR];simp[h]
 have rb:∀ {i},eb bd i=true->f2 i=bH i:=fun{i} h=>by rw[<-nX];simp only[h,if_true]
 have oZ:∀ {i},eb bd i=false->f2 i=fp i:=fun{i} h=>by rw[<-nX];simp[h]
 have BY:∀ {i},eb bd i=true->bx (bd++ob0) i=bx bd i:=fun{i} h=>by rw[yK,if_pos h]
 have yL:∀ {i},eb bd i=false->bx (bd++ob0) i=bx ob0 i:=fun{i} h=>by rw[yK,if_neg (by simp[h])]
 have re:∀b,b<w.heap.size->¬live L ρ (bx ob0) b->¬live L jR (bx (bd++ob0)) b:=by
  rintro b hb hn (hl|⟨i,q1,q2⟩)
  ·exact hn (.inl hl)
  rcases hi:eb bd i with _|_
  ·rw[yL hi]at q1;rw[yJ hi]at q2;exact hn (.inr ⟨i,q1,q2⟩)
  rw[BY hi]at q1;rw[yI hi]at q2;have:=nW i b ((g3 i).top q1 q2);omega
 have E:Env L ρ jR (bx ob0) (bx (bd++ob0)) w w' (eb bd):=⟨g1.size,fun b hb hn=>⟨oY b hb,re b hb hn⟩,fun i hk hi=>by
  rw[yL hk]at hi ⊢;exact⟨hi,yJ hk,rfl,rfl⟩⟩
 refine⟨x,bd++ob0,⟨bd,hR1,rfl⟩,v,jR,f2,rfl,⟨g1.os,g1.tape,g1.output,g1.size,fun b hb _=>oY b hb,fun b o hb eI=>?_⟩,?_,fun i=>?_,fun i j gF b hb ec=>?_,fun i b hb=>?_⟩
 ·rcases Nat.lt_or_ge b w.heap.size with kA|kA
  ·rcases hb with⟨i,hi⟩|hb
   ·rw[World.frozen?_of_block (w:=w) (oY b kA)]
    exact(bY i).frozen b hi o
   omega
  exact g1.nf b o (.inr kA) eI
 ·refine GR x hx g2 fun id hid=>?_
  obtain⟨o,q1,q2⟩:=wS (hn id hid)
  have jC:=V _ q1
  refine⟨?_,yI (hn id hid)⟩
  rw[q2]
  cases o with
  |ai e sz rows=>rfl
  |box T p c=>exact jC.elim
  |gone=>exact jC.elim
 ·rcases hi:eb bd i with _|_
  ·rw[yL hi,yJ hi,oZ hi]
   have h:=(bY i).env E (fun b hb=>oY b ((bY i).lt b hb))
   have ek:(bx ob0 i).bq (eb bd)=bx ob0 i:=by
    rcases hj:eb ob0 i with _|_
    ·rw[D6 hj];rfl
    obtain⟨o,q1,q2⟩:=wS hj;have:=h0 _ q1;rw[q2];cases o with
    |ai e sz rows=>rfl
    |box T p c=>cases this
    |gone=>rfl
   rwa [ek]at h
  rw[BY hi,yI hi,rb hi]
  obtain⟨o,q1,q2⟩:=wS hi
  have jC:=V _ q1
  have h:=g3 i
  rw[q2]at h ⊢
  cases o with
  |ai e sz rows=>
   obtain⟨xs,fr,k1,k2,k3,k4,k5⟩:=h
   have ke:=k1.vj jC
   subst ke
   exact⟨xs,[],k1,by simp,k3,k4,k5⟩
  |box T p c=>exact jC.elim
  |gone=>exact jC.elim
 ·rcases hi:eb bd i with _|_<;>rcases hj:eb bd j with _|_
  ·rw[oZ hi]at hb;rw[oZ hj]at ec;exact pG i j gF b hb ec
  ·rw[oZ hi]at hb;rw[rb hj]at ec
   have:=(bY i).lt b hb
   have:=nW j b ec
   omega
  ·rw[rb hi]at hb;rw[oZ hj]at ec
   have:=(bY j).lt b ec
   have:=nW i b hb
   omega
  rw[rb hi]at hb;rw[rb hj]at ec;exact g4 i j gF b hb ec
 rcases hi:eb bd i with _|_
 ·rw[oZ hi]at hb;exact⟨.inl ⟨i,hb⟩,ud i b hb⟩
 rw[rb hi]at hb
 have:=nW i b hb
 exact⟨.inr this,fun hl=>by have:=hL b hl;omega⟩
theorem GX.same{P:Program}{f:FuncId}{args:List AV}{ob0:List (Nat×AO)}{R R':AV->List (Nat×AO)->Prop}(h:GX P f args ob0 R)(hR:∀x ob,R x ob->∃D7,R' x D7/\bx D7=bx ob):GX P f args ob0 R':=fun L w cs ρ fp V h2 h3 h4 h5=>
 Calls.mono (h L w cs ρ fp V h2 h3 h4 h5) fun e w' ⟨x,ob,q,r⟩=>by
  obtain⟨D7,q1,q2⟩:=hR x ob q;exact⟨x,D7,q1,by rw[q2];exact r⟩
theorem Ly{F:List AO}{i:Nat}(h:i<1000000):eb (je 1000000 F) i=false:=by
 cases e:eb (je 1000000 F) i with
 |false=>rfl
 |true=>
  obtain⟨o,q,_⟩:=wS e;obtain⟨m,_,q2⟩:=GS q;omega
theorem GT{l m:List (Nat×AO)}{i:Nat}:eb (l++m) i=(eb l i||eb m i):=by unfold eb;rw[List.map_append,List.contains_eq_any_beq,List.any_append,<-List.contains_eq_any_beq,<-List.contains_eq_any_beq]
theorem GN.Ae{P:Program}{f:FuncId}{args qj:List AV}{ob0:List (Nat×AO)}{R:AV->List (Nat×AO)->List AO->Prop}(hc:GN P f args [] [] R)(hl:qk (bx ob0) qj=args)(h0:(ob0.all fun p=>GQ p.2&&(kR p.2&&Nat.blt p.1 1000000))=true)
 (hR:∀x l1 F1,R x l1 F1->ql x=true/\(∀id∈s7 x,eb l1 id=true)/\(∀p∈l1,GP p.2)/\(∀o∈F1,GP o)/\(∀p∈ob0,eb l1 p.1=false)) :
 GN P f qj ob0 [] fun x l F=>∃l1,R x l1 F/\l=l1++ob0:=by
 have hs:s9 ob0=true:=List.all_eq_true.2 fun p hp=>by
  have:=List.all_eq_true.1 h0 p hp;simp only[Bool.and_eq_true]at this;exact this.2.2
 have gH:(ob0.all fun p=>kR p.2)=true:=List.all_eq_true.2 fun p hp=>by
  have:=List.all_eq_true.1 h0 p hp;simp only[Bool.and_eq_true]at this;exact this.2.1
 have Tj:GX P f args [] _:=hc
 have h:=GX.Ae (ob0:=ob0) Tj hl (fun p hp=>by
  have:=List.all_eq_true.1 h0 p hp;simp only[Bool.and_eq_true]at this;exact this.1) (fun x bd ⟨l1,F1,q1,q2,q3,q4,q5⟩=>by
  subst q4;obtain⟨r1,r2,r3,r4,r5⟩:=hR x l1 F1 q5;refine⟨r1,fun id hid=>by rw[GT,r2 id hid];rfl,fun p hp=>?_,fun p hp=>?_⟩
  ·rcases List.mem_append.1 hp with hp|hp
   ·exact r3 p hp
   have:∀(F:List AO) (n:Nat),p∈je n F->p.2∈F:=by
    intro F;induction F with
    |nil=>intro n h;cases h
    |cons o F ih=>
     intro n h;rcases List.mem_cons.1 h with h|h
     ·rw[h];simp
     exact List.mem_cons_of_mem _ (ih _ h)
   exact r4 _ (this _ _ hp)
  rw[GT,r5 p hp,Ly (Nat.le_of_ble_eq_true (List.all_eq_true.1 hs p hp))];rfl)
 show GX P f qj (ob0++[]) _
 rw[List.append_nil]
 refine h.same fun x ob ⟨bd,⟨l1,F1,q1,q2,q3,q4,q5⟩,q6⟩=>?_
 subst q4 q6
 simp only[Bool.and_eq_true]at q1
 have s1:s9 (l1++ob0)=true:=by unfold s9 at *;rw[List.all_append,q1.1,hs];rfl
 refine⟨(l1++ob0)++je 1000000 F1,⟨l1++ob0,F1,?_,q2,q3,rfl,l1,q5,rfl⟩,?_⟩
 ·rw[s1,List.all_append,q1.2.1,gH,q1.2.2];rfl
 funext i
 rcases yM i with q|⟨m,rfl⟩
 ·rw[yN q,yK,yK,GT,Ly q,Bool.or_false,yN q]
 rw[Af s1,List.append_assoc,Af q1.1,yK]
 split
 ·rfl
 rename_i z
 rw[D6 (by simpa using z)]
 have:eb ob0 (1000000+m)=false:=by
  cases e:eb ob0 (1000000+m)with
  |false=>rfl
  |true=>
   obtain⟨o,w1,_⟩:=wS e;have:=List.all_eq_true.1 hs _ w1;have:1000000+m<1000000:=Nat.le_of_ble_eq_true this;omega
 rw[D6 this]

theorem Lu{P:Program}{f:FuncId}{args qj:List AV}{x:AV}(h:GC P f args [] x [])(hi:ff qj args):GC P f qj [] x []:=fun L w cs ρ fp V h2 h3 h4 h5=>h L w cs ρ fp V (hi h2) h3 h4 h5
theorem D8{L:Nat->Prop}{ρ:Nat->Value}{b:Nat}(h:¬L b):¬live L ρ (bx []) b:=by
 rintro(q|⟨_,q,_⟩)
 ·exact h q
 cases q
def Lz{α:Type}(sz:Nat)(dg:World->Nat->Nat->List Value->α->Prop)(xs:List α)(w:World)(lo:Nat)(v:Value):Prop:=dd sz dg w lo w.heap.size v xs
theorem Lz.rv{α:Type}{enc:α->List Value}{e:TypeId}{sz:Nat}{dg:World->Nat->Nat->List Value->α->Prop}{xs:List α}(GU:∀w lo hi cs x,dg w lo hi cs x->cs=enc x)(hs:∀x,(enc x).length=sz)(V:∀x,∀u∈enc x,u.oneCell'=true)
 {L:Nat->Prop} {ρ:Nat->Value} {w:World} {lo:Nat} {v:Value} (hL:∀b,L b->b<lo) (h:Lz sz dg xs w lo v):RV L ρ (bx []) w (.p (.ab e sz (ah enc xs))) v:=
 wU h (fun _ _ q=>GU _ _ _ _ _ q) hs V (Nat.le_refl _) (fun b q _=>D8 fun z=>by have:=hL b z;omega)
section
variable {L:Nat->Prop}{ρ:Nat->Value}{H:Nat->AO}{w:World}{S:Nat->Prop}
def vk(L:Nat->Prop)(ρ:Nat->Value)(H:Nat->AO)(w:World)(S:Nat->Prop):Prop:=(∀id,∃f,OB L ρ H w (ρ id) f (H id)/\∀b∈f,S b)/\∀b,¬live L ρ H b->S b
theorem vk.row(hl:vk L ρ H w S){id:Nat}{e:ga}{sz:Nat}{rows oo:List (List PV)}(hH:H id=.ai e sz rows)(h:∀ {xs fp},bI w false sz rows xs fp->(∀b∈fp,S b)->∃g,bI w false sz oo xs g/\∀b∈g,S b)(hlen:oo.length=rows.length) :
 ∃g,RW w false (.ab e.ty sz oo) (ρ id) g/\∀b∈g,S b:=by
 obtain⟨f,ho,hf⟩:=hl.1 id
 rw[hH]at ho
 obtain⟨xs,fr,b1,b2,b3,b4,b5⟩:=ho
 obtain⟨g,k1,k2⟩:=h b1 (fun b hb=>hl.2 b (b2 b hb))
 rcases b3.2 with⟨q,q2⟩|⟨gb,cap,cur,q,_,hg,hnc,bC,_⟩
 ·refine⟨[]++g,?_,fun b hb=>k2 b (by simpa using hb)⟩
  rw[RW]
  refine⟨xs,[],g,k1,?_,rfl⟩
  unfold iF
  simp only[Bool.false_eq_true,if_false]
  exact⟨none,0,by rw[q,hlen,q2],by omega,by simp[maxLen],.inl ⟨by omega,trivial⟩⟩
 have tc:=b3
 rw[q]at tc
 refine⟨[gb]++g,?_,fun b hb=>?_⟩
 ·rw[RW]
  refine⟨xs,[gb],g,k1,?_,rfl⟩
  unfold iF
  simp only[Bool.false_eq_true,if_false]
  exact⟨_,cap,by rw[q,hlen],by omega,bC,.inr ⟨gb,0,rfl,vl tc,(Array.getElem?_eq_some_iff.1 hg).1,rfl⟩⟩
 rcases List.mem_append.1 hb with hb|hb
 ·refine hf b ?_
  rw[List.mem_singleton.1 hb,b4,q]
  simp[Value.ownBlock]
 exact k2 b hb
theorem vk.self(hl:vk L ρ H w S){id:Nat}{e:ga}{sz:Nat}{rows:List (List PV)}(hH:H id=.ai e sz rows):∃g,RW w false (.ab e.ty sz rows) (ρ id) g/\∀b∈g,S b:=hl.row hH (fun h hs=>⟨_,h,hs⟩) rfl
theorem LA(hl:vk L ρ H w S):∀ {x y:List PV} {c:List Value} {fp:List Nat},kf (vm H) x y->bP w false x c fp->(∀b∈fp,S b)->∃bH,bP w false y c bH/\∀b∈bH,S b
 |_,_,c,fp,.nil,h,hs=>⟨fp,h,hs⟩
 |_,_,c,fp,.cons V h2,h,hs=>by
  rw[bP]at h;obtain⟨c,r,f1,f2,rfl,rfl,k1,k2⟩:=h;obtain⟨g2,k3,k4⟩:=LA hl h2 k2 (fun b hb=>hs b (List.mem_append_right _ hb));rcases V with rfl|⟨v,m,e,sz,rows,rfl,hm,rfl⟩
  ·refine⟨f1++g2,by rw[bP];exact⟨c,r,f1,g2,rfl,rfl,k1,k3⟩,fun b hb=>?_⟩;rcases List.mem_append.1 hb with q|q
   ·exact hs b (List.mem_append_left _ q)
   exact k4 b q
  obtain⟨g1,k5,k6⟩:=hl.self hm;have hv:ρ m=v:=by
   obtain⟨f,ho,_⟩:=hl.1 m;rw[hm]at ho;obtain⟨_,_,_,_,_,_,k⟩:=ho;exact k v rfl
  rw[RW]at k1;rw[k1.1,<-hv];refine⟨g1++g2,by rw[bP];exact⟨ρ m,r,g1,g2,rfl,rfl,k5,k3⟩,fun b hb=>?_⟩;rcases List.mem_append.1 hb with q|q
  ·exact k6 b q
  exact k4 b q
theorem LB(hl:vk L ρ H w S){sz:Nat}:∀ {x y:List (List PV)} {c:List Value} {fp:List Nat},kf (kf (vm H)) x y->bI w false sz x c fp->(∀b∈fp,S b)->∃bH,bI w false sz y c bH/\∀b∈bH,S b
 |_,_,c,fp,.nil,h,hs=>⟨fp,h,hs⟩
 |_,_,c,fp,.cons V h2,h,hs=>by
  rw[bI]at h;obtain⟨hn,c,r,f1,f2,rfl,rfl,k1,k2⟩:=h;obtain⟨g1,k3,k5⟩:=LA hl V k1 (fun b hb=>hs b (List.mem_append_left _ hb));obtain⟨g2,k4,k6⟩:=LB hl h2 k2 (fun b hb=>hs b (List.mem_append_right _ hb));refine⟨g1++g2,by rw[bI];exact⟨by rw[<-V.len];exact hn,c,r,g1,g2,rfl,rfl,k3,k4⟩,fun b hb=>?_⟩;rcases List.mem_append.1 hb with q|q
  ·exact k5 b q
  exact k6 b q
end
structure Still(H:Nat->AO)(x y:AV):Prop where
 to:∀ {L:Nat->Prop} {ρ:Nat->Value} {w:World} {c:Value},vk L ρ H w (fun b=>¬L b)->RV L ρ H w x c->RV L ρ (bx []) w y c
theorem Still.p{H:Nat->AO}(x:PV):Still H (.p x) (.p x):=.mk fun{L ρ w c} hl h=>by
 rw[RV]at *;obtain⟨fp,V,h2⟩:=h;exact⟨fp,V,fun b hb=>D8 (hl.2 b (h2 b hb))⟩
theorem Still.own{H:Nat->AO}{id:Nat}{e:ga}{sz:Nat}{rows oo:List (List PV)}(hH:H id=.ai e sz rows)(h:kf (kf (vm H)) rows oo):Still H (.own id) (.p (.ab e.ty sz oo)):=.mk fun{L ρ w c} hl hx=>by
 rw[RV]at hx;have hc:=hx.2 (by rw[hH];rfl);obtain⟨g,k1,k2⟩:=hl.row hH (fun q hs=>LB hl h q hs) h.len.symm;rw[hc,RV];exact⟨g,k1,fun b hb=>D8 (k2 b hb)⟩
theorem Still.row{H:Nat->AO}{id:Nat}{e:ga}{sz:Nat}{rows:List (List PV)}(hH:H id=.ai e sz rows):Still H (.own id) (.p (.ab e.ty sz rows)):=.mk fun{L ρ w c} hl hx=>by
 rw[RV]at hx;have hc:=hx.2 (by rw[hH];rfl);obtain⟨g,k1,k2⟩:=hl.self hH;rw[hc,RV];exact⟨g,k1,fun b hb=>D8 (k2 b hb)⟩
theorem GV{H:Nat->AO}{L:Nat->Prop}{ρ:Nat->Value}{w:World}(hl:vk L ρ H w (fun b=>¬L b)):∀ {l m:List AV} {cs:List Value},kf (Still H) l m->bf L ρ H w l cs->bf L ρ (bx []) w m cs
 |_,_,cs,.nil,h=>by rw[bf]at *;exact h
 |_,_,cs,.cons V h2,h=>by
  rw[bf]at *;obtain⟨c,r,rfl,k1,k2⟩:=h;exact⟨c,r,rfl,V.to hl k1,GV hl h2 k2⟩
theorem Still.agg{H:Nat->AO}{l m:List AV}(h:kf (Still H) l m):Still H (.agg l) (.agg m):=.mk fun hl hx=>by
 rw[RV]at *;obtain⟨cs,rfl,V⟩:=hx;exact⟨cs,rfl,GV hl h V⟩
theorem Still.au{H:Nat->AO}{l m:List AV}(h:kf (Still H) l m):Still H (.au l) (.au m):=.mk fun hl hx=>by
 rw[RV]at *;obtain⟨cs,rfl,V⟩:=hx;exact⟨cs,rfl,GV hl h V⟩
theorem GX.frozen{P:Program}{f:FuncId}{args:List AV}{R:AV->List (Nat×AO)->Prop}{Z:AV->Prop}(h:GX P f args [] R)(hR:∀x bd,R x bd->∃y,Still (bx bd) x y/\Z y):GX P f args [] fun y ob=>ob=[]/\Z y:=fun L w cs ρ fp V h2 h3 h4 h5=>
 Calls.mono (h L w cs ρ fp V h2 h3 h4 h5) fun e w' ⟨x,bd,q,v,ci,bH,q1,q2,q3,q4,q5,q6⟩=>by
  obtain⟨y,hy,hz⟩:=hR x bd q;have hl:vk L ci (bx bd) w' (fun b=>¬L b):=⟨fun id=>⟨bH id,q4 id,fun b hb=>(q6 id b hb).2⟩,fun b hb=>fun z=>hb (.inl z)⟩;exact⟨y,[],⟨rfl,hz⟩,v,ci,fun _=>[],q1,q2,hy.to hl q3,fun i=>rfl,by simp,by simp⟩

abbrev BZ(r:fg):AV:=.au [cj r.now,.p (.ab 92 2 (qI r.ps)),.p (.ab 3 1 (ah kt r.jD))]
theorem LC{f:FuncId}{args:List AV}{r:fg}(h:GN prog f args [] [] (GW r)):GC prog f args [] (BZ r) []:=
 (GX.frozen (Z:=fun y=>y=BZ r) (show GX prog f args [] _ from h) fun x ob ⟨l1,F1,hs,hF,hM,e,⟨vs,hv,e1,e2,e3⟩⟩=>by
   subst e e1 e2 e3;refine⟨BZ r,?_,rfl⟩;have hT:Tl (bx (Ag r vs++je 1000000 (fZ vs r.ps))) (fZ vs r.ps):=by
    rw[Gm rfl];exact Tl.tl hF
   exact Still.au (.cons (Still.agg (.cons (Still.p _) (.cons (Still.p _) (.cons (Still.p _) (.cons (Still.row (id:=1) (e:=⟨159,none⟩) (sz:=7) (rows:=ah aX r.now.ag) rfl) (.cons (Still.row (id:=2) (e:=⟨218,none⟩) (sz:=7) (rows:=ah go r.now.an) rfl) (.cons (Still.row (id:=3) (e:=⟨220,none⟩) (sz:=5) (rows:=ah iX r.now.aq) rfl) .nil)))))))
    (.cons (Still.own (id:=14) (e:=⟨92,none⟩) (sz:=2) (rows:=lH vs r.ps) rfl (Tk hT hv (s:=0) fun i hi=>by rw[Nat.zero_add])) (.cons (Still.row (id:=15) (e:=⟨3,none⟩) (sz:=1) (rows:=ah kt r.jD) rfl) .nil)))).mono fun y o ⟨e1,e2⟩=>⟨e2,e1⟩
theorem QI(x:aw)(es:List aV)(hw:di x)(we:∀e∈es,l7 e)(hm:es.length<=1048576):GC prog 35 [cj x,.p (.ab 81 7 (ah fR es))] [] (BZ (sB x es)) []:=LC (Tm x es hw we hm)
theorem QM(x:aw)(es:List aV)(hw:di x)(we:∀e∈es,l7 e)(hm:es.length<=1048576):GC prog 167 [cj x,.p (.ab 81 7 (ah fR es))] [] (BZ (sB x es)) []:=LC (Tn x es hw we hm)

set_option maxHeartbeats 16000000
set_option maxRecDepth 100000
def vn(m:Int)(es:List aV):Prop:=(∀e∈es,l7 e)/\(es.length:Int)<=m
theorem vn.take{m:Int}{es:List aV}(h:vn m es)(k:Nat):vn m (es.take k):=⟨fun e he=>h.1 e (List.mem_of_mem_take he),by have:=h.2;rw[List.length_take];omega⟩
theorem vn.add{m:Int}{es:List aV}(h:vn m es){e:aV}(he:l7 e):vn (m+1) (es++[e]):=⟨fun x hx=>by
 rcases List.mem_append.1 hx with q|q
 ·exact h.1 x q
 rw[List.mem_singleton.1 q];exact he,by have:=h.2;simp;omega⟩
theorem vn.mono{m n:Int}{es:List aV}(h:vn m es)(To:m<=n):vn n es:=⟨h.1,Int.le_trans h.2 To⟩

abbrev pm:aw:=⟨0,1,0,[],[],[]⟩
theorem FT:di pm:=⟨by simp,by simp,by simp,by simp⟩
theorem QC{x:aw}{es:List aV}(hw:di x)(we:∀e∈es,l7 e):di (sB x es).now:=by
 unfold sB;split
 ·have:=D9 hw we es.length (Nat.le_refl _);rwa [List.take_length]at this
 exact⟨by simp[rg],by simp[rg],by simp[rg],by simp[rg]⟩
section
variable {a b c:Int}{l:List be}{h:List eV}{i:List gz}
theorem mem_set{α:Type}{l:List α}{k:Nat}{x:α}{p:α->Prop}(h:∀y∈l,p y)(hx:p x):∀y∈l.set k x,p y:=fun y hy=>by
 rcases List.mem_or_eq_of_mem_set hy with q|rfl
 ·exact h y q
 exact hx
theorem di.D'(w:di ⟨a,b,c,l,h,i⟩){k:Nat}{x:be}(hx:qn x):di ⟨a,b,c,l.set k x,h,i⟩:=⟨mem_set w.ag hx,w.an,w.aq,by show (l.set k x).length<=_;rw[List.length_set];exact w.len⟩
theorem di.Tp(w:di ⟨a,b,c,l,h,i⟩){k:Nat}{x:eV}(hx:ue x):di ⟨a,b,c,l,h.set k x,i⟩:=⟨w.ag,mem_set w.an hx,w.aq,w.len⟩
theorem di.Tq(w:di ⟨a,b,c,l,h,i⟩){k:Nat}{x:gz}(hx:vo x):di ⟨a,b,c,l,h,i.set k x⟩:=⟨w.ag,w.an,mem_set w.aq hx,w.len⟩
theorem di.loc(w:di ⟨a,b,c,l,h,i⟩){k:Nat}(hk:k<l.length){n:Int}(hn:i64 n):di ⟨a,b,c,l.set k { l[k]with loc:=n },h,i⟩:=w.D' (by have:=w.ag _ (List.getElem_mem hk);unfold qn at *;dsimp only at *;simp_all)
theorem di.cM(w:di ⟨a,b,c,l,h,i⟩){k:Nat}(hk:k<l.length){n:Int}(hn:i64 n):di ⟨a,b,c,l.set k { l[k]with cM:=n },h,i⟩:=w.D' (by have:=w.ag _ (List.getElem_mem hk);unfold qn at *;dsimp only at *;simp_all)
theorem di.key(w:di ⟨a,b,c,l,h,i⟩){k:Nat}(hk:k<h.length){n:Int}(hn:i64 n):di ⟨a,b,c,l,h.set k { h[k]with key:=n },i⟩:=w.Tp (by have:=w.an _ (List.getElem_mem hk);unfold ue at *;dsimp only at *;simp_all)
theorem di.to(w:di ⟨a,b,c,l,h,i⟩){k:Nat}(hk:k<i.length):di ⟨a,b,c,l,h,i.set k { i[k]with to:=i[k].fI }⟩:=w.Tq (by have:=w.aq _ (List.getElem_mem hk);unfold vo at *;dsimp only at *;simp_all)
theorem di.swap(w:di ⟨a,b,c,l,h,i⟩)(hk:1<l.length):di ⟨a,b,c,(l.set 0 l[1]).set 1 (l[0]'(by omega)),h,i⟩:=(w.D' (w.ag _ (List.getElem_mem hk))).D' (w.ag _ (List.getElem_mem _))
end
theorem Tr:GC prog 168 [] [] (.agg [int 0,int 1,int 0,.p (.v (.slice none 0 0)),.p (.v (.slice none 0 0)),.p (.v (.slice none 0 0))]) []:=by
 refine GC.intro (rs:=[.cell 0 50 (some 6)]) func168 rfl ntmps168 (Nat.le_of_ble_eq_true rfl) ⟨rfl,rfl,cu,trivial⟩ ?_;intro L O w0;refine sL<|ab (zA 2000 mD Z) Z<|nA<|lq (rd (x:=.agg [U _ _,U _ _,U _ _,vV _,vV _,vV _]) (cP Z s6 Z Z Z) Z)<|ab (zB 2000 eu ew Z) Z<|Y<|aR ?_;refine ax ?_ trivial;rfl
theorem QL:GC prog 168 [] [] (cj pm) []:=GX.imp Tr (fun x bd ⟨e1,e2⟩=>by
 subst e1 e2;exact⟨cj pm,fe.agg (ff.cons (fe.refl _) (ff.cons (fe.refl _) (ff.cons (fe.refl _) (ff.cons (fe.nil _ _) (ff.cons (fe.nil _ _) (ff.cons (fe.nil _ _) ff.nil)))))),rfl,rfl⟩)

def kc:List aO->aO->List aO
 |[],x=>[x]
 |y::l,x=>if cg y.acc x.acc then y::kc l x else if y.acc.kind=x.acc.kind/\y.acc.ch=x.acc.ch then (if y.af+x.af=0 then l else ⟨y.acc,y.af+x.af⟩::l)else x::y::l
theorem LD{x:aO}{k c:Int}:∀(l:List aO),bU (kc l x) k c=bU l k c+iS k c x
 |[]=>by unfold kc;rw[fm,dU];omega
 |y::l=>by
  unfold kc;split
  ·rw[fm,fm,LD l];omega
  split
  ·rename_i q;have e:iS k c y+iS k c x=if y.acc.kind=k/\y.acc.ch=c then y.af+x.af else 0:=by
    unfold iS;rw[<-q.1,<-q.2];split<;>omega
   split
   ·rename_i r;rw[r]at e;rw[fm];split at e<;>omega
   rw[fm,fm];have e2:iS k c ⟨y.acc,y.af+x.af⟩=if y.acc.kind=k/\y.acc.ch=c then y.af+x.af else 0:=rfl
   rw[e2];omega
  rw[fm,fm];omega
def iM(l:List aO)(p:List aO):List aO:=p.foldl kc l
theorem GY{k c:Int}:∀(p l:List aO),bU (iM l p) k c=bU l k c+bU p k c
 |[],l=>by rw[dU];show bU l k c=_;omega
 |x::p,l=>by
  show bU (iM (kc l x) p) k c=_;rw[GY p,LD,fm];omega
def iR(l:cH)(p:dX):Int:=if (eQ l&&iL p.id p.lines)=true then (if p.id<=l.last then 2 else if eQ ⟨p.id,iM l.lines p.lines⟩=true then 0 else 3)else 1
def qi(l:cH)(p:dX):cH:=if iR l p=0 then ⟨p.id,iM l.lines p.lines⟩else ⟨0,[]⟩
theorem Tf{l:cH}{p:dX}(h:iR l p=0):eQ l=true/\iL p.id p.lines=true/\l.last<p.id/\eQ ⟨p.id,iM l.lines p.lines⟩=true:=by
 unfold iR at h;split at h
 ·rename_i q;rw[Bool.and_eq_true]at q;split at h
  ·cases h
  rename_i r;split at h
  ·rename_i s;exact⟨q.1,q.2,by omega,s⟩
  cases h
 cases h
theorem Wl.mono{K:Int}{x:aw}{l:cH}{n m:Nat}(h:Wl K x l n)(hm:n<=m):Wl K x l m:=by
 have e1:=h.eq;have e2:=h.inc;have e5:=h.next;exact⟨h.oV,by omega,by omega,h.yx,h.wO,h.base,h.vd,by omega,h.keys⟩
theorem Lj{x:aw}{e:aV}(h:dG x e=0):(dl x e).lines=(bz x e).l:=by
 by_cases r:(bz x e).l=[]
 ·rw[(ub h r).2,r]
 rw[(rU h r).2]
def BX(s:cH×Int)(p:dX):cH×Int:=if iR s.1 p=0 then (qi s.1 p,s.2+1)else s
def fP(l:cH)(ps:List dX):cH×Int:=ps.foldl BX (l,0)
structure F3(ch to:Int)(s:fg):Prop where
 wl:Wl 50 s.now (fP ⟨0,[]⟩ s.ps).1 0
 h:s.now.an=[]
 c:s.now.aq=[]
 n:s.now.next=4
 a:fz s.now.ag ch=⟨ch,18000,9000,9000,0,0,0⟩
 b:fz s.now.ag to=⟨to,18000,9000,9000,0,0,0⟩
 ta:ed s.now.ag ch
 tb:ed s.now.ag to

def rh(l:List aO):Prop:=(l.Pairwise fun a b=>cg a.acc b.acc=true)/\∀y∈l,y.af≠0
theorem rh.tail{x:aO}{l:List aO}(h:rh (x::l)):rh l:=⟨(List.pairwise_cons.1 h.1).2,fun y hy=>h.2 y (by simp[hy])⟩
theorem uf{k c:Int}:∀ {l:List aO},(∀y∈l,cg ⟨k,c⟩ y.acc=true)->bU l k c=0
 |[],_=>rfl
 |y::l,h=>by
  rw[fm,uf (fun z hz=>h z (by simp[hz]))];unfold iS;rw[if_neg (fun q=>GZ (h y (by simp)) ⟨q.1.symm,q.2.symm⟩)];rfl
theorem vp{x:aO}{l:List aO}(h:(x::l).Pairwise fun a b=>cg a.acc b.acc=true):bU (x::l) x.acc.kind x.acc.ch=x.af:=by
 rw[fm,uf (k:=x.acc.kind) (c:=x.acc.ch) (fun y hy=>(List.pairwise_cons.1 h).1 y hy)];unfold iS;rw[if_pos ⟨rfl,rfl⟩,Int.add_zero]
theorem B0{x y:aO}{l:List aO}(h:(y::l).Pairwise fun a b=>cg a.acc b.acc=true)(q:cg x.acc y.acc=true):∀z∈y::l,cg x.acc z.acc=true:=fun z hz=>by
 rcases List.mem_cons.1 hz with rfl|hz
 ·exact q
 exact vr q ((List.pairwise_cons.1 h).1 z hz)
theorem LE:∀ {a b:List aO},rh a->rh b->(∀k c,bU a k c=bU b k c)->a=b
 |[],[],_,_,_=>rfl
 |[],y::b,_,hb,h=>by
  have:=h y.acc.kind y.acc.ch;rw[vp hb.1,dU]at this;exact absurd this.symm (hb.2 y (by simp))
 |x::a,[],ha,_,h=>by
  have:=h x.acc.kind x.acc.ch;rw[vp ha.1,dU]at this;exact absurd this (ha.2 x (by simp))
 |x::a,y::b,ha,hb,h=>by
  by_cases q1:cg x.acc y.acc=true
  ·have:=h x.acc.kind x.acc.ch;rw[vp ha.1,uf (B0 hb.1 q1)]at this;exact absurd this (ha.2 x (by simp))
  by_cases q2:cg y.acc x.acc=true
  ·have:=h y.acc.kind y.acc.ch;rw[vp hb.1,uf (B0 ha.1 q2)]at this;exact absurd this.symm (hb.2 y (by simp))
  have e:=Ah (by simpa using q1) (by simpa using q2);have V:=h x.acc.kind x.acc.ch;rw[vp ha.1,e.1,e.2,vp hb.1]at V;have G0:x=y:=by
   obtain⟨xa,xm⟩:=x;obtain⟨ya,ym⟩:=y;have:=Ea e;simp only at this V;rw[this,V]
  subst G0;rw[LE ha.tail hb.tail fun k c=>by have:=h k c;rw[fm,fm]at this;omega]
theorem LF{x:aO}:∀ {l:List aO} {z:aO},z∈kc l x->z.acc=x.acc\/∃y∈l,z.acc=y.acc
 |[],z,h=>by
  unfold kc at h;rw[List.mem_singleton.1 h];exact .inl rfl
 |y::l,z,h=>by
  unfold kc at h;split at h
  ·rcases List.mem_cons.1 h with rfl|h
   ·exact .inr ⟨_,by simp,rfl⟩
   rcases LF h with q|⟨u,hu,q⟩
   ·exact .inl q
   exact .inr ⟨u,by simp[hu],q⟩
  split at h
  ·split at h
   ·exact .inr ⟨z,by simp[h],rfl⟩
   rcases List.mem_cons.1 h with rfl|h
   ·exact .inr ⟨y,by simp,rfl⟩
   exact .inr ⟨z,by simp[h],rfl⟩
  rcases List.mem_cons.1 h with rfl|h
  ·exact .inl rfl
  exact .inr ⟨z,h,rfl⟩
theorem LH{x:aO}(hx:x.af≠0):∀ {l:List aO},rh l->rh (kc l x)
 |[],_=>by
  unfold kc;exact⟨by simp,fun y hy=>by rw[List.mem_singleton.1 hy];exact hx⟩
 |y::l,h=>by
  have hp:=List.pairwise_cons.1 h.1;unfold kc;by_cases q1:cg y.acc x.acc=true
  ·rw[if_pos q1];have ih:=LH hx h.tail;refine⟨List.pairwise_cons.2 ⟨fun z hz=>?_,ih.1⟩,fun z hz=>?_⟩
   ·rcases LF hz with e|⟨u,hu,e⟩
    ·rw[e];exact q1
    rw[e];exact hp.1 u hu
   rcases List.mem_cons.1 hz with rfl|hz
   ·exact h.2 _ (by simp)
   exact ih.2 z hz
  rw[if_neg q1];by_cases q2:y.acc.kind=x.acc.kind/\y.acc.ch=x.acc.ch
  ·rw[if_pos q2];by_cases q3:y.af+x.af=0
   ·rw[if_pos q3];exact h.tail
   rw[if_neg q3];exact⟨List.pairwise_cons.2 ⟨fun z hz=>hp.1 z hz,hp.2⟩,fun z hz=>by
    rcases List.mem_cons.1 hz with rfl|hz
    ·exact q3
    exact h.2 z (by simp[hz])⟩
  rw[if_neg q2];have q4:cg x.acc y.acc=true:=by
   cases e:cg x.acc y.acc with
   |true=>rfl
   |false=>exact absurd (Ah (by simpa using q1) e) q2
  refine⟨List.pairwise_cons.2 ⟨B0 h.1 q4,h.1⟩,fun z hz=>?_⟩;rcases List.mem_cons.1 hz with rfl|hz
  ·exact hx
  exact h.2 z hz
theorem LI:∀ {p l:List aO},(∀y∈p,y.af≠0)->rh l->rh (iM l p)
 |[],l,_,h=>h
 |x::p,l,hp,h=>LI (p:=p) (l:=kc l x) (fun y hy=>hp y (by simp[hy])) (LH (hp x (by simp)) h)
theorem G1{k c:Int}{x:aO}{s:Int}(h:¬dL s=true)(h0:k=x.acc.kind/\c=x.acc.ch->s=0):¬(x.acc.kind=k/\x.acc.ch=c):=fun q=>h (by rw[h0 ⟨q.1.symm,q.2.symm⟩];rfl)
theorem B1:∀(n:Nat) (a b:List aO),a.length+b.length<=n->rh a->rh b->fM a b=none->∃k c,¬dL (bU a k c+bU b k c)=true
 |n,[],b,_,_,_,h=>by rw[yo]at h;cases h
 |n,x::a,[],_,_,_,h=>by rw[z6]at h;cases h
 |0,x::a,y::b,hn,_,_,_=>by simp at hn
 |n+1,x::a,y::b,hn,ha,hb,h=>by
  simp only[List.length_cons]at hn;have ip:=List.pairwise_cons.1 ha.1;have kA:=List.pairwise_cons.1 hb.1;by_cases q1:cg x.acc y.acc=true
  ·rw[BI q1,Option.map_eq_none_iff]at h;obtain⟨k,c,g⟩:=B1 n a (y::b) (by simp;omega) ha.tail hb h;refine⟨k,c,?_⟩;have bO:=G1 (k:=k) (c:=c) (x:=x) g (fun⟨e1,e2⟩=>by rw[e1,e2,uf (fun z hz=>ip.1 z hz),uf (B0 hb.1 q1)];rfl);have e:iS k c x=0:=if_neg bO;rw[fm x,e,Int.zero_add];exact g
  have q1:cg x.acc y.acc=false:=by simpa using q1
  by_cases q2:cg y.acc x.acc=true
  ·rw[BJ q1 q2,Option.map_eq_none_iff]at h;obtain⟨k,c,g⟩:=B1 n (x::a) b (by simp;omega) ha hb.tail h;refine⟨k,c,?_⟩;have bO:=G1 (k:=k) (c:=c) (x:=y) g (fun⟨e1,e2⟩=>by rw[e1,e2,uf (fun z hz=>kA.1 z hz),uf (B0 ha.1 q2)];rfl);have e:iS k c y=0:=if_neg bO;rw[fm y,e,Int.zero_add];exact g
  have q2:cg y.acc x.acc=false:=by simpa using q2
  have e:=Ah q1 q2;have tail (g:∃k c,¬dL (bU a k c+bU b k c)=true):∃k c,¬dL (bU (x::a) k c+bU (y::b) k c)=true:=by
   obtain⟨k,c,g⟩:=g;refine⟨k,c,?_⟩;have bO:=G1 (k:=k) (c:=c) (x:=x) g (fun⟨e1,e2⟩=>by rw[e1,e2,uf (fun z hz=>ip.1 z hz),e.1,e.2,uf (fun z hz=>kA.1 z hz)];rfl);have e1:iS k c x=0:=if_neg bO;have e2:iS k c y=0:=if_neg (fun q=>bO ⟨by omega,by omega⟩);rw[fm x,fm y,e1,e2,Int.zero_add,Int.zero_add];exact g
  by_cases q3:dL (x.af+y.af)=true
  ·by_cases q4:x.af+y.af=0
   ·rw[Eb q1 q2 q3 q4]at h;exact tail (B1 n a b (by omega) ha.tail hb.tail h)
   rw[Ec q1 q2 q3 q4,Option.map_eq_none_iff]at h;exact tail (B1 n a b (by omega) ha.tail hb.tail h)
  refine⟨x.acc.kind,x.acc.ch,?_⟩;rw[vp ha.1,e.1,e.2,vp hb.1];exact q3
theorem rk.gS{l:List aO}(h:rk l):rh l:=⟨h.1,fun y hy=>(h.2 y hy).1⟩
theorem LJ{k c:Int}:∀ {l:List aO},rk l->dL (bU l k c)=true
 |[],_=>rfl
 |x::l,h=>by
  by_cases q:x.acc.kind=k/\x.acc.ch=c
  ·obtain⟨rfl,rfl⟩:=q;rw[vp h.1];exact cJ.2 (h.2 x (by simp)).2
  have e:iS k c x=0:=if_neg q;rw[fm,e,Int.zero_add];exact LJ h.tail
theorem LK{l:cH}{p:dX}:iR l p=iv l p/\qi l p=iD l p:=by
 by_cases h0:(eQ l&&iL p.id p.lines)=true
 ·have LL:=h0;rw[Bool.and_eq_true]at LL;obtain⟨hl,hp⟩:=LL;have rl:=hl;unfold eQ at rl;simp only[Bool.and_eq_true]at rl;have la:=wV rl.2;have Ed:=hp;unfold iL at Ed;simp only[Bool.and_eq_true]at Ed;have lp:=wV Ed.2;have hid:=cJ.1 Ed.1.1;have hs:rh (iM l.lines p.lines):=LI (fun y hy=>(lp.af y hy).1) la.lF.gS;by_cases ho:p.id<=l.last
  ·have c1:iR l p=2:=by unfold iR;rw[if_pos h0,if_pos ho]
   have c2:iv l p=2:=Le hl hp ho;exact⟨by rw[c1,c2],by unfold qi iD;rw[c1,c2];rfl⟩
  cases hm:fM l.lines p.lines with
  |none=>
   have c2:iv l p=3:=Lf hl hp ho hm;obtain⟨k,c,g⟩:=B1 _ _ _ (Nat.le_refl _) la.lF.gS lp.lF.gS hm;have Ts:eQ ⟨p.id,iM l.lines p.lines⟩=false:=Bool.eq_false_iff.2 fun q=>by
    unfold eQ at q;simp only[Bool.and_eq_true]at q;have:=LJ (k:=k) (c:=c) (wV q.2).lF;rw[GY]at this;exact g this
   have c1:iR l p=3:=by unfold iR;rw[if_pos h0,if_neg ho,if_neg (by simp[Ts])]
   exact⟨by rw[c1,c2],by unfold qi iD;rw[c1,c2];rfl⟩
  |some m=>
   obtain⟨lm,mq⟩:=Ee la lp hm;have em:iM l.lines p.lines=m:=LE hs lm.lF.gS fun k c=>by rw[GY,mq]
   have g9:rW m=true:=iG.ok (m:=m.length) lm;by_cases hlen:320<m.length
   ·have c2:iv l p=3:=Lg hl hp ho hm hlen;have c1:iR l p=3:=by
     unfold iR;rw[if_pos h0,if_neg ho,em,if_neg];unfold eQ;rw[show decide ((⟨p.id,m⟩:cH).lines.length<=320)=false by simp;omega];simp
    exact⟨by rw[c1,c2],by unfold qi iD;rw[c1,c2];rfl⟩
   have c2:iv l p=0:=Gr hl hp ho hm (by omega);have c1:iR l p=0:=by
    unfold iR;rw[if_pos h0,if_neg ho,em,if_pos];unfold eQ;rw[g9,cJ.2 (show 0<=p.id/\p.id<=1125899906842624 by omega),decide_eq_true (show (⟨p.id,m⟩:cH).lines.length<=320 by show m.length<=320;omega)];rfl
   refine⟨by rw[c1,c2],?_⟩;rw[G2 c2 hm];unfold qi;rw[if_pos c1,em]
 have c1:iR l p=1:=by unfold iR;rw[if_neg h0]
 have c2:iv l p=1:=Gp (by simpa using h0);exact⟨by rw[c1,c2],by unfold qi iD;rw[c1,c2];rfl⟩
theorem QE{l:cH}{ps:List dX}:fP l ps=jJ l ps:=by
 unfold fP jJ;have:BX=B2:=by
  funext s p;unfold BX B2;rw[LK.1,LK.2]
 rw[this]

section
variable {P:Program}
theorem G3:∀(fs:List Field) (i:Nat) (a b r r':List Value),vt P fs i a b->dA (a++r) (b++r')=(dA a b&&dA r r')
 |[],i,[],[],r,r',_=>by simp[dA]
 |[],i,a::_,b,r,r',h=>by cases b<;>first|exact h.elim|(cases a<;>exact h.elim)
 |[],i,[],b::_,r,r',h=>h.elim
 |f::fs,i,[],b,r,r',h=>by cases b<;>exact h.elim
 |f::fs,i,v::a,[],r,r',h=>by cases v<;>exact h.elim
 |f::fs,i,v::a,v'::b,r,r',h=>by
  cases v<;>cases v'<;>first|exact h.elim|skip
  case int.int k x k' y=>
   have ih:=G3 fs (i+1) a b r r' h.2.2.2.2
   show (x==y&&dA (a++r) (b++r'))=((x==y&&dA a b)&&dA r r')
   rw[ih,Bool.and_assoc]
  case bool.bool x y=>
   have ih:=G3 fs (i+1) a b r r' h.2.2.2
   show (x==y&&dA (a++r) (b++r'))=((x==y&&dA a b)&&dA r r')
   rw[ih,Bool.and_assoc]
theorem LM{t:TypeId}{fs:Array Field}(ht:P.underlying t=some (.struct fs)){a r:List Value}(hn:P.cellsOf t=a.length)(W:World):(part t (a++r).toArray 0).run P W=.ok (.agg a.toArray) W:=by
 simp only[part,Sem.run_bind,LN ht,Result.andThen_ok,if_true,B3 ht,hn];simp
theorem Tt (d : Nat) (W : World) {f0 : Field} {yO fs : List Field} {a b r r' : List Value} (hn : f0.name ≠ "_") (ho : f0.offset = 0) (ht : P.underlying f0.type = some (.struct (P.fieldsOf f0.type))) (hf : P.fieldsOf f0.type = yO.toArray) (hp : P.stoodInHeld f0.type = false)
 (ha:P.cellsOf f0.type=a.length) (hb:b.length=a.length) (h0:vt P yO 0 a b) (V:vt P fs a.length r r'):(Op.eqFields (d+3) (a++r).toArray (b++r').toArray (f0::fs)).run P W=.ok (dA (a++r) (b++r')) W:=by
 have e1:=run_equalIn_struct (P:=P) W (d+2) f0.type a.toArray b.toArray ht hp
 rw[hf]at e1
 have e2:=B4 (P:=P) (d+1) W yO 0 [] [] a b rfl rfl h0
 have e3:(Op.equalIn (d+3) f0.type (.agg a.toArray) (.agg b.toArray)).run P W=.ok (dA a b) W:=e1.trans e2
 have e4:=B4 (P:=P) (d+2) W fs a.length a b r r' rfl hb V
 rw[G3 yO 0 a b r r' h0]
 unfold Op.eqFields
 rw[if_pos hn,Sem.run_bind,ho,LM ht ha,Result.andThen_ok,Sem.run_bind,LM ht (by rw[ha,hb]),Result.andThen_ok,Sem.run_bind,e3,Result.andThen_ok]
 cases kN:dA a b
 ·simp
 simpa using e4
variable {o:Oper}{τ:Nat->AV}{H:Nat->AO}{X:Nat->Bool}
theorem JW{op:BinOp}{T yT:TypeId}{x y:Operand}{a b r r':List Value}{f0:Field}{yO fs:List Field}(ho:o.op=.binOp op T x y yT)(G4:op=.eql\/op=.neq)(hx:vu (ev τ x)=some (.agg (a++r).toArray))(hy:vu (ev τ y)=some (.agg (b++r').toArray))
 (hf:P.fieldsOf T=(f0::fs).toArray) (ht:P.underlying T=some (.struct (P.fieldsOf T))) (hp:P.stoodInHeld T=false) (hg:P.eqGuardType P.depth T=false)
 (hn : f0.name ≠ "_") (Tu : f0.offset = 0) (Tv : P.underlying f0.type = some (.struct (P.fieldsOf f0.type))) (Tw : P.fieldsOf f0.type = yO.toArray) (Tx : P.stoodInHeld f0.type = false)
 (ha:P.cellsOf f0.type=a.length) (hb:b.length=a.length) (h0:vt P yO 0 a b) (V:vt P fs a.length r r'):Rd P o τ H X (aD (match op with|.eql=>dA (a++r) (b++r')|_=>!dA (a++r) (b++r'))):=by
 have he:∀W,(Op.equal T (.agg (a++r).toArray) (.agg (b++r').toArray)).run P W=.ok (dA (a++r) (b++r')) W:=fun W=>by
  have pD:=run_equalIn_struct (P:=P) W (Op.maxDepth-1) T (a++r).toArray (b++r').toArray ht hp;have h2:=Tt (P:=P) (Op.maxDepth-4) W (fs:=fs) (r:=r) (r':=r') hn Tu Tv Tw Tx ha hb h0 V;rw[hf]at pD;exact pD.trans h2
 apply G5 ho hx hy
 intro W
 rcases G4 with rfl|rfl
 ·simp[eqGuard,binOp,hg,he]
 simp[eqGuard,binOp,hg,he]
end
section
variable {P:Program}{L O:Nat->Prop}{w0:World}{N:Nat}{ops:Array Oper}{F:List Nat}{n:Nat}{av:Array Bool}{o:Oper}{τ:Nat->AV}{H:Nat->AO}{Q:AQ}
theorem abq{i:Nat}{E:List Nat}{Z:(Nat->AV)->(Nat->AO)->Prop}(ho:ops[i]? = some o)(hs:wW P o N τ H E Z)(hF:F.contains i=true\/E=[])(hg:gv τ ops o=some true)
 (h:∀cE H',Z cE H'->AF P L O w0 N ops F n (av.setIfInBounds i true) cE H' Q):d9 P L O w0 N ops F n av i τ H Q:=fun ρ fp a w bV=>
 wpOp_step ho fun K hK=>by
  rw[bV.wanted hg,if_pos rfl];exact hs.run bV (fun cE H' a' w' ci bH hz gU lI=>hK _ _ ⟨Ef hF lI,h cE H' hz ci bH a' w' gU⟩)
end

def fill{α:Type}(rows:List α)(z:α)(k:Nat):List α:=rows.take k++List.replicate (rows.length-k) z
theorem Ai{α:Type}(rows:List α)(z:α):fill rows z 0=List.replicate rows.length z:=by simp[fill]
theorem Aj{α:Type}(rows:List α)(z:α):fill rows z rows.length=rows:=by simp[fill]
theorem Ak{α:Type}{rows:List α}{z:α}(k:Nat)(h:k<=rows.length):(fill rows z k).length=rows.length:=by simp[fill];omega
theorem Al{α:Type}{rows:List α}{z:α}{k:Nat}(h:k<rows.length):(fill rows z k)[k]? = some z:=by
 unfold fill;rw[List.getElem?_append_right (by simp;omega),List.length_take,Nat.min_eq_left (Nat.le_of_lt h),Nat.sub_self,List.getElem?_replicate,if_pos (by omega)]
theorem Am{α:Type}{rows:List α}{z c:α}{k:Nat}(h:rows[k]? = some c):(fill rows z k).set k c=fill rows z (k+1):=by
 obtain⟨hk,rfl⟩:=List.getElem?_eq_some_iff.1 h;unfold fill;rw[List.set_append_right _ _ (by simp;omega)];simp only[List.length_take,Nat.min_eq_left (Nat.le_of_lt hk),Nat.sub_self];rw[show rows.length-k=(rows.length-(k+1))+1 by omega,List.replicate_succ,List.set_cons_zero,List.take_succ_eq_append_getElem hk,List.append_assoc];rfl
section
variable {P:Program}{o:Oper}{τ:Nat->AV}{H:Nat->AO}{X:Nat->Bool}
theorem G6{T yT:TypeId}{x y:Operand}{a b:Bool}(ho:o.op=.binOp .neq T x y yT)(hx:ev τ x=aD a)(hy:ev τ y=aD b)(ht:P.underlying T=some .bool):Rd P o τ H X (aD (!(a==b))):=by
 have he:∀W,(Op.equal T (.bool a) (.bool b)).run P W=.ok (a==b) W:=fun W=>run_equalIn_bool' W (Op.maxDepth-1) T a b ht;apply G5 ho (by rw[hx];rfl) (by rw[hy];rfl);intro W;simp[eqGuard,binOp,he]
end

abbrev dF(b:Int):List Value:=[.int .u8 b]
abbrev LO(T:TypeId)(l:List Int):AV:=.p (.ab T 1 (ah dF l))
def fA(l:List Int):Prop:=∀b∈l,0<=b/\b<=255
abbrev LP(l:List Int):AV:=.p (.v (.string (strOfNums l)))
theorem G7:∀ {l:List Int} {cs:List Value} {w:World} {fp:List Nat},bI w false 1 (ah dF l) cs fp->cs=l.map (Value.int .u8)
 |[],cs,w,fp,h=>by unfold ah at h;simp only[List.map_nil]at h;rw[bI]at h;exact h.1
 |x::l,cs,w,fp,h=>by
  have e:ah dF (x::l)=[PV.v (.int .u8 x)]::ah dF l:=rfl;rw[e,bI]at h;obtain⟨_,c,r,f1,f2,rfl,rfl,V,h2⟩:=h;rw[bP]at V;obtain⟨c0,r0,f3,f4,rfl,rfl,h3,h4⟩:=V;rw[RW]at h3;rw[bP]at h4;rw[h3.1,h4.1,G7 h2];rfl
section
variable {P:Program}{o:Oper}{τ:Nat->AV}{H:Nat->AO}{X:Nat->Bool}
theorem LQ{s d e:TypeId}{W:World}{b off len cap:Nat}{l:List Int}(hs:P.underlying s=some (.slice e))(he:P.underlying e=some (.int .u8))(hd:P.underlying d=some .string)(hl:l.length=len)
 (h:jo W b off (l.map (Value.int .u8))):(convert s d (.slice (some ⟨b,off,none⟩) len cap)).run P W=.ok (.string (strOfNums l)) W:=
 run_convert_bytes_arg W s e hs he b off len cap l hl (fun i hi=>by
  have LR:i<l.length:=by omega
  have e1:(l.map (Value.int .u8))[i]? = some (.int .u8 l[i]):=by rw[List.getElem?_map,List.getElem?_eq_getElem LR];rfl
  have:=h i _ e1;rw[this,List.getD_eq_getElem?_getD,List.getElem?_eq_getElem LR];rfl) d hd
theorem LS{s d e:TypeId}{W:World}{p:Option Addr}{cap:Nat}(hs:P.underlying s=some (.slice e))(he:P.underlying e=some (.int .u8))(hd:P.underlying d=some .string):(convert s d (.slice p 0 cap)).run P W=.ok (.string (strOfNums [])) W:=by
 cases p with
 |none=>rw[run_convert_bytes_nil W s e hs he _ _ d hd];rfl
 |some a=>
  have hl:=run_loadCells_list (P:=P) W a [] (fun j v hj=>by cases hj);rw[run_convert_bytes_string W s d e _ _ _ hs he hd,run_bytesToString W a 0 cap [] hl];rfl
theorem vv{s d e T:TypeId}{x:Operand}{l:List Int}(ho:o.op=.convert s d x)(hs:P.underlying s=some (.slice e))(he:P.underlying e=some (.int .u8))(hd:P.underlying d=some .string)(hx:ev τ x=LO T l):Rd P o τ H X (LP l):=by
 constructor;intro L O w0 N ρ fp a w hr;have h:=hr.ev x;rw[hx,RV]at h;obtain⟨f0,h,hn⟩:=h;rw[RW]at h;obtain⟨xs,f1,f2,V,h2,rfl⟩:=h;have gG:=G7 V;subst gG;rw[ap]at h2;obtain⟨p,cap,q1,q2,q3,q4⟩:=h2;refine⟨.string (strOfNums l),fX rfl,fun W hK=>?_⟩;have e0:execOp a.eval o=(do let v <-convert s d (a.eval x);pure (.value v)):=by simp only[execOp,ho]
 rw[e0,q1,Sem.run_bind];rcases q4 with⟨hz,_⟩|⟨b,off,rfl,hc,hb,rfl⟩
 ·have:l=[]:=List.length_eq_zero_iff.1 hz;subst this;rw[show ([]:List Int).length=0 from rfl,LS hs he hd];rfl
 have hW:W.heap[b]? = w.heap[b]?:=hK.2 b hb (fun id k1 k2 k3=>hn b (by simp) (.inr ⟨id,k2,k3⟩));have G8:jo W b off (l.map (Value.int .u8)):=fun j v hj=>by
  rw[World.cell?_of_block (w:=w) (a:=⟨b,off+j,none⟩) hW];exact hc j v hj
 rw[LQ hs he hd rfl G8];rfl
end
theorem LT:∀ {l m:List Int},fA l->fA m->(l.map fun n=>UInt8.ofNat n.toNat)=m.map (fun n=>UInt8.ofNat n.toNat)->l=m
 |[],[],_,_,_=>rfl
 |[],_::_,_,_,h=>by cases h
 |_::_,[],_,_,h=>by cases h
 |a::l,b::m,hl,hm,h=>by
  injection h with V h2;have ha:=hl a (by simp);have hb:=hm b (by simp);have e1:(UInt8.ofNat a.toNat).toNat=a.toNat:=by rw[UInt8.toNat_ofNat'];exact Nat.mod_eq_of_lt (by omega)
  have e2:(UInt8.ofNat b.toNat).toNat=b.toNat:=by rw[UInt8.toNat_ofNat'];exact Nat.mod_eq_of_lt (by omega)
  have e3:a.toNat=b.toNat:=by rw[<-e1,<-e2];exact congrArg UInt8.toNat V
  have:a=b:=by omega
  rw[this,LT (fun x hx=>hl x (by simp[hx])) (fun x hx=>hm x (by simp[hx])) h2]
theorem Ty{l m:List Int}(hl:fA l)(hm:fA m):((strOfNums l).toList==(strOfNums m).toList)=decide (l=m):=by
 rw[ByteArray.toList_eq,ByteArray.toList_eq,strOfNums_data,strOfNums_data];by_cases h:l=m
 ·subst h;simp
 rw[decide_eq_false h];exact Bool.eq_false_iff.2 (fun q=>h (LT hl hm (by simpa using q)))
section
variable {P:Program}{x y:Operand}{T:TypeId}{l m:List Int}
theorem An(hT:P.underlying T=some .string)(hl:fA l)(hm:fA m):∀W,(do eqGuard .neq T x y (.string (strOfNums l)) (.string (strOfNums m));binOp .neq T (.string (strOfNums l)) (.string (strOfNums m)):Sem Value).run P W=.ok (.bool (!decide (l=m))) W:=fun W=>by
 rw[<-Ty hl hm];rw[binOp_string_neq];simp[eqGuard]
end

def cl:Nat->Int->List Int
 |0,_=>[]
 |k+1,n=>n/256 ^ k%256::cl k n
theorem da(n:Int):∀k,(cl k n).length=k
 |0=>rfl
 |k+1=>by rw[cl,List.length_cons,da n k]
theorem wX(n:Int):∀k,fA (cl k n)
 |0=>fun b hb=>by cases hb
 |k+1=>fun b hb=>by
  rw[cl]at hb;rcases List.mem_cons.1 hb with rfl|hb
  ·omega
  exact wX n k b hb
theorem LU(n:Int):∀(k j:Nat),j<k->(cl k n)[j]? = some (n/256 ^ (k-1-j)%256)
 |0,j,h=>absurd h (by omega)
 |k+1,0,_=>by rw[cl];simp
 |k+1,j+1,h=>by
  rw[cl,List.getElem?_cons_succ,LU n k j (by omega),show k+1-1-(j+1)=k-1-j by omega]
theorem Tz{n:Int}{k j:Nat}(h:j<k):(cl k n).take (j+1)=(cl k n).take j++[n/256 ^ (k-1-j)%256]:=by
 have hl:j<(cl k n).length:=by rw[da];exact h
 rw[List.take_succ_eq_append_getElem hl];have:=LU n k j h;rw[List.getElem?_eq_getElem hl]at this;injection this with this;rw[this]
def mO(l:List Int):Int:=l.foldl (fun n x=>n*256+x) 0
theorem TA(l:List Int)(x:Int):mO (l++[x])=mO l*256+x:=by unfold mO;rw[List.foldl_append];rfl
theorem LV:∀(l:List Int) (a:Int),fA l->0<=a->0<=l.foldl (fun n x=>n*256+x) a/\l.foldl (fun n x=>n*256+x) a<(a+1)*256 ^ l.length
 |[],a,_,ha=>by simp;omega
 |x::l,a,h,ha=>by
  have hx:=h x (by simp);have ih:=LV l (a*256+x) (fun b hb=>h b (by simp[hb])) (by omega);rw[List.foldl_cons,List.length_cons,Int.pow_succ];refine⟨ih.1,Int.lt_of_lt_of_le ih.2 ?_⟩;have V:a*256+x+1<=(a+1)*256:=by omega
  have h2:(0:Int)<=256 ^ l.length:=Int.pow_nonneg (by omega);have:=Int.mul_le_mul_of_nonneg_right V h2;rw[Int.mul_assoc,Int.mul_comm 256]at this;exact this
theorem LW:∀(k:Nat) (n a:Int),0<=n->n<256 ^ k->(cl k n).foldl (fun n x=>n*256+x) a=a*256 ^ k+n
 |0,n,a,h0,V=>by
  have:n=0:=by simp at V;omega
  subst this;simp[cl]
 |k+1,n,a,h0,V=>by
  rw[cl,List.foldl_cons];have hp:(0:Int)<256 ^ k:=Int.pow_pos (by omega);have e1:n/256 ^ k%256=n/256 ^ k:=by
   refine Int.emod_eq_of_lt (Int.ediv_nonneg h0 (by omega)) (Int.ediv_lt_of_lt_mul hp ?_);rw[Int.pow_succ,Int.mul_comm]at V;exact V
  have e2:∀(j:Nat) (m:Int),j<=k->cl j m=cl j (m%256 ^ k):=by
   intro j;induction j with
   |zero=>intro m _;rfl
   |succ j ih=>
    intro m hj;rw[cl,cl,ih m (by omega)];congr 1;have Eg:(256:Int) ^ k=256 ^ (j+1)*256 ^ (k-(j+1)):=by rw[<-Int.pow_add];congr 1;omega
    have hpj:(0:Int)<256 ^ j:=Int.pow_pos (by omega);have key:m%256 ^ k=m-256 ^ j*(256*(256 ^ (k-(j+1))*(m/256 ^ k))):=by
     rw[Int.emod_def,Eg,Int.pow_succ];simp only[Int.mul_assoc]
    rw[key,Int.sub_mul_ediv_left _ _ (by omega),Int.sub_mul_emod_self_left]
  rw[e2 k n (Nat.le_refl _),LW k (n%256 ^ k) _ (Int.emod_nonneg _ (by omega)) (Int.emod_lt_of_pos _ hp),e1,Int.pow_succ,Int.add_mul,Int.mul_assoc,Int.mul_comm 256];have:=Int.mul_ediv_add_emod n (256 ^ k);rw[Int.mul_comm (n/256 ^ k)];omega
theorem LX{k:Nat}{n:Int}(h0:0<=n)(V:n<256 ^ k):mO (cl k n)=n:=by
 unfold mO;rw[LW k n 0 h0 V];omega

theorem fA.nil:fA []:=fun b hb=>by cases hb
theorem fA.gJ{l m:List Int}(h:fA l)(g:fA m):fA (l++m):=fun b hb=>by
 rcases List.mem_append.1 hb with q|q
 ·exact h b q
 exact g b q
theorem fA.cons{x:Int}{l:List Int}(h0:0<=x)(V:x<=255)(h:fA l):fA (x::l):=fun b hb=>by
 rcases List.mem_cons.1 hb with rfl|q
 ·exact⟨h0,V⟩
 exact h b q
theorem fA.zero(n:Nat):fA (List.replicate n 0):=fun b hb=>by rw[(List.mem_replicate.1 hb).2];omega
theorem fA.take{l:List Int}(h:fA l)(n:Nat):fA (l.take n):=fun b hb=>h b (List.mem_of_mem_take hb)
theorem fA.drop{l:List Int}(h:fA l)(n:Nat):fA (l.drop n):=fun b hb=>h b (List.mem_of_mem_drop hb)
def i8(s:fb):Bool:=aI s.seq 0 599&&aI s.dP 1 16000000&&decide (s.body.length<=100)
def oq(s:fb):List Int:=[74]++cl 3 s.seq++cl 3 s.dP++[(s.body.length:Int)]++s.body++List.replicate (114-s.body.length) 0++cl 3 s.seq++cl 3 s.dP
def gu(b:List Int):fb:=⟨mO ((b.drop 1).take 3),mO ((b.drop 4).take 3),(b.drop 8).take (b.getD 7 0).toNat⟩
def g8(b:List Int):Bool:=decide (b.length=128)&&decide (b.getD 7 0<=100)&&(i8 (gu b)&&decide (oq (gu b)=b))
def kP(b:List Int):fb:=if g8 b then gu b else ⟨0,0,[]⟩
theorem qW{s:fb}:i8 s=true↔(0<=s.seq/\s.seq<=599)/\(1<=s.dP/\s.dP<=16000000)/\s.body.length<=100:=by
 unfold i8;simp[aI,and_assoc]
theorem TB{s:fb}(h:s.body.length<=100):(oq s).length=128:=by
 unfold oq;simp only[List.length_append,List.length_cons,List.length_nil,da,List.length_replicate];omega
theorem TC{s:fb}(h:fA s.body)(hl:s.body.length<=100):fA (oq s):=by
 unfold oq;exact(((((((fA.cons (by omega) (by omega) .nil).gJ (wX _ _)).gJ (wX _ _)).gJ (.cons (by omega) (by omega) .nil)).gJ h).gJ (.zero _)).gJ (wX _ _)).gJ (wX _ _)
theorem dv{b:List Int}(h:g8 b=true):kP b=gu b:=if_pos h
theorem TD{b:List Int}(h:g8 b=false):kP b=⟨0,0,[]⟩:=if_neg (by simp[h])
theorem oN{b:List Int}:g8 b=true↔b.length=128/\b.getD 7 0<=100/\i8 (gu b)=true/\oq (gu b)=b:=by
 unfold g8;simp[and_assoc]
theorem LY{b:List Int}(h:fA b):fA (gu b).body:=(h.drop 8).take _
theorem TE{s:fb}(h:i8 s=true):gu (oq s)=s:=by
 obtain⟨⟨a1,a2⟩,⟨b1,b2⟩,hl⟩:=qW.1 h;have e1:(oq s).drop 1=cl 3 s.seq++(cl 3 s.dP++([(s.body.length:Int)]++(s.body++(List.replicate (114-s.body.length) 0++(cl 3 s.seq++cl 3 s.dP))))):=by
  unfold oq;simp only[List.append_assoc];rfl
 have e4:(oq s).drop 4=cl 3 s.dP++([(s.body.length:Int)]++(s.body++(List.replicate (114-s.body.length) 0++(cl 3 s.seq++cl 3 s.dP)))):=by
  rw[show (4:Nat)=1+3 from rfl,<-List.drop_drop,e1,List.drop_left' (da _ _)]
 have e7:(oq s).drop 7=[(s.body.length:Int)]++(s.body++(List.replicate (114-s.body.length) 0++(cl 3 s.seq++cl 3 s.dP))):=by
  rw[show (7:Nat)=4+3 from rfl,<-List.drop_drop,e4,List.drop_left' (da _ _)]
 have e8:(oq s).drop 8=s.body++(List.replicate (114-s.body.length) 0++(cl 3 s.seq++cl 3 s.dP)):=by
  rw[show (8:Nat)=7+1 from rfl,<-List.drop_drop,e7];rfl
 have g7:(oq s).getD 7 0=(s.body.length:Int):=by
  have:(oq s)[7]? = ((oq s).drop 7)[0]?:=by rw[List.getElem?_drop]
  rw[List.getD_eq_getElem?_getD,this,e7];rfl
 have p3:∀n:Int,(cl 3 n).length=3:=fun n=>da n 3;unfold gu;rw[g7,e1,e4,e8,List.take_left' (p3 _),List.take_left' (p3 _),LX a1 (by omega),LX (by omega) (by omega),Int.toNat_natCast,List.take_left]
def rY(e:aV):List Int:=[69,e.kind]++cl 3 e.key++[e.ch,e.to]++cl 7 e.af++cl 7 e.ay++[if e.yes then 1 else 0]
def lJ(b:List Int):aV:=⟨b.getD 1 0,mO ((b.drop 2).take 3),b.getD 5 0,b.getD 6 0,mO ((b.drop 7).take 7),mO ((b.drop 14).take 7),b.getD 21 0==1⟩
def lK(b:List Int):Bool:=decide (b.length=22)&&(co (lJ b)&&decide (rY (lJ b)=b))
theorem TF(e:aV):(rY e).length=22:=by unfold rY;simp[da]
def yP(b:List Int):List Int:=if b.length=0 then List.replicate 128 0 else b
def lL(c:Cell):Bool:=decide (c.bytes.length=0)||decide (c.bytes.length=128)
def kS(n:Nat)(w:gq):Bool:=aI w.at_ 0 ((n:Int)-1)&&decide (w.bytes.length=128)
def ik(d:du):Bool:=aI (d.cells.length:Int) 1 600&&decide (d.bu.length<=600)&&d.cells.all lL&&d.bu.all (kS d.cells.length)
def kD:List gq->Int->Option (List Int)
 |[],_=>none
 |w::r,at_=>match kD r at_ with|some b=>some b|none=>if w.at_=at_ then some w.bytes else none
def io(d:du)(i:Nat):List Int:=match kD d.bu i with|some b=>b|none=>yP ((d.cells[i]?).getD ⟨[]⟩).bytes
def oh(d:du):List (List Int):=(List.range d.cells.length).map (io d)
def pA(acc:List fb)(b:List Int):Bool:=g8 b&&((gu b).seq==(acc.length:Int))&&(match acc.getLast? with|some s=>decide (s.dP<=(gu b).dP)|none=>true)
def og:List (List Int)->List fb->List fb
 |[],acc=>acc
 |b::r,acc=>if pA acc b then og r (acc++[gu b])else acc
def dH(d:du):List fb:=if ik d then og (oh d) []else []
def pj(l:List fb):List aV:=l.filterMap fun s=>if lK s.body then some (lJ s.body)else none
def f8(d:du):List aV:=pj (dH d)

abbrev gV(l:List Int):AV:=LO 5 l
abbrev nQ(b:List Int):PV:=.ab 5 1 (ah dF b)
def oS(cs:List Cell):List (List PV):=cs.map fun c=>[nQ c.bytes]
def oT(ws:List gq):List (List PV):=ws.map fun w=>[.v (.int .i64 w.at_),nQ w.bytes]
abbrev mt(d:du):AV:=.agg [.p (.ab 195 1 (oS d.cells)),.p (.ab 192 2 (oT d.bu))]
abbrev G9(l:uW):AV:=.agg [.p (.ab 195 1 (oS l.bT.cells)),.p (.ab 192 2 (oT l.bT.bu)),int l.next,int l.dP]
def oR(vs:List Value):List (List PV):=vs.map fun v=>[.v v]
def lW(vs:List Value)(ws:List gq):List (List PV):=List.zipWith (fun v (w:gq)=>[.v (.int .i64 w.at_),.v v]) vs ws
def fY(vs:List Value)(bs:List (List Int)):List AO:=List.zipWith (fun v b=>.ai ⟨5,some v⟩ 1 (ah dF b)) vs bs
abbrev l9(cs:List Cell):List (List Int):=cs.map Cell.bytes
abbrev oQ(ws:List gq):List (List Int):=ws.map gq.bytes
theorem fU(cs:List Cell):(oS cs).length=cs.length:=List.length_map _
theorem pH(ws:List gq):(oT ws).length=ws.length:=List.length_map _
theorem vw{cs:List Cell}{i:Nat}(h:i<cs.length):(oS cs)[i]? = some [nQ cs[i].bytes]:=bS h
theorem td{ws:List gq}{i:Nat}(h:i<ws.length):(oT ws)[i]? = some [.v (.int .i64 ws[i].at_),nQ ws[i].bytes]:=bS h
theorem Ao(vs:List Value):(oR vs).length=vs.length:=List.length_map _
theorem K9{vs:List Value}{ws:List gq}(h:vs.length=ws.length):(lW vs ws).length=ws.length:=by unfold lW;rw[List.length_zipWith];omega
theorem Aa{vs:List Value}{bs:List (List Int)}(h:vs.length=bs.length):(fY vs bs).length=bs.length:=by unfold fY;rw[List.length_zipWith];omega
theorem TG{vs:List Value}{u:Value}:oR (vs++[u])=oR vs++[[.v u]]:=List.map_append
theorem SB{vs:List Value}{ws:List gq}{u:Value}{w:gq}(h:vs.length=ws.length):lW (vs++[u]) (ws++[w])=lW vs ws++[[.v (.int .i64 w.at_),.v u]]:=by unfold lW;rw[List.zipWith_append h];rfl
theorem K8{vs:List Value}{bs:List (List Int)}{u:Value}{b:List Int}(h:vs.length=bs.length):fY (vs++[u]) (bs++[b])=fY vs bs++[.ai ⟨5,some u⟩ 1 (ah dF b)]:=by unfold fY;rw[List.zipWith_append h];rfl
theorem Ap:∀ {vs:List Value} {bs:List (List Int)},dS (fY vs bs)
 |[],_=>by unfold fY;simp;exact dS.nil
 |_::_,[]=>by unfold fY;simp;exact dS.nil
 |v::vs,p::bs=>fun o ho=>by
  unfold fY at ho;rw[List.zipWith_cons_cons]at ho;rcases List.mem_cons.1 ho with rfl|ho
  ·rfl
  exact Ap (vs:=vs) (bs:=bs) o ho
theorem TH{vs:List Value}{i:Nat}(hi:i<vs.length):(oR vs)[i]? = some [.v vs[i]]:=bS hi
theorem TI{vs:List Value}{ws:List gq}{i:Nat}(h:vs.length=ws.length)(hi:i<ws.length):(lW vs ws)[i]? = some [.v (.int .i64 ws[i].at_),.v (vs[i]'(by omega))]:=by
 unfold lW;rw[List.getElem?_zipWith,List.getElem?_eq_getElem hi,List.getElem?_eq_getElem (by omega)]
theorem LZ{vs:List Value}{bs:List (List Int)}{i:Nat}(h:vs.length=bs.length)(hi:i<bs.length):(fY vs bs)[i]? = some (.ai ⟨5,some (vs[i]'(by omega))⟩ 1 (ah dF bs[i])):=by
 unfold fY;rw[List.getElem?_zipWith,List.getElem?_eq_getElem hi,List.getElem?_eq_getElem (by omega)]
theorem SF{H:Nat->AO}{F:List AO}(hT:Tl H F){vs:List Value}{cs:List Cell}(h:vs.length=cs.length){s:Nat}(hF:∀i,i<cs.length->F[s+i]? = (fY vs (l9 cs))[i]?):kf (kf (vm H)) (oR vs) (oS cs):=by
 refine Eh (by rw[Ao,fU];exact h) fun i a b ha hb=>?_;have hi:i<cs.length:=by have:=(List.getElem?_eq_some_iff.1 hb).1;rwa [fU]at this
 rw[TH (by omega)]at ha;rw[vw hi]at hb;injection ha with ha;injection hb with hb;subst ha hb;refine .cons (.inr ⟨_,1000000+(s+i),_,_,_,rfl,?_,rfl⟩) .nil;rw[hT.1,hF i hi,LZ (by simpa using h) (by simpa using hi)];simp
theorem SG{H:Nat->AO}{F:List AO}(hT:Tl H F){vs:List Value}{ws:List gq}(h:vs.length=ws.length){s:Nat}(hF:∀i,i<ws.length->F[s+i]? = (fY vs (oQ ws))[i]?):kf (kf (vm H)) (lW vs ws) (oT ws):=by
 refine Eh (by rw[K9 h,pH]) fun i a b ha hb=>?_;have hi:i<ws.length:=by have:=(List.getElem?_eq_some_iff.1 hb).1;rwa [pH]at this
 rw[TI h hi]at ha;rw[td hi]at hb;injection ha with ha;injection hb with hb;subst ha hb;refine .cons (.inl rfl) (.cons (.inr ⟨_,1000000+(s+i),_,_,_,rfl,?_,rfl⟩) .nil);rw[hT.1,hF i hi,LZ (by simpa using h) (by simpa using hi)];simp
abbrev Gn:AV:=.agg [.own 1,.own 2]
abbrev DS(vs us:List Value)(d:du):List (Nat×AO):=[(1,.ai 195 1 (oR vs)),(2,.ai 192 2 (lW us d.bu))]
def sY(vs us:List Value)(d:du):List AO:=fY vs (l9 d.cells)++fY us (oQ d.bu)
theorem TJ{vs us:List Value}{d:du}:dS (sY vs us d):=Ap.gJ Ap
def La(d:du):AV->List (Nat×AO)->List AO->Prop:=fun y l1 F1=>∃vs us:List Value,vs.length=d.cells.length/\us.length=d.bu.length/\y=Gn/\l1=DS vs us d/\F1=sY vs us d

def lZ{α:Type}(enc:α->List Value):List α->List α->Bool
 |[],[]=>true
 |x::a,y::b=>dA (enc x) (enc y)&&lZ enc a b
 |_,_=>false
theorem tD{α:Type}{enc:α->List Value}:∀ {a b:List α},a.length≠b.length->lZ enc a b=false
 |[],[],h=>absurd rfl h
 |[],_::_,_=>rfl
 |_::_,[],_=>rfl
 |x::a,y::b,h=>by unfold lZ;rw[tD (a:=a) (b:=b) (by simpa using h),Bool.and_false]
theorem qF{α:Type}{enc:α->List Value}:∀ {a b:List α} {k:Nat} (V:k<a.length) (h2:k<b.length),dA (enc a[k]) (enc b[k])=false->lZ enc a b=false
 |x::a,y::b,0,_,_,h=>by unfold lZ;rw[show dA (enc x) (enc y)=false from h];rfl
 |x::a,y::b,k+1,V,h2,h=>by unfold lZ;rw[qF (a:=a) (b:=b) (k:=k) (by simpa using V) (by simpa using h2) (by simpa using h),Bool.and_false]
theorem JR{α:Type}{enc:α->List Value}:∀ {a b:List α},a.length=b.length->(∀(k:Nat) (V:k<a.length) (h2:k<b.length),dA (enc a[k]) (enc b[k])=true)->lZ enc a b=true
 |[],[],_,_=>rfl
 |[],_::_,h,_=>by cases h
 |_::_,[],h,_=>by cases h
 |x::a,y::b,h,hk=>by
  unfold lZ;rw[show dA (enc x) (enc y)=true from hk 0 (by simp) (by simp),JR (a:=a) (b:=b) (by simpa using h) (fun k V h2=>by have:=hk (k+1) (by simpa using V) (by simpa using h2);simpa using this)];rfl
def kY(a b:aw):Bool:=decide (a.tick=b.tick)&&decide (a.next=b.next)&&decide (a.aA=b.aA)&&lZ aX a.ag b.ag&&lZ go a.an b.an&&lZ iX a.aq b.aq
def mC(a b:aw):Bool:=eG a&&eG b&&kY a b
def qE(a b:cH):Bool:=decide (a.last=b.last)&&lZ ct a.lines b.lines
abbrev de(es:List aV):fg:=sB pm es
abbrev d5(es:List aV):cH×Int:=jJ ⟨0,[]⟩ (de es).ps
def eK(l:List Int):Bool:=l.all fun c=>decide (c=0)
def eL(es:List aV):Bool:=eK (de es).jD&&decide ((d5 es).2=((de es).ps.length:Int))
def pZ(es m:List aV):Bool:=decide (m.length<=es.length)&&lZ fR (es.drop (es.length-m.length)) m
def zV(h:mm):Bool:=ik h.log.bT&&aI h.log.next 0 h.log.bT.cells.length&&aI h.log.dP 1 16000000&&decide (((dH h.log.bT).length:Int)=h.log.next)&&eL (f8 h.log.bT)&&mC (de (f8 h.log.bT)).now h.book&&qE (d5 (f8 h.log.bT)).1 h.ia&&pZ (f8 h.log.bT) (h.f9++h.wait)
abbrev Bu(h:mm):AV:=.agg [.p (.ab 195 1 (oS h.log.bT.cells)),.p (.ab 192 2 (oT h.log.bT.bu)),int h.log.next,int h.log.dP,int h.book.tick,int h.book.next,int h.book.aA,.p (.ab 159 7 (ah aX h.book.ag)),.p (.ab 218 7 (ah go h.book.an)),.p (.ab 220 5 (ah iX h.book.aq)),int h.ia.last,.p (.ab 167 3 (ah ct h.ia.lines)),.p (.ab 81 7 (ah fR h.wait)),.p (.ab 81 7 (ah fR h.f9))]

theorem TK(v:Value)(n:Nat):(Builtin.zeroCells #[v] n).toList=List.replicate n v:=by
 unfold Builtin.zeroCells;apply List.ext_getElem
 ·simp
 intro i V h2;simp[Nat.mod_one]
theorem L3{α:Type}(v:α):∀m,(List.replicate m [v]).flatten=List.replicate m v
 |0=>rfl
 |m+1=>by rw[List.replicate_succ,List.flatten_cons,L3 v m,List.replicate_succ];rfl
section
variable {P:Program}
theorem TL{w:World}{t ti ty e:TypeId}{i:TypeInfo}{z v0:Value}(ht:P.underlying t=some (.slice e))(B5:P.underlying ti=some (.int .i64))(hi:P.info? e=some i)(hz:i.zero=some z)(G':z.cells=#[v0])(gR:i.size=1)(rZ:v0.oneCell'=true)
 {g:Nat} {n cap:Nat} {xs:List Value} (jE:w.ownsRow 0 e 1 (.slice (some ⟨g,0,none⟩) n cap) n xs) {m:Nat} (hm:0<m) (yQ:n+m<=maxLen) (wY:(n+m)*i.bytes<=140737488355328) :
 ∃v' w',(Builtin.append_ #[t,ti] ty #[.slice (some ⟨g,0,none⟩) n cap,.int .i64 (m:Int)]).run P w=.ok v' w'/\w'.ownsRow 0 e 1 v' (n+m) (xs++List.replicate m v0)/\w.grownBy w' (some g)/\(v'.ownBlock=some g\/v'.ownBlock=some w.heap.size)/\
  (∀b off,(some g=some b\/w.heap.size<=b)->b<w'.heap.size->w'.frozen? ⟨b,off,none⟩=false):=by
 have L4:n+m<=9223372036854775807:=by simp only[maxLen]at yQ;omega
 have hlen:(xs++List.replicate m v0).length=(n+m)*1:=by rw[List.length_append,jE.1,List.length_replicate];omega
 have L5:IntKind.i64.wrap (m:Int)=(m:Int):=by rw[IntKind.wrap_i64];omega
 have dY:¬((m:Int)<0):=by omega
 have L6:¬(281474976710656<(m:Int)*(i.bytes:Int)):=by
  have V:m*i.bytes<=(n+m)*i.bytes:=Nat.mul_le_mul_right _ (by omega);have h2:((m*i.bytes:Nat):Int)<=140737488355328:=by omega
  rw[Int.natCast_mul]at h2;omega
 have L7:¬m=0:=by omega
 have ug:(Builtin.zeroCells #[v0] m).toList=List.replicate m v0:=TK v0 m
 rcases jE.2 with⟨q,_⟩|⟨g',uh,cur,q,te,hg,hnc,bC,pI,htake⟩
 ·cases q
 injection q with q1 q2 q3
 injection q1 with q1
 injection q1 with q1
 subst q1 q3
 by_cases r6:n+m<=cap
 ·have vz:n*1+(List.replicate m v0).length<=cur.size:=by rw[List.length_replicate,pI];omega
  have dM:=run_storeCells_at P g (n*1) e (List.replicate m v0) 0 cur w hg (by simpa using vz) (fun u hu=>by rw[(List.mem_replicate.1 hu).2];exact rZ)
  simp only[Nat.add_zero,Nat.mul_one]at dM
  have hr:(Builtin.append_ #[t,ti] ty #[.slice (some ⟨g,0,none⟩) n cap,.int .i64 (m:Int)]).run P w=.ok (.slice (some ⟨g,0,none⟩) (n+m) cap) (w.setRow g (cur.toList.take n++List.replicate m v0++cur.toList.drop (n+(List.replicate m v0).length)).toArray):=by
   simp[Builtin.append_,run_underlying ht,run_underlying B5,sizeOf,typeInfo,zeroValue,hi,hz,G',gR,asInt,asIntOf,L5,dY,L6,L7,r6,ug,Addr.add_lit,dM]
  refine⟨_,_,hr,⟨hlen,.inr ⟨g,cap,_,rfl,te,setRow_heap w g cur _ e _ hg,r6,bC,?_,?_⟩⟩,⟨rfl,rfl,rfl,by simp,fun k _ hk=>setRow_other w g k _ (fun e=>hk (by simp[e]))⟩,.inl rfl,?_⟩
  ·simp only[List.size_toArray,List.length_append,List.length_take,List.length_drop,Array.length_toList,List.length_replicate]at vz ⊢
   omega
  ·have TM:cur.toList.take n=xs:=by have:=htake;rwa [Nat.mul_one]at this
   rw[TM,<-hlen]
   exact List.take_left
  intro b off hb eI
  rw[setRow_size]at eI
  have te:g=b:=by
   rcases hb with hb|hb
   ·injection hb
   omega
  subst te
  simp[World.frozen?,setRow_heap w g cur _ e _ hg]
 have holds:∀j u,xs[j]? = some u->w.cell? ((⟨g,0,none⟩:Addr).add j)=some u:=jE.cells (g:=g) rfl
 have hn:¬(n+m<=cap):=r6
 have TN:¬(9223372036854775807<((n:Int)+(m:Int))):=by omega
 have TO:¬(281474976710656<Builtin.nextslicecap (n+m) cap*i.bytes):=by have:=growslice_fits (need:=n+m) (old:=cap) (by omega) wY;omega
 have TP:=run_firstCells_some (P:=P) w.drew 1 n ⟨g,0,none⟩ n cap xs jE.1 (by simpa using holds)
 have hr:(Builtin.append_ #[t,ti] ty #[.slice (some ⟨g,0,none⟩) n cap,.int .i64 (m:Int)]).run P w=.ok (.slice (some ⟨w.heap.size,0,none⟩) (n+m) (grownCap w (n+m) cap e)) (w.drew.alloc (.cells (xs.toArray++(List.replicate m v0).toArray++Builtin.zeroCells z.cells (grownCap w (n+m) cap e-(n+m))) e)):=by
  have TQ:Builtin.zeroCells #[v0] m=(List.replicate m v0).toArray:=by rw[<-ug]
  simp[Builtin.append_,run_underlying ht,run_underlying B5,sizeOf,typeInfo,zeroValue,hi,hz,G',gR,asInt,asIntOf,L5,dY,L6,L7,hn,TN,TO,Question.forced,TP,newRow,grownCap,TQ]
 have Hd:=grownCap_ge w (n+m) cap e
 have TR:grownCap w (n+m) cap e<=maxLen:=grownCap_le_maxLen w (n+m) cap e yQ
 refine⟨_,_,hr,⟨hlen,.inr ⟨w.heap.size,_,_,rfl,Nat.zero_le _,heap_alloc_new w.drew _,Hd,TR,?_,?_⟩⟩,⟨rfl,rfl,rfl,by simp,fun k hk _=>heap_alloc_old w.drew _ hk⟩,.inr rfl,?_⟩
 ·simp only[Array.size_append,List.size_toArray,size_zeroCells,G',jE.1,List.length_replicate]
  simp
  omega
 ·simp only[Array.toList_append,List.append_assoc]
  rw[<-List.append_assoc,<-hlen]
  exact List.take_left
 intro b off hb eI
 rcases hb with hb|hb
 ·injection hb with hb
  subst hb
  have Ei:g<w.drew.heap.size:=(Array.getElem?_eq_some_iff.1 hg).1
  rw[World.frozen?_of_block (w:=w.drew) (heap_alloc_old w.drew _ Ei)]
  have:w.drew.heap[g]? = some (.cells cur e (0,0)):=hg
  simp[World.frozen?,this]
 exact yR (w:=w.drew) b off (.inr hb) eI
end
section
variable {P:Program}{N:Nat}{τ:Nat->AV}{H:Nat->AO}{o:Oper}
theorem L8(id:Nat){t ti e:TypeId}{s x:Operand}{d m:Nat}{n:Int}{v0:Value}{rows:List (List PV)}{pn:Option Value}(ho:o.op=.call { callee:=.builtin .append,args:=#[s,x],argTypes:=#[t,ti] })(hd:o.dst=some d)(ht:d<N)(he:iw P t=some (e,1))(hz:jg P e=some [v0])(rZ:v0.oneCell'=true)(B5:intKind P ti=some .i64)
 (hs:ev τ s=.own id) (hH:H id=.ai ⟨e,pn⟩ 1 rows) (hx:ev τ x=.p (.v (.int .i64 n))) (hn:n=(m:Int)) (h0:0<rows.length) (Ej:0<m) (hm:rows.length+m<=maxLen) (hb:(rows.length+m)*P.bytesOf e<=140737488355328) :
 St P o N τ H [id] (aH (fun s=>bq (cK id) (τ s)) d (.own id)) (aH (fun j=>(H j).bq (cK id)) id (.ai e 1 (rows++List.replicate m [.v v0]))):=by
 subst hn
 obtain⟨i,z,i1,i2,i3,i4,i5⟩:=B6 hz
 obtain⟨q1,_,q3⟩:=wZ he
 have nj:i.size=1:=i4.trans q3
 have TS:P.underlying ti=some (.int .i64):=by unfold intKind at B5;split at B5<;>simp_all
 have this:St P o N τ H [id] (mb (fun s=>bq (cK id) (τ s)) o.dst (.own id)) (aH (fun j=>(H j).bq (cK id)) id (.ai e 1 (rows++List.replicate m [.v v0]))):=w9 id (cK id) (.own id) _ [id] (fun s hs=>by rw[hd]at hs;cases hs;exact ht) (fun{L O w0 ρ fp a w} hr=>by
  have es:=hr.ev s;rw[hs,RV]at es;have es:=es.2 (by rw[hH];rfl);have ex:=(hr.ev x);rw[hx]at ex;have ex:=ex.gd;have bY:=hr.ob id;rw[hH]at bY;obtain⟨xs,fr,b1,b2,b3,b4,_⟩:=bY;obtain⟨g,cap,hg⟩:∃g cap,ρ id=.slice (some ⟨g,0,none⟩) rows.length cap:=by
   rcases b3.2 with⟨_,q⟩|⟨g,cap,cur,q,_⟩
   ·omega
   exact⟨g,cap,q⟩
  rw[hg]at b3;obtain⟨v',w',r1,r2,r3,r4,r5⟩:=TL (P:=P) (ty:=o.type) q1 TS i1 i2 (v0:=v0) (by rw[i3]) nj rZ b3 Ej hm (by rw[i5];exact hb);have pJ:(ρ id).ownBlock=some g:=by rw[hg];rfl
  refine⟨w',v',(ρ id).ownBlock,v',_,?_,.inl rfl,by rw[pJ];exact r3,fun b hb=>⟨by simp,by rw[hH];rfl,hb⟩,fun b off h=>by rw[pJ]at h;exact r5 b off h,fun hk=>(by simp[cK]at hk),fun b hb=>?_,fun E=>⟨?_,?_⟩⟩
  ·simp only[execOp,ho,resolve,invoke,builtin,Sem.run_bind,Sem.run_pure,Result.andThen_ok,List.map_toArray,List.map_cons,List.map_nil,es,hg,ex,r1]
  ·rcases r4 with q|q
   ·exact .inr ⟨by rw[hH];rfl,by rw[pJ,<-q];exact hb⟩
   rw[q]at hb;injection hb with hb;exact .inl (Nat.le_of_eq hb)
  ·obtain⟨k1,k2⟩:=bI.vA E b1 b2;have k3:bI w' false 1 (List.replicate m [PV.v v0]) (List.replicate m v0) []:=by
    have:=bI.dg (w:=w') (st:=false) (zs:=[v0]) (by intro u hu;rw[List.mem_singleton.1 hu];exact rZ) m;have e:(List.replicate m [v0]).flatten=List.replicate m v0:=L3 v0 m;rw[e]at this;exact this
   refine⟨xs++List.replicate m v0,fr++[],bI.append k1 k3,fun b hb=>?_,?_,rfl,fun u hu=>by cases hu⟩
   ·rw[List.append_nil]at hb;exact k2 b hb
   rw[List.length_append,List.length_replicate];exact r2
  rw[RV,dV,dV];have:v'.oneCell'=true:=by
   rcases r2.2 with⟨q,_⟩|⟨g,cap,cur,q,_⟩<;>rw[q]<;>rfl
  exact⟨this,fun _=>rfl⟩)
 rw[hd]at this
 exact this
end

section
variable {P:Program}{f:FuncId}{args:List AV}{i sz:Nat}{e:TypeId}{rows:List (List PV)}
theorem GC.ui(h:GC P f args [] (.own i) [(i,.ai ⟨e,none⟩ sz rows)]):GC P f args [] (.p (.ab e sz rows)) []:=
 (GX.frozen (Z:=fun y=>y=.p (.ab e sz rows)) h fun x ob ⟨V,h2⟩=>by
   subst V h2;exact⟨_,Still.row (e:=⟨e,none⟩) (sz:=sz) (rows:=rows) (by simp[bx]),rfl⟩).mono fun y o ⟨e1,e2⟩=>⟨e2,e1⟩
theorem GC.Aq{x2:PV}(h:GC P f args [] (.au [.own i,.p x2]) [(i,.ai ⟨e,none⟩ sz rows)]):GC P f args [] (.au [.p (.ab e sz rows),.p x2]) []:=
 (GX.frozen (Z:=fun y=>y=.au [.p (.ab e sz rows),.p x2]) h fun x ob ⟨V,h2⟩=>by
   subst V h2;exact⟨_,Still.au (.cons (Still.row (e:=⟨e,none⟩) (sz:=sz) (rows:=rows) (by simp[bx])) (.cons (Still.p _) .nil)),rfl⟩).mono fun y o ⟨e1,e2⟩=>⟨e2,e1⟩
def L9(e:TypeId)(sz:Nat)(rows:List (List PV)):AV->List (Nat×AO)->List AO->Prop:=fun y l1 F1=>∃v,y=.p (.v v)/\l1=[]/\F1=[.ai ⟨e,some v⟩ sz rows]
theorem GC.TT(h:GC P f args [] (.own i) [(i,.ai ⟨e,none⟩ sz rows)])(jC:∀r∈rows,∀p∈r,∃v,p=PV.v v):GN P f args [] [] (L9 e sz rows):=by
 intro L w cs ρ fp hL pF bY pG ud;refine Calls.mono (h L w cs ρ fp hL pF bY pG ud) ?_;rintro en w' ⟨x,bd,⟨rfl,rfl⟩,v,ci,bH,rfl,g1,g2,g3,g4,g5⟩;have hi:bx [(i,AO.ai ⟨e,none⟩ sz rows)] i=.ai ⟨e,none⟩ sz rows:=by simp[bx]
 rw[RV]at g2;have vC:=g2.1;have hv:=g2.2 (by rw[hi];rfl);have h3:=g3 i;rw[hi]at h3;obtain⟨xs,fr,k1,k2,k3,k4,_⟩:=h3;have ke:=k1.vj jC;subst ke;refine⟨.p (.v v),je 1000000 [.ai ⟨e,some v⟩ sz rows],⟨[],[.ai ⟨e,some v⟩ sz rows],rfl,fun o ho=>by rw[List.mem_singleton.1 ho];rfl,by simp,rfl,v,rfl,rfl,rfl⟩,v,(fun j=>if j=1000000 then v else undef),(fun j=>if j=1000000 then bH i else []),rfl,g1,?_,fun j=>?_,fun j j' hj b hb ec=>?_,fun j b hb=>?_⟩
 ·exact fX vC
 ·by_cases q:j=1000000
  ·subst q;simp only[if_true];have e1:bx (je 1000000 [.ai ⟨e,some v⟩ sz rows]) 1000000=.ai ⟨e,some v⟩ sz rows:=by rw[Ar];simp
   rw[e1];exact⟨xs,[],k1,by simp,by rw[hv];exact k3,by rw[hv];exact k4,fun u hu=>by injection hu⟩
  have e1:bx (je 1000000 [AO.ai ⟨e,some v⟩ sz rows]) j=.gone:=by
   rw[Ar];by_cases z:1000000<=j
   ·rw[if_pos z,List.getElem?_eq_none (by simp;omega)];rfl
   rw[if_neg z]
  rw[e1];show (if j=1000000 then bH i else [])=[];rw[if_neg q]
 ·have lG:b∈(if j=1000000 then bH i else []):=hb;have kA:b∈(if j'=1000000 then bH i else []):=ec;by_cases q:j=1000000
  ·by_cases q':j'=1000000
   ·omega
   rw[if_neg q']at kA;cases kA
  rw[if_neg q]at lG;cases lG
 have lG:b∈(if j=1000000 then bH i else []):=hb;by_cases q:j=1000000
 ·rw[if_pos q]at lG;exact g5 i b lG
 rw[if_neg q]at lG;cases lG
end

theorem rR{α:Type}(enc:α->List Value)(xs ys:List α):ah enc (xs++ys)=ah enc xs++ah enc ys:=List.map_append
abbrev iT(l:List Int):AO:=.ai 5 1 (ah dF l)
abbrev yv(n:Int):AV:=.p (.v (.int .u8 n))
theorem Ek(l m:List Int):AO.ai 5 1 (ah dF l++ah dF m)=iT (l++m):=congrArg (AO.ai 5 1) (rR dF l m).symm
theorem wrap_u8(n:Int):IntKind.u8.wrap n=n%256:=by simp[IntKind.wrap,IntKind.signed,IntKind.bits]
theorem TU{n:Int}{k j:Nat}(h:j<k):IntKind.u8.wrap (n/2 ^ (8*((k:Int)-1-(j:Int))).toNat)=n/256 ^ (k-1-j)%256:=by
 rw[wrap_u8];have e:(8*((k:Int)-1-(j:Int))).toNat=8*(k-1-j):=by omega
 rw[e,Int.pow_mul];rfl
theorem Ma{l:List Int}{n:Int}{k j:Nat}(h:j<k):iT (l++(cl k n).take j++[n/256 ^ (k-1-j)%256])=iT (l++(cl k n).take (j+1)):=by rw[Tz h,List.append_assoc]
theorem Mb(k:Nat)(n:Int):(cl k n).take k=cl k n:=List.take_of_length_le (by rw[da];exact Nat.le_refl _)
theorem yS(l:List Int)(n:Int)(k:Nat)(h0:0<=n)(hk:k<=7)(hl:l.length<=200):GC prog 241 [.own 1,int n,int (k:Int)] [(1,iT l)] (.own 1) [(1,iT (l++cl k n))]:=by
 refine gi 6 func241 rfl ntmps241 rfl ?_;intro L O w0;refine sL<|e9 Z<|Y<|aS<|sL<|ae Z<|bg Z<|ao Z<|Y<|aB ?_;refine aW [1,6] [] (D:=Nat) (fun d=>[(7,int ((k:Int)-1-(d:Int))),(0,.own 1)]) (fun d=>[(1,iT (l++(cl k n).take d))]) (fun d=>d<=k) (fun d=>k-d) (0) (Nat.zero_le _) ⟨(iq rfl),rfl,trivial⟩ ⟨(by rw[List.take_zero,List.append_nil];rfl),trivial⟩ ?_;intro j hI;replace hI:j<=k:=hI;refine aS<|sL<|ae Z<|ak Z<|Y ?_;refine AW.cond rfl ?_ ?_
 ·intro V;refine aK<|gT<|aS<|aB ?_;have hj:j<k:=by have h:=V;simp only[decide_eq_true_eq]at h;omega
  have vd:((cl k n).take j).length<=7:=by rw[List.length_take,da];omega
  refine aL<|bW Z<|ae Z<|ae Z<|bg Z<|lq (rd (x:=U _ _) (kg rfl rfl rfl (B7 rfl (by omega) (by omega) rfl) rfl) rfl)<|lq (rd (x:=U _ _) (me rfl lM pK rfl) rfl) ?_;refine dC 19 (yv (n/256 ^ (k-1-j)%256)) (Eq.trans (b:=yv _) rfl (congrArg yv (TU hj))) ?_;refine ab (zS 2020 (ah dF [n/256 ^ (k-1-j)%256]) fh ie rfl) Z<|ab (zP 1 fh ie mu rfl (Src.own rfl rfl) (by first|(simp[ah,da];done)|(simp[ah,da];omega))) Z<|lT [1,6,7,21] [1,2020] ?_;refine bD Z<|lN<|gB<|gT<|aL<|ae Z<|bg Z<|ao Z<|Y ?_;refine⟨(j+1),hj,by show k-(j+1)<k-j;omega,⟨(iq rfl),rfl,trivial⟩,⟨(Eq.trans (Ek _ _) (Ma hj)),trivial⟩,rfl,rfl⟩
 intro V;refine aE<|eT<|eT<|eB<|gA<|bW Z<|bD Z<|Y<|aR ?_;have hj:j=k:=by have h:=V;simp only[decide_eq_false_iff_not]at h;omega
 subst hj;refine ax ?_ ⟨(congrArg (fun r=>iT (l++r)) (Mb _ n)),trivial⟩;rfl
theorem He(l:List Int)(hl:l.length<=2000000):GC prog 229 [gV l] [] (.own 1) [(1,iT l)]:=by
 refine gi 2 func229 rfl ntmps229 rfl ?_;intro L O w0;refine sL<|e9 Z<|nA<|bm Z<|ab (qJ 1 rfl rfl (by decide) fh ie rfl (by decide) rfl (Src.p rfl) (by first|(simp[ah,maxLen,da];done)|(simp[ah,maxLen,da];omega)) (Nat.le_trans (Nat.mul_le_mul_left _ mu) (by first|(simp[ah,da];done)|(simp[ah,da];omega)))) Z<|bD Z<|Y<|aR ?_;refine ax ?_ ⟨rfl,trivial⟩;rfl
theorem TV(l:List Int)(hl:l.length<=2000000):GC prog 229 [gV l] [] (gV l) []:=(He l hl).ui
theorem TW{a x:Int}(h0:0<=a)(V:a<281474976710656)(h2:0<=x)(h3:x<=255):bits .or .i64 (a*2 ^ (8:Int).toNat) x=a*256+x:=by
 have e:a*2 ^ (8:Int).toNat=a*256:=rfl;rw[e];have:=Mc (a:=a*256) (b:=x) (by omega) (by omega) (by omega) h2 (by omega);rw[<-this];unfold bits;have e1:IntKind.i64.bits=64:=rfl;have q1:(BitVec.ofInt 64 (a*256)).toNat=((a*256)%2 ^ 64).toNat:=by rw[BitVec.toNat_ofInt];rfl
 have q2:(BitVec.ofInt 64 x).toNat=(x%2 ^ 64).toNat:=by rw[BitVec.toNat_ofInt];rfl
 dsimp only;rw[e1,BitVec.toNat_or,q1,q2]
def gW(b:List Int)(k size:Nat):Int:=if k+size<=b.length then mO ((b.drop k).take size)else 0
def As(b:List Int)(k size:Nat):Bool:=decide (k+size<=b.length)
theorem xc{b:List Int}{k size:Nat}(h:k+size<=b.length):gW b k size=mO ((b.drop k).take size):=if_pos h
theorem Md{l:List Int}{j:Nat}(h:j<l.length):mO (l.take (j+1))=mO (l.take j)*256+l[j]:=by rw[List.take_succ_eq_append_getElem h,TA]
theorem Me{j:Nat}(h:j<=6):(256:Int) ^ j<=281474976710656:=by
 have:j=0\/j=1\/j=2\/j=3\/j=4\/j=5\/j=6:=by omega
 rcases this with rfl|rfl|rfl|rfl|rfl|rfl|rfl<;>decide
theorem Mf{l:List Int}{j size:Nat}(hb:fA l)(h:j<size)(hs:size<=7):0<=mO (l.take j)/\mO (l.take j)<281474976710656:=by
 have V:=LV (l.take j) 0 (hb.take j) (Int.le_refl _);have h2:(l.take j).length<=6:=by rw[List.length_take];omega
 have h3:=Me h2;unfold mO;omega
theorem Hj{b:List Int}{k size:Nat}:((ah dF b).take (k+size)).drop k=ah dF ((b.drop k).take size):=by
 unfold ah;rw[<-List.map_take,<-List.map_drop];congr 1;first|(rw[List.drop_take];congr 1;omega)|(rw[List.drop_take];congr 1)|rw[List.drop_take]
theorem B8(b:List Int)(k size:Nat)(hb:fA b)(wQ:1<=size)(hs:size<=7)(hk:k<=1000)(hl:b.length<=2000000):GC prog 185 [gV b,int (k:Int),int (size:Int)] [] (.au [int (gW b k size),aD (As b k size)]) []:=by
 refine GC.intro (rs:=[.tmp 6,.tmp 7]) func185 rfl ntmps185 (Nat.le_of_ble_eq_true rfl) ⟨rfl,rfl,trivial⟩ ?_;intro L O w0;refine sL<|ao Z<|ar Z<|Y<|aS<|sL<|ae Z<|ab (zC [] [] [] func92 (pp _ _ _) (trivial) Z Z) Z ?_;refine bJ 12 true rfl (cJ.2 ⟨by omega,by omega⟩)<|ma Z<|dm Z<|ae Z<|ak Z<|bJ 16 false rfl (by simp)<|bL Z<|dm Z<|ae Z<|bm Z<|ba kE Z<|ae rfl ?_;refine eo rfl ⟨rfl,ce (by rw[ap];unfold i64;omega)⟩<|ak Z<|bj Z<|Y ?_;refine AW.cond rfl ?_ ?_
 ·intro V;refine sL<|ao Z<|ar Z<|Y<|aR<|rT ?_;have r7:¬k+size<=b.length:=by have h:=V;simp only[decide_eq_true_eq,ap]at h;omega
  unfold gW As;rw[if_neg r7,decide_eq_false r7];refine ax ?_ trivial;rfl
 intro V;refine aK<|gT<|aS ?_;have r7:k+size<=b.length:=by have h:=V;simp only[decide_eq_false_iff_not,ap]at h;omega
 have hlen:((b.drop k).take size).length=size:=by rw[List.length_take,List.length_drop];omega
 refine aL<|ao Z<|Y<|aS<|sL<|bm Z<|ae Z<|ae Z<|ae Z<|bg Z<|jK 30 ((k+size:Nat):Int) rfl (by omega) ?_;refine lq (rd (x:=vL _ _ _) (p6 (l:=k) (h:=k+size) rfl fh rfl ⟨_,rfl⟩ ⟨_,(by first|rfl|(show int _=int _;rfl))⟩ (by omega) (by rw[ap];exact r7)) rfl) ?_;refine dC 31 (gV ((b.drop k).take size)) (Eq.trans (b:=.p (.ab 5 1 (((ah dF b).take (k+size)).drop k))) rfl (congrArg (fun r=>AV.p (.ab 5 1 r)) Hj)) ?_;refine ba kE Z<|jK 32 (size:Int) rfl (by rw[ap,hlen])<|ae Z<|Y<|aB ?_;refine aW [6,7,31,32] [] (D:=Nat) (fun d=>[(33,int (d:Int)),(8,int (mO (((b.drop k).take size).take d)))]) (fun d=>[]) (fun d=>d<=size) (fun d=>size-d) (0) (Nat.zero_le _) ⟨rfl,rfl,trivial⟩ trivial ?_;intro j hI;replace hI:j<=size:=hI;refine sL<|ak Z<|Y<|aS ?_;refine AW.cond rfl ?_ ?_
 ·intro h2;refine aK<|gT<|aS<|aB<|aS ?_;have hj:j<size:=by have h:=h2;simp only[decide_eq_true_eq]at h;omega
  have ro:j<((b.drop k).take size).length:=by omega
  have El:=Mf (l:=(b.drop k).take size) ((hb.drop k).take size) hj hs;have hx:=((hb.drop k).take size) _ (List.getElem_mem ro);refine aL<|li j fh Z (bS ro)<|lT [6,7,8,31,32,33,35] [] ?_;refine oy tf Z<|ao Z<|Y<|aL<|ae Z ?_;refine eo rfl ⟨rfl,by decide,by decide,ce (by show i64 (_*2 ^ 8);unfold i64;omega)⟩<|ae Z<|lq (rd (x:=U _ _) (me rfl pK lM rfl) rfl)<|jK 40 (((b.drop k).take size)[j]) rfl (by rw[IntKind.wrap_i64];omega)<|lq (rd (x:=U _ _) (kg rfl rfl rfl (Mg rfl) rfl) rfl)<|jK 41 (mO (((b.drop k).take size).take j)*256+((b.drop k).take size)[j]) rfl (TW El.1 El.2 hx.1 hx.2)<|ao Z<|lN<|gB<|gT<|aL<|bg Z<|ae Z<|Y ?_;refine⟨(j+1),hj,by show size-(j+1)<size-j;omega,⟨(iq rfl),(congrArg int (Md ro).symm),trivial⟩,trivial,rfl,rfl⟩
 intro h2;refine aE<|eT<|eT<|eB<|gA<|ae Z<|ao Z<|cI Z<|Y<|aR ?_;have hj:j=size:=by have h:=h2;simp only[decide_eq_false_iff_not]at h;omega
 subst hj;unfold As;rw[xc r7,decide_eq_true r7,List.take_of_length_le (l:=(b.drop k).take j) (by omega)];refine ax ?_ trivial;rfl
abbrev sV(s:fb):AV:=.agg [int s.seq,int s.dP,gV s.body]
def r8(s:fb):List Int:=if i8 s then oq s else []
theorem At{s:fb}(h:i8 s=true):r8 s=oq s:=if_pos h
theorem Hl{s:fb}(h:i8 s=false):r8 s=[]:=if_neg (by simp[h])
theorem Em{s:fb}(h:fA s.body):fA (r8 s):=by
 cases q:i8 s
 ·rw[Hl q];exact .nil
 rw[At q];exact TC h (qW.1 q).2.2
theorem En(m:Nat):List.replicate m [PV.v (.int .u8 0)]=ah dF (List.replicate m 0):=by unfold ah;rw[List.map_replicate];rfl
theorem TX{s:fb}(h:s.body.length<=100):IntKind.u8.wrap (s.body.length:Int)=(s.body.length:Int):=by rw[wrap_u8];omega
theorem TY(s:fb):GC prog 240 [sV s] [] (aD (i8 s)) []:=by
 refine gi 2 func240 rfl ntmps240 rfl ?_;intro L O w0;refine sL<|ab (zX 2001 Z) Z<|ar Z<|nA<|lf 0 tX Z<|aj ac Z<|ab (zC [] [] [] func92 (pp _ _ _) (trivial) Z Z) Z<|aQ Z ?_;refine AL.bool (t:=6) rfl ?_ ?_
 ·intro V;refine lf 1 rQ Z<|aj ac Z<|ab (zC [] [] [] func92 (pp _ _ _) (trivial) Z Z) Z<|bj Z<|aQ Z ?_;refine AL.bool (t:=11) rfl ?_ ?_
  ·intro h2;refine lf 2 u' Z<|bo kb Z<|ba kE Z ?_;refine dC 14 (int (s.body.length:Int)) (congrArg (fun n:Nat=>int (n:Int)) (ap _ _)) ?_;refine ak Z<|bj Z<|bv Z<|Y<|aR ?_;refine az trivial ?_;unfold i8;first|(simp_all;done)|(simp_all;omega)
  intro h2;refine aa Z<|aa Z<|aa Z<|aa Z<|bL Z<|ar Z<|Y<|aR ?_;refine az trivial ?_;unfold i8;first|(simp_all;done)|(simp_all;omega)
 intro V;refine aa Z<|aa Z<|aa Z<|bL Z<|dm Z<|aa Z<|aa Z<|aa Z<|aa Z<|bL Z<|ar Z<|Y<|aR ?_;refine az trivial ?_;unfold i8;first|(simp_all;done)|(simp_all;omega)
theorem TZ(s:fb):GC prog 173 [sV s] [] (.au [.own 1,aD (i8 s)]) [(1,iT (r8 s))]:=by
 refine GC.intro (rs:=[.tmp 2,.tmp 3]) func173 rfl ntmps173 (Nat.le_of_ble_eq_true rfl) ⟨rfl,rfl,trivial⟩ ?_;intro L O w0;refine sL<|ab (zX 2001 Z) Z<|e9 Z<|ar Z<|Y<|aS<|sL<|aP (.agg [U _ _,U _ _,vL _ _ _]) nP Z<|ab (zC [] [] [] func240 (TY s) (trivial) Z Z) Z<|bX Z<|Y ?_;refine AW.cond rfl ?_ ?_
 ·intro V;refine sL<|e9 Z<|ar Z<|Y ?_;refine AW.oP 1 2 5 1 rfl ?_;refine aR<|rT ?_;have g9:i8 s=false:=by simpa using V
  rw[g9,Hl g9];refine ax ?_ ⟨rfl,trivial⟩;rfl
 intro V;refine aK<|gT<|aS ?_;have g9:i8 s=true:=by simpa using V
 obtain⟨⟨a1,a2⟩,⟨b1,b2⟩,hl⟩:=qW.1 g9;refine aG 7 [1]<|tq 1 (rf 0 tX rfl)<|tq 2 (aZ ac rfl)<|tq 4 (rf 1 rQ rfl)<|tq 5 (aZ ac rfl)<|cm 0 rfl (zS 1 (ah dF [74]) fh ie rfl)<|cm 3 rfl (zC [(1,1)] [1] [] func241 (yS ([74]) (s.seq) 3 (by omega) (by omega) (by first|(simp[da];done)|(simp[da];omega))) (trivial) rfl rfl)<|gX [1,2,3,11,13] [1,2001] ?_;refine cm 6 rfl (zC [(1,1)] [1] [] func241 (yS ([74]++cl 3 s.seq) (s.dP) 3 (by omega) (by omega) (by first|(simp[da];done)|(simp[da];omega))) (trivial) rfl rfl)<|yq 7 (tF rfl)<|gD<|gT<|aS<|aG 10 [1]<|tq 0 (qo rfl)<|tq 1 (rf 2 u' rfl)<|tq 2 (jj kb rfl)<|tq 3 (le kE rfl) ?_;refine Au 18 (int (s.body.length:Int)) (congrArg (fun n:Nat=>int (n:Int)) (ap _ _)) ?_;refine tq 4 (rd (x:=U _ _) (me rfl lM pK rfl) rfl) ?_;refine Au 19 (yv (s.body.length:Int)) (Eq.trans (b:=yv _) rfl (congrArg yv (TX hl))) ?_;refine tq 7 (rf 2 u' rfl)<|tq 8 (jj kb rfl)<|cm 5 rfl (zS 2020 (ah dF [(s.body.length:Int)]) fh ie rfl)<|cm 6 rfl (zP 1 fh ie mu rfl (Src.own rfl rfl) (by first|(simp[ah,da];done)|(simp[ah,da];omega)))<|cm 9 rfl (zP 1 fh ie mu rfl (Src.p rfl) (by first|(simp[ah,da];done)|(simp[ah,da];omega)))<|yq 10 (tF rfl)<|gD<|gT ?_;refine AW.obj 1 (iT ([74]++cl 3 s.seq++cl 3 s.dP++[(s.body.length:Int)]++s.body)) ((Eq.trans (b:=AO.ai 5 1 (ah dF ([74]++cl 3 s.seq++cl 3 s.dP)++ah dF [(s.body.length:Int)]++ah dF s.body)) rfl (by rw[<-rR,<-rR]))) ?_;refine sL<|bW Z<|bW Z<|ba kE Z ?_;refine dC 27 (int ((8+s.body.length:Nat):Int)) (Eq.trans (b:=int _) rfl (congrArg (fun n:Nat=>int (n:Int)) (by rw[ap];first|(simp[da];done)|(simp[da];omega)))) ?_;refine bg Z<|ab (L8 1 (m:=114-s.body.length) rfl rfl (by decide) fh ie rfl lM rfl rfl rfl ?hn1 (by rw[ap];first|(simp;done)|(simp;omega)) (by omega) (by rw[ap];simp[da,maxLen];omega) (Nat.le_trans (Nat.mul_le_mul_left _ mu) (by rw[ap];simp[da];omega))) rfl ?_;case hn1=>omega
 refine lT [1,2,3,29] [1,2001,2020] ?_;refine bD Z<|Y ?_;refine AW.obj 1 (iT ([74]++cl 3 s.seq++cl 3 s.dP++[(s.body.length:Int)]++s.body++List.replicate (114-s.body.length) 0)) ((Eq.trans (b:=AO.ai 5 1 (ah dF ([74]++cl 3 s.seq++cl 3 s.dP++[(s.body.length:Int)]++s.body)++List.replicate (114-s.body.length) [PV.v (.int .u8 0)])) rfl (by rw[En,<-rR]))) ?_;refine aS<|aG 8 [1]<|tq 0 (qo rfl)<|tq 1 (rf 0 tX rfl)<|tq 2 (aZ ac rfl)<|tq 4 (rf 1 rQ rfl)<|tq 5 (aZ ac rfl)<|cm 3 rfl (zC [(1,1)] [1] [] func241 (yS ([74]++cl 3 s.seq++cl 3 s.dP++[(s.body.length:Int)]++s.body++List.replicate (114-s.body.length) 0) (s.seq) 3 (by omega) (by omega) (by first|(simp[da];done)|(simp[da];omega))) (trivial) rfl rfl)<|cm 6 rfl (zC [(1,1)] [1] [] func241 (yS ([74]++cl 3 s.seq++cl 3 s.dP++[(s.body.length:Int)]++s.body++List.replicate (114-s.body.length) 0++cl 3 s.seq) (s.dP) 3 (by omega) (by omega) (by first|(simp[da];done)|(simp[da];omega))) (trivial) rfl rfl)<|yq 7 (tF rfl)<|yq 8 (Av rfl)<|gD<|gT<|aR ?_;rw[g9,At g9];refine ax ?_ ⟨rfl,trivial⟩;rfl
theorem T0(s:fb):GC prog 173 [sV s] [] (.au [gV (r8 s),aD (i8 s)]) []:=(TZ s).Aq
theorem Mh{b:List Int}(h:b.length=128):gW b 1 3=(gu b).seq/\gW b 4 3=(gu b).dP:=⟨xc (by omega),xc (by omega)⟩
theorem B9{b:List Int}(h:7<b.length):b.getD 7 0=b[7]:=by rw[List.getD_eq_getElem?_getD,List.getElem?_eq_getElem h];rfl
theorem T1{b:List Int}(h:7<b.length):(gu b).body=(b.drop 8).take (b[7]).toNat:=by unfold gu;rw[B9 h]
theorem Mi{b:List Int}(h:b.length=128)(h7:7<b.length)(V:b[7]<=100)(h2:i8 (gu b)=true)(h3:r8 (gu b)=b):g8 b=true:=oN.2 ⟨h,by rw[B9 h7];exact V,h2,by rwa [At h2]at h3⟩
theorem T3{b:List Int}(h:b.length≠128):g8 b=false:=Bool.eq_false_iff.2 fun q=>h (oN.1 q).1
theorem T4{b:List Int}(h7:7<b.length)(h:¬b[7]<=100):g8 b=false:=Bool.eq_false_iff.2 fun q=>h (by have:=(oN.1 q).2.1;rwa [B9 h7]at this)
theorem uj{b:List Int}(h:i8 (gu b)=false):g8 b=false:=Bool.eq_false_iff.2 fun q=>by have:=(oN.1 q).2.2.1;rw[h]at this;cases this
theorem uk{b:List Int}(h:r8 (gu b)≠b):g8 b=false:=Bool.eq_false_iff.2 fun q=>h (by rw[At (oN.1 q).2.2.1];exact(oN.1 q).2.2.2)
def Eo(b:List Int):AV->List (Nat×AO)->Prop:=fun y ob=>ob=[]/\(g8 b=true/\y=.au [sV (gu b),aD true]\/g8 b=false/\y=.au [.agg [int 0,int 0,.p (.v (.slice none 0 0))],aD false])
theorem Mj{f:FuncId}{b:List Int}(h:GX prog f [gV b] [] (Eo b)):GC prog f [gV b] [] (.au [sV (kP b),aD (g8 b)]) []:=GX.imp h (fun x ob ⟨e1,e2⟩=>by
 subst e1;rcases e2 with⟨e,rfl⟩|⟨e,rfl⟩
 ·rw[dv e,e];exact⟨_,fe.refl _,rfl,rfl⟩
 rw[TD e,e];exact⟨_,fe.au (ff.cons (fe.agg (ff.cons (fe.refl _) (ff.cons (fe.refl _) (ff.cons (fe.nil _ _) ff.nil)))) (ff.cons (fe.refl _) ff.nil)),rfl,rfl⟩)
theorem T5(b:List Int)(hb:fA b)(hl:b.length<=2000000):GX prog 247 [gV b] [] (Eo b):=by
 refine GX.intro (rs:=[.cell 2 141 (some 3),.tmp 3]) func247 rfl ntmps247 (Nat.le_of_ble_eq_true rfl) ⟨rfl,rfl,nP,rfl,trivial⟩ ?_;intro L O w0;refine sL<|ab (zA 2002 pB Z) Z<|ar Z<|Y<|aS<|sL<|bm Z<|ba kE Z<|ak Z<|aQ Z ?_;refine AL.bool (t:=14) rfl ?_ ?_
 ·intro V;refine aa Z<|aa Z<|aa Z<|aa Z<|aU Z<|Y<|aY Z<|sL<|lq (rd (x:=.agg [U _ _,U _ _,vV _]) (cP Z r9 Z Z Z) Z)<|ab (zB 2002 mL mM Z) Z<|ar Z<|Y<|aR<|rT ?_;have hF:g8 b=false:=T3 (by have h:=V;simp[ap]at h;omega);refine fN ((.au [.agg [int 0,int 0,.p (.v (.slice none 0 0))],aD false])) [] ?_ rfl trivial;exact⟨rfl,.inr ⟨hF,rfl⟩⟩
 intro V;refine bm rfl ?_;have h7:7<b.length:=by have h:=V;simp[ap]at h;omega
 refine li 7 fh Z (bS h7)<|oy tf Z<|ak Z<|bj Z<|Y ?_;refine AW.cond rfl ?_ ?_
 ·intro h2;refine sL<|lq (rd (x:=.agg [U _ _,U _ _,vV _]) (cP Z r9 Z Z Z) Z)<|ab (zB 2002 mL mM Z) Z<|lT [0,2,3] [2002] ?_;refine ar Z<|Y<|aR<|rT ?_;have hF:g8 b=false:=T4 h7 (by have h:=h2;simp at h;omega);refine fN ((.au [.agg [int 0,int 0,.p (.v (.slice none 0 0))],aD false])) [] ?_ rfl trivial;exact⟨rfl,.inr ⟨hF,rfl⟩⟩
 intro h2;refine aK<|gT<|aS ?_;have nk:b.length=128:=by have h:=V;simp[ap]at h;omega
 have h7:7<b.length:=by omega
 obtain⟨e1,e2⟩:=Mh nk;have e3:=T1 h7;have hx:=hb _ (List.getElem_mem h7);have hle:b[7]<=100:=by have h:=h2;simp at h;omega
 refine aL<|bm Z<|ab (zC [] [] [] func185 (B8 b 1 3 hb (by decide) (by decide) (by decide) hl) (trivial) rfl rfl) Z<|cT (.au [U _ _,vB _]) Z<|dE rfl ?_;refine dC 24 (int (gu b).seq) (congrArg int e1) ?_;refine eU Z<|ao Z<|bv Z<|nA<|bm Z<|ab (zC [] [] [] func185 (B8 b 4 3 hb (by decide) (by decide) (by decide) hl) (trivial) rfl rfl) Z<|cT (.au [U _ _,vB _]) Z<|dE rfl ?_;refine dC 29 (int (gu b).dP) (congrArg int e2) ?_;refine eU Z<|ao Z<|bv Z<|nA<|ae Z<|ae Z<|bm Z<|bm Z<|li 7 fh rfl (bS h7)<|oy tf Z<|lq (rd (x:=U _ _) (me rfl pK lM rfl) rfl)<|jK 37 b[7] rfl (by rw[IntKind.wrap_i64];omega)<|bg Z<|jK 38 ((8+(b[7]).toNat:Nat):Int) rfl (by omega) ?_;refine lq (rd (x:=vL _ _ _) (p6 (l:=8) (h:=8+(b[7]).toNat) rfl fh rfl ⟨_,rfl⟩ ⟨_,rfl⟩ (by omega) (by rw[ap];omega)) rfl) ?_;refine dC 39 (gV (gu b).body) (Eq.trans (b:=.p (.ab 5 1 (((ah dF b).take (8+(b[7]).toNat)).drop 8))) rfl (congrArg (fun r=>AV.p (.ab 5 1 r)) (by rw[Hj,e3]))) ?_;refine ab (zC [] [] [] func229 (TV _ (by rw[e3];simp;omega)) (trivial) rfl rfl) Z<|lT [0,2,3,31,32,40] [2002] ?_;refine lq (rd (x:=.agg [U _ _,U _ _,vL _ _ _]) (cP Z r9 Z Z Z) Z)<|ab (zA 2008 pB Z) Z<|ab (zB 2008 mL mM Z) Z<|nA<|aP (.agg [U _ _,U _ _,vL _ _ _]) nP Z<|ab (zC [] [] [] func173 (T0 (gu b)) (trivial) Z Z) Z<|cT (.au [vL _ _ _,vB _]) Z<|rF Z<|eU Z<|nv Z<|bv Z<|Y<|aS<|sL<|aQ Z<|bX Z<|aQ Z ?_;refine AL.bool (t:=49) rfl ?_ ?_
 ·intro h3;refine aa Z<|aa Z<|aa Z<|aa Z<|aa Z<|aU Z<|Y<|aY Z<|sL<|lq (rd (x:=.agg [U _ _,U _ _,vV _]) (cP Z r9 Z Z Z) Z)<|ab (zB 2002 mL mM Z) Z<|lT [2,3,8] [2002,2008] ?_;refine ar Z<|Y<|aR<|rT ?_;have hF:g8 b=false:=by first|exact uj (by simpa using h3)|exact uk (by simpa using h3)|exact uj (by simpa using V)|exact uj (by simpa using h2)|exact uj (by simpa using h3)|exact uk (by simpa using V)|exact uk (by simpa using h2)|exact uk (by simpa using h3)
  refine fN ((.au [.agg [int 0,int 0,.p (.v (.slice none 0 0))],aD false])) [] ?_ rfl trivial;exact⟨rfl,.inr ⟨hF,rfl⟩⟩
 intro h3;refine bm Z<|lq (rd (x:=vV _) (vv (e:=5) Z underlying76 underlying5 underlying9 Z) Z)<|bm Z<|lq (rd (x:=vV _) (vv (e:=5) Z underlying76 underlying5 underlying9 Z) Z)<|lq (rd (x:=vB _) (kg Z Z Z (An underlying9 (Em (LY hb)) hb) Z) Z)<|bj Z<|Y ?_;refine AW.cond rfl ?_ ?_
 ·intro h4;refine sL<|lq (rd (x:=.agg [U _ _,U _ _,vV _]) (cP Z r9 Z Z Z) Z)<|ab (zB 2002 mL mM Z) Z<|ar Z<|Y<|aR<|rT ?_;have hF:g8 b=false:=by first|exact uj (by simpa using h4)|exact uk (by simpa using h4)|exact uj (by simpa using V)|exact uj (by simpa using h2)|exact uj (by simpa using h3)|exact uj (by simpa using h4)|exact uk (by simpa using V)|exact uk (by simpa using h2)|exact uk (by simpa using h3)|exact uk (by simpa using h4)
  refine fN ((.au [.agg [int 0,int 0,.p (.v (.slice none 0 0))],aD false])) [] ?_ rfl trivial;exact⟨rfl,.inr ⟨hF,rfl⟩⟩
 intro h4;refine aK<|gA<|aP (.agg [U _ _,U _ _,vL _ _ _]) nP Z<|ab (zB 2002 mL mM Z) Z<|cI Z<|Y<|aR ?_;have hF:g8 b=true:=Mi nk h7 hle (by first|(simpa using h2)|(simpa using h3)|(simpa using h4)) (by first|(simpa using h2)|(simpa using h3)|(simpa using h4));refine fN ((.au [sV (gu b),aD true])) [] ?_ rfl trivial;exact⟨rfl,.inl ⟨hF,rfl⟩⟩
theorem Sr(b:List Int)(hb:fA b)(hl:b.length<=2000000):GC prog 247 [gV b] [] (.au [sV (kP b),aD (g8 b)]) []:=Mj (T5 b hb hl)
end Go.Proofs.YtflhgkmhmcfimaaGreat

