/- Texts of the proof of FnLogEvents, joined: E24, E26, E27, Fil, E28, E29, E30, LogD, ET, EA1, EA2, EB, EA3, EA4, EA8, LogS. -/
import Derived.Test.YteblcdnhnckkaaaJLogEvents4
import Derived.Test.YteblcdnhnckkaaaJLogEvents3
import Derived.Laws.BytesArg
import Derived.Laws.Strings
import Derived.Lib.RabinKarpLaws
import Derived.Shelf.Small.Bits
import Derived.Shelf.Strconv.Itoa0
import Derived.Shelf.Bits.Mul64
import Derived.Test.YteblcdnhnckkaaaKBook1
import Derived.Deep.RegionHeld3
namespace Go.Proofs.Yteblcdnhnckkaaa
open Go.RowKit
set_option linter.unusedSimpArgs false
set_option linter.unusedVariables false
def flatR:AO→Prop
 |.arr e sz rows=>∀r∈rows,∀p∈r,∃v,p=PV.v v
 |_=>False
theorem GX.lent{P:Program}{f:FuncId}{args args':List AV}{ob0:List (Nat×AO)}{R:AV→List (Nat×AO)→Prop}(hc:GX P f args [] R)(hl:lendL (ofO ob0) args'=args)(h0:∀p∈ob0,arrO p.2=true)
 (hR:∀x ob1,R x ob1→ownA x=true∧(∀id∈ownN x,inO ob1 id=true)∧(∀p∈ob1,flatR p.2)∧(∀p∈ob0,inO ob1 p.1=false)) :
 GX P f args' ob0 fun x ob=>∃ob1,R x ob1∧ob=ob1++ob0:=by
 intro L w cs ρ fp hL hargs hob hdj hLf
 have hv:=RVL.lend (fun id=>⟨_,hob id⟩) args' hargs
 rw[hl]at hv
 refine Calls.mono (hc L0 w cs ρ0 (fun _=>[]) (fun _ q=>q.elim) hv (fun i=>rfl) (by simp) (by simp)) ?_
 rintro e w' ⟨x,ob1,hR1,v,ρ',fp',rfl,g1,g2,g3,g4,g5⟩
 obtain⟨hx,hn,h1,hd⟩:=hR x ob1 hR1
 have hnew:∀i,∀b∈fp' i,w.heap.size≤b:=fun i b hb=>by
  rcases(g5 i b hb).1 with⟨j,q⟩|q
  ·cases q
  ·exact q
 have hsame:∀b,b<w.heap.size→w'.heap[b]? = w.heap[b]?:=fun b hb=>g1.block b hb (by simp)
 generalize hρ2:(fun i=>if inO ob1 i=true then ρ' i else ρ i)=ρ2
 generalize hf2:(fun i=>if inO ob1 i=true then fp' i else fp i)=f2
 have eρ1:∀ {i},inO ob1 i=true→ρ2 i=ρ' i:=fun{i} h=>by rw[←hρ2];simp only[h,if_true]
 have eρ0:∀ {i},inO ob1 i=false→ρ2 i=ρ i:=fun{i} h=>by rw[←hρ2];simp[h]
 have ef1:∀ {i},inO ob1 i=true→f2 i=fp' i:=fun{i} h=>by rw[←hf2];simp only[h,if_true]
 have ef0:∀ {i},inO ob1 i=false→f2 i=fp i:=fun{i} h=>by rw[←hf2];simp[h]
 have eH1:∀ {i},inO ob1 i=true→ofO (ob1++ob0) i=ofO ob1 i:=fun{i} h=>by rw[ofO_app,if_pos h]
 have eH0:∀ {i},inO ob1 i=false→ofO (ob1++ob0) i=ofO ob0 i:=fun{i} h=>by rw[ofO_app,if_neg (by simp[h])]
 have hlive:∀b,b<w.heap.size→¬live L ρ (ofO ob0) b→¬live L ρ2 (ofO (ob1++ob0)) b:=by
  rintro b hb hn (hl|⟨i,q1,q2⟩)
  ·exact hn (.inl hl)
  ·rcases hi:inO ob1 i with _|_
   ·rw[eH0 hi]at q1;rw[eρ0 hi]at q2;exact hn (.inr ⟨i,q1,q2⟩)
   ·rw[eH1 hi]at q1;rw[eρ1 hi]at q2
    have:=hnew i b ((g3 i).top q1 q2)
    omega
 have E:Env L ρ ρ2 (ofO ob0) (ofO (ob1++ob0)) w w' (inO ob1):=⟨g1.size,fun b hb hn=>⟨hsame b hb,hlive b hb hn⟩,fun i hk hi=>by
  rw[eH0 hk]at hi ⊢
  exact⟨hi,eρ0 hk,rfl,rfl⟩⟩
 refine⟨x,ob1++ob0,⟨ob1,hR1,rfl⟩,v,ρ2,f2,rfl,⟨g1.os,g1.tape,g1.output,g1.size,fun b hb _=>hsame b hb,fun b o hb hlt=>?_⟩,?_,fun i=>?_,fun i j hij b hb hb'=>?_,fun i b hb=>?_⟩
 ·rcases Nat.lt_or_ge b w.heap.size with hb2|hb2
  ·rcases hb with⟨i,hi⟩|hb
   ·rw[World.frozen?_of_block (w:=w) (hsame b hb2)]
    exact(hob i).frozen b hi o
   ·omega
  ·exact g1.nf b o (.inr hb2) hlt
 ·refine RV.owned x hx g2 fun id hid=>?_
  obtain⟨o,q1,q2⟩:=ofO_mem (hn id hid)
  have hfl:=h1 _ q1
  refine⟨?_,eρ1 (hn id hid)⟩
  rw[q2]
  cases o with
  |arr e sz rows=>rfl
  |box T p c=>exact hfl.elim
  |gone=>exact hfl.elim
 ·rcases hi:inO ob1 i with _|_
  ·rw[eH0 hi,eρ0 hi,ef0 hi]
   have h:=(hob i).env E (fun b hb=>hsame b ((hob i).lt b hb))
   have ek:(ofO ob0 i).kil (inO ob1)=ofO ob0 i:=by
    rcases hj:inO ob0 i with _|_
    ·rw[ofO_out hj];rfl
    ·obtain⟨o,q1,q2⟩:=ofO_mem hj
     have:=h0 _ q1
     rw[q2]
     cases o with
     |arr e sz rows=>rfl
     |box T p c=>cases this
     |gone=>rfl
   rwa [ek]at h
  ·rw[eH1 hi,eρ1 hi,ef1 hi]
   obtain⟨o,q1,q2⟩:=ofO_mem hi
   have hfl:=h1 _ q1
   have h:=g3 i
   rw[q2]at h ⊢
   cases o with
   |arr e sz rows=>
    obtain⟨xs,fr,k1,k2,k3,k4,k5⟩:=h
    have hfr:=k1.flat_fp hfl
    subst hfr
    exact⟨xs,[],k1,by simp,k3,k4,k5⟩
   |box T p c=>exact hfl.elim
   |gone=>exact hfl.elim
 ·rcases hi:inO ob1 i with _|_<;>rcases hj:inO ob1 j with _|_
  ·rw[ef0 hi]at hb;rw[ef0 hj]at hb';exact hdj i j hij b hb hb'
  ·rw[ef0 hi]at hb;rw[ef1 hj]at hb'
   have:=(hob i).lt b hb
   have:=hnew j b hb'
   omega
  ·rw[ef1 hi]at hb;rw[ef0 hj]at hb'
   have:=(hob j).lt b hb'
   have:=hnew i b hb
   omega
  ·rw[ef1 hi]at hb;rw[ef1 hj]at hb';exact g4 i j hij b hb hb'
 ·rcases hi:inO ob1 i with _|_
  ·rw[ef0 hi]at hb;exact⟨.inl ⟨i,hb⟩,hLf i b hb⟩
  ·rw[ef1 hi]at hb
   have:=hnew i b hb
   exact⟨.inr this,fun hl=>by have:=hL b hl;omega⟩
theorem GX.same{P:Program}{f:FuncId}{args:List AV}{ob0:List (Nat×AO)}{R R':AV→List (Nat×AO)→Prop}(h:GX P f args ob0 R)(hR:∀x ob,R x ob→∃ob',R' x ob'∧ofO ob'=ofO ob):GX P f args ob0 R':=fun L w cs ρ fp h1 h2 h3 h4 h5=>
 Calls.mono (h L w cs ρ fp h1 h2 h3 h4 h5) fun e w' ⟨x,ob,q,r⟩=>by
  obtain⟨ob',q1,q2⟩:=hR x ob q
  exact⟨x,ob',q1,by rw[q2];exact r⟩
theorem inO_fam{F:List AO}{i:Nat}(h:i<1000000):inO (famL 1000000 F) i=false:=by
 cases e:inO (famL 1000000 F) i with
 |false=>rfl
 |true=>
  obtain⟨o,q,_⟩:=ofO_mem e
  obtain⟨m,_,q2⟩:=mem_famL q
  omega
theorem inO_app{l m:List (Nat×AO)}{i:Nat}:inO (l++m) i=(inO l i||inO m i):=by unfold inO;rw[List.map_append,List.contains_eq_any_beq,List.any_append,←List.contains_eq_any_beq,←List.contains_eq_any_beq]
theorem GN.lent{P:Program}{f:FuncId}{args args':List AV}{ob0:List (Nat×AO)}{R:AV→List (Nat×AO)→List AO→Prop}(hc:GN P f args [] [] R)(hl:lendL (ofO ob0) args'=args)(h0:(ob0.all fun p=>arrO p.2&&(lowO p.2&&Nat.blt p.1 1000000))=true)
 (hR:∀x l1 F1,R x l1 F1→ownA x=true∧(∀id∈ownN x,inO l1 id=true)∧(∀p∈l1,flatR p.2)∧(∀o∈F1,flatR o)∧(∀p∈ob0,inO l1 p.1=false)) :
 GN P f args' ob0 [] fun x l F=>∃l1,R x l1 F∧l=l1++ob0:=by
 have hs:smallO ob0=true:=List.all_eq_true.2 fun p hp=>by
  have:=List.all_eq_true.1 h0 p hp
  simp only[Bool.and_eq_true]at this
  exact this.2.2
 have hlo:(ob0.all fun p=>lowO p.2)=true:=List.all_eq_true.2 fun p hp=>by
  have:=List.all_eq_true.1 h0 p hp
  simp only[Bool.and_eq_true]at this
  exact this.2.1
 have hc':GX P f args [] _:=hc
 have h:=GX.lent (ob0:=ob0) hc' hl (fun p hp=>by
  have:=List.all_eq_true.1 h0 p hp
  simp only[Bool.and_eq_true]at this
  exact this.1) (fun x ob1 ⟨l1,F1,q1,q2,q3,q4,q5⟩=>by
  subst q4
  obtain⟨r1,r2,r3,r4,r5⟩:=hR x l1 F1 q5
  refine⟨r1,fun id hid=>by rw[inO_app,r2 id hid];rfl,fun p hp=>?_,fun p hp=>?_⟩
  ·rcases List.mem_append.1 hp with hp|hp
   ·exact r3 p hp
   ·have:∀(F:List AO) (n:Nat),p∈famL n F→p.2∈F:=by
     intro F
     induction F with
     |nil=>intro n h;cases h
     |cons o F ih=>
      intro n h
      rcases List.mem_cons.1 h with h|h
      ·rw[h];simp
      ·exact List.mem_cons_of_mem _ (ih _ h)
    exact r4 _ (this _ _ hp)
  ·rw[inO_app,r5 p hp,inO_fam (Nat.le_of_ble_eq_true (List.all_eq_true.1 hs p hp))];rfl)
 show GX P f args' (ob0++[]) _
 rw[List.append_nil]
 refine h.same fun x ob ⟨ob1,⟨l1,F1,q1,q2,q3,q4,q5⟩,q6⟩=>?_
 subst q4 q6
 simp only[Bool.and_eq_true]at q1
 have s1:smallO (l1++ob0)=true:=by unfold smallO at *;rw[List.all_append,q1.1,hs];rfl
 refine⟨(l1++ob0)++famL 1000000 F1,⟨l1++ob0,F1,?_,q2,q3,rfl,l1,q5,rfl⟩,?_⟩
 ·rw[s1,List.all_append,q1.2.1,hlo,q1.2.2];rfl
 ·funext i
  rcases lo_or_hi i with q|⟨m,rfl⟩
  ·rw[ofO_lo q,ofO_app,ofO_app,inO_app,inO_fam q,Bool.or_false,ofO_lo q]
  ·rw[ofO_hi s1,List.append_assoc,ofO_hi q1.1,ofO_app]
   split
   ·rfl
   ·rename_i z
    rw[ofO_out (by simpa using z)]
    have:inO ob0 (1000000+m)=false:=by
     cases e:inO ob0 (1000000+m)with
     |false=>rfl
     |true=>
      obtain⟨o,w1,_⟩:=ofO_mem e
      have:=List.all_eq_true.1 hs _ w1
      have:1000000+m<1000000:=Nat.le_of_ble_eq_true this
      omega
    rw[ofO_out this]
theorem at_last{A M:List AO}{n:Nat}:∀i,i<n→(A++M)[A.length+i]? = M[i]?:=fun i _=>by rw[List.getElem?_append_right (by omega)];congr 1;omega

theorem no_liveN{L:Nat→Prop}{ρ:Nat→Value}{b:Nat}(h:¬L b):¬live L ρ (ofO []) b:=by
 rintro(q|⟨_,q,_⟩)
 ·exact h q
 ·cases q
def RowN{α:Type}(sz:Nat)(rep:World→Nat→Nat→List Value→α→Prop)(xs:List α)(w:World)(lo:Nat)(v:Value):Prop:=SlR sz rep w lo w.heap.size v xs
theorem RowN.rv{α:Type}{enc:α→List Value}{e:TypeId}{sz:Nat}{rep:World→Nat→Nat→List Value→α→Prop}{xs:List α}(hrep:∀w lo hi cs x,rep w lo hi cs x→cs=enc x)(hs:∀x,(enc x).length=sz)(h1:∀x,∀u∈enc x,u.oneCell'=true)
 {L:Nat→Prop} {ρ:Nat→Value} {w:World} {lo:Nat} {v:Value} (hL:∀b,L b→b<lo) (h:RowN sz rep xs w lo v):RV L ρ (ofO []) w (.p (.lst e sz (rowsOf enc xs))) v:=
 RV.of_slr h (fun _ _ q=>hrep _ _ _ _ _ q) hs h1 (Nat.le_refl _) (fun b q _=>no_liveN fun z=>by have:=hL b z;omega)
section
variable {L:Nat→Prop}{ρ:Nat→Value}{H:Nat→AO}{w:World}{S:Nat→Prop}
def Lie(L:Nat→Prop)(ρ:Nat→Value)(H:Nat→AO)(w:World)(S:Nat→Prop):Prop:=(∀id,∃f,OB L ρ H w (ρ id) f (H id)∧∀b∈f,S b)∧∀b,¬live L ρ H b→S b
theorem Lie.row(hl:Lie L ρ H w S){id:Nat}{e:Pin}{sz:Nat}{rows rows':List (List PV)}(hH:H id=.arr e sz rows)(h:∀ {xs fp},RWR w false sz rows xs fp→(∀b∈fp,S b)→∃g,RWR w false sz rows' xs g∧∀b∈g,S b)(hlen:rows'.length=rows.length) :
 ∃g,RW w false (.lst e.ty sz rows') (ρ id) g∧∀b∈g,S b:=by
 obtain⟨f,ho,hf⟩:=hl.1 id
 rw[hH]at ho
 obtain⟨xs,fr,b1,b2,b3,b4,b5⟩:=ho
 obtain⟨g,k1,k2⟩:=h b1 (fun b hb=>hl.2 b (b2 b hb))
 rcases b3.2 with⟨q,q2⟩|⟨gb,cap,cur,q,_,hg,hnc,hcm,_⟩
 ·refine⟨[]++g,?_,fun b hb=>k2 b (by simpa using hb)⟩
  rw[RW]
  refine⟨xs,[],g,k1,?_,rfl⟩
  unfold SlAt
  simp only[Bool.false_eq_true,if_false]
  exact⟨none,0,by rw[q,hlen,q2],by omega,by simp[maxLen],.inl ⟨by omega,trivial⟩⟩
 ·have b3':=b3
  rw[q]at b3'
  refine⟨[gb]++g,?_,fun b hb=>?_⟩
  ·rw[RW]
   refine⟨xs,[gb],g,k1,?_,rfl⟩
   unfold SlAt
   simp only[Bool.false_eq_true,if_false]
   exact⟨_,cap,by rw[q,hlen],by omega,hcm,.inr ⟨gb,0,rfl,cellsAt_of_own b3',(Array.getElem?_eq_some_iff.1 hg).1,rfl⟩⟩
  ·rcases List.mem_append.1 hb with hb|hb
   ·refine hf b ?_
    rw[List.mem_singleton.1 hb,b4,q]
    simp[Value.ownBlock]
   ·exact k2 b hb
theorem Lie.self(hl:Lie L ρ H w S){id:Nat}{e:Pin}{sz:Nat}{rows:List (List PV)}(hH:H id=.arr e sz rows):∃g,RW w false (.lst e.ty sz rows) (ρ id) g∧∀b∈g,S b:=hl.row hH (fun h hs=>⟨_,h,hs⟩) rfl
theorem RWL.deepS(hl:Lie L ρ H w S):∀ {x y:List PV} {c:List Value} {fp:List Nat},All2 (dpC H) x y→RWL w false x c fp→(∀b∈fp,S b)→∃fp',RWL w false y c fp'∧∀b∈fp',S b
 |_,_,c,fp,.nil,h,hs=>⟨fp,h,hs⟩
 |_,_,c,fp,.cons h1 h2,h,hs=>by
  rw[RWL]at h
  obtain⟨c,r,f1,f2,rfl,rfl,k1,k2⟩:=h
  obtain⟨g2,k3,k4⟩:=RWL.deepS hl h2 k2 (fun b hb=>hs b (List.mem_append_right _ hb))
  rcases h1 with rfl|⟨v,m,e,sz,rows,rfl,hm,rfl⟩
  ·refine⟨f1++g2,by rw[RWL];exact⟨c,r,f1,g2,rfl,rfl,k1,k3⟩,fun b hb=>?_⟩
   rcases List.mem_append.1 hb with q|q
   ·exact hs b (List.mem_append_left _ q)
   ·exact k4 b q
  ·obtain⟨g1,k5,k6⟩:=hl.self hm
   have hv:ρ m=v:=by
    obtain⟨f,ho,_⟩:=hl.1 m
    rw[hm]at ho
    obtain⟨_,_,_,_,_,_,k⟩:=ho
    exact k v rfl
   rw[RW]at k1
   rw[k1.1,←hv]
   refine⟨g1++g2,by rw[RWL];exact⟨ρ m,r,g1,g2,rfl,rfl,k5,k3⟩,fun b hb=>?_⟩
   rcases List.mem_append.1 hb with q|q
   ·exact k6 b q
   ·exact k4 b q
theorem RWR.deepS(hl:Lie L ρ H w S){sz:Nat}:∀ {x y:List (List PV)} {c:List Value} {fp:List Nat},All2 (All2 (dpC H)) x y→RWR w false sz x c fp→(∀b∈fp,S b)→∃fp',RWR w false sz y c fp'∧∀b∈fp',S b
 |_,_,c,fp,.nil,h,hs=>⟨fp,h,hs⟩
 |_,_,c,fp,.cons h1 h2,h,hs=>by
  rw[RWR]at h
  obtain⟨hn,c,r,f1,f2,rfl,rfl,k1,k2⟩:=h
  obtain⟨g1,k3,k5⟩:=RWL.deepS hl h1 k1 (fun b hb=>hs b (List.mem_append_left _ hb))
  obtain⟨g2,k4,k6⟩:=RWR.deepS hl h2 k2 (fun b hb=>hs b (List.mem_append_right _ hb))
  refine⟨g1++g2,by rw[RWR];exact⟨by rw[←h1.len];exact hn,c,r,g1,g2,rfl,rfl,k3,k4⟩,fun b hb=>?_⟩
  rcases List.mem_append.1 hb with q|q
  ·exact k5 b q
  ·exact k6 b q
end
structure Still(H:Nat→AO)(x y:AV):Prop where
 to:∀ {L:Nat→Prop} {ρ:Nat→Value} {w:World} {c:Value},Lie L ρ H w (fun b=>¬L b)→RV L ρ H w x c→RV L ρ (ofO []) w y c
theorem Still.p{H:Nat→AO}(x:PV):Still H (.p x) (.p x):=.mk fun{L ρ w c} hl h=>by
 rw[RV]at *
 obtain⟨fp,h1,h2⟩:=h
 exact⟨fp,h1,fun b hb=>no_liveN (hl.2 b (h2 b hb))⟩
theorem Still.own{H:Nat→AO}{id:Nat}{e:Pin}{sz:Nat}{rows rows':List (List PV)}(hH:H id=.arr e sz rows)(h:All2 (All2 (dpC H)) rows rows'):Still H (.own id) (.p (.lst e.ty sz rows')):=.mk fun{L ρ w c} hl hx=>by
 rw[RV]at hx
 have hc:=hx.2 (by rw[hH];rfl)
 obtain⟨g,k1,k2⟩:=hl.row hH (fun q hs=>RWR.deepS hl h q hs) h.len.symm
 rw[hc,RV]
 exact⟨g,k1,fun b hb=>no_liveN (k2 b hb)⟩
theorem Still.row{H:Nat→AO}{id:Nat}{e:Pin}{sz:Nat}{rows:List (List PV)}(hH:H id=.arr e sz rows):Still H (.own id) (.p (.lst e.ty sz rows)):=.mk fun{L ρ w c} hl hx=>by
 rw[RV]at hx
 have hc:=hx.2 (by rw[hH];rfl)
 obtain⟨g,k1,k2⟩:=hl.self hH
 rw[hc,RV]
 exact⟨g,k1,fun b hb=>no_liveN (k2 b hb)⟩
theorem RVL.still{H:Nat→AO}{L:Nat→Prop}{ρ:Nat→Value}{w:World}(hl:Lie L ρ H w (fun b=>¬L b)):∀ {l m:List AV} {cs:List Value},All2 (Still H) l m→RVL L ρ H w l cs→RVL L ρ (ofO []) w m cs
 |_,_,cs,.nil,h=>by rw[RVL]at *;exact h
 |_,_,cs,.cons h1 h2,h=>by
  rw[RVL]at *
  obtain⟨c,r,rfl,k1,k2⟩:=h
  exact⟨c,r,rfl,h1.to hl k1,RVL.still hl h2 k2⟩
theorem Still.agg{H:Nat→AO}{l m:List AV}(h:All2 (Still H) l m):Still H (.agg l) (.agg m):=.mk fun hl hx=>by
 rw[RV]at *
 obtain⟨cs,rfl,h1⟩:=hx
 exact⟨cs,rfl,RVL.still hl h h1⟩
theorem Still.tup{H:Nat→AO}{l m:List AV}(h:All2 (Still H) l m):Still H (.tup l) (.tup m):=.mk fun hl hx=>by
 rw[RV]at *
 obtain⟨cs,rfl,h1⟩:=hx
 exact⟨cs,rfl,RVL.still hl h h1⟩
theorem GX.frozen{P:Program}{f:FuncId}{args:List AV}{R:AV→List (Nat×AO)→Prop}{Z:AV→Prop}(h:GX P f args [] R)(hR:∀x ob1,R x ob1→∃y,Still (ofO ob1) x y∧Z y):GX P f args [] fun y ob=>ob=[]∧Z y:=fun L w cs ρ fp h1 h2 h3 h4 h5=>
 Calls.mono (h L w cs ρ fp h1 h2 h3 h4 h5) fun e w' ⟨x,ob1,q,v,ρ',fp',q1,q2,q3,q4,q5,q6⟩=>by
  obtain⟨y,hy,hz⟩:=hR x ob1 q
  have hl:Lie L ρ' (ofO ob1) w' (fun b=>¬L b):=⟨fun id=>⟨fp' id,q4 id,fun b hb=>(q6 id b hb).2⟩,fun b hb=>fun z=>hb (.inl z)⟩
  exact⟨y,[],⟨rfl,hz⟩,v,ρ',fun _=>[],q1,q2,hy.to hl q3,fun i=>rfl,by simp,by simp⟩

section
variable {P:Program}
variable {o:Oper}{τ:Nat→AV}{H:Nat→AO}{X:Nat→Bool}
end
section
variable {P:Program}{L O:Nat→Prop}{w0:World}{N:Nat}{ops:Array Oper}{F:List Nat}{n:Nat}{listed:Array Bool}{o:Oper}{τ:Nat→AV}{H:Nat→AO}{Q:AQ}
theorem AF1.stx{i:Nat}{E:List Nat}{Z:(Nat→AV)→(Nat→AO)→Prop}(ho:ops[i]? = some o)(hs:StX P o N τ H E Z)(hF:F.contains i=true∨E=[])(hg:gv τ ops o=some true)
 (h:∀τ' H',Z τ' H'→AF P L O w0 N ops F n (listed.setIfInBounds i true) τ' H' Q):AF1 P L O w0 N ops F n listed i τ H Q:=fun ρ fp a w hrr=>
 wpOp_step ho fun K hK=>by
  rw[hrr.wanted hg,if_pos rfl]
  exact hs.run hrr (fun τ' H' a' w' ρ' fp' hz hr' hmv=>hK _ _ ⟨keepA_of hF hmv,h τ' H' hz ρ' fp' a' w' hr'⟩)
end

def fill{α:Type}(rows:List α)(z:α)(k:Nat):List α:=rows.take k++List.replicate (rows.length-k) z
theorem fill_zero{α:Type}(rows:List α)(z:α):fill rows z 0=List.replicate rows.length z:=by simp[fill]
theorem fill_all{α:Type}(rows:List α)(z:α):fill rows z rows.length=rows:=by simp[fill]
theorem fill_len{α:Type}{rows:List α}{z:α}(k:Nat)(h:k≤rows.length):(fill rows z k).length=rows.length:=by simp[fill];omega
theorem fill_get{α:Type}{rows:List α}{z:α}{k:Nat}(h:k<rows.length):(fill rows z k)[k]? = some z:=by
 unfold fill
 rw[List.getElem?_append_right (by simp;omega),List.length_take,Nat.min_eq_left (Nat.le_of_lt h),Nat.sub_self,List.getElem?_replicate,if_pos (by omega)]
theorem fill_set{α:Type}{rows:List α}{z c:α}{k:Nat}(h:rows[k]? = some c):(fill rows z k).set k c=fill rows z (k+1):=by
 obtain⟨hk,rfl⟩:=List.getElem?_eq_some_iff.1 h
 unfold fill
 rw[List.set_append_right _ _ (by simp;omega)]
 simp only[List.length_take,Nat.min_eq_left (Nat.le_of_lt hk),Nat.sub_self]
 rw[show rows.length-k=(rows.length-(k+1))+1 by omega,List.replicate_succ,List.set_cons_zero,List.take_succ_eq_append_getElem hk,List.append_assoc]
 rfl
def mkLs{α:Type}(mk:Int→α)(n:Nat)(k:Int):Nat→List α
 |0=>[]
 |m+1=>mkLs mk n k m++[mk (k+(n:Int)*(m:Int))]
theorem mkLs_len{α:Type}{mk:Int→α}{n:Nat}{k:Int}:∀ {m:Nat},(mkLs mk n k m).length=m
 |0=>rfl
 |m+1=>by unfold mkLs;rw[List.length_append,mkLs_len];rfl
theorem mkLs_succ{α:Type}{mk:Int→α}{n:Nat}{k:Int}{m:Nat}:mkLs mk n k (m+1)=mkLs mk n k m++[mk (k+(n:Int)*(m:Int))]:=rfl
theorem mkLs_get{α:Type}{mk:Int→α}{n:Nat}{k:Int}{j:Nat}:∀ {m:Nat},j<m→(mkLs mk n k m)[j]? = some (mk (k+(n:Int)*(j:Int)))
 |m+1,h=>by
  rw[mkLs_succ]
  rcases Nat.lt_or_ge j m with q|q
  ·rw[List.getElem?_append_left (by rw[mkLs_len];exact q),mkLs_get q]
  ·have e:j=m:=by omega
   subst e
   rw[List.getElem?_append_right (by rw[mkLs_len];exact Nat.le_refl _),mkLs_len]
   simp
theorem marked_get{α:Type}{p l:List α}{j:Nat}(hp:p.length=j)(h:j<l.length):(p++l.drop j)[j]? = some l[j]:=by
 subst hp
 rw[List.getElem?_append_right (Nat.le_refl _),Nat.sub_self,List.getElem?_drop,Nat.add_zero]
 exact List.getElem?_eq_getElem h
theorem marked_set{α:Type}{p p' l:List α}{j:Nat}{c:α}(hp:p.length=j)(hp':p'=p++[c])(h:j<l.length):(p++l.drop j).set j c=p'++l.drop (j+1):=by
 subst hp hp'
 rw[List.set_append_right _ _ (Nat.le_refl _),Nat.sub_self,List.drop_eq_getElem_cons h,List.set_cons_zero,List.append_assoc]
 rfl
section
variable {P:Program}{o:Oper}{τ:Nat→AV}{H:Nat→AO}{X:Nat→Bool}
end

abbrev encU(b:Int):List Value:=[.int .u8 b]
abbrev bytesV(T:TypeId)(l:List Int):AV:=.p (.lst T 1 (rowsOf encU l))
def BytesOk(l:List Int):Prop:=∀b∈l,0≤b∧b≤255
section
variable {P:Program}{o:Oper}{τ:Nat→AV}{H:Nat→AO}{X:Nat→Bool}
end
-- ---------- texts compared
section
variable {P:Program}{x y:Operand}{T:TypeId}{l m:List Int}
end

theorem zeroOne(v:Value)(n:Nat):(Builtin.zeroCells #[v] n).toList=List.replicate n v:=by
 unfold Builtin.zeroCells
 apply List.ext_getElem
 ·simp
 ·intro i h1 h2
  simp[Nat.mod_one]
theorem flat_one{α:Type}(v:α):∀m,(List.replicate m [v]).flatten=List.replicate m v
 |0=>rfl
 |m+1=>by rw[List.replicate_succ,List.flatten_cons,flat_one v m,List.replicate_succ];rfl
section
variable {P:Program}
theorem appZ_run{w:World}{t ti ty e:TypeId}{i:TypeInfo}{z v0:Value}(ht:P.underlying t=some (.slice e))(hti:P.underlying ti=some (.int .i64))(hi:P.info? e=some i)(hz:i.zero=some z)(hzc:z.cells=#[v0])(hsz:i.size=1)(hv0:v0.oneCell'=true)
 {g:Nat} {n cap:Nat} {xs:List Value} (hown:w.ownsRow 0 e 1 (.slice (some ⟨g,0,none⟩) n cap) n xs) {m:Nat} (hm:0<m) (h63:n+m≤maxLen) (hbytes:(n+m)*i.bytes≤140737488355328) :
 ∃v' w',(Builtin.append_ #[t,ti] ty #[.slice (some ⟨g,0,none⟩) n cap,.int .i64 (m:Int)]).run P w=.ok v' w'∧w'.ownsRow 0 e 1 v' (n+m) (xs++List.replicate m v0)∧w.grownBy w' (some g)∧(v'.ownBlock=some g∨v'.ownBlock=some w.heap.size)∧
  (∀b off,(some g=some b∨w.heap.size≤b)→b<w'.heap.size→w'.frozen? ⟨b,off,none⟩=false):=by
 have hsmall:n+m≤9223372036854775807:=by simp only[maxLen]at h63;omega
 have hlen:(xs++List.replicate m v0).length=(n+m)*1:=by rw[List.length_append,hown.1,List.length_replicate];omega
 have hwrap:IntKind.i64.wrap (m:Int)=(m:Int):=by rw[IntKind.wrap_i64];omega
 have hl0:¬((m:Int)<0):=by omega
 have hb48:¬(281474976710656<(m:Int)*(i.bytes:Int)):=by
  have h1:m*i.bytes≤(n+m)*i.bytes:=Nat.mul_le_mul_right _ (by omega)
  have h2:((m*i.bytes:Nat):Int)≤140737488355328:=by omega
  rw[Int.natCast_mul]at h2
  omega
 have hmz:¬m=0:=by omega
 have hzl:(Builtin.zeroCells #[v0] m).toList=List.replicate m v0:=zeroOne v0 m
 rcases hown.2 with⟨q,_⟩|⟨g',cap',cur,q,hbg,hg,hnc,hcm,hcs,htake⟩
 ·cases q
 injection q with q1 q2 q3
 injection q1 with q1
 injection q1 with q1
 subst q1 q3
 by_cases hroom:n+m≤cap
 ·have hfit:n*1+(List.replicate m v0).length≤cur.size:=by rw[List.length_replicate,hcs];omega
  have hst:=run_storeCells_at P g (n*1) e (List.replicate m v0) 0 cur w hg (by simpa using hfit) (fun u hu=>by rw[(List.mem_replicate.1 hu).2];exact hv0)
  simp only[Nat.add_zero,Nat.mul_one]at hst
  have hr:(Builtin.append_ #[t,ti] ty #[.slice (some ⟨g,0,none⟩) n cap,.int .i64 (m:Int)]).run P w=.ok (.slice (some ⟨g,0,none⟩) (n+m) cap) (w.setRow g (cur.toList.take n++List.replicate m v0++cur.toList.drop (n+(List.replicate m v0).length)).toArray):=by
   simp[Builtin.append_,run_underlying ht,run_underlying hti,sizeOf,typeInfo,zeroValue,hi,hz,hzc,hsz,asInt,asIntOf,hwrap,hl0,hb48,hmz,hroom,hzl,Addr.add_lit,hst]
  refine⟨_,_,hr,⟨hlen,.inr ⟨g,cap,_,rfl,hbg,setRow_heap w g cur _ e _ hg,hroom,hcm,?_,?_⟩⟩,⟨rfl,rfl,rfl,by simp,fun k _ hk=>setRow_other w g k _ (fun e=>hk (by simp[e]))⟩,.inl rfl,?_⟩
  ·simp only[List.size_toArray,List.length_append,List.length_take,List.length_drop,Array.length_toList,List.length_replicate]at hfit ⊢
   omega
  ·have ht2:cur.toList.take n=xs:=by have:=htake;rwa [Nat.mul_one]at this
   rw[ht2,←hlen]
   exact List.take_left
  ·intro b off hb hlt
   rw[setRow_size]at hlt
   have hbg:g=b:=by
    rcases hb with hb|hb
    ·injection hb
    ·omega
   subst hbg
   simp[World.frozen?,setRow_heap w g cur _ e _ hg]
 ·have holds:∀j u,xs[j]? = some u→w.cell? ((⟨g,0,none⟩:Addr).add j)=some u:=hown.cells (g:=g) rfl
  have hn:¬(n+m≤cap):=hroom
  have h63':¬(9223372036854775807<((n:Int)+(m:Int))):=by omega
  have h48':¬(281474976710656<Builtin.nextslicecap (n+m) cap*i.bytes):=by have:=growslice_fits (need:=n+m) (old:=cap) (by omega) hbytes;omega
  have hfo:=run_firstCells_some (P:=P) w.drew 1 n ⟨g,0,none⟩ n cap xs hown.1 (by simpa using holds)
  have hr:(Builtin.append_ #[t,ti] ty #[.slice (some ⟨g,0,none⟩) n cap,.int .i64 (m:Int)]).run P w=.ok (.slice (some ⟨w.heap.size,0,none⟩) (n+m) (grownCap w (n+m) cap e)) (w.drew.alloc (.cells (xs.toArray++(List.replicate m v0).toArray++Builtin.zeroCells z.cells (grownCap w (n+m) cap e-(n+m))) e)):=by
   have hza:Builtin.zeroCells #[v0] m=(List.replicate m v0).toArray:=by rw[←hzl]
   simp[Builtin.append_,run_underlying ht,run_underlying hti,sizeOf,typeInfo,zeroValue,hi,hz,hzc,hsz,asInt,asIntOf,hwrap,hl0,hb48,hmz,hn,h63',h48',Question.forced,hfo,newRow,grownCap,hza]
  have hge:=grownCap_ge w (n+m) cap e
  have hcm2:grownCap w (n+m) cap e≤maxLen:=grownCap_le_maxLen w (n+m) cap e h63
  refine⟨_,_,hr,⟨hlen,.inr ⟨w.heap.size,_,_,rfl,Nat.zero_le _,heap_alloc_new w.drew _,hge,hcm2,?_,?_⟩⟩,⟨rfl,rfl,rfl,by simp,fun k hk _=>heap_alloc_old w.drew _ hk⟩,.inr rfl,?_⟩
  ·simp only[Array.size_append,List.size_toArray,size_zeroCells,hzc,hown.1,List.length_replicate]
   simp
   omega
  ·simp only[Array.toList_append,List.append_assoc]
   rw[←List.append_assoc,←hlen]
   exact List.take_left
  ·intro b off hb hlt
   rcases hb with hb|hb
   ·injection hb with hb
    subst hb
    have hgl:g<w.drew.heap.size:=(Array.getElem?_eq_some_iff.1 hg).1
    rw[World.frozen?_of_block (w:=w.drew) (heap_alloc_old w.drew _ hgl)]
    have:w.drew.heap[g]? = some (.cells cur e (0,0)):=hg
    simp[World.frozen?,this]
   ·exact frozen_new (w:=w.drew) b off (.inr hb) hlt
end
section
variable {P:Program}{N:Nat}{τ:Nat→AV}{H:Nat→AO}{o:Oper}
theorem St.appZ(id:Nat){t ti e:TypeId}{s x:Operand}{d m:Nat}{n:Int}{v0:Value}{rows:List (List PV)}{pn:Option Value}(ho:o.op=.call { callee:=.builtin .append,args:=#[s,x],argTypes:=#[t,ti] })(hd:o.dst=some d)(ht:d<N)(he:elA P t=some (e,1))(hz:zeroA P e=some [v0])(hv0:v0.oneCell'=true)(hti:intKind P ti=some .i64)
 (hs:ev τ s=.own id) (hH:H id=.arr ⟨e,pn⟩ 1 rows) (hx:ev τ x=.p (.v (.int .i64 n))) (hn:n=(m:Int)) (h0:0<rows.length) (hm0:0<m) (hm:rows.length+m≤maxLen) (hb:(rows.length+m)*P.bytesOf e≤140737488355328) :
 St P o N τ H [id] (upd (fun s=>kil (one? id) (τ s)) d (.own id)) (upd (fun j=>(H j).kil (one? id)) id (.arr e 1 (rows++List.replicate m [.v v0]))):=by
 subst hn
 obtain⟨i,z,i1,i2,i3,i4,i5⟩:=info_of hz
 obtain⟨q1,_,q3⟩:=elA_spec he
 have hsi:i.size=1:=i4.trans q3
 have hti':P.underlying ti=some (.int .i64):=by unfold intKind at hti;split at hti<;>simp_all
 have this:St P o N τ H [id] (updo (fun s=>kil (one? id) (τ s)) o.dst (.own id)) (upd (fun j=>(H j).kil (one? id)) id (.arr e 1 (rows++List.replicate m [.v v0]))):=St.turn id (one? id) (.own id) _ [id] (fun s hs=>by rw[hd]at hs;cases hs;exact ht) (fun{L O w0 ρ fp a w} hr=>by
  have es:=hr.ev s
  rw[hs,RV]at es
  have es:=es.2 (by rw[hH];rfl)
  have ex:=(hr.ev x)
  rw[hx]at ex
  have ex:=ex.v_eq
  have hob:=hr.ob id
  rw[hH]at hob
  obtain⟨xs,fr,b1,b2,b3,b4,_⟩:=hob
  obtain⟨g,cap,hg⟩:∃g cap,ρ id=.slice (some ⟨g,0,none⟩) rows.length cap:=by
   rcases b3.2 with⟨_,q⟩|⟨g,cap,cur,q,_⟩
   ·omega
   ·exact⟨g,cap,q⟩
  rw[hg]at b3
  obtain⟨v',w',r1,r2,r3,r4,r5⟩:=appZ_run (P:=P) (ty:=o.type) q1 hti' i1 i2 (v0:=v0) (by rw[i3]) hsi hv0 b3 hm0 hm (by rw[i5];exact hb)
  have hgo:(ρ id).ownBlock=some g:=by rw[hg];rfl
  refine⟨w',v',(ρ id).ownBlock,v',_,?_,.inl rfl,by rw[hgo];exact r3,fun b hb=>⟨by simp,by rw[hH];rfl,hb⟩,fun b off h=>by rw[hgo]at h;exact r5 b off h,fun hk=>(by simp[one?]at hk),fun b hb=>?_,fun E=>⟨?_,?_⟩⟩
  ·simp only[execOp,ho,resolve,invoke,builtin,Sem.run_bind,Sem.run_pure,Result.andThen_ok,List.map_toArray,List.map_cons,List.map_nil,es,hg,ex,r1]
  ·rcases r4 with q|q
   ·exact .inr ⟨by rw[hH];rfl,by rw[hgo,←q];exact hb⟩
   ·rw[q]at hb;injection hb with hb;exact .inl (Nat.le_of_eq hb)
  ·obtain⟨k1,k2⟩:=RWR.keep E b1 b2
   have k3:RWR w' false 1 (List.replicate m [PV.v v0]) (List.replicate m v0) []:=by
    have:=RWR.rep (w:=w') (st:=false) (zs:=[v0]) (by intro u hu;rw[List.mem_singleton.1 hu];exact hv0) m
    have e:(List.replicate m [v0]).flatten=List.replicate m v0:=flat_one v0 m
    rw[e]at this
    exact this
   refine⟨xs++List.replicate m v0,fr++[],RWR.append k1 k3,fun b hb=>?_,?_,rfl,fun u hu=>by cases hu⟩
   ·rw[List.append_nil]at hb;exact k2 b hb
   ·rw[List.length_append,List.length_replicate]
    exact r2
  ·rw[RV,upd_same,upd_same]
   have:v'.oneCell'=true:=by
    rcases r2.2 with⟨q,_⟩|⟨g,cap,cur,q,_⟩<;>rw[q]<;>rfl
   exact⟨this,fun _=>rfl⟩)
 rw[hd]at this
 exact this
end

section
variable {P:Program}{f:FuncId}{args:List AV}{i sz:Nat}{e:TypeId}{rows:List (List PV)}
theorem GC.frz2{x2:PV}(h:GC P f args [] (.tup [.own i,.p x2]) [(i,.arr ⟨e,none⟩ sz rows)]):GC P f args [] (.tup [.p (.lst e sz rows),.p x2]) []:=
 (GX.frozen (Z:=fun y=>y=.tup [.p (.lst e sz rows),.p x2]) h fun x ob ⟨h1,h2⟩=>by
   subst h1 h2
   exact⟨_,Still.tup (.cons (Still.row (e:=⟨e,none⟩) (sz:=sz) (rows:=rows) (by simp[ofO])) (.cons (Still.p _) .nil)),rfl⟩).mono fun y o ⟨e1,e2⟩=>⟨e2,e1⟩
def oneR(e:TypeId)(sz:Nat)(rows:List (List PV)):AV→List (Nat×AO)→List AO→Prop:=fun y l1 F1=>∃v,y=.p (.v v)∧l1=[]∧F1=[.arr ⟨e,some v⟩ sz rows]
theorem GC.fam1(h:GC P f args [] (.own i) [(i,.arr ⟨e,none⟩ sz rows)])(hfl:∀r∈rows,∀p∈r,∃v,p=PV.v v):GN P f args [] [] (oneR e sz rows):=by
 intro L w cs ρ fp hL hargs hob hdj hLf
 refine Calls.mono (h L w cs ρ fp hL hargs hob hdj hLf) ?_
 rintro en w' ⟨x,ob1,⟨rfl,rfl⟩,v,ρ',fp',rfl,g1,g2,g3,g4,g5⟩
 have hi:ofO [(i,AO.arr ⟨e,none⟩ sz rows)] i=.arr ⟨e,none⟩ sz rows:=by simp[ofO]
 rw[RV]at g2
 have hv1:=g2.1
 have hv:=g2.2 (by rw[hi];rfl)
 have h3:=g3 i
 rw[hi]at h3
 obtain⟨xs,fr,k1,k2,k3,k4,_⟩:=h3
 have hfr:=k1.flat_fp hfl
 subst hfr
 refine⟨.p (.v v),famL 1000000 [.arr ⟨e,some v⟩ sz rows],⟨[],[.arr ⟨e,some v⟩ sz rows],rfl,fun o ho=>by rw[List.mem_singleton.1 ho];rfl,by simp,rfl,v,rfl,rfl,rfl⟩,v,(fun j=>if j=1000000 then v else undef),(fun j=>if j=1000000 then fp' i else []),rfl,g1,?_,fun j=>?_,fun j j' hj b hb hb'=>?_,fun j b hb=>?_⟩
 ·exact RV.v_mk hv1
 ·by_cases q:j=1000000
  ·subst q
   simp only[if_true]
   have e1:ofO (famL 1000000 [.arr ⟨e,some v⟩ sz rows]) 1000000=.arr ⟨e,some v⟩ sz rows:=by rw[famL_at];simp
   rw[e1]
   exact⟨xs,[],k1,by simp,by rw[hv];exact k3,by rw[hv];exact k4,fun u hu=>by injection hu⟩
  ·have e1:ofO (famL 1000000 [AO.arr ⟨e,some v⟩ sz rows]) j=.gone:=by
    rw[famL_at]
    by_cases z:1000000≤j
    ·rw[if_pos z,List.getElem?_eq_none (by simp;omega)];rfl
    ·rw[if_neg z]
   rw[e1]
   show (if j=1000000 then fp' i else [])=[]
   rw[if_neg q]
 ·have hb1:b∈(if j=1000000 then fp' i else []):=hb
  have hb2:b∈(if j'=1000000 then fp' i else []):=hb'
  by_cases q:j=1000000
  ·by_cases q':j'=1000000
   ·omega
   ·rw[if_neg q']at hb2;cases hb2
  ·rw[if_neg q]at hb1;cases hb1
 ·have hb1:b∈(if j=1000000 then fp' i else []):=hb
  by_cases q:j=1000000
  ·rw[if_pos q]at hb1;exact g5 i b hb1
  ·rw[if_neg q]at hb1;cases hb1
end

-- ---------- numbers as bytes
def numB:Nat→Int→List Int
 |0,_=>[]
 |k+1,n=>n/256 ^ k%256::numB k n
theorem numB_length(n:Int):∀k,(numB k n).length=k
 |0=>rfl
 |k+1=>by rw[numB,List.length_cons,numB_length n k]
theorem numB_get(n:Int):∀(k j:Nat),j<k→(numB k n)[j]? = some (n/256 ^ (k-1-j)%256)
 |0,j,h=>absurd h (by omega)
 |k+1,0,_=>by rw[numB];simp
 |k+1,j+1,h=>by
  rw[numB,List.getElem?_cons_succ,numB_get n k j (by omega),show k+1-1-(j+1)=k-1-j by omega]
theorem numB_take{n:Int}{k j:Nat}(h:j<k):(numB k n).take (j+1)=(numB k n).take j++[n/256 ^ (k-1-j)%256]:=by
 have hl:j<(numB k n).length:=by rw[numB_length];exact h
 rw[List.take_succ_eq_append_getElem hl]
 have:=numB_get n k j h
 rw[List.getElem?_eq_getElem hl]at this
 injection this with this
 rw[this]
end Go.Proofs.Yteblcdnhnckkaaa

namespace Go.Proofs.Yteblcdnhnckkaaa.ty
open Go Go.Proofs Go.Proofs.Yteblcdnhnckkaaa
theorem kd3:kindA Try.prog 3=some none:=by kernel_rfl
theorem co3:Try.prog.cellsOf 3=1:=by kernel_rfl
theorem inf3:(Try.prog.info? 3).isSome=true:=by kernel_rfl
theorem ik3:intKind Try.prog 3=some .i64:=by kernel_rfl
theorem kd4:kindA Try.prog 4=some none:=by kernel_rfl
theorem co4:Try.prog.cellsOf 4=1:=by kernel_rfl
theorem inf4:(Try.prog.info? 4).isSome=true:=by kernel_rfl
theorem ze4:zeroA Try.prog 4=some [.bool false]:=by kernel_rfl
theorem kd5:kindA Try.prog 5=some none:=by kernel_rfl
theorem co5:Try.prog.cellsOf 5=1:=by kernel_rfl
theorem by5:Try.prog.bytesOf 5≤512:=Nat.le_of_ble_eq_true (by kernel_rfl)
theorem inf5:(Try.prog.info? 5).isSome=true:=by kernel_rfl
theorem ik5:intKind Try.prog 5=some .u8:=by kernel_rfl
theorem ze5:zeroA Try.prog 5=some [.int .u8 0]:=by kernel_rfl
theorem kd22:kindA Try.prog 22=some none:=by kernel_rfl
theorem el22:elA Try.prog 22=some (149,1):=by kernel_rfl
theorem sl22:isSlice Try.prog 22=true:=by kernel_rfl
theorem kd23:kindA Try.prog 23=some none:=by kernel_rfl
theorem el23:elA Try.prog 23=some (151,2):=by kernel_rfl
theorem sl23:isSlice Try.prog 23=true:=by kernel_rfl
theorem kd25:kindA Try.prog 25=some (some 2):=by kernel_rfl
theorem F25_0:FA Try.prog 25 0 0 22:=⟨by kernel_rfl,by rw[show Try.prog.cellsOf 22=1 by kernel_rfl];decide,by kernel_rfl⟩
theorem F25_1:FA Try.prog 25 1 1 23:=⟨by kernel_rfl,by rw[show Try.prog.cellsOf 23=1 by kernel_rfl];decide,by kernel_rfl⟩
theorem kd27:kindA Try.prog 27=some (some 4):=by kernel_rfl
theorem F27_0:FA Try.prog 27 0 0 25:=⟨by kernel_rfl,by rw[show Try.prog.cellsOf 25=2 by kernel_rfl];decide,by kernel_rfl⟩
theorem F27_1:FA Try.prog 27 1 2 3:=⟨by kernel_rfl,by rw[show Try.prog.cellsOf 3=1 by kernel_rfl];decide,by kernel_rfl⟩
theorem F27_2:FA Try.prog 27 2 3 3:=⟨by kernel_rfl,by rw[show Try.prog.cellsOf 3=1 by kernel_rfl];decide,by kernel_rfl⟩
theorem kd29:kindA Try.prog 29=some (some 7):=by kernel_rfl
theorem F29_0:FA Try.prog 29 0 0 3:=⟨by kernel_rfl,by rw[show Try.prog.cellsOf 3=1 by kernel_rfl];decide,by kernel_rfl⟩
theorem F29_1:FA Try.prog 29 1 1 3:=⟨by kernel_rfl,by rw[show Try.prog.cellsOf 3=1 by kernel_rfl];decide,by kernel_rfl⟩
theorem F29_2:FA Try.prog 29 2 2 3:=⟨by kernel_rfl,by rw[show Try.prog.cellsOf 3=1 by kernel_rfl];decide,by kernel_rfl⟩
theorem F29_3:FA Try.prog 29 3 3 3:=⟨by kernel_rfl,by rw[show Try.prog.cellsOf 3=1 by kernel_rfl];decide,by kernel_rfl⟩
theorem F29_4:FA Try.prog 29 4 4 3:=⟨by kernel_rfl,by rw[show Try.prog.cellsOf 3=1 by kernel_rfl];decide,by kernel_rfl⟩
theorem F29_5:FA Try.prog 29 5 5 3:=⟨by kernel_rfl,by rw[show Try.prog.cellsOf 3=1 by kernel_rfl];decide,by kernel_rfl⟩
theorem F29_6:FA Try.prog 29 6 6 4:=⟨by kernel_rfl,by rw[show Try.prog.cellsOf 4=1 by kernel_rfl];decide,by kernel_rfl⟩
theorem kd31:kindA Try.prog 31=some none:=by kernel_rfl
theorem co31:Try.prog.cellsOf 31=1:=by kernel_rfl
theorem inf31:(Try.prog.info? 31).isSome=true:=by kernel_rfl
theorem el31:elA Try.prog 31=some (115,1):=by kernel_rfl
theorem sl31:isSlice Try.prog 31=true:=by kernel_rfl
theorem kd32:kindA Try.prog 32=some none:=by kernel_rfl
theorem co32:Try.prog.cellsOf 32=1:=by kernel_rfl
theorem inf32:(Try.prog.info? 32).isSome=true:=by kernel_rfl
theorem el32:elA Try.prog 32=some (123,2):=by kernel_rfl
theorem sl32:isSlice Try.prog 32=true:=by kernel_rfl
theorem kd34:kindA Try.prog 34=some (some 2):=by kernel_rfl
theorem co34:Try.prog.cellsOf 34=2:=by kernel_rfl
theorem inf34:(Try.prog.info? 34).isSome=true:=by kernel_rfl
theorem F34_0:FA Try.prog 34 0 0 31:=⟨by kernel_rfl,by rw[show Try.prog.cellsOf 31=1 by kernel_rfl];decide,by kernel_rfl⟩
theorem F34_1:FA Try.prog 34 1 1 32:=⟨by kernel_rfl,by rw[show Try.prog.cellsOf 32=1 by kernel_rfl];decide,by kernel_rfl⟩
theorem ze34:zeroA Try.prog 34=some [.slice none 0 0,.slice none 0 0]:=by kernel_rfl
theorem sa34:structA Try.prog 34=some ([.slice none 0 0,.slice none 0 0],[(0,1),(1,1)]):=by kernel_rfl
theorem kd36:kindA Try.prog 36=some (some 4):=by kernel_rfl
theorem co36:Try.prog.cellsOf 36=4:=by kernel_rfl
theorem inf36:(Try.prog.info? 36).isSome=true:=by kernel_rfl
theorem F36_0:FA Try.prog 36 0 0 34:=⟨by kernel_rfl,by rw[show Try.prog.cellsOf 34=2 by kernel_rfl];decide,by kernel_rfl⟩
theorem F36_1:FA Try.prog 36 1 2 3:=⟨by kernel_rfl,by rw[show Try.prog.cellsOf 3=1 by kernel_rfl];decide,by kernel_rfl⟩
theorem F36_2:FA Try.prog 36 2 3 3:=⟨by kernel_rfl,by rw[show Try.prog.cellsOf 3=1 by kernel_rfl];decide,by kernel_rfl⟩
theorem ze36:zeroA Try.prog 36=some [.slice none 0 0,.slice none 0 0,.int .i64 0,.int .i64 0]:=by kernel_rfl
theorem sa36:structA Try.prog 36=some ([.slice none 0 0,.slice none 0 0,.int .i64 0,.int .i64 0],[(0,2),(2,1),(3,1)]):=by kernel_rfl
theorem kd40:kindA Try.prog 40=some (some 7):=by kernel_rfl
theorem co40:Try.prog.cellsOf 40=7:=by kernel_rfl
theorem inf40:(Try.prog.info? 40).isSome=true:=by kernel_rfl
theorem F40_0:FA Try.prog 40 0 0 3:=⟨by kernel_rfl,by rw[show Try.prog.cellsOf 3=1 by kernel_rfl];decide,by kernel_rfl⟩
theorem F40_1:FA Try.prog 40 1 1 3:=⟨by kernel_rfl,by rw[show Try.prog.cellsOf 3=1 by kernel_rfl];decide,by kernel_rfl⟩
theorem F40_2:FA Try.prog 40 2 2 3:=⟨by kernel_rfl,by rw[show Try.prog.cellsOf 3=1 by kernel_rfl];decide,by kernel_rfl⟩
theorem F40_3:FA Try.prog 40 3 3 3:=⟨by kernel_rfl,by rw[show Try.prog.cellsOf 3=1 by kernel_rfl];decide,by kernel_rfl⟩
theorem F40_4:FA Try.prog 40 4 4 3:=⟨by kernel_rfl,by rw[show Try.prog.cellsOf 3=1 by kernel_rfl];decide,by kernel_rfl⟩
theorem F40_5:FA Try.prog 40 5 5 3:=⟨by kernel_rfl,by rw[show Try.prog.cellsOf 3=1 by kernel_rfl];decide,by kernel_rfl⟩
theorem F40_6:FA Try.prog 40 6 6 4:=⟨by kernel_rfl,by rw[show Try.prog.cellsOf 4=1 by kernel_rfl];decide,by kernel_rfl⟩
theorem ze40:zeroA Try.prog 40=some [.int .i64 0,.int .i64 0,.int .i64 0,.int .i64 0,.int .i64 0,.int .i64 0,.bool false]:=by kernel_rfl
theorem sa40:structA Try.prog 40=some ([.int .i64 0,.int .i64 0,.int .i64 0,.int .i64 0,.int .i64 0,.int .i64 0,.bool false],[(0,1),(1,1),(2,1),(3,1),(4,1),(5,1),(6,1)]):=by kernel_rfl
theorem kd56:kindA Try.prog 56=some none:=by kernel_rfl
theorem co56:Try.prog.cellsOf 56=1:=by kernel_rfl
theorem inf56:(Try.prog.info? 56).isSome=true:=by kernel_rfl
theorem el56:elA Try.prog 56=some (5,1):=by kernel_rfl
theorem sl56:isSlice Try.prog 56=true:=by kernel_rfl
theorem kd92:kindA Try.prog 92=some (some 3):=by kernel_rfl
theorem F92_0:FA Try.prog 92 0 0 3:=⟨by kernel_rfl,by rw[show Try.prog.cellsOf 3=1 by kernel_rfl];decide,by kernel_rfl⟩
theorem F92_1:FA Try.prog 92 1 1 3:=⟨by kernel_rfl,by rw[show Try.prog.cellsOf 3=1 by kernel_rfl];decide,by kernel_rfl⟩
theorem F92_2:FA Try.prog 92 2 2 56:=⟨by kernel_rfl,by rw[show Try.prog.cellsOf 56=1 by kernel_rfl];decide,by kernel_rfl⟩
theorem sa92:structA Try.prog 92=some ([.int .i64 0,.int .i64 0,.slice none 0 0],[(0,1),(1,1),(2,1)]):=by kernel_rfl
theorem kd115:kindA Try.prog 115=some (some 1):=by kernel_rfl
theorem co115:Try.prog.cellsOf 115=1:=by kernel_rfl
theorem by115:Try.prog.bytesOf 115≤512:=Nat.le_of_ble_eq_true (by kernel_rfl)
theorem inf115:(Try.prog.info? 115).isSome=true:=by kernel_rfl
theorem F115_0:FA Try.prog 115 0 0 56:=⟨by kernel_rfl,by rw[show Try.prog.cellsOf 56=1 by kernel_rfl];decide,by kernel_rfl⟩
theorem ze115:zeroA Try.prog 115=some [.slice none 0 0]:=by kernel_rfl
theorem sa115:structA Try.prog 115=some ([.slice none 0 0],[(0,1)]):=by kernel_rfl
theorem kd123:kindA Try.prog 123=some (some 2):=by kernel_rfl
theorem co123:Try.prog.cellsOf 123=2:=by kernel_rfl
theorem by123:Try.prog.bytesOf 123≤512:=Nat.le_of_ble_eq_true (by kernel_rfl)
theorem inf123:(Try.prog.info? 123).isSome=true:=by kernel_rfl
theorem F123_0:FA Try.prog 123 0 0 3:=⟨by kernel_rfl,by rw[show Try.prog.cellsOf 3=1 by kernel_rfl];decide,by kernel_rfl⟩
theorem F123_1:FA Try.prog 123 1 1 56:=⟨by kernel_rfl,by rw[show Try.prog.cellsOf 56=1 by kernel_rfl];decide,by kernel_rfl⟩
theorem ze123:zeroA Try.prog 123=some [.int .i64 0,.slice none 0 0]:=by kernel_rfl
theorem sa123:structA Try.prog 123=some ([.int .i64 0,.slice none 0 0],[(0,1),(1,1)]):=by kernel_rfl
theorem el140:elA Try.prog 140=some (4,1):=by kernel_rfl
theorem kd149:kindA Try.prog 149=some (some 1):=by kernel_rfl
theorem F149_0:FA Try.prog 149 0 0 56:=⟨by kernel_rfl,by rw[show Try.prog.cellsOf 56=1 by kernel_rfl];decide,by kernel_rfl⟩
theorem kd151:kindA Try.prog 151=some (some 2):=by kernel_rfl
theorem F151_0:FA Try.prog 151 0 0 3:=⟨by kernel_rfl,by rw[show Try.prog.cellsOf 3=1 by kernel_rfl];decide,by kernel_rfl⟩
theorem F151_1:FA Try.prog 151 1 1 56:=⟨by kernel_rfl,by rw[show Try.prog.cellsOf 56=1 by kernel_rfl];decide,by kernel_rfl⟩
theorem sf40 : Try.prog.fieldsOf 40 = ([{ name := "Kind",type := 3,offset := 0,embedded := false,tag := "",pkgPath := "",byteOffset := 0 },{ name := "Key",type := 3,offset := 1,embedded := false,tag := "",pkgPath := "",byteOffset := 8 },{ name := "Ch",type := 3,offset := 2,embedded := false,tag := "",pkgPath := "",byteOffset := 16 },{ name := "To",type := 3,offset := 3,embedded := false,tag := "",pkgPath := "",byteOffset := 24 },{ name := "Amt",type := 3,offset := 4,embedded := false,tag := "",pkgPath := "",byteOffset := 32 },{ name := "Fee",type := 3,offset := 5,embedded := false,tag := "",pkgPath := "",byteOffset := 40 },{ name := "Yes",type := 4,offset := 6,embedded := false,tag := "",pkgPath := "",byteOffset := 48 }] : List Field).toArray := by unfold Program.fieldsOf;rw [Try.underlying40]
theorem su40:Try.prog.underlying 40=some (.struct (Try.prog.fieldsOf 40)):=by rw[sf40];exact Try.underlying40
theorem sh40:Try.prog.stoodInHeld 40=false:=by kernel_rfl
theorem sg40:Try.prog.eqGuardType Try.prog.depth 40=false:=by kernel_rfl
end Go.Proofs.Yteblcdnhnckkaaa.ty

namespace Go.Proofs.Yteblcdnhnckkaaa
open Go.RowKit
set_option maxHeartbeats 16000000
set_option maxRecDepth 100000
set_option linter.unusedSimpArgs false
set_option linter.unusedVariables false
def lessA(a b:Acc):Bool:=decide (a.kind<b.kind)||((a.kind==b.kind)&&decide (a.ch<b.ch))
def rangeA(n:Int):Bool:=inB n (-1125899906842624) 1125899906842624
theorem dec_beq(x y:Int):decide (x=y)=(x==y):=by by_cases h:x=y<;>simp[h]
theorem in_e(a b c:Int):GC Try.prog 47 [int a,int b,int c] [] (boo (inB a b c)) []:=by
 refine gi 6 Try.func47 rfl Try.ntmps47 rfl ?_
 intro L O w0
 refine sL<|laZ Z<|nA<|lmI Z<|lmI Z<|lbB Z<|lmB Z ?_
 refine AL.bool (t:=10) rfl ?_ ?_
 ·intro h1
  refine lmI Z<|lmI Z<|lbB Z<|lkB Z<|laB Z<|nG<|aR ?_
  refine eBo trivial ?_
  first|rfl|(simp_all[inB];done)|(simp_all[inB];omega)
 ·intro h1
  refine lno Z<|lno Z<|lno Z<|lkZ Z<|laZ Z<|nG<|aR ?_
  refine eBo trivial ?_
  first|rfl|(simp_all[inB];done)|(simp_all[inB];omega)

abbrev u64(n:Int):AV:=.p (.v (.int .u64 n))
theorem amtOk_e(n:Int):GC Try.prog 94 [int n] [] (boo (amtOk n)) []:=GC.of_vals (r:=.bool (amtOk n)) (RV.v_mk rfl) rfl fun w=>(impl_AmtOk_c n w).mono fun e w' h=>⟨h.1,h.2▸Grow.refl _⟩
theorem wrap64_eq(n:Int):IntKind.u64.wrap n=n%18446744073709551616:=by simp[IntKind.wrap,IntKind.signed,IntKind.bits]
theorem hw(a b c:Int):IntKind.u64.wrap (IntKind.u64.wrap (IntKind.u64.wrap a+b)-IntKind.u64.wrap c)=(a+b-c)%18446744073709551616:=by
 rw[wrap64_eq,wrap64_eq,wrap64_eq,wrap64_eq];omega

structure BookWf(x:Book):Prop where
 chans:∀c∈x.chans,wfChan c
 htlcs:∀c∈x.htlcs,wfHtlc c
 circles:∀c∈x.circles,wfCircle c
 len:x.chans.length≤1048576
theorem RVL.two{L:Nat→Prop}{ρ:Nat→Value}{H:Nat→AO}{w:World}{x y:AV}{cs:List Value}(h:RVL L ρ H w [x,y] cs):∃c d,cs=[c,d]∧RV L ρ H w x c∧RV L ρ H w y d:=by
 simp only[RVL]at h
 obtain⟨c,r,rfl,h1,d,r',rfl,h2,rfl⟩:=h
 exact⟨c,d,rfl,h1,h2⟩

def hOne(ch:Int)(h:Htlc):Int:=if h.out=ch then 1 else 0
def SmallH(l:List Htlc):Prop:=l.length≤60∧∀h∈l,0≤h.amtOut∧h.amtOut≤1125899906842624
theorem SmallH.at{l:List Htlc}(s:SmallH l){k:Nat}(hk:k<l.length):0≤l[k].amtOut∧l[k].amtOut≤1125899906842624:=s.2 _ (List.getElem_mem hk)
theorem SmallH.all{l:List Htlc}(s:SmallH l)(ch:Int)(k:Nat):0≤tot (hOut ch) (l.take k)∧tot (hOut ch) (l.take k)≤60*1125899906842624:=tot_lim 60 (by decide) (fun h hh=>by have:=s.2 h hh;unfold hOut;split<;>omega) s.1 k
theorem SmallH.one{l:List Htlc}(s:SmallH l)(ch:Int)(k:Nat):0≤tot (hOne ch) (l.take k)∧tot (hOne ch) (l.take k)≤60*1:=tot_lim 60 (by decide) (fun h hh=>by unfold hOne;split<;>omega) s.1 k

def insL:List Line→Line→List Line
 |[],x=>[x]
 |y::l,x=>if lessA y.acc x.acc then y::insL l x else x::y::l
def addL(l:List Line)(k c n:Int):List Line:=if n=0 then l else insL l ⟨⟨k,c⟩,n⟩
theorem mem_insL{y x:Line}:∀ {l:List Line},y∈insL l x→y∈l∨y=x
 |[],h=>by simp[insL]at h;exact .inr h
 |z::l,h=>by
  unfold insL at h
  split at h
  ·rcases List.mem_cons.1 h with h|h
   ·exact .inl (by simp[h])
   ·rcases mem_insL h with h|h
    ·exact .inl (by simp[h])
    ·exact .inr h
  ·rcases List.mem_cons.1 h with h|h
   ·exact .inr h
   ·exact .inl h
theorem insL_length(x:Line):∀(l:List Line),(insL l x).length=l.length+1
 |[]=>rfl
 |z::l=>by unfold insL;split<;>simp[insL_length x l]
theorem mem_addL{y:Line}{l:List Line}{k c n:Int}(h:y∈addL l k c n):y∈l∨(y.acc.kind=k∧y.acc.ch=c∧y.amt=n):=by
 unfold addL at h
 split at h
 ·exact .inl h
 ·rcases mem_insL h with h|rfl
  ·exact .inl h
  ·exact .inr ⟨rfl,rfl,rfl⟩
structure LG(l:List Line)(m:Nat):Prop where
 len:l.length≤m
 rng:∀y∈l,rangeA y.amt=true
def Fresh(l:List Line)(k c:Int):Prop:=∀y∈l,¬(y.acc.kind=k∧y.acc.ch=c)
theorem LG.nil:LG [] 0:=⟨Nat.le_refl _,by simp⟩
theorem LG.add{l:List Line}{m:Nat}{k c n:Int}(h:LG l m)(hn:rangeA n=true):LG (addL l k c n) (m+1):=by
 refine⟨?_,fun y hy=>?_⟩
 ·unfold addL
  split
  ·have:=h.len;omega
  ·rw[insL_length];have:=h.len;omega
 ·rcases mem_addL hy with q|q
  ·exact h.rng y q
  ·rw[q.2.2];exact hn
theorem Fresh.nil(k c:Int):Fresh [] k c:=by simp[Fresh]
theorem Fresh.add{l:List Line}{k c k' c' n:Int}(h:Fresh l k c)(hd:k'≠k∨c'≠c):Fresh (addL l k' c' n) k c:=fun y hy q=>by
 rcases mem_addL hy with r|r
 ·exact h y r q
 ·omega
theorem rows_some{α:Type}{enc:α→List Value}{l:List α}{i:Nat}{c:α}(h:l[i]? = some c):(rowsOf enc l)[i]? = some ((enc c).map PV.v):=by unfold rowsOf;rw[List.getElem?_map,h];rfl
theorem rows_set{α:Type}{enc:α→List Value}{l:List α}{i:Nat}{c:α}:(rowsOf enc l).set i ((enc c).map PV.v)=rowsOf enc (l.set i c):=by unfold rowsOf;rw[List.map_set]
structure WR where
 b:Book
 l:List Line
 c:Int
abbrev evV(e:Event):AV:=.agg [int e.kind,int e.key,int e.ch,int e.to,int e.amt,int e.fee,boo e.yes]

def encBool(b:Bool):List Value:=[.bool b]
def hK(k:Int):Bool:=!decide (k=1∨k=2∨k=3∨k=4∨k=8)
def hC(k:Int):Bool:=decide (k=2∨k=3∨k=4∨k=5∨k=9)
def hT(k:Int):Bool:=decide (k=5∨k=9)
def hA(k:Int):Bool:=decide (k=1∨k=2∨k=4∨k=5∨k=9)
def hF(k:Int):Bool:=decide (k=2∨k=3∨k=4∨k=9)
def hY(k:Int):Bool:=decide (k=5)
def fieldB(has:Bool)(n lo hi:Int):Bool:=if has then inB n lo hi else n==0
def eventOk(e:Event):Bool:=inB e.kind 1 11&&fieldB (hK e.kind) e.key 1 1000000&&fieldB (hC e.kind) e.ch 1 99&&fieldB (hT e.kind) e.to 1 99&&!(hT e.kind&&e.ch==e.to) &&
 fieldB (hA e.kind) e.amt (if e.kind=4 then 0 else 1) 1125899906842624&&fieldB (hF e.kind) e.fee 0 (if e.kind=4 then 1000000 else 1125899906842624)&&(hY e.kind||!e.yes)
theorem evAmt{e:Event}(h:eventOk e=true):amtOk e.amt=true∧amtOk e.fee=true:=by
 unfold eventOk at h
 simp only[Bool.and_eq_true]at h
 obtain⟨⟨⟨_,h1⟩,h2⟩,_⟩:=h
 rw[amtOk_true,amtOk_true]
 unfold fieldB at h1 h2
 constructor
 ·split at h1
  ·have:=inB_true.1 h1
   split at this<;>omega
  ·simp at h1;omega
 ·split at h2
  ·have:=inB_true.1 h2
   split at this<;>omega
  ·simp at h2;omega
theorem evNone{e:Event}(h:¬(1≤e.kind∧e.kind≤11)):eventOk e=false:=by
 unfold eventOk
 rw[show inB e.kind 1 11=false from by rw[inB_false];omega]
 rfl
theorem isKey_e(n:Int):GC Try.prog 96 [int n] [] (boo (keyOk n)) []:=GC.of_vals (r:=.bool (keyOk n)) (RV.v_mk rfl) rfl fun w=>(isKey_c n w).mono fun e w' h=>⟨h.1,h.2▸Grow.refl _⟩
theorem isChan_e(n:Int):GC Try.prog 95 [int n] [] (boo (chOk n)) []:=GC.of_vals (r:=.bool (chOk n)) (RV.v_mk rfl) rfl fun w=>(isChan_c n w).mono fun e w' h=>⟨h.1,h.2▸Grow.refl _⟩
theorem sfield_e(has:Bool)(n lo hi:Int):GC Try.prog 90 [boo has,int n,int lo,int hi] [] (boo (fieldB has n lo hi)) []:=by
 refine gi 8 Try.func90 rfl Try.ntmps90 rfl ?_
 intro L O w0
 refine sL<|laZ Z<|nG<|aS<|sL<|lmB Z<|luB Z<|nG ?_
 refine AW.cond rfl ?_ ?_
 ·intro h1
  refine sL<|lmI Z<|lbB Z<|laB Z<|nG<|aR<|rT ?_
  refine eBo trivial ?_
  unfold fieldB inB
  first|(simp_all;done)|(simp_all[dec_beq];done)|(simp_all;intros;omega)
 ·intro h1
  refine aK<|gA<|lmI Z<|lmI Z<|lbB Z<|lmB Z ?_
  refine AL.bool (t:=16) rfl ?_ ?_
  ·intro h2
   refine lmI Z<|lmI Z<|lbB Z<|lkB Z<|laB Z<|nG<|aR ?_
   refine eBo trivial ?_
   unfold fieldB inB
   first|(simp_all;done)|(simp_all[dec_beq];done)|(simp_all;intros;omega)
  ·intro h2
   refine lno Z<|lno Z<|lno Z<|lkZ Z<|laZ Z<|nG<|aR ?_
   refine eBo trivial ?_
   unfold fieldB inB
   first|(simp_all;done)|(simp_all[dec_beq];done)|(simp_all;intros;omega)
theorem shas_e(k:Int):GC Try.prog 89 [int k] [] (.own 60) [(60,.arr 4 1 (rowsOf encBool [hK k,hC k,hT k,hA k,hF k,hY k]))]:=by
 refine gi 2 Try.func89 rfl Try.ntmps89 rfl ?_
 intro L O w0
 refine sL<|laV Z<|nG<|aS<|sL<|lmI Z<|nG<|aB<|sL<|lbB Z<|laB Z<|nG ?_
 refine AW.cond rfl ?_ ?_
 ·intro h1
  refine sL<|lst (zS 60 (rowsOf encBool [false,false,false,true,false,false]) ty.el140 ty.ze4 rfl (by intro r hr;simp only[rowsOf,encBool,List.map_cons,List.map_nil,List.mem_cons,List.not_mem_nil,or_false]at hr;rcases hr with h|h|h|h|h|h<;>(subst h;rfl))) Z<|laO Z<|nG<|aR<|rB<|rT ?_
  refine end_ret ?_ ⟨(congrArg (fun l=>AO.arr 4 1 (rowsOf encBool l)) (by unfold hK hC hT hA hF hY;simp_all)),trivial⟩
  rfl
 ·intro h1
  refine aS<|sL<|lbB Z<|laB Z<|nG ?_
  refine AW.cond rfl ?_ ?_
  ·intro h2
   refine asB 7 true rfl h2<|aK<|gT<|aY Z<|sL<|lst (zS 60 (rowsOf encBool [false,true,false,true,true,false]) ty.el140 ty.ze4 rfl (by intro r hr;simp only[rowsOf,encBool,List.map_cons,List.map_nil,List.mem_cons,List.not_mem_nil,or_false]at hr;rcases hr with h|h|h|h|h|h<;>(subst h;rfl))) Z<|laO Z<|nG<|aR<|rB<|rT ?_
   refine end_ret ?_ ⟨(congrArg (fun l=>AO.arr 4 1 (rowsOf encBool l)) (by unfold hK hC hT hA hF hY;simp_all)),trivial⟩
   rfl
  ·intro h2
   refine asB 7 false Z h2<|aL<|lbB Z<|laB Z<|nG ?_
   refine AW.cond rfl ?_ ?_
   ·intro h3
    refine sL<|lst (zS 60 (rowsOf encBool [false,true,false,true,true,false]) ty.el140 ty.ze4 rfl (by intro r hr;simp only[rowsOf,encBool,List.map_cons,List.map_nil,List.mem_cons,List.not_mem_nil,or_false]at hr;rcases hr with h|h|h|h|h|h<;>(subst h;rfl))) Z<|laO Z<|nG<|aR<|rB<|rT ?_
    refine end_ret ?_ ⟨(congrArg (fun l=>AO.arr 4 1 (rowsOf encBool l)) (by unfold hK hC hT hA hF hY;simp_all)),trivial⟩
    rfl
   ·intro h3
    refine sL<|lbB Z<|laB Z<|nG ?_
    refine AW.cond rfl ?_ ?_
    ·intro h4
     refine sL<|lst (zS 60 (rowsOf encBool [false,true,false,false,true,false]) ty.el140 ty.ze4 rfl (by intro r hr;simp only[rowsOf,encBool,List.map_cons,List.map_nil,List.mem_cons,List.not_mem_nil,or_false]at hr;rcases hr with h|h|h|h|h|h<;>(subst h;rfl))) Z<|lT [2,13] [60] ?_
     refine laO Z<|nG<|aR<|rB<|rT ?_
     refine end_ret ?_ ⟨(congrArg (fun l=>AO.arr 4 1 (rowsOf encBool l)) (by unfold hK hC hT hA hF hY;simp_all)),trivial⟩
     rfl
    ·intro h4
     refine sL<|lbB Z<|laB Z<|nG ?_
     refine AW.cond rfl ?_ ?_
     ·intro h5
      refine sL<|lst (zS 60 (rowsOf encBool [true,true,true,true,false,true]) ty.el140 ty.ze4 rfl (by intro r hr;simp only[rowsOf,encBool,List.map_cons,List.map_nil,List.mem_cons,List.not_mem_nil,or_false]at hr;rcases hr with h|h|h|h|h|h<;>(subst h;rfl))) Z<|laO Z<|nG<|aR<|rB<|rT ?_
      refine end_ret ?_ ⟨(congrArg (fun l=>AO.arr 4 1 (rowsOf encBool l)) (by unfold hK hC hT hA hF hY;simp_all)),trivial⟩
      rfl
     ·intro h5
      refine sL<|lbB Z<|laB Z<|nG ?_
      refine AW.cond rfl ?_ ?_
      ·intro h6
       refine sL<|lst (zS 60 (rowsOf encBool [true,true,true,true,true,false]) ty.el140 ty.ze4 rfl (by intro r hr;simp only[rowsOf,encBool,List.map_cons,List.map_nil,List.mem_cons,List.not_mem_nil,or_false]at hr;rcases hr with h|h|h|h|h|h<;>(subst h;rfl))) Z<|laO Z<|nG<|aR<|rB<|rT ?_
       refine end_ret ?_ ⟨(congrArg (fun l=>AO.arr 4 1 (rowsOf encBool l)) (by unfold hK hC hT hA hF hY;simp_all)),trivial⟩
       rfl
      ·intro h6
       refine sL<|lbB Z<|laB Z<|nG ?_
       refine AW.cond rfl ?_ ?_
       ·intro h7
        refine sL<|lst (zS 60 (rowsOf encBool [false,false,false,false,false,false]) ty.el140 ty.ze4 rfl (by intro r hr;simp only[rowsOf,encBool,List.map_cons,List.map_nil,List.mem_cons,List.not_mem_nil,or_false]at hr;rcases hr with h|h|h|h|h|h<;>(subst h;rfl))) Z<|laO Z<|nG<|aR<|rB<|rT ?_
        refine end_ret ?_ ⟨(congrArg (fun l=>AO.arr 4 1 (rowsOf encBool l)) (by unfold hK hC hT hA hF hY;simp_all)),trivial⟩
        rfl
       ·intro h7
        refine aK<|gB<|gA<|lst (zS 60 (rowsOf encBool [true,false,false,false,false,false]) ty.el140 ty.ze4 rfl (by intro r hr;simp only[rowsOf,encBool,List.map_cons,List.map_nil,List.mem_cons,List.not_mem_nil,or_false]at hr;rcases hr with h|h|h|h|h|h<;>(subst h;rfl))) Z<|lT [2,23] [60] ?_
        refine laO Z<|nG<|aR ?_
        refine end_ret ?_ ⟨(congrArg (fun l=>AO.arr 4 1 (rowsOf encBool l)) (by unfold hK hC hT hA hF hY;simp_all)),trivial⟩
        rfl
theorem seventOk_e(e:Event):GC Try.prog 42 [evV e] [] (boo (eventOk e)) []:=by
 refine gi 2 Try.func42 rfl Try.ntmps42 rfl ?_
 intro L O w0
 refine sL<|lst (zX 2001 Z) Z<|laZ Z<|nG<|aS<|sL<|lf 0 ty.F40_0 Z<|loI ty.kd3 Z<|lbB Z<|lmB Z ?_
 refine AL.bool (t:=9) rfl ?_ ?_
 ·intro h1
  refine lno Z<|lno Z<|lno Z<|lkT Z<|nG<|aY Z<|sL<|laZ Z<|nG<|aR<|rT ?_
  refine eBo trivial ?_
  unfold eventOk
  first
  |(simp_all;done)
  |(simp_all[inB];done)
  |(simp_all[inB];intros;omega)
 ·intro h1
  refine lf 0 ty.F40_0 Z<|loI ty.kd3 Z<|lbB Z<|lkB Z<|nG ?_
  refine AW.cond rfl ?_ ?_
  ·intro h2
   refine sL<|laZ Z<|nG<|aR<|rT ?_
   refine eBo trivial ?_
   unfold eventOk
   first
   |(simp_all;done)
   |(simp_all[inB];done)
   |(simp_all[inB];intros;omega)
  ·intro h2
   refine aK<|gA<|lf 0 ty.F40_0 Z<|loI ty.kd3 Z<|lst (zC [(60,60)] [60] [] Try.func89 (shas_e _) (trivial) Z Z) Z<|lT [1,2,16] [60,2001] ?_
   refine laO Z<|nA<|laI Z<|nA<|laI Z<|nG ?_
   refine aJ [1,2,3] [60,2001] (D:=Unit) (fun jd=>[(4,int (if e.kind=4 then 0 else 1)),(5,int (if e.kind=4 then 1000000 else 1125899906842624))]) (fun jd=>[]) (fun jd=>True) ?_ ?_
   ·refine sL<|lf 0 ty.F40_0 Z<|loI ty.kd3 Z<|lbB Z<|nG ?_
    refine AW.cond rfl ?_ ?_
    ·intro h3
     refine sL<|laI Z<|nG<|aL<|laI Z<|nG ?_
     refine⟨(),trivial,⟨(Eq.trans (b:=int _) rfl (congrArg int (by rw[if_pos (by simpa using h3)]))),(Eq.trans (b:=int _) rfl (congrArg int (by rw[if_pos (by simpa using h3)]))),trivial⟩,trivial,rfl,rfl⟩
    ·intro h3
     refine aK<|gT ?_
     refine⟨(),trivial,⟨(Eq.trans (b:=int _) rfl (congrArg int (by rw[if_neg (by simpa using h3)]))),(Eq.trans (b:=int _) rfl (congrArg int (by rw[if_neg (by simpa using h3)]))),trivial⟩,trivial,rfl,rfl⟩
   ·intro jd hJ
    refine aS<|aS<|aG 36 []<|tq 0 (rmO rfl)<|tq 1 (rj 0 ty.el140 rfl (by show 0<6;decide))<|tq 2 (rd (x:=vB _) (rd_load_arr rfl ty.kd4 rfl rfl rfl (rfl) rfl) rfl)<|yq 3 (rf 1 ty.F40_1 rfl)<|yq 4 (roI ty.kd3 rfl)<|yst 5 rfl (zL Try.func90 (sfield_e _ _ _ _) rfl)<|yq 6 (ruB rfl)<|yq 7 (rmB rfl) ?_
    refine AG.bool (t:=27) rfl ?_ ?_
    ·intro h4
     refine tno 8 Z<|tno 9 Z<|tno 10 Z<|yno 11 Z<|yno 12 Z<|yno 13 Z<|yno 14 Z<|yq 15 (rkT Z)<|yq 16 (rmT Z)<|tno 17 Z<|tno 18 Z<|tno 19 Z<|yno 20 Z<|yno 21 Z<|yno 22 Z<|yno 23 Z<|yq 24 (rkT Z)<|yq 25 (rmT Z)<|yno 26 Z<|yno 27 Z<|yno 28 Z<|yno 29 Z<|tno 30 Z<|tno 31 Z<|yno 32 Z<|yno 33 Z<|yno 34 Z<|yno 35 Z<|yq 36 (rkT Z)<|gD ?_
     refine gT<|aY Z<|sL<|laZ Z<|nG<|aR<|rT ?_
     refine eBo trivial ?_
     unfold eventOk
     first
     |(simp_all;done)
     |(simp_all[inB];done)
     |(simp_all[inB];intros;omega)
    ·intro h4
     refine tq 8 (rmO rfl)<|tq 9 (rj 1 ty.el140 rfl (by show 1<6;decide))<|tq 10 (rd (x:=vB _) (rd_load_arr rfl ty.kd4 rfl rfl rfl (rfl) rfl) rfl)<|yq 11 (rf 2 ty.F40_2 rfl)<|yq 12 (roI ty.kd3 rfl)<|yst 13 rfl (zL Try.func90 (sfield_e _ _ _ _) rfl)<|gX [1,2,3,4,5,27,33] [60,2001] ?_
     refine yq 14 (ruB Z)<|yq 15 (rkB Z)<|yq 16 (rmB Z) ?_
     refine AG.bool (t:=36) rfl ?_ ?_
     ·intro h5
      refine tno 17 Z<|tno 18 Z<|tno 19 Z<|yno 20 Z<|yno 21 Z<|yno 22 Z<|yno 23 Z<|yq 24 (rkT Z)<|yq 25 (rmT Z)<|yno 26 Z<|yno 27 Z<|yno 28 Z<|yno 29 Z<|tno 30 Z<|tno 31 Z<|yno 32 Z<|yno 33 Z<|yno 34 Z<|yno 35 Z<|yq 36 (rkT Z)<|gD<|gT<|aY Z<|sL<|laZ Z<|nG<|aR<|rT ?_
      refine eBo trivial ?_
      unfold eventOk
      first
      |(simp_all;done)
      |(simp_all[inB];done)
      |(simp_all[inB];intros;omega)
     ·intro h5
      refine tq 17 (rmO rfl)<|tq 18 (rj 2 ty.el140 rfl (by show 2<6;decide))<|tq 19 (rd (x:=vB _) (rd_load_arr rfl ty.kd4 rfl rfl rfl (rfl) rfl) rfl)<|yq 20 (rf 3 ty.F40_3 rfl)<|yq 21 (roI ty.kd3 rfl)<|yst 22 rfl (zL Try.func90 (sfield_e _ _ _ _) rfl)<|yq 23 (ruB rfl)<|yq 24 (rkB rfl)<|yq 25 (rmB rfl) ?_
      refine AG.bool (t:=45) rfl ?_ ?_
      ·intro h6
       refine yno 26 Z<|yno 27 Z<|yno 28 Z<|yno 29 Z<|tno 30 Z<|tno 31 Z<|yno 32 Z<|yno 33 Z<|yno 34 Z<|yno 35 Z<|yq 36 (rkT Z)<|gD<|gT<|aY Z<|sL<|laZ Z<|nG<|aR<|rT ?_
       refine eBo trivial ?_
       unfold eventOk
       first
       |(simp_all;done)
       |(simp_all[inB];done)
       |(simp_all[inB];intros;omega)
      ·intro h6
       refine yq 26 (rmO rfl)<|yq 27 (rj 2 ty.el140 rfl (by show 2<6;decide))<|yq 28 (rd (x:=vB _) (rd_load_arr rfl ty.kd4 rfl rfl rfl (rfl) rfl) rfl)<|yq 29 (rmB rfl) ?_
       refine AG.bool (t:=49) rfl ?_ ?_
       ·intro h7
        refine tq 30 (rf 2 ty.F40_2 Z)<|tq 31 (roI ty.kd3 Z)<|yq 32 (rf 3 ty.F40_3 Z)<|yq 33 (roI ty.kd3 Z)<|yq 34 (rbB Z)<|yq 35 (rkB Z)<|yq 36 (rkB Z)<|gD<|gT ?_
        refine AW.cond rfl ?_ ?_
        ·intro h8
         refine sL<|laZ Z<|lT [1,2,3,4,5] [60,2001] ?_
         refine nG<|aR<|rT ?_
         refine eBo trivial ?_
         unfold eventOk
         first
         |(simp_all;done)
         |(simp_all[inB];done)
         |(simp_all[inB];intros;omega)
        ·intro h8
         refine aK<|gT<|aS<|aG 26 []<|tq 0 (rmO rfl)<|tq 1 (rj 3 ty.el140 rfl (by show 3<6;decide))<|tq 2 (rd (x:=vB _) (rd_load_arr rfl ty.kd4 rfl rfl rfl (rfl) rfl) rfl)<|tq 3 (rf 4 ty.F40_4 rfl)<|tq 4 (roI ty.kd3 rfl)<|yq 5 (rmI rfl)<|yst 6 rfl (zL Try.func90 (sfield_e _ _ _ _) rfl)<|yq 7 (rmB rfl) ?_
         refine AG.bool (t:=64) rfl ?_ ?_
         ·intro h9
          refine tq 8 (rmO rfl)<|tq 9 (rj 4 ty.el140 rfl (by show 4<6;decide))<|tq 10 (rd (x:=vB _) (rd_load_arr rfl ty.kd4 rfl rfl rfl (rfl) rfl) rfl)<|tq 11 (rf 5 ty.F40_5 rfl)<|tq 12 (roI ty.kd3 rfl)<|yq 13 (rmI rfl)<|yst 14 rfl (zL Try.func90 (sfield_e _ _ _ _) rfl)<|gX [1,2,3,64,71] [60,2001] ?_
          refine yq 15 (rkB Z)<|yq 16 (rmB Z) ?_
          refine AG.bool (t:=73) rfl ?_ ?_
          ·intro h10
           refine yq 17 (rmO rfl)<|yq 18 (rj 5 ty.el140 rfl (by show 5<6;decide))<|yq 19 (rd (x:=vB _) (rd_load_arr rfl ty.kd4 rfl rfl rfl (rfl) rfl) rfl)<|yq 20 (rmB rfl) ?_
           refine AG.bool (t:=77) rfl ?_ ?_
           ·intro h11
            refine yno 21 Z<|yno 22 Z<|yno 23 Z<|yq 24 (rkT Z)<|yq 25 (rkT Z)<|yq 26 (raT Z)<|gD<|gT<|aR ?_
            refine eBo trivial ?_
            unfold eventOk
            first
            |(simp_all;done)
            |(simp_all[inB];done)
            |(simp_all[inB];intros;omega)
           ·intro h11
            refine yq 21 (rf 6 ty.F40_6 Z)<|yq 22 (roB ty.kd4 Z)<|yq 23 (ruB Z)<|yq 24 (rkB Z)<|yq 25 (rkB Z)<|yq 26 (raB Z)<|gD<|gT<|aR ?_
            refine eBo trivial ?_
            unfold eventOk
            first
            |(simp_all;done)
            |(simp_all[inB];done)
            |(simp_all[inB];intros;omega)
          ·intro h10
           refine yno 17 Z<|yno 18 Z<|yno 19 Z<|yno 20 Z<|yno 21 Z<|yno 22 Z<|yno 23 Z<|yno 24 Z<|yq 25 (rkZ Z)<|yq 26 (raZ Z)<|gD<|gT<|aR ?_
           refine eBo trivial ?_
           unfold eventOk
           first
           |(simp_all;done)
           |(simp_all[inB];done)
           |(simp_all[inB];intros;omega)
         ·intro h9
          refine tno 8 Z<|tno 9 Z<|tno 10 Z<|tno 11 Z<|tno 12 Z<|yno 13 Z<|yno 14 Z<|yq 15 (rkZ Z)<|yq 16 (rmZ Z)<|yno 17 Z<|yno 18 Z<|yno 19 Z<|yno 20 Z<|yno 21 Z<|yno 22 Z<|yno 23 Z<|yno 24 Z<|yq 25 (rkZ Z)<|yq 26 (raZ Z)<|gD<|gT<|aR ?_
          refine eBo trivial ?_
          unfold eventOk
          first
          |(simp_all;done)
          |(simp_all[inB];done)
          |(simp_all[inB];intros;omega)
       ·intro h7
        refine tno 30 Z<|tno 31 Z<|yno 32 Z<|yno 33 Z<|yno 34 Z<|yq 35 (rkZ rfl)<|yq 36 (rkZ rfl)<|gD<|gT<|aN Z<|aK<|gT<|aS<|aG 26 []<|tq 0 (rmO rfl)<|tq 1 (rj 3 ty.el140 rfl (by show 3<6;decide))<|tq 2 (rd (x:=vB _) (rd_load_arr rfl ty.kd4 rfl rfl rfl (rfl) rfl) rfl)<|tq 3 (rf 4 ty.F40_4 rfl)<|tq 4 (roI ty.kd3 rfl)<|yq 5 (rmI rfl)<|yst 6 rfl (zL Try.func90 (sfield_e _ _ _ _) rfl)<|gX [1,2,3,5,63] [60,2001] ?_
        refine yq 7 (rmB rfl) ?_
        refine AG.bool (t:=64) rfl ?_ ?_
        ·intro h12
         refine tq 8 (rmO rfl)<|tq 9 (rj 4 ty.el140 rfl (by show 4<6;decide))<|tq 10 (rd (x:=vB _) (rd_load_arr rfl ty.kd4 rfl rfl rfl (rfl) rfl) rfl)<|tq 11 (rf 5 ty.F40_5 rfl)<|tq 12 (roI ty.kd3 rfl)<|yq 13 (rmI rfl)<|yst 14 rfl (zL Try.func90 (sfield_e _ _ _ _) rfl)<|yq 15 (rkB rfl)<|yq 16 (rmB rfl) ?_
         refine AG.bool (t:=73) rfl ?_ ?_
         ·intro h13
          refine yq 17 (rmO rfl)<|yq 18 (rj 5 ty.el140 rfl (by show 5<6;decide))<|yq 19 (rd (x:=vB _) (rd_load_arr rfl ty.kd4 rfl rfl rfl (rfl) rfl) rfl)<|yq 20 (rmB rfl) ?_
          refine AG.bool (t:=77) rfl ?_ ?_
          ·intro h14
           refine yno 21 Z<|yno 22 Z<|yno 23 Z<|yq 24 (rkT Z)<|yq 25 (rkT Z)<|yq 26 (raT Z)<|gD<|gT<|aR ?_
           refine eBo trivial ?_
           unfold eventOk
           first
           |(simp_all;done)
           |(simp_all[inB];done)
           |(simp_all[inB];intros;omega)
          ·intro h14
           refine yq 21 (rf 6 ty.F40_6 Z)<|yq 22 (roB ty.kd4 Z)<|yq 23 (ruB Z)<|yq 24 (rkB Z)<|yq 25 (rkB Z)<|yq 26 (raB Z)<|gD<|gT<|aR ?_
           refine eBo trivial ?_
           unfold eventOk
           first
           |(simp_all;done)
           |(simp_all[inB];done)
           |(simp_all[inB];intros;omega)
         ·intro h13
          refine yno 17 Z<|yno 18 Z<|yno 19 Z<|yno 20 Z<|yno 21 Z<|yno 22 Z<|yno 23 Z<|yno 24 Z<|yq 25 (rkZ Z)<|yq 26 (raZ Z)<|gD<|gT<|aR ?_
          refine eBo trivial ?_
          unfold eventOk
          first
          |(simp_all;done)
          |(simp_all[inB];done)
          |(simp_all[inB];intros;omega)
        ·intro h12
         refine tno 8 Z<|tno 9 Z<|tno 10 Z<|tno 11 Z<|tno 12 Z<|yno 13 Z<|yno 14 Z<|yq 15 (rkZ Z)<|yq 16 (rmZ Z)<|yno 17 Z<|yno 18 Z<|yno 19 Z<|yno 20 Z<|yno 21 Z<|yno 22 Z<|yno 23 Z<|yno 24 Z<|yq 25 (rkZ Z)<|yq 26 (raZ Z)<|gD<|gT<|aR ?_
         refine eBo trivial ?_
         unfold eventOk
         first
         |(simp_all;done)
         |(simp_all[inB];done)
         |(simp_all[inB];intros;omega)
theorem eventOk_e(e:Event):GC Try.prog 48 [evV e] [] (boo (eventOk e)) []:=by
 refine gi 2 Try.func48 rfl Try.ntmps48 rfl ?_
 intro L O w0
 refine sL<|lst (zX 2001 Z) Z<|laZ Z<|nG<|aS<|sL<|lf 4 ty.F40_4 Z<|loI ty.kd3 Z<|lst (zL Try.func94 (amtOk_e _) Z) Z<|luB Z<|lmB Z ?_
 refine AL.bool (t:=9) rfl ?_ ?_
 ·intro h1
  refine lno Z<|lno Z<|lno Z<|lno Z<|lkT Z<|nG<|aY Z<|sL<|laZ Z<|nG<|aR<|rT ?_
  refine eBo trivial ?_
  rcases hq:eventOk e with _|_
  ·rfl
  ·have:=evAmt hq;simp_all
 ·intro h1
  refine lf 5 ty.F40_5 Z<|loI ty.kd3 Z<|lst (zL Try.func94 (amtOk_e _) Z) Z<|luB Z<|lkB Z<|nG ?_
  refine AW.cond rfl ?_ ?_
  ·intro h2
   refine sL<|laZ Z<|nG<|aR<|rT ?_
   refine eBo trivial ?_
   rcases hq:eventOk e with _|_
   ·rfl
   ·have:=evAmt hq;simp_all
  ·intro h2
   refine aK<|gA<|lf 0 ty.F40_0 Z<|loI ty.kd3 Z<|lq (rd (x:=.agg [vI _ _,vI _ _,vI _ _,vI _ _,vI _ _,vI _ _,vB false]) (rd_build Z ty.sa40 Z Z Z) Z)<|lst (zA 2003 ty.ze40 Z) Z<|lT [1,2,3,17] [2001,2003] ?_
   refine lst (zB 2003 ty.co40 ty.inf40 Z) Z<|nA<|laT Z<|nG<|aS<|sL<|lf 0 ty.F40_0 Z<|loI ty.kd3 Z<|nG<|aB<|sL<|lbB Z<|laB Z<|nG ?_
   refine AW.cond rfl ?_ ?_
   ·intro h3
    refine sL<|lf 4 ty.F40_4 Z<|loI ty.kd3 Z<|lf 4 ty.F40_4 Z<|lst (zB 2003 ty.co3 ty.inf3 Z) Z<|nG<|aL<|lf 4 ty.F40_4 Z<|loI ty.kd3 Z<|lbB Z<|laB Z<|lN<|gB<|gA<|lmB Z<|lmB Z ?_
    refine AL.bool (t:=175) rfl ?_ ?_
    ·intro h4
     refine loX (.agg [vI _ _,vI _ _,vI _ _,vI _ _,vI _ _,vI _ _,vB _]) ty.kd40 Z<|loX (.agg [vI _ _,vI _ _,vI _ _,vI _ _,vI _ _,vI _ _,vB false]) ty.kd40 Z<|lq (rd (x:=vB _) (rd_eqS rfl (.inl rfl) rfl rfl ty.sf40 ty.su40 ty.sh40 ty.sg40 ?hn1) rfl) ?_
     case hn1=>exact⟨rfl,by decide,rfl,⟨_,Try.underlying3⟩,rfl,by decide,rfl,⟨_,Try.underlying3⟩,rfl,by decide,rfl,⟨_,Try.underlying3⟩,rfl,by decide,rfl,⟨_,Try.underlying3⟩,rfl,by decide,rfl,⟨_,Try.underlying3⟩,rfl,by decide,rfl,⟨_,Try.underlying3⟩,by decide,rfl,Try.underlying4,trivial⟩
     refine lkB Z<|laB Z<|nG<|aR ?_
     refine eBo trivial ?_
     have hkd:e.kind=1:=by simpa using h3
     have ha1:amtOk e.amt=true:=by simpa using h1
     have ha2:amtOk e.fee=true:=by simpa using h2
     clear h1 h2 h3
     unfold eventOk
     rw[hkd]
     rcases hy:e.yes with _|_<;>refine Bool.eq_iff_iff.2 ?_<;>simp[fieldB,hK,hC,hT,hA,hF,hY,inB,eqVals,amtOk,keyOk,chOk]at * <;> omega
    ·intro h4
     refine lno Z<|lno Z<|lno Z<|lkZ Z<|laZ Z<|nG<|aR ?_
     refine eBo trivial ?_
     have hkd:e.kind=1:=by simpa using h3
     have ha1:amtOk e.amt=true:=by simpa using h1
     have ha2:amtOk e.fee=true:=by simpa using h2
     clear h1 h2 h3
     unfold eventOk
     rw[hkd]
     rcases hy:e.yes with _|_<;>refine Bool.eq_iff_iff.2 ?_<;>simp[fieldB,hK,hC,hT,hA,hF,hY,inB,eqVals,amtOk,keyOk,chOk]at * <;> omega
   ·intro h3
    refine sL<|lbB Z<|laB Z<|nG ?_
    refine AW.cond rfl ?_ ?_
    ·intro h5
     refine aS<|aG 11 [2003]<|tq 0 (rf 2 ty.F40_2 Z)<|tq 1 (roI ty.kd3 Z)<|tq 2 (rf 4 ty.F40_4 Z)<|tq 3 (roI ty.kd3 Z)<|tq 4 (rf 5 ty.F40_5 Z)<|gX [1,2,3,4,31,33,34] [2001,2003] ?_
     refine tq 5 (roI ty.kd3 Z)<|yq 6 (rf 2 ty.F40_2 Z)<|yst 7 Z (zB 2003 ty.co3 ty.inf3 Z)<|yq 8 (rf 4 ty.F40_4 Z)<|yst 9 Z (zB 2003 ty.co3 ty.inf3 Z)<|yq 10 (rf 5 ty.F40_5 Z)<|yl Z (zB 2003 ty.co3 ty.inf3 Z)<|gT<|aL<|lf 2 ty.F40_2 Z<|loI ty.kd3 Z<|lst (zL Try.func95 (isChan_e _) Z) Z<|lmB Z ?_
     refine AL.bool (t:=42) rfl ?_ ?_
     ·intro h6
      refine lf 4 ty.F40_4 Z<|loI ty.kd3 Z<|lbB Z<|lkB Z<|laB Z<|lN<|gB<|gA<|lmB Z<|lmB Z ?_
      refine AL.bool (t:=175) rfl ?_ ?_
      ·intro h7
       refine loX (.agg [vI _ _,vI _ _,vI _ _,vI _ _,vI _ _,vI _ _,vB _]) ty.kd40 Z<|loX (.agg [vI _ _,vI _ _,vI _ _,vI _ _,vI _ _,vI _ _,vB false]) ty.kd40 Z<|lq (rd (x:=vB _) (rd_eqS rfl (.inl rfl) rfl rfl ty.sf40 ty.su40 ty.sh40 ty.sg40 ?hn2) rfl) ?_
       case hn2=>exact⟨rfl,by decide,rfl,⟨_,Try.underlying3⟩,rfl,by decide,rfl,⟨_,Try.underlying3⟩,rfl,by decide,rfl,⟨_,Try.underlying3⟩,rfl,by decide,rfl,⟨_,Try.underlying3⟩,rfl,by decide,rfl,⟨_,Try.underlying3⟩,rfl,by decide,rfl,⟨_,Try.underlying3⟩,by decide,rfl,Try.underlying4,trivial⟩
       refine lkB Z<|laB Z<|nG<|aR ?_
       refine eBo trivial ?_
       have hkd:e.kind=2:=by simpa using h5
       have ha1:amtOk e.amt=true:=by simpa using h1
       have ha2:amtOk e.fee=true:=by simpa using h2
       clear h1 h2 h3 h5
       unfold eventOk
       rw[hkd]
       rcases hy:e.yes with _|_<;>refine Bool.eq_iff_iff.2 ?_<;>simp[fieldB,hK,hC,hT,hA,hF,hY,inB,eqVals,amtOk,keyOk,chOk]at * <;> omega
      ·intro h7
       refine lno Z<|lno Z<|lno Z<|lkZ Z<|laZ Z<|nG<|aR ?_
       refine eBo trivial ?_
       have hkd:e.kind=2:=by simpa using h5
       have ha1:amtOk e.amt=true:=by simpa using h1
       have ha2:amtOk e.fee=true:=by simpa using h2
       clear h1 h2 h3 h5
       unfold eventOk
       rw[hkd]
       rcases hy:e.yes with _|_<;>refine Bool.eq_iff_iff.2 ?_<;>simp[fieldB,hK,hC,hT,hA,hF,hY,inB,eqVals,amtOk,keyOk,chOk]at * <;> omega
     ·intro h6
      refine lno Z<|lno Z<|lno Z<|lkZ Z<|laZ Z<|lN<|gB<|gA<|lmZ Z<|lmZ Z<|lno Z<|lno Z<|lno Z<|lkZ Z<|lT [2,179] [2001,2003] ?_
      refine laZ Z<|nG<|aR ?_
      refine eBo trivial ?_
      have hkd:e.kind=2:=by simpa using h5
      have ha1:amtOk e.amt=true:=by simpa using h1
      have ha2:amtOk e.fee=true:=by simpa using h2
      clear h1 h2 h3 h5
      unfold eventOk
      rw[hkd]
      rcases hy:e.yes with _|_<;>refine Bool.eq_iff_iff.2 ?_<;>simp[fieldB,hK,hC,hT,hA,hF,hY,inB,eqVals,amtOk,keyOk,chOk]at * <;> omega
    ·intro h5
     refine sL<|lbB Z<|laB Z<|nG ?_
     refine AW.cond rfl ?_ ?_
     ·intro h8
      refine aS<|aG 7 [2003]<|tq 0 (rf 2 ty.F40_2 Z)<|tq 1 (roI ty.kd3 Z)<|tq 2 (rf 5 ty.F40_5 Z)<|tq 3 (roI ty.kd3 Z)<|yq 4 (rf 2 ty.F40_2 Z)<|yst 5 Z (zB 2003 ty.co3 ty.inf3 Z)<|yq 6 (rf 5 ty.F40_5 Z)<|yl Z (zB 2003 ty.co3 ty.inf3 Z)<|gT<|aL<|lf 2 ty.F40_2 Z<|loI ty.kd3 Z<|lst (zL Try.func95 (isChan_e _) Z) Z<|lT [1,2,3,4,57] [2001,2003] ?_
      refine laB Z<|lN<|gB<|gA<|lmB Z<|lmB Z ?_
      refine AL.bool (t:=175) rfl ?_ ?_
      ·intro h9
       refine loX (.agg [vI _ _,vI _ _,vI _ _,vI _ _,vI _ _,vI _ _,vB _]) ty.kd40 Z<|loX (.agg [vI _ _,vI _ _,vI _ _,vI _ _,vI _ _,vI _ _,vB false]) ty.kd40 Z<|lq (rd (x:=vB _) (rd_eqS rfl (.inl rfl) rfl rfl ty.sf40 ty.su40 ty.sh40 ty.sg40 ?hn3) rfl) ?_
       case hn3=>exact⟨rfl,by decide,rfl,⟨_,Try.underlying3⟩,rfl,by decide,rfl,⟨_,Try.underlying3⟩,rfl,by decide,rfl,⟨_,Try.underlying3⟩,rfl,by decide,rfl,⟨_,Try.underlying3⟩,rfl,by decide,rfl,⟨_,Try.underlying3⟩,rfl,by decide,rfl,⟨_,Try.underlying3⟩,by decide,rfl,Try.underlying4,trivial⟩
       refine lkB Z<|laB Z<|nG<|aR ?_
       refine eBo trivial ?_
       have hkd:e.kind=3:=by simpa using h8
       have ha1:amtOk e.amt=true:=by simpa using h1
       have ha2:amtOk e.fee=true:=by simpa using h2
       clear h1 h2 h3 h5 h8
       unfold eventOk
       rw[hkd]
       rcases hy:e.yes with _|_<;>refine Bool.eq_iff_iff.2 ?_<;>simp[fieldB,hK,hC,hT,hA,hF,hY,inB,eqVals,amtOk,keyOk,chOk]at * <;> omega
      ·intro h9
       refine lno Z<|lno Z<|lno Z<|lkZ Z<|laZ Z<|nG<|aR ?_
       refine eBo trivial ?_
       have hkd:e.kind=3:=by simpa using h8
       have ha1:amtOk e.amt=true:=by simpa using h1
       have ha2:amtOk e.fee=true:=by simpa using h2
       clear h1 h2 h3 h5 h8
       unfold eventOk
       rw[hkd]
       rcases hy:e.yes with _|_<;>refine Bool.eq_iff_iff.2 ?_<;>simp[fieldB,hK,hC,hT,hA,hF,hY,inB,eqVals,amtOk,keyOk,chOk]at * <;> omega
     ·intro h8
      refine sL<|lbB Z<|laB Z<|nG ?_
      refine AW.cond rfl ?_ ?_
      ·intro h10
       refine aS<|aG 11 [2003]<|tq 0 (rf 2 ty.F40_2 Z)<|tq 1 (roI ty.kd3 Z)<|tq 2 (rf 4 ty.F40_4 Z)<|tq 3 (roI ty.kd3 Z)<|tq 4 (rf 5 ty.F40_5 Z)<|tq 5 (roI ty.kd3 Z)<|yq 6 (rf 2 ty.F40_2 Z)<|yst 7 Z (zB 2003 ty.co3 ty.inf3 Z)<|gX [1,2,3,4,63,65] [2001,2003] ?_
       refine yq 8 (rf 4 ty.F40_4 Z)<|yst 9 Z (zB 2003 ty.co3 ty.inf3 Z)<|yq 10 (rf 5 ty.F40_5 Z)<|yl Z (zB 2003 ty.co3 ty.inf3 Z)<|gT<|aL<|lf 2 ty.F40_2 Z<|loI ty.kd3 Z<|lst (zL Try.func95 (isChan_e _) Z) Z<|lmB Z ?_
       refine AL.bool (t:=72) rfl ?_ ?_
       ·intro h11
        refine lf 5 ty.F40_5 Z<|loI ty.kd3 Z<|lbB Z<|lkB Z<|laB Z<|lN<|gB<|gA<|lmB Z<|lmB Z ?_
        refine AL.bool (t:=175) rfl ?_ ?_
        ·intro h12
         refine loX (.agg [vI _ _,vI _ _,vI _ _,vI _ _,vI _ _,vI _ _,vB _]) ty.kd40 Z<|loX (.agg [vI _ _,vI _ _,vI _ _,vI _ _,vI _ _,vI _ _,vB false]) ty.kd40 Z<|lq (rd (x:=vB _) (rd_eqS rfl (.inl rfl) rfl rfl ty.sf40 ty.su40 ty.sh40 ty.sg40 ?hn4) rfl) ?_
         case hn4=>exact⟨rfl,by decide,rfl,⟨_,Try.underlying3⟩,rfl,by decide,rfl,⟨_,Try.underlying3⟩,rfl,by decide,rfl,⟨_,Try.underlying3⟩,rfl,by decide,rfl,⟨_,Try.underlying3⟩,rfl,by decide,rfl,⟨_,Try.underlying3⟩,rfl,by decide,rfl,⟨_,Try.underlying3⟩,by decide,rfl,Try.underlying4,trivial⟩
         refine lkB Z<|laB Z<|nG<|aR ?_
         refine eBo trivial ?_
         have hkd:e.kind=4:=by simpa using h10
         have ha1:amtOk e.amt=true:=by simpa using h1
         have ha2:amtOk e.fee=true:=by simpa using h2
         clear h1 h2 h3 h5 h8 h10
         unfold eventOk
         rw[hkd]
         rcases hy:e.yes with _|_<;>refine Bool.eq_iff_iff.2 ?_<;>simp[fieldB,hK,hC,hT,hA,hF,hY,inB,eqVals,amtOk,keyOk,chOk]at * <;> omega
        ·intro h12
         refine lno Z<|lno Z<|lno Z<|lkZ Z<|laZ Z<|nG<|aR ?_
         refine eBo trivial ?_
         have hkd:e.kind=4:=by simpa using h10
         have ha1:amtOk e.amt=true:=by simpa using h1
         have ha2:amtOk e.fee=true:=by simpa using h2
         clear h1 h2 h3 h5 h8 h10
         unfold eventOk
         rw[hkd]
         rcases hy:e.yes with _|_<;>refine Bool.eq_iff_iff.2 ?_<;>simp[fieldB,hK,hC,hT,hA,hF,hY,inB,eqVals,amtOk,keyOk,chOk]at * <;> omega
       ·intro h11
        refine lno Z<|lno Z<|lno Z<|lkZ Z<|laZ Z<|lN<|gB<|gA<|lmZ Z<|lmZ Z<|lno Z<|lno Z<|lno Z<|lkZ Z<|laZ Z<|nG<|aR ?_
        refine eBo trivial ?_
        have hkd:e.kind=4:=by simpa using h10
        have ha1:amtOk e.amt=true:=by simpa using h1
        have ha2:amtOk e.fee=true:=by simpa using h2
        clear h1 h2 h3 h5 h8 h10
        unfold eventOk
        rw[hkd]
        rcases hy:e.yes with _|_<;>refine Bool.eq_iff_iff.2 ?_<;>simp[fieldB,hK,hC,hT,hA,hF,hY,inB,eqVals,amtOk,keyOk,chOk]at * <;> omega
      ·intro h10
       refine sL<|lbB Z<|laB Z<|lT [1,2,3,4,19,77] [2001,2003] ?_
       refine nG ?_
       refine AW.cond rfl ?_ ?_
       ·intro h13
        refine aS<|aG 19 [2003]<|tq 0 (rf 1 ty.F40_1 Z)<|tq 1 (roI ty.kd3 Z)<|tq 2 (rf 2 ty.F40_2 Z)<|tq 3 (roI ty.kd3 Z)<|tq 4 (rf 3 ty.F40_3 Z)<|tq 5 (roI ty.kd3 Z)<|tq 6 (rf 4 ty.F40_4 Z)<|tq 7 (roI ty.kd3 Z)<|tq 8 (rf 6 ty.F40_6 Z)<|tq 9 (roB ty.kd4 Z)<|yq 10 (rf 1 ty.F40_1 Z)<|yst 11 Z (zB 2003 ty.co3 ty.inf3 Z)<|yq 12 (rf 2 ty.F40_2 Z)<|yst 13 Z (zB 2003 ty.co3 ty.inf3 Z)<|gX [1,2,3,4,84,86,88] [2001,2003] ?_
        refine yq 14 (rf 3 ty.F40_3 Z)<|yst 15 Z (zB 2003 ty.co3 ty.inf3 Z)<|yq 16 (rf 4 ty.F40_4 Z)<|yst 17 Z (zB 2003 ty.co3 ty.inf3 Z)<|yq 18 (rf 6 ty.F40_6 Z)<|yl Z (zB 2003 ty.co4 ty.inf4 Z)<|gT<|aL<|lf 1 ty.F40_1 Z<|loI ty.kd3 Z<|lst (zL Try.func96 (isKey_e _) Z) Z<|lmB Z ?_
        refine AL.bool (t:=97) rfl ?_ ?_
        ·intro h14
         refine lf 2 ty.F40_2 Z<|loI ty.kd3 Z<|lst (zL Try.func95 (isChan_e _) Z) Z<|lkB Z<|lmB Z ?_
         refine AL.bool (t:=102) rfl ?_ ?_
         ·intro h15
          refine lf 3 ty.F40_3 Z<|loI ty.kd3 Z<|lst (zL Try.func95 (isChan_e _) Z) Z<|lT [1,2,3,4,102,105] [2001,2003] ?_
          refine lkB Z<|lmB Z ?_
          refine AL.bool (t:=107) rfl ?_ ?_
          ·intro h16
           refine lf 2 ty.F40_2 Z<|loI ty.kd3 Z<|lf 3 ty.F40_3 Z<|loI ty.kd3 Z<|lbB Z<|lkB Z<|lmB Z ?_
           refine AL.bool (t:=114) rfl ?_ ?_
           ·intro h17
            refine lf 4 ty.F40_4 Z<|loI ty.kd3 Z<|lbB Z<|lkB Z<|laB Z<|lN<|gB<|gA<|lmB Z<|lmB Z ?_
            refine AL.bool (t:=175) rfl ?_ ?_
            ·intro h18
             refine loX (.agg [vI _ _,vI _ _,vI _ _,vI _ _,vI _ _,vI _ _,vB _]) ty.kd40 Z<|loX (.agg [vI _ _,vI _ _,vI _ _,vI _ _,vI _ _,vI _ _,vB _]) ty.kd40 Z<|lq (rd (x:=vB _) (rd_eqS rfl (.inl rfl) rfl rfl ty.sf40 ty.su40 ty.sh40 ty.sg40 ?hn5) rfl) ?_
             case hn5=>exact⟨rfl,by decide,rfl,⟨_,Try.underlying3⟩,rfl,by decide,rfl,⟨_,Try.underlying3⟩,rfl,by decide,rfl,⟨_,Try.underlying3⟩,rfl,by decide,rfl,⟨_,Try.underlying3⟩,rfl,by decide,rfl,⟨_,Try.underlying3⟩,rfl,by decide,rfl,⟨_,Try.underlying3⟩,by decide,rfl,Try.underlying4,trivial⟩
             refine lkB Z<|laB Z<|nG<|aR ?_
             refine eBo trivial ?_
             have hkd:e.kind=5:=by simpa using h13
             have ha1:amtOk e.amt=true:=by simpa using h1
             have ha2:amtOk e.fee=true:=by simpa using h2
             clear h1 h2 h3 h5 h8 h10 h13
             unfold eventOk
             rw[hkd]
             rcases hy:e.yes with _|_<;>refine Bool.eq_iff_iff.2 ?_<;>simp[fieldB,hK,hC,hT,hA,hF,hY,inB,eqVals,amtOk,keyOk,chOk]at * <;> omega
            ·intro h18
             refine lno Z<|lno Z<|lno Z<|lkZ Z<|laZ Z<|nG<|aR ?_
             refine eBo trivial ?_
             have hkd:e.kind=5:=by simpa using h13
             have ha1:amtOk e.amt=true:=by simpa using h1
             have ha2:amtOk e.fee=true:=by simpa using h2
             clear h1 h2 h3 h5 h8 h10 h13
             unfold eventOk
             rw[hkd]
             rcases hy:e.yes with _|_<;>refine Bool.eq_iff_iff.2 ?_<;>simp[fieldB,hK,hC,hT,hA,hF,hY,inB,eqVals,amtOk,keyOk,chOk]at * <;> omega
           ·intro h17
            refine lno Z<|lno Z<|lno Z<|lkZ Z<|laZ Z<|lN<|gB<|gA<|lmZ Z<|lmZ Z<|lno Z<|lno Z<|lno Z<|lkZ Z<|laZ Z<|nG<|aR ?_
            refine eBo trivial ?_
            have hkd:e.kind=5:=by simpa using h13
            have ha1:amtOk e.amt=true:=by simpa using h1
            have ha2:amtOk e.fee=true:=by simpa using h2
            clear h1 h2 h3 h5 h8 h10 h13
            unfold eventOk
            rw[hkd]
            rcases hy:e.yes with _|_<;>refine Bool.eq_iff_iff.2 ?_<;>simp[fieldB,hK,hC,hT,hA,hF,hY,inB,eqVals,amtOk,keyOk,chOk]at * <;> omega
          ·intro h16
           refine lno Z<|lno Z<|lno Z<|lno Z<|lno Z<|lkZ Z<|lT [1,2,3,4,113] [2001,2003] ?_
           refine lmZ Z<|lno Z<|lno Z<|lno Z<|lkZ Z<|laZ Z<|lN<|gB<|gA<|lmZ Z<|lmZ Z<|lno Z<|lno Z<|lno Z<|lkZ Z<|laZ Z<|nG<|aR ?_
           refine eBo trivial ?_
           have hkd:e.kind=5:=by simpa using h13
           have ha1:amtOk e.amt=true:=by simpa using h1
           have ha2:amtOk e.fee=true:=by simpa using h2
           clear h1 h2 h3 h5 h8 h10 h13
           unfold eventOk
           rw[hkd]
           rcases hy:e.yes with _|_<;>refine Bool.eq_iff_iff.2 ?_<;>simp[fieldB,hK,hC,hT,hA,hF,hY,inB,eqVals,amtOk,keyOk,chOk]at * <;> omega
         ·intro h15
          refine lno Z<|lno Z<|lno Z<|lkZ Z<|lmZ Z<|lno Z<|lno Z<|lno Z<|lno Z<|lno Z<|lkZ Z<|lmZ Z<|lno Z<|lno Z<|lno Z<|lkZ Z<|laZ Z<|lN<|gB<|gA<|lmZ Z<|lmZ Z<|lno Z<|lno Z<|lno Z<|lkZ Z<|laZ Z<|lN ?_
          refine gT<|aR ?_
          refine eBo trivial ?_
          have hkd:e.kind=5:=by simpa using h13
          have ha1:amtOk e.amt=true:=by simpa using h1
          have ha2:amtOk e.fee=true:=by simpa using h2
          clear h1 h2 h3 h5 h8 h10 h13
          unfold eventOk
          rw[hkd]
          rcases hy:e.yes with _|_<;>refine Bool.eq_iff_iff.2 ?_<;>simp[fieldB,hK,hC,hT,hA,hF,hY,inB,eqVals,amtOk,keyOk,chOk]at * <;> omega
        ·intro h14
         refine lno Z<|lno Z<|lno Z<|lkZ Z<|lmZ Z<|lno Z<|lno Z<|lno Z<|lkZ Z<|lmZ Z<|lno Z<|lno Z<|lno Z<|lno Z<|lno Z<|lkZ Z<|lmZ Z<|lno Z<|lno Z<|lno Z<|lkZ Z<|laZ Z<|lN<|gB<|gA<|lmZ Z<|lmZ Z<|lno Z ?_
         refine lno Z<|lno Z<|lkZ Z<|laZ Z<|nG<|aR ?_
         refine eBo trivial ?_
         have hkd:e.kind=5:=by simpa using h13
         have ha1:amtOk e.amt=true:=by simpa using h1
         have ha2:amtOk e.fee=true:=by simpa using h2
         clear h1 h2 h3 h5 h8 h10 h13
         unfold eventOk
         rw[hkd]
         rcases hy:e.yes with _|_<;>refine Bool.eq_iff_iff.2 ?_<;>simp[fieldB,hK,hC,hT,hA,hF,hY,inB,eqVals,amtOk,keyOk,chOk]at * <;> omega
       ·intro h13
        refine sL<|lbB Z<|lT [1,2,3,4,19,120] [2001,2003] ?_
        refine laB Z<|nG ?_
        refine AW.cond rfl ?_ ?_
        ·intro h19
         refine aS<|aG 19 [2003]<|tq 0 (rf 1 ty.F40_1 Z)<|tq 1 (roI ty.kd3 Z)<|tq 2 (rf 2 ty.F40_2 Z)<|tq 3 (roI ty.kd3 Z)<|tq 4 (rf 3 ty.F40_3 Z)<|tq 5 (roI ty.kd3 Z)<|tq 6 (rf 4 ty.F40_4 Z)<|tq 7 (roI ty.kd3 Z)<|tq 8 (rf 5 ty.F40_5 Z)<|tq 9 (roI ty.kd3 Z)<|yq 10 (rf 1 ty.F40_1 Z)<|yst 11 Z (zB 2003 ty.co3 ty.inf3 Z)<|yq 12 (rf 2 ty.F40_2 Z)<|yst 13 Z (zB 2003 ty.co3 ty.inf3 Z)<|gX [1,2,3,4,126,128,130] [2001,2003] ?_
         refine yq 14 (rf 3 ty.F40_3 Z)<|yst 15 Z (zB 2003 ty.co3 ty.inf3 Z)<|yq 16 (rf 4 ty.F40_4 Z)<|yst 17 Z (zB 2003 ty.co3 ty.inf3 Z)<|yq 18 (rf 5 ty.F40_5 Z)<|yl Z (zB 2003 ty.co3 ty.inf3 Z)<|gT<|aL<|lf 1 ty.F40_1 Z<|loI ty.kd3 Z<|lst (zL Try.func96 (isKey_e _) Z) Z<|lmB Z ?_
         refine AL.bool (t:=139) rfl ?_ ?_
         ·intro h20
          refine lf 2 ty.F40_2 Z<|loI ty.kd3 Z<|lst (zL Try.func95 (isChan_e _) Z) Z<|lkB Z<|lmB Z ?_
          refine AL.bool (t:=144) rfl ?_ ?_
          ·intro h21
           refine lf 3 ty.F40_3 Z<|loI ty.kd3 Z<|lst (zL Try.func95 (isChan_e _) Z) Z<|lT [1,2,3,4,144,147] [2001,2003] ?_
           refine lkB Z<|lmB Z ?_
           refine AL.bool (t:=149) rfl ?_ ?_
           ·intro h22
            refine lf 2 ty.F40_2 Z<|loI ty.kd3 Z<|lf 3 ty.F40_3 Z<|loI ty.kd3 Z<|lbB Z<|lkB Z<|lmB Z ?_
            refine AL.bool (t:=156) rfl ?_ ?_
            ·intro h23
             refine lf 4 ty.F40_4 Z<|loI ty.kd3 Z<|lbB Z<|lkB Z<|laB Z<|lN<|gB<|gA<|lmB Z<|lmB Z ?_
             refine AL.bool (t:=175) rfl ?_ ?_
             ·intro h24
              refine loX (.agg [vI _ _,vI _ _,vI _ _,vI _ _,vI _ _,vI _ _,vB _]) ty.kd40 Z<|loX (.agg [vI _ _,vI _ _,vI _ _,vI _ _,vI _ _,vI _ _,vB false]) ty.kd40 Z<|lq (rd (x:=vB _) (rd_eqS rfl (.inl rfl) rfl rfl ty.sf40 ty.su40 ty.sh40 ty.sg40 ?hn6) rfl) ?_
              case hn6=>exact⟨rfl,by decide,rfl,⟨_,Try.underlying3⟩,rfl,by decide,rfl,⟨_,Try.underlying3⟩,rfl,by decide,rfl,⟨_,Try.underlying3⟩,rfl,by decide,rfl,⟨_,Try.underlying3⟩,rfl,by decide,rfl,⟨_,Try.underlying3⟩,rfl,by decide,rfl,⟨_,Try.underlying3⟩,by decide,rfl,Try.underlying4,trivial⟩
              refine lkB Z<|laB Z<|nG<|aR ?_
              refine eBo trivial ?_
              have hkd:e.kind=9:=by simpa using h19
              have ha1:amtOk e.amt=true:=by simpa using h1
              have ha2:amtOk e.fee=true:=by simpa using h2
              clear h1 h2 h3 h5 h8 h10 h13 h19
              unfold eventOk
              rw[hkd]
              rcases hy:e.yes with _|_<;>refine Bool.eq_iff_iff.2 ?_<;>simp[fieldB,hK,hC,hT,hA,hF,hY,inB,eqVals,amtOk,keyOk,chOk]at * <;> omega
             ·intro h24
              refine lno Z<|lno Z<|lno Z<|lkZ Z<|laZ Z<|nG<|aR ?_
              refine eBo trivial ?_
              have hkd:e.kind=9:=by simpa using h19
              have ha1:amtOk e.amt=true:=by simpa using h1
              have ha2:amtOk e.fee=true:=by simpa using h2
              clear h1 h2 h3 h5 h8 h10 h13 h19
              unfold eventOk
              rw[hkd]
              rcases hy:e.yes with _|_<;>refine Bool.eq_iff_iff.2 ?_<;>simp[fieldB,hK,hC,hT,hA,hF,hY,inB,eqVals,amtOk,keyOk,chOk]at * <;> omega
            ·intro h23
             refine lno Z<|lno Z<|lno Z<|lkZ Z<|laZ Z<|lN<|gB<|gA<|lmZ Z<|lmZ Z<|lno Z<|lno Z<|lno Z<|lkZ Z<|laZ Z<|nG<|aR ?_
             refine eBo trivial ?_
             have hkd:e.kind=9:=by simpa using h19
             have ha1:amtOk e.amt=true:=by simpa using h1
             have ha2:amtOk e.fee=true:=by simpa using h2
             clear h1 h2 h3 h5 h8 h10 h13 h19
             unfold eventOk
             rw[hkd]
             rcases hy:e.yes with _|_<;>refine Bool.eq_iff_iff.2 ?_<;>simp[fieldB,hK,hC,hT,hA,hF,hY,inB,eqVals,amtOk,keyOk,chOk]at * <;> omega
           ·intro h22
            refine lno Z<|lno Z<|lno Z<|lno Z<|lno Z<|lkZ Z<|lT [1,2,3,4,155] [2001,2003] ?_
            refine lmZ Z<|lno Z<|lno Z<|lno Z<|lkZ Z<|laZ Z<|lN<|gB<|gA<|lmZ Z<|lmZ Z<|lno Z<|lno Z<|lno Z<|lkZ Z<|laZ Z<|nG<|aR ?_
            refine eBo trivial ?_
            have hkd:e.kind=9:=by simpa using h19
            have ha1:amtOk e.amt=true:=by simpa using h1
            have ha2:amtOk e.fee=true:=by simpa using h2
            clear h1 h2 h3 h5 h8 h10 h13 h19
            unfold eventOk
            rw[hkd]
            rcases hy:e.yes with _|_<;>refine Bool.eq_iff_iff.2 ?_<;>simp[fieldB,hK,hC,hT,hA,hF,hY,inB,eqVals,amtOk,keyOk,chOk]at * <;> omega
          ·intro h21
           refine lno Z<|lno Z<|lno Z<|lkZ Z<|lmZ Z<|lno Z<|lno Z<|lno Z<|lno Z<|lno Z<|lkZ Z<|lmZ Z<|lno Z<|lno Z<|lno Z<|lkZ Z<|laZ Z<|lN<|gB<|gA<|lmZ Z<|lmZ Z<|lno Z<|lno Z<|lno Z<|lkZ Z<|laZ Z<|lN ?_
           refine gT<|aR ?_
           refine eBo trivial ?_
           have hkd:e.kind=9:=by simpa using h19
           have ha1:amtOk e.amt=true:=by simpa using h1
           have ha2:amtOk e.fee=true:=by simpa using h2
           clear h1 h2 h3 h5 h8 h10 h13 h19
           unfold eventOk
           rw[hkd]
           rcases hy:e.yes with _|_<;>refine Bool.eq_iff_iff.2 ?_<;>simp[fieldB,hK,hC,hT,hA,hF,hY,inB,eqVals,amtOk,keyOk,chOk]at * <;> omega
         ·intro h20
          refine lno Z<|lno Z<|lno Z<|lkZ Z<|lmZ Z<|lno Z<|lno Z<|lno Z<|lkZ Z<|lmZ Z<|lno Z<|lno Z<|lno Z<|lno Z<|lno Z<|lkZ Z<|lmZ Z<|lno Z<|lno Z<|lno Z<|lkZ Z<|laZ Z<|lN<|gB<|gA<|lmZ Z<|lmZ Z<|lno Z ?_
          refine lno Z<|lno Z<|lkZ Z<|laZ Z<|nG<|aR ?_
          refine eBo trivial ?_
          have hkd:e.kind=9:=by simpa using h19
          have ha1:amtOk e.amt=true:=by simpa using h1
          have ha2:amtOk e.fee=true:=by simpa using h2
          clear h1 h2 h3 h5 h8 h10 h13 h19
          unfold eventOk
          rw[hkd]
          rcases hy:e.yes with _|_<;>refine Bool.eq_iff_iff.2 ?_<;>simp[fieldB,hK,hC,hT,hA,hF,hY,inB,eqVals,amtOk,keyOk,chOk]at * <;> omega
        ·intro h19
         refine aS<|sL<|lbB Z<|lT [1,2,3,4,19,162] [2001,2003] ?_
         refine laB Z<|nG ?_
         refine AW.cond rfl ?_ ?_
         ·intro h25
          refine asB 161 true Z h25<|aK<|gT<|aY Z<|sL<|lf 1 ty.F40_1 Z<|loI ty.kd3 Z<|lf 1 ty.F40_1 Z<|lst (zB 2003 ty.co3 ty.inf3 Z) Z<|nG<|aL<|lf 1 ty.F40_1 Z<|loI ty.kd3 Z<|lst (zL Try.func96 (isKey_e _) Z) Z<|laB Z<|lN<|gB<|gA<|lmB Z<|lmB Z ?_
          refine AL.bool (t:=175) rfl ?_ ?_
          ·intro h26
           refine loX (.agg [vI _ _,vI _ _,vI _ _,vI _ _,vI _ _,vI _ _,vB _]) ty.kd40 Z<|loX (.agg [vI _ _,vI _ _,vI _ _,vI _ _,vI _ _,vI _ _,vB false]) ty.kd40 Z<|lq (rd (x:=vB _) (rd_eqS rfl (.inl rfl) rfl rfl ty.sf40 ty.su40 ty.sh40 ty.sg40 ?hn7) rfl) ?_
           case hn7=>exact⟨rfl,by decide,rfl,⟨_,Try.underlying3⟩,rfl,by decide,rfl,⟨_,Try.underlying3⟩,rfl,by decide,rfl,⟨_,Try.underlying3⟩,rfl,by decide,rfl,⟨_,Try.underlying3⟩,rfl,by decide,rfl,⟨_,Try.underlying3⟩,rfl,by decide,rfl,⟨_,Try.underlying3⟩,by decide,rfl,Try.underlying4,trivial⟩
           refine lkB Z<|laB Z<|nG<|aR ?_
           refine eBo trivial ?_
           have hkd:e.kind=6:=by simpa using h25
           have ha1:amtOk e.amt=true:=by simpa using h1
           have ha2:amtOk e.fee=true:=by simpa using h2
           clear h1 h2 h3 h5 h8 h10 h13 h19 h25
           unfold eventOk
           rw[hkd]
           rcases hy:e.yes with _|_<;>refine Bool.eq_iff_iff.2 ?_<;>simp[fieldB,hK,hC,hT,hA,hF,hY,inB,eqVals,amtOk,keyOk,chOk]at * <;> omega
          ·intro h26
           refine lno Z<|lno Z<|lno Z<|lkZ Z<|laZ Z<|nG<|aR ?_
           refine eBo trivial ?_
           have hkd:e.kind=6:=by simpa using h25
           have ha1:amtOk e.amt=true:=by simpa using h1
           have ha2:amtOk e.fee=true:=by simpa using h2
           clear h1 h2 h3 h5 h8 h10 h13 h19 h25
           unfold eventOk
           rw[hkd]
           rcases hy:e.yes with _|_<;>refine Bool.eq_iff_iff.2 ?_<;>simp[fieldB,hK,hC,hT,hA,hF,hY,inB,eqVals,amtOk,keyOk,chOk]at * <;> omega
         ·intro h25
          refine asB 161 false Z h25<|sL<|lbB Z<|laB Z<|nG ?_
          refine AW.cond rfl ?_ ?_
          ·intro h27
           refine asB 161 true Z h27<|aK<|gT<|aY Z<|sL<|lf 1 ty.F40_1 Z<|loI ty.kd3 Z<|lf 1 ty.F40_1 Z<|lst (zB 2003 ty.co3 ty.inf3 Z) Z<|lT [1,2,3,4] [2001,2003] ?_
           refine nG<|aL<|lf 1 ty.F40_1 Z<|loI ty.kd3 Z<|lst (zL Try.func96 (isKey_e _) Z) Z<|laB Z<|lN<|gB<|gA<|lmB Z<|lmB Z ?_
           refine AL.bool (t:=175) rfl ?_ ?_
           ·intro h28
            refine loX (.agg [vI _ _,vI _ _,vI _ _,vI _ _,vI _ _,vI _ _,vB _]) ty.kd40 Z<|loX (.agg [vI _ _,vI _ _,vI _ _,vI _ _,vI _ _,vI _ _,vB false]) ty.kd40 Z<|lq (rd (x:=vB _) (rd_eqS rfl (.inl rfl) rfl rfl ty.sf40 ty.su40 ty.sh40 ty.sg40 ?hn8) rfl) ?_
            case hn8=>exact⟨rfl,by decide,rfl,⟨_,Try.underlying3⟩,rfl,by decide,rfl,⟨_,Try.underlying3⟩,rfl,by decide,rfl,⟨_,Try.underlying3⟩,rfl,by decide,rfl,⟨_,Try.underlying3⟩,rfl,by decide,rfl,⟨_,Try.underlying3⟩,rfl,by decide,rfl,⟨_,Try.underlying3⟩,by decide,rfl,Try.underlying4,trivial⟩
            refine lkB Z<|laB Z<|nG<|aR ?_
            refine eBo trivial ?_
            have hkd:e.kind=7:=by simpa using h27
            have ha1:amtOk e.amt=true:=by simpa using h1
            have ha2:amtOk e.fee=true:=by simpa using h2
            clear h1 h2 h3 h5 h8 h10 h13 h19 h25 h27
            unfold eventOk
            rw[hkd]
            rcases hy:e.yes with _|_<;>refine Bool.eq_iff_iff.2 ?_<;>simp[fieldB,hK,hC,hT,hA,hF,hY,inB,eqVals,amtOk,keyOk,chOk]at * <;> omega
           ·intro h28
            refine lno Z<|lno Z<|lno Z<|lkZ Z<|laZ Z<|nG<|aR ?_
            refine eBo trivial ?_
            have hkd:e.kind=7:=by simpa using h27
            have ha1:amtOk e.amt=true:=by simpa using h1
            have ha2:amtOk e.fee=true:=by simpa using h2
            clear h1 h2 h3 h5 h8 h10 h13 h19 h25 h27
            unfold eventOk
            rw[hkd]
            rcases hy:e.yes with _|_<;>refine Bool.eq_iff_iff.2 ?_<;>simp[fieldB,hK,hC,hT,hA,hF,hY,inB,eqVals,amtOk,keyOk,chOk]at * <;> omega
          ·intro h27
           refine asB 161 false Z h27<|sL<|lbB Z<|laB Z<|nG ?_
           refine AW.cond rfl ?_ ?_
           ·intro h29
            refine asB 161 true Z h29<|aK<|gT<|aY Z<|sL<|lf 1 ty.F40_1 Z<|loI ty.kd3 Z<|lf 1 ty.F40_1 Z<|lst (zB 2003 ty.co3 ty.inf3 Z) Z<|lT [1,2,3,4] [2001,2003] ?_
            refine nG<|aL<|lf 1 ty.F40_1 Z<|loI ty.kd3 Z<|lst (zL Try.func96 (isKey_e _) Z) Z<|laB Z<|lN<|gB<|gA<|lmB Z<|lmB Z ?_
            refine AL.bool (t:=175) rfl ?_ ?_
            ·intro h30
             refine loX (.agg [vI _ _,vI _ _,vI _ _,vI _ _,vI _ _,vI _ _,vB _]) ty.kd40 Z<|loX (.agg [vI _ _,vI _ _,vI _ _,vI _ _,vI _ _,vI _ _,vB false]) ty.kd40 Z<|lq (rd (x:=vB _) (rd_eqS rfl (.inl rfl) rfl rfl ty.sf40 ty.su40 ty.sh40 ty.sg40 ?hn9) rfl) ?_
             case hn9=>exact⟨rfl,by decide,rfl,⟨_,Try.underlying3⟩,rfl,by decide,rfl,⟨_,Try.underlying3⟩,rfl,by decide,rfl,⟨_,Try.underlying3⟩,rfl,by decide,rfl,⟨_,Try.underlying3⟩,rfl,by decide,rfl,⟨_,Try.underlying3⟩,rfl,by decide,rfl,⟨_,Try.underlying3⟩,by decide,rfl,Try.underlying4,trivial⟩
             refine lkB Z<|laB Z<|nG<|aR ?_
             refine eBo trivial ?_
             have hkd:e.kind=10:=by simpa using h29
             have ha1:amtOk e.amt=true:=by simpa using h1
             have ha2:amtOk e.fee=true:=by simpa using h2
             clear h1 h2 h3 h5 h8 h10 h13 h19 h25 h27 h29
             unfold eventOk
             rw[hkd]
             rcases hy:e.yes with _|_<;>refine Bool.eq_iff_iff.2 ?_<;>simp[fieldB,hK,hC,hT,hA,hF,hY,inB,eqVals,amtOk,keyOk,chOk]at * <;> omega
            ·intro h30
             refine lno Z<|lno Z<|lno Z<|lkZ Z<|laZ Z<|nG<|aR ?_
             refine eBo trivial ?_
             have hkd:e.kind=10:=by simpa using h29
             have ha1:amtOk e.amt=true:=by simpa using h1
             have ha2:amtOk e.fee=true:=by simpa using h2
             clear h1 h2 h3 h5 h8 h10 h13 h19 h25 h27 h29
             unfold eventOk
             rw[hkd]
             rcases hy:e.yes with _|_<;>refine Bool.eq_iff_iff.2 ?_<;>simp[fieldB,hK,hC,hT,hA,hF,hY,inB,eqVals,amtOk,keyOk,chOk]at * <;> omega
           ·intro h29
            refine asB 161 false Z h29<|aL<|lbB Z<|laB Z<|nG ?_
            refine AW.cond rfl ?_ ?_
            ·intro h31
             refine sL<|lf 1 ty.F40_1 Z<|loI ty.kd3 Z<|lf 1 ty.F40_1 Z<|lst (zB 2003 ty.co3 ty.inf3 Z) Z<|lT [1,2,3,4] [2001,2003] ?_
             refine nG<|aL<|lf 1 ty.F40_1 Z<|loI ty.kd3 Z<|lst (zL Try.func96 (isKey_e _) Z) Z<|laB Z<|lN<|gB<|gA<|lmB Z<|lmB Z ?_
             refine AL.bool (t:=175) rfl ?_ ?_
             ·intro h32
              refine loX (.agg [vI _ _,vI _ _,vI _ _,vI _ _,vI _ _,vI _ _,vB _]) ty.kd40 Z<|loX (.agg [vI _ _,vI _ _,vI _ _,vI _ _,vI _ _,vI _ _,vB false]) ty.kd40 Z<|lq (rd (x:=vB _) (rd_eqS rfl (.inl rfl) rfl rfl ty.sf40 ty.su40 ty.sh40 ty.sg40 ?hn10) rfl) ?_
              case hn10=>exact⟨rfl,by decide,rfl,⟨_,Try.underlying3⟩,rfl,by decide,rfl,⟨_,Try.underlying3⟩,rfl,by decide,rfl,⟨_,Try.underlying3⟩,rfl,by decide,rfl,⟨_,Try.underlying3⟩,rfl,by decide,rfl,⟨_,Try.underlying3⟩,rfl,by decide,rfl,⟨_,Try.underlying3⟩,by decide,rfl,Try.underlying4,trivial⟩
              refine lkB Z<|laB Z<|nG<|aR ?_
              refine eBo trivial ?_
              have hkd:e.kind=11:=by simpa using h31
              have ha1:amtOk e.amt=true:=by simpa using h1
              have ha2:amtOk e.fee=true:=by simpa using h2
              clear h1 h2 h3 h5 h8 h10 h13 h19 h25 h27 h29 h31
              unfold eventOk
              rw[hkd]
              rcases hy:e.yes with _|_<;>refine Bool.eq_iff_iff.2 ?_<;>simp[fieldB,hK,hC,hT,hA,hF,hY,inB,eqVals,amtOk,keyOk,chOk]at * <;> omega
             ·intro h32
              refine lno Z<|lno Z<|lno Z<|lkZ Z<|laZ Z<|nG<|aR ?_
              refine eBo trivial ?_
              have hkd:e.kind=11:=by simpa using h31
              have ha1:amtOk e.amt=true:=by simpa using h1
              have ha2:amtOk e.fee=true:=by simpa using h2
              clear h1 h2 h3 h5 h8 h10 h13 h19 h25 h27 h29 h31
              unfold eventOk
              rw[hkd]
              rcases hy:e.yes with _|_<;>refine Bool.eq_iff_iff.2 ?_<;>simp[fieldB,hK,hC,hT,hA,hF,hY,inB,eqVals,amtOk,keyOk,chOk]at * <;> omega
            ·intro h31
             refine sL<|lbB Z<|laB Z<|nG ?_
             refine AW.cond rfl ?_ ?_
             ·intro h33
              refine aK<|gB<|gA<|lmT Z<|lmT Z<|loX (.agg [vI _ _,vI _ _,vI _ _,vI _ _,vI _ _,vI _ _,vB _]) ty.kd40 Z<|loX (.agg [vI _ _,vI _ _,vI _ _,vI _ _,vI _ _,vI _ _,vB false]) ty.kd40 Z<|lq (rd (x:=vB _) (rd_eqS rfl (.inl rfl) rfl rfl ty.sf40 ty.su40 ty.sh40 ty.sg40 ?hn11) rfl) ?_
              case hn11=>exact⟨rfl,by decide,rfl,⟨_,Try.underlying3⟩,rfl,by decide,rfl,⟨_,Try.underlying3⟩,rfl,by decide,rfl,⟨_,Try.underlying3⟩,rfl,by decide,rfl,⟨_,Try.underlying3⟩,rfl,by decide,rfl,⟨_,Try.underlying3⟩,rfl,by decide,rfl,⟨_,Try.underlying3⟩,by decide,rfl,Try.underlying4,trivial⟩
              refine lkB Z<|laB Z<|nG<|aR ?_
              refine eBo trivial ?_
              have hkd:e.kind=8:=by simpa using h33
              have ha1:amtOk e.amt=true:=by simpa using h1
              have ha2:amtOk e.fee=true:=by simpa using h2
              clear h1 h2 h3 h5 h8 h10 h13 h19 h25 h27 h29 h31 h33
              unfold eventOk
              rw[hkd]
              rcases hy:e.yes with _|_<;>refine Bool.eq_iff_iff.2 ?_<;>simp[fieldB,hK,hC,hT,hA,hF,hY,inB,eqVals,amtOk,keyOk,chOk]at * <;> omega
             ·intro h33
              refine sL<|laZ Z<|nG<|aR<|rB<|rT ?_
              refine eBo trivial ?_
              refine(evNone ?_).symm
              have:True:=trivial
              simp only[decide_eq_false_iff_not]at *
              omega

theorem BytesOk.nil:BytesOk []:=fun b hb=>by cases hb
theorem BytesOk.app{l m:List Int}(h:BytesOk l)(g:BytesOk m):BytesOk (l++m):=fun b hb=>by
 rcases List.mem_append.1 hb with q|q
 ·exact h b q
 ·exact g b q
theorem BytesOk.cons{x:Int}{l:List Int}(h0:0≤x)(h1:x≤255)(h:BytesOk l):BytesOk (x::l):=fun b hb=>by
 rcases List.mem_cons.1 hb with rfl|q
 ·exact⟨h0,h1⟩
 ·exact h b q
theorem BytesOk.zero(n:Nat):BytesOk (List.replicate n 0):=fun b hb=>by rw[(List.mem_replicate.1 hb).2];omega
theorem BytesOk.take{l:List Int}(h:BytesOk l)(n:Nat):BytesOk (l.take n):=fun b hb=>h b (List.mem_of_mem_take hb)
theorem BytesOk.drop{l:List Int}(h:BytesOk l)(n:Nat):BytesOk (l.drop n):=fun b hb=>h b (List.mem_of_mem_drop hb)
-- ---------- sectors
def secOk(s:Sector):Bool:=inB s.seq 0 599&&inB s.epoch 1 16000000&&decide (s.body.length≤100)
def secB(s:Sector):List Int:=[74]++numB 3 s.seq++numB 3 s.epoch++[(s.body.length:Int)]++s.body++List.replicate (114-s.body.length) 0++numB 3 s.seq++numB 3 s.epoch
theorem secOk_iff{s:Sector}:secOk s=true↔(0≤s.seq∧s.seq≤599)∧(1≤s.epoch∧s.epoch≤16000000)∧s.body.length≤100:=by
 unfold secOk;simp[inB,and_assoc]
theorem secB_length{s:Sector}(h:s.body.length≤100):(secB s).length=128:=by
 unfold secB;simp only[List.length_append,List.length_cons,List.length_nil,numB_length,List.length_replicate];omega
-- ---------- events as bytes
def evB(e:Event):List Int:=[69,e.kind]++numB 3 e.key++[e.ch,e.to]++numB 7 e.amt++numB 7 e.fee++[if e.yes then 1 else 0]
theorem evB_length(e:Event):(evB e).length=22:=by unfold evB;simp[numB_length]
-- ---------- disks
def cellOk(c:Cell):Bool:=decide (c.bytes.length=0)||decide (c.bytes.length=128)
def wrOk(n:Nat)(w:Write):Bool:=inB w.at_ 0 ((n:Int)-1)&&decide (w.bytes.length=128)
def diskOk(d:Disk):Bool:=inB (d.cells.length:Int) 1 600&&decide (d.dirty.length≤600)&&d.cells.all cellOk&&d.dirty.all (wrOk d.cells.length)
def diskW(d:Disk)(i:Nat)(b:List Int):Disk:=⟨d.cells,d.dirty++[⟨i,b⟩]⟩
-- ---------- logs
def lgAddC(l:Log)(e:Event):Int:=if diskOk l.disk&&inB l.next 0 l.disk.cells.length&&inB l.epoch 1 16000000&&eventOk e then (if l.next=l.disk.cells.length∨600≤l.disk.dirty.length then 2 else 0)else 1
def lgAddL(l:Log)(e:Event):Log:=if lgAddC l e=0 then ⟨diskW l.disk l.next.toNat (secB ⟨l.next,l.epoch,evB e⟩),l.next+1,l.epoch⟩else ⟨⟨[],[]⟩,0,0⟩
end Go.Proofs.Yteblcdnhnckkaaa

