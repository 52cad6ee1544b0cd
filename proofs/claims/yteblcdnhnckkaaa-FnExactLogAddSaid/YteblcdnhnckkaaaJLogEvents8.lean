/- Texts of the proof of FnLogEvents, joined: E33. -/
import Derived.Test.YteblcdnhnckkaaaJLogEvents5
namespace Go.Proofs.Yteblcdnhnckkaaa
open Go.RowKit
set_option linter.unusedSimpArgs false
set_option linter.unusedVariables false
def srcN(l1:List (Nat×AO))(n:Nat)(i:Nat):Option Nat:=if i<1000000 then (if inO l1 i=true then some i else none)else (if 1000000+n≤i then some (i-n)else none)
theorem srcN_inj{l1:List (Nat×AO)}{n i i' j:Nat}(h:srcN l1 n i=some j)(h':srcN l1 n i'=some j):i=i':=by
 unfold srcN at h h'
 split at h<;>split at h
 ·injection h with h
  split at h'<;>split at h'
  ·injection h' with h';omega
  ·cases h'
  ·injection h' with h';omega
  ·cases h'
 ·cases h
 ·injection h with h
  split at h'<;>split at h'
  ·injection h' with h';omega
  ·cases h'
  ·injection h' with h';omega
  ·cases h'
 ·cases h
theorem GN.lentD{P:Program}{f:FuncId}{args args':List AV}{ob0:List (Nat×AO)}{F0:List AO}{R:AV→List (Nat×AO)→List AO→Prop}(hc:GN P f args [] [] R)(hl:All2 (Reads (tl (ofO ob0) F0)) args' args)(hF0:rowF F0)(h0:(ob0.all fun p=>arrO p.2&&(lowO p.2&&Nat.blt p.1 1000000))=true)
 (hR:∀x l1 F1,R x l1 F1→ownA x=true∧(∀id∈ownN x,inO l1 id=true)∧(∀p∈l1,flatR p.2)∧(∀o∈F1,flatR o)∧F0.length+F1.length≤10000000) :
 GN P f args' ob0 F0 fun x l F=>∃l1 F1,R x l1 F1∧l=l1++ob0∧F=F0++F1:=by
 have hs0:smallO ob0=true:=List.all_eq_true.2 fun p hp=>by
  have:=List.all_eq_true.1 h0 p hp
  simp only[Bool.and_eq_true]at this
  exact this.2.2
 have hlo0:(ob0.all fun p=>lowO p.2)=true:=List.all_eq_true.2 fun p hp=>by
  have:=List.all_eq_true.1 h0 p hp
  simp only[Bool.and_eq_true]at this
  exact this.2.1
 have har0:∀p∈ob0,arrO p.2=true:=fun p hp=>by
  have:=List.all_eq_true.1 h0 p hp
  simp only[Bool.and_eq_true]at this
  exact this.1
 intro L w cs ρ fp hL hargs hob hdj hLf
 have eH0:ofO (ob0++famL 1000000 F0)=tl (ofO ob0) F0:=ofO_fam hs0
 rw[eH0]at hargs
 simp only[eH0]at hob
 have hv:=RVL.reads (fun id=>⟨_,hob id⟩) hl hargs
 refine Calls.mono (hc L0 w cs ρ0 (fun _=>[]) (fun _ q=>q.elim) hv (fun i=>rfl) (by simp) (by simp)) ?_
 rintro e w' ⟨x,ob1,⟨l1,F1,q1,q2,q3,rfl,hR1⟩,v,ρ',fp',rfl,g1,g2,g3,g4,g5⟩
 obtain⟨hx,hn,h1,hf1,hM⟩:=hR x l1 F1 hR1
 simp only[Bool.and_eq_true]at q1
 obtain⟨s1,s2,s3⟩:=q1
 have eH1:ofO (l1++famL 1000000 F1)=tl (ofO l1) F1:=ofO_fam s1
 rw[eH1]at g2
 simp only[eH1]at g3
 have sl:smallO (l1++ob0)=true:=by unfold smallO at *;rw[List.all_append,s1,hs0];rfl
 have eH2:ofO ((l1++ob0)++famL 1000000 (F0++F1))=tl (ofO (l1++ob0)) (F0++F1):=ofO_fam sl
 have hnew:∀i,∀b∈fp' i,w.heap.size≤b:=fun i b hb=>by
  rcases(g5 i b hb).1 with⟨j,q⟩|q
  ·cases q
  ·exact q
 have hsame:∀b,b<w.heap.size→w'.heap[b]? = w.heap[b]?:=fun b hb=>g1.block b hb (by simp)
 generalize hH2:tl (ofO (l1++ob0)) (F0++F1)=H2
 generalize hHc:tl (ofO l1) F1=H1 at *
 have fs:∀ {i j},srcN l1 F0.length i=some j→H2 i=H1 j:=fun{i j} h=>by
  rw[←hH2,←hHc]
  rcases lo_or_hi i with q|⟨m,rfl⟩
  ·unfold srcN at h
   rw[if_pos q]at h
   split at h
   ·rename_i z
    injection h with h
    subst h
    rw[tl_lo q,tl_lo q,ofO_app,if_pos z]
   ·cases h
  ·unfold srcN at h
   rw[if_neg (by omega)]at h
   split at h
   ·rename_i z
    injection h with h
    subst h
    rw[show 1000000+m-F0.length=1000000+(m-F0.length) by omega,tl_hi,tl_hi,List.getElem?_append_right (by omega)]
   ·cases h
 have fn:∀ {i},srcN l1 F0.length i=none→H2 i=tl (ofO ob0) F0 i:=fun{i} h=>by
  rw[←hH2]
  rcases lo_or_hi i with q|⟨m,rfl⟩
  ·unfold srcN at h
   rw[if_pos q]at h
   split at h
   ·cases h
   ·rename_i z
    rw[tl_lo q,tl_lo q,ofO_app,if_neg z]
  ·unfold srcN at h
   rw[if_neg (by omega)]at h
   split at h
   ·cases h
   ·rw[tl_hi,tl_hi,List.getElem?_append_left (by omega)]
 have flat1:∀j,H1 j=.gone∨flatR (H1 j):=fun j=>by
  rw[←hHc]
  rcases lo_or_hi j with q|⟨m,rfl⟩
  ·rw[tl_lo q]
   rcases hi:inO l1 j with _|_
   ·exact .inl (ofO_out hi)
   ·obtain⟨o,k1,k2⟩:=ofO_mem hi
    exact .inr (by rw[k2];exact h1 _ k1)
  ·rw[tl_hi]
   cases hm:F1[m]? with
   |none=>exact .inl rfl
   |some o=>exact .inr (hf1 o (List.mem_of_getElem? hm))
 have arr0:∀j,tl (ofO ob0) F0 j=.gone∨∃e sz rows,tl (ofO ob0) F0 j=.arr e sz rows:=fun j=>by
  rcases lo_or_hi j with q|⟨m,rfl⟩
  ·rw[tl_lo q]
   rcases hi:inO ob0 j with _|_
   ·exact .inl (ofO_out hi)
   ·obtain⟨o,k1,k2⟩:=ofO_mem hi
    have:=har0 _ k1
    rw[k2]
    cases o with
    |arr e sz rows=>exact .inr ⟨_,_,_,rfl⟩
    |box T p c=>cases this
    |gone=>exact .inl rfl
  ·rw[tl_hi]
   have:=rowF.at hF0 m
   cases hm:(F0[m]?).getD .gone with
   |arr e sz rows=>exact .inr ⟨_,_,_,rfl⟩
   |box T p c=>rw[hm]at this;cases this
   |gone=>exact .inl rfl
 generalize hρ2:(fun i=>match srcN l1 F0.length i with|some j=>ρ' j|none=>ρ i)=ρ2
 generalize hf2:(fun i=>match srcN l1 F0.length i with|some j=>fp' j|none=>fp i)=f2
 have eρ1:∀ {i j},srcN l1 F0.length i=some j→ρ2 i=ρ' j:=fun{i j} h=>by rw[←hρ2];simp only[h]
 have eρ0:∀ {i},srcN l1 F0.length i=none→ρ2 i=ρ i:=fun{i} h=>by rw[←hρ2];simp only[h]
 have ef1:∀ {i j},srcN l1 F0.length i=some j→f2 i=fp' j:=fun{i j} h=>by rw[←hf2];simp only[h]
 have ef0:∀ {i},srcN l1 F0.length i=none→f2 i=fp i:=fun{i} h=>by rw[←hf2];simp only[h]
 have hlive:∀b,b<w.heap.size→¬live L ρ (tl (ofO ob0) F0) b→¬live L ρ2 H2 b:=by
  rintro b hb hnl (hl|⟨i,k1,k2⟩)
  ·exact hnl (.inl hl)
  ·cases hi:srcN l1 F0.length i with
   |none=>rw[fn hi]at k1;rw[eρ0 hi]at k2;exact hnl (.inr ⟨i,k1,k2⟩)
   |some j=>
    rw[fs hi]at k1;rw[eρ1 hi]at k2
    have:=hnew j b ((g3 j).top k1 k2)
    omega
 have E:Env L ρ ρ2 (tl (ofO ob0) F0) H2 w w' (fun i=>(srcN l1 F0.length i).isSome):=⟨g1.size,fun b hb hn=>⟨hsame b hb,hlive b hb hn⟩,fun i hk hi=>by
  have hi0:srcN l1 F0.length i=none:=by cases h:srcN l1 F0.length i with|none=>rfl|some j=>rw[h]at hk;cases hk
  rw[fn hi0]at hi ⊢
  exact⟨hi,eρ0 hi0,rfl,rfl⟩⟩
 have e2:∀i,ofO ((l1++ob0)++famL 1000000 (F0++F1)) i=H2 i:=fun i=>by rw[eH2,hH2]
 refine⟨x,(l1++ob0)++famL 1000000 (F0++F1),⟨l1++ob0,F0++F1,by rw[sl,List.all_append,s2,hlo0,s3];rfl,rowF.app hF0 q2,by rw[List.length_append];exact hM,rfl,l1,F1,hR1,rfl,rfl⟩,v,ρ2,f2,rfl,⟨g1.os,g1.tape,g1.output,g1.size,fun b hb _=>hsame b hb,fun b o hb hlt=>?_⟩,?_,fun i=>?_,fun i j hij b hb hb'=>?_,fun i b hb=>?_⟩
 ·rcases Nat.lt_or_ge b w.heap.size with hb2|hb2
  ·rcases hb with⟨i,hi⟩|hb
   ·rw[World.frozen?_of_block (w:=w) (hsame b hb2)]
    exact(hob i).frozen b hi o
   ·omega
  ·exact g1.nf b o (.inr hb2) hlt
 ·rw[eH2,hH2]
  refine RV.owned x hx g2 fun id hid=>?_
  have hin:=hn id hid
  have hlt:id<1000000:=by
   obtain⟨o,k1,_⟩:=ofO_mem hin
   exact Nat.le_of_ble_eq_true (List.all_eq_true.1 s1 _ k1)
  have hsrc:srcN l1 F0.length id=some id:=by unfold srcN;rw[if_pos hlt,if_pos hin]
  refine⟨?_,eρ1 hsrc⟩
  obtain⟨o,k1,k2⟩:=ofO_mem hin
  have hfl:=h1 _ k1
  rw[←hHc,tl_lo hlt,k2]
  cases o with
  |arr e sz rows=>rfl
  |box T p c=>exact hfl.elim
  |gone=>exact hfl.elim
 ·rw[e2 i]
  rw[show ofO ((l1++ob0)++famL 1000000 (F0++F1))=H2 from funext e2]
  cases hi:srcN l1 F0.length i with
  |none=>
   rw[fn hi,eρ0 hi,ef0 hi]
   have h:=(hob i).env E (fun b hb=>hsame b ((hob i).lt b hb))
   have ek:(tl (ofO ob0) F0 i).kil (fun i=>(srcN l1 F0.length i).isSome)=tl (ofO ob0) F0 i:=by
    rcases arr0 i with q|⟨e,sz,rows,q⟩<;>rw[q]<;>rfl
   rwa [ek]at h
  |some j=>
   rw[fs hi,eρ1 hi,ef1 hi]
   have h:=g3 j
   rcases flat1 j with q|q
   ·rw[q]at h ⊢;exact h
   ·cases hj:H1 j with
    |arr e sz rows=>
     rw[hj]at h q
     obtain⟨xs,fr,k1,k2,k3,k4,k5⟩:=h
     have hfr:=k1.flat_fp q
     subst hfr
     exact⟨xs,[],k1,by simp,k3,k4,k5⟩
    |box T p c=>rw[hj]at q;exact q.elim
    |gone=>rw[hj]at q;exact q.elim
 ·cases hi:srcN l1 F0.length i with
  |none=>
   rw[ef0 hi]at hb
   cases hj:srcN l1 F0.length j with
   |none=>rw[ef0 hj]at hb';exact hdj i j hij b hb hb'
   |some j'=>
    rw[ef1 hj]at hb'
    have:=(hob i).lt b hb
    have:=hnew j' b hb'
    omega
  |some i'=>
   rw[ef1 hi]at hb
   cases hj:srcN l1 F0.length j with
   |none=>
    rw[ef0 hj]at hb'
    have:=(hob j).lt b hb'
    have:=hnew i' b hb
    omega
   |some j'=>
    rw[ef1 hj]at hb'
    exact g4 i' j' (fun q=>hij (srcN_inj hi (q▸hj))) b hb hb'
 ·cases hi:srcN l1 F0.length i with
  |none=>rw[ef0 hi]at hb;exact⟨.inl ⟨i,hb⟩,hLf i b hb⟩
  |some j=>
   rw[ef1 hi]at hb
   have:=hnew j b hb
   exact⟨.inr this,fun hl=>by have:=hL b hl;omega⟩
end Go.Proofs.Yteblcdnhnckkaaa

