/- FnExactLogEvents is proved: the given statement holds with no condition. Texts joined: E33, EP3, LdRV, LFnExactLogEvents, CFnExactLogEvents. -/
import Derived.Test.YteblcdnhnckkaaaJLogEvents5
import Derived.Test.YteblcdnhnckkaaaJLogEvents8
import Derived.Test.YteblcdnhnckkaaaJLogEvents6
import Derived.Test.YteblcdnhnckkaaaJLogEvents7
import Derived.Test.YteblcdnhnckkaaaRows
import Derived.Test.YteblcdnhnckkaaaKOpn
namespace Go.Proofs.Yteblcdnhnckkaaa
open Go.RowKit
set_option linter.unusedSimpArgs false
set_option linter.unusedVariables false
def srcN(l1:List (Nat×AO))(n:Nat)(i:Nat):Option Nat:=if i<1000000 then (if inO l1 i=true then some i else none)else (if 1000000+n≤i then some (i-n)else none)
theorem srcN_inj{l1:List (Nat×AO)}{n i i' j:Nat}(h:srcN l1 n i=some j)(h':srcN l1 n i'=some j):i=i':=by
 unfold srcN at h h'
 split at h<;>split at h
 ·injection h with h
  split at h'<;>split at h'
  ·injection h' with h';omega
  ·cases h'
  ·injection h' with h';omega
  ·cases h'
 ·cases h
 ·injection h with h
  split at h'<;>split at h'
  ·injection h' with h';omega
  ·cases h'
  ·injection h' with h';omega
  ·cases h'
 ·cases h
theorem GN.lentD{P:Program}{f:FuncId}{args args':List AV}{ob0:List (Nat×AO)}{F0:List AO}{R:AV→List (Nat×AO)→List AO→Prop}(hc:GN P f args [] [] R)(hl:All2 (Reads (tl (ofO ob0) F0)) args' args)(hF0:rowF F0)(h0:(ob0.all fun p=>arrO p.2&&(lowO p.2&&Nat.blt p.1 1000000))=true)
 (hR:∀x l1 F1,R x l1 F1→ownA x=true∧(∀id∈ownN x,inO l1 id=true)∧(∀p∈l1,flatR p.2)∧(∀o∈F1,flatR o)∧F0.length+F1.length≤10000000) :
 GN P f args' ob0 F0 fun x l F=>∃l1 F1,R x l1 F1∧l=l1++ob0∧F=F0++F1:=by
 have hs0:smallO ob0=true:=List.all_eq_true.2 fun p hp=>by
  have:=List.all_eq_true.1 h0 p hp
  simp only[Bool.and_eq_true]at this
  exact this.2.2
 have hlo0:(ob0.all fun p=>lowO p.2)=true:=List.all_eq_true.2 fun p hp=>by
  have:=List.all_eq_true.1 h0 p hp
  simp only[Bool.and_eq_true]at this
  exact this.2.1
 have har0:∀p∈ob0,arrO p.2=true:=fun p hp=>by
  have:=List.all_eq_true.1 h0 p hp
  simp only[Bool.and_eq_true]at this
  exact this.1
 intro L w cs ρ fp hL hargs hob hdj hLf
 have eH0:ofO (ob0++famL 1000000 F0)=tl (ofO ob0) F0:=ofO_fam hs0
 rw[eH0]at hargs
 simp only[eH0]at hob
 have hv:=RVL.reads (fun id=>⟨_,hob id⟩) hl hargs
 refine Calls.mono (hc L0 w cs ρ0 (fun _=>[]) (fun _ q=>q.elim) hv (fun i=>rfl) (by simp) (by simp)) ?_
 rintro e w' ⟨x,ob1,⟨l1,F1,q1,q2,q3,rfl,hR1⟩,v,ρ',fp',rfl,g1,g2,g3,g4,g5⟩
 obtain⟨hx,hn,h1,hf1,hM⟩:=hR x l1 F1 hR1
 simp only[Bool.and_eq_true]at q1
 obtain⟨s1,s2,s3⟩:=q1
 have eH1:ofO (l1++famL 1000000 F1)=tl (ofO l1) F1:=ofO_fam s1
 rw[eH1]at g2
 simp only[eH1]at g3
 have sl:smallO (l1++ob0)=true:=by unfold smallO at *;rw[List.all_append,s1,hs0];rfl
 have eH2:ofO ((l1++ob0)++famL 1000000 (F0++F1))=tl (ofO (l1++ob0)) (F0++F1):=ofO_fam sl
 have hnew:∀i,∀b∈fp' i,w.heap.size≤b:=fun i b hb=>by
  rcases(g5 i b hb).1 with⟨j,q⟩|q
  ·cases q
  ·exact q
 have hsame:∀b,b<w.heap.size→w'.heap[b]? = w.heap[b]?:=fun b hb=>g1.block b hb (by simp)
 generalize hH2:tl (ofO (l1++ob0)) (F0++F1)=H2
 generalize hHc:tl (ofO l1) F1=H1 at *
 have fs:∀ {i j},srcN l1 F0.length i=some j→H2 i=H1 j:=fun{i j} h=>by
  rw[←hH2,←hHc]
  rcases lo_or_hi i with q|⟨m,rfl⟩
  ·unfold srcN at h
   rw[if_pos q]at h
   split at h
   ·rename_i z
    injection h with h
    subst h
    rw[tl_lo q,tl_lo q,ofO_app,if_pos z]
   ·cases h
  ·unfold srcN at h
   rw[if_neg (by omega)]at h
   split at h
   ·rename_i z
    injection h with h
    subst h
    rw[show 1000000+m-F0.length=1000000+(m-F0.length) by omega,tl_hi,tl_hi,List.getElem?_append_right (by omega)]
   ·cases h
 have fn:∀ {i},srcN l1 F0.length i=none→H2 i=tl (ofO ob0) F0 i:=fun{i} h=>by
  rw[←hH2]
  rcases lo_or_hi i with q|⟨m,rfl⟩
  ·unfold srcN at h
   rw[if_pos q]at h
   split at h
   ·cases h
   ·rename_i z
    rw[tl_lo q,tl_lo q,ofO_app,if_neg z]
  ·unfold srcN at h
   rw[if_neg (by omega)]at h
   split at h
   ·cases h
   ·rw[tl_hi,tl_hi,List.getElem?_append_left (by omega)]
 have flat1:∀j,H1 j=.gone∨flatR (H1 j):=fun j=>by
  rw[←hHc]
  rcases lo_or_hi j with q|⟨m,rfl⟩
  ·rw[tl_lo q]
   rcases hi:inO l1 j with _|_
   ·exact .inl (ofO_out hi)
   ·obtain⟨o,k1,k2⟩:=ofO_mem hi
    exact .inr (by rw[k2];exact h1 _ k1)
  ·rw[tl_hi]
   cases hm:F1[m]? with
   |none=>exact .inl rfl
   |some o=>exact .inr (hf1 o (List.mem_of_getElem? hm))
 have arr0:∀j,tl (ofO ob0) F0 j=.gone∨∃e sz rows,tl (ofO ob0) F0 j=.arr e sz rows:=fun j=>by
  rcases lo_or_hi j with q|⟨m,rfl⟩
  ·rw[tl_lo q]
   rcases hi:inO ob0 j with _|_
   ·exact .inl (ofO_out hi)
   ·obtain⟨o,k1,k2⟩:=ofO_mem hi
    have:=har0 _ k1
    rw[k2]
    cases o with
    |arr e sz rows=>exact .inr ⟨_,_,_,rfl⟩
    |box T p c=>cases this
    |gone=>exact .inl rfl
  ·rw[tl_hi]
   have:=rowF.at hF0 m
   cases hm:(F0[m]?).getD .gone with
   |arr e sz rows=>exact .inr ⟨_,_,_,rfl⟩
   |box T p c=>rw[hm]at this;cases this
   |gone=>exact .inl rfl
 generalize hρ2:(fun i=>match srcN l1 F0.length i with|some j=>ρ' j|none=>ρ i)=ρ2
 generalize hf2:(fun i=>match srcN l1 F0.length i with|some j=>fp' j|none=>fp i)=f2
 have eρ1:∀ {i j},srcN l1 F0.length i=some j→ρ2 i=ρ' j:=fun{i j} h=>by rw[←hρ2];simp only[h]
 have eρ0:∀ {i},srcN l1 F0.length i=none→ρ2 i=ρ i:=fun{i} h=>by rw[←hρ2];simp only[h]
 have ef1:∀ {i j},srcN l1 F0.length i=some j→f2 i=fp' j:=fun{i j} h=>by rw[←hf2];simp only[h]
 have ef0:∀ {i},srcN l1 F0.length i=none→f2 i=fp i:=fun{i} h=>by rw[←hf2];simp only[h]
 have hlive:∀b,b<w.heap.size→¬live L ρ (tl (ofO ob0) F0) b→¬live L ρ2 H2 b:=by
  rintro b hb hnl (hl|⟨i,k1,k2⟩)
  ·exact hnl (.inl hl)
  ·cases hi:srcN l1 F0.length i with
   |none=>rw[fn hi]at k1;rw[eρ0 hi]at k2;exact hnl (.inr ⟨i,k1,k2⟩)
   |some j=>
    rw[fs hi]at k1;rw[eρ1 hi]at k2
    have:=hnew j b ((g3 j).top k1 k2)
    omega
 have E:Env L ρ ρ2 (tl (ofO ob0) F0) H2 w w' (fun i=>(srcN l1 F0.length i).isSome):=⟨g1.size,fun b hb hn=>⟨hsame b hb,hlive b hb hn⟩,fun i hk hi=>by
  have hi0:srcN l1 F0.length i=none:=by cases h:srcN l1 F0.length i with|none=>rfl|some j=>rw[h]at hk;cases hk
  rw[fn hi0]at hi ⊢
  exact⟨hi,eρ0 hi0,rfl,rfl⟩⟩
 have e2:∀i,ofO ((l1++ob0)++famL 1000000 (F0++F1)) i=H2 i:=fun i=>by rw[eH2,hH2]
 refine⟨x,(l1++ob0)++famL 1000000 (F0++F1),⟨l1++ob0,F0++F1,by rw[sl,List.all_append,s2,hlo0,s3];rfl,rowF.app hF0 q2,by rw[List.length_append];exact hM,rfl,l1,F1,hR1,rfl,rfl⟩,v,ρ2,f2,rfl,⟨g1.os,g1.tape,g1.output,g1.size,fun b hb _=>hsame b hb,fun b o hb hlt=>?_⟩,?_,fun i=>?_,fun i j hij b hb hb'=>?_,fun i b hb=>?_⟩
 ·rcases Nat.lt_or_ge b w.heap.size with hb2|hb2
  ·rcases hb with⟨i,hi⟩|hb
   ·rw[World.frozen?_of_block (w:=w) (hsame b hb2)]
    exact(hob i).frozen b hi o
   ·omega
  ·exact g1.nf b o (.inr hb2) hlt
 ·rw[eH2,hH2]
  refine RV.owned x hx g2 fun id hid=>?_
  have hin:=hn id hid
  have hlt:id<1000000:=by
   obtain⟨o,k1,_⟩:=ofO_mem hin
   exact Nat.le_of_ble_eq_true (List.all_eq_true.1 s1 _ k1)
  have hsrc:srcN l1 F0.length id=some id:=by unfold srcN;rw[if_pos hlt,if_pos hin]
  refine⟨?_,eρ1 hsrc⟩
  obtain⟨o,k1,k2⟩:=ofO_mem hin
  have hfl:=h1 _ k1
  rw[←hHc,tl_lo hlt,k2]
  cases o with
  |arr e sz rows=>rfl
  |box T p c=>exact hfl.elim
  |gone=>exact hfl.elim
 ·rw[e2 i]
  rw[show ofO ((l1++ob0)++famL 1000000 (F0++F1))=H2 from funext e2]
  cases hi:srcN l1 F0.length i with
  |none=>
   rw[fn hi,eρ0 hi,ef0 hi]
   have h:=(hob i).env E (fun b hb=>hsame b ((hob i).lt b hb))
   have ek:(tl (ofO ob0) F0 i).kil (fun i=>(srcN l1 F0.length i).isSome)=tl (ofO ob0) F0 i:=by
    rcases arr0 i with q|⟨e,sz,rows,q⟩<;>rw[q]<;>rfl
   rwa [ek]at h
  |some j=>
   rw[fs hi,eρ1 hi,ef1 hi]
   have h:=g3 j
   rcases flat1 j with q|q
   ·rw[q]at h ⊢;exact h
   ·cases hj:H1 j with
    |arr e sz rows=>
     rw[hj]at h q
     obtain⟨xs,fr,k1,k2,k3,k4,k5⟩:=h
     have hfr:=k1.flat_fp q
     subst hfr
     exact⟨xs,[],k1,by simp,k3,k4,k5⟩
    |box T p c=>rw[hj]at q;exact q.elim
    |gone=>rw[hj]at q;exact q.elim
 ·cases hi:srcN l1 F0.length i with
  |none=>
   rw[ef0 hi]at hb
   cases hj:srcN l1 F0.length j with
   |none=>rw[ef0 hj]at hb';exact hdj i j hij b hb hb'
   |some j'=>
    rw[ef1 hj]at hb'
    have:=(hob i).lt b hb
    have:=hnew j' b hb'
    omega
  |some i'=>
   rw[ef1 hi]at hb
   cases hj:srcN l1 F0.length j with
   |none=>
    rw[ef0 hj]at hb'
    have:=(hob j).lt b hb'
    have:=hnew i' b hb
    omega
   |some j'=>
    rw[ef1 hj]at hb'
    exact g4 i' j' (fun q=>hij (srcN_inj hi (q▸hj))) b hb hb'
 ·cases hi:srcN l1 F0.length i with
  |none=>rw[ef0 hi]at hb;exact⟨.inl ⟨i,hb⟩,hLf i b hb⟩
  |some j=>
   rw[ef1 hi]at hb
   have:=hnew j b hb
   exact⟨.inr this,fun hl=>by have:=hL b hl;omega⟩

set_option maxHeartbeats 16000000
set_option maxRecDepth 100000
theorem GC.toN{P:Program}{f:FuncId}{args:List AV}{x:AV}{l1:List (Nat×AO)}(h:GC P f args [] x l1)(hl:(smallO l1&&(l1.all (fun p=>lowO p.2)&&lowA x))=true):GN P f args [] [] fun y l F=>y=x∧l=l1∧F=[]:=
 (show GX P f args [] _ from h).mono fun y o ⟨e1,e2⟩=>by
  subst e1 e2
  exact⟨o,[],hl,rowF.nil,by decide,(List.append_nil o).symm,rfl,rfl,rfl⟩
theorem toDisk_f(d:Disk)(hz:DkZ d):GC Try.prog 19 [ldiskV d] [] (diskV d) []:=diskRel_f (toDisk_n d hz)
abbrev obQ(u1 u2:Value)(vs us:List Value)(d:Disk):List (Nat×AO):=[(4,.arr ⟨115,some u1⟩ 1 (rowsCV vs)),(5,.arr ⟨123,some u2⟩ 2 (rowsWV us d.dirty))]
theorem rdQ{u1 u2:Value}{vs us:List Value}{d:Disk}(hv:vs.length=d.cells.length)(hu:us.length=d.dirty.length):Reads (tl (ofO (obQ u1 u2 vs us d)) (famD vs us d)) (.agg [.own 4,.own 5]) (diskV d):=
 fun{L ρ w c} hob hx=>rdDisk (s:=0) (Tl.tl famD_row) rfl rfl hv hu (fun i _=>by rw[Nat.zero_add]) hob hx
theorem logEvents_f(d:Disk)(hb:DkB d):GC Try.prog 20 [diskV d] [] (.p (.lst 40 7 (rowsOf encEvent (logE d)))) []:=(logEvents_o d hb).frz1
theorem slogEvents_f(d:Disk)(hb:DkB d):GC Try.prog 18 [diskV d] [] (.p (.lst 40 7 (rowsOf encEvent (logE d)))) []:=(slogEvents_o d hb).frz1
theorem lentEv(u1 u2:Value)(vs us:List Value)(d:Disk)(hb:DkB d)(hz:DkZ d)(hv:vs.length=d.cells.length)(hu:us.length=d.dirty.length) :
 GN Try.prog 20 [.agg [.own 4,.own 5]] (obQ u1 u2 vs us d) (famD vs us d) fun y l F=>y=.own 1∧l=(1,eAr (logE d))::obQ u1 u2 vs us d∧F=famD vs us d:=
 (GN.lentD ((logEvents_o d hb).toN rfl) (.cons (rdQ hv hu) .nil) famD_row rfl (fun x l1 F1 ⟨e1,e2,e3⟩=>by
   subst e1 e2 e3
   refine⟨rfl,fun id hid=>?_,fun p hp=>?_,(fun o ho=>by cases ho),?_⟩
   ·simp[ownN]at hid;subst hid;rfl
   ·rw[List.mem_singleton.1 hp];exact flat_rowsOf
   ·rw[famD_len hv hu];have:=hz.lc;have:=hz.lw;simp;omega)).mono fun y ob ⟨l1,F1,q1,q2,q3,q4,l2,F2,⟨e1,e2,e3⟩,e4,e5⟩=>by
   subst e1 e2 e3 e4 e5
   exact⟨_,_,q1,q2,q3,q4,rfl,rfl,List.append_nil _⟩
theorem FnExactLogEvents_e(x:Disk)(hb:DkB x)(hmc:x.cells.length≤9223372036854775807)(hbc:∀c∈x.cells,c.bytes.length≤9223372036854775807)(hmw:x.dirty.length≤9223372036854775807)(hbw:∀c∈x.dirty,c.bytes.length≤9223372036854775807):GC Try.prog 4 [ldiskV x] [] (boo true) []:=by
 refine gi 2 Try.func4 rfl Try.ntmps4 rfl ?_
 intro L O w0
 refine sL<|lst (zX 2001 rfl) Z<|laZ Z<|nA<|laI Z<|nA<|loX (.agg [vL _ _ _,vL _ _ _]) ty.kd25 Z<|lmI Z<|lst (zL Try.func17 (szDisk_e x 1048576 (by omega) (by omega) hmc hbc hmw hbw) rfl) Z<|laI Z<|nG<|aS<|sL<|lmI Z<|lbB Z<|nG ?_
 refine AW.cond rfl ?_ ?_
 ·intro h1
  refine sL<|laT Z<|nG<|aR<|rT ?_
  refine end_ret ?_ trivial
  rfl
 ·intro h1
  refine aK<|gT<|aS ?_
  have hs:0≤szD x 1048576:=by have h:=h1;simp only[decide_eq_false_iff_not]at h;omega
  have hz:=szD_y hs
  obtain⟨hc0,hc1⟩:=dcnt_bd hz.m
  have hlc:=hz.lc
  have hlw:=hz.lw
  refine aL<|loX (.agg [vL _ _ _,vL _ _ _]) ty.kd25 Z<|lst (zC [] [] [] Try.func19 (toDisk_f x hz) (trivial) Z Z) Z<|lst (zC [] [] [] Try.func18 (slogEvents_f x hb) (trivial) Z Z) Z<|laL Z<|nA<|loX (.agg [vL _ _ _,vL _ _ _]) ty.kd25 Z ?_
  refine AL.stx (StX.callN (F:=[]) [(1,11),(2,12)] [11,12] [] ([]).length Try.func19 (toDisk_n x hz) tlp List.drop_length List.take_length (Nat.le_refl _) ((by simp)) (fun _ _ _ _=>trivial) rfl rfl) rfl ?_
  rintro _ _ ⟨xz1,oz1,Fz1,hz1,hF1,hM1,rfl,rfl⟩
  obtain⟨vs1,us1,hv1,hu1,rfl,rfl,rfl⟩:=hz1
  have hrf1:rowF ([]++famD vs1 us1 x):=rowF.app (by first|assumption|exact rowF.nil) hF1
  refine lTt (([]++famD vs1 us1 x)) [1,2,4,20] [11,12,2001] ?_
  refine lst (zA 2005 ty.ze34 Z) Z<|lst (zB 2005 ty.co34 ty.inf34 Z) Z<|nG<|aS ?_
  rw[List.nil_append]
  have hrf1:rowF (famD vs1 us1 x):=famD_row
  have hFl:=famD_len hv1 hu1
  refine AW.pinA 11 rfl ?_
  intro u11
  refine AW.pinA 12 rfl ?_
  intro u12
  refine aL<|loX (.agg [.own _,.own _]) ty.kd34 Z ?_
  refine AL.stx (StX.callN (F:=(famD vs1 us1 x)) [(1,6),(4,11),(5,12)] [6] [4,5] 0 Try.func20 (lentEv u11 u12 vs1 us1 x hb hz hv1 hu1) tlp List.drop_zero List.take_zero (Nat.zero_le _) ((by rw[hFl];omega)) ((fun y l F ⟨_,e2,_⟩=>by subst e2;exact⟨stays.arr rfl,stays.arr rfl,trivial⟩)) rfl rfl) rfl ?_
  rintro _ _ ⟨xz2,oz2,Fz2,hz2,hF2,hM2,rfl,rfl⟩
  obtain⟨rfl,rfl,rfl⟩:=hz2
  have hrf2:rowF ([]++famD vs1 us1 x):=rowF.app (by first|assumption|exact rowF.nil) hF2
  refine laO Z<|nG<|aS<|aS ?_
  rw[List.nil_append]
  refine aL<|lmO Z<|lmL Z<|lst (zL Try.func21 (eqEventS_e (logE x) (by have:=logE_len x;omega)) rfl) Z<|luZ Z<|lsB 26 false rfl (by first|(simp;done)|(simp;omega))<|nG<|aN Z<|aK<|gT<|aS<|aS<|aF []<|sq 0 (roX (.agg [.own _,.own _]) ty.kd34 rfl)<|vq 1 (roX (.agg [vL _ _ _,vL _ _ _]) ty.kd25 rfl)<|vst 2 rfl (zC [] [] [] Try.func19 (toDisk_f x hz) (trivial) rfl rfl) (.inr rfl)<|vst 3 rfl (zLN Try.func22 (eqDisk_e x hz.e) rfl (.cons (rdDisk (vs:=vs1) (us:=us1) (d:=x) (s:=0) tlp rfl rfl hv1 hu1 (fun j _=>by rw[Nat.zero_add])) (.cons (Reads.lend rfl) .nil))) (.inr rfl)<|vq 4 (ruZ rfl)<|fsB 31 false rfl (by first|(simp;done)|(simp;omega))<|fD<|gT<|aN Z<|aK<|gA<|laI Z<|nG ?_
  refine aS ?_
  rw[←List.append_nil (famD vs1 us1 x)]
  have hrf1b:rowF (famD vs1 us1 x++[]):=rowF.app famD_row rowF.nil
  refine aL<|loX (.agg [.own _,.own _]) ty.kd34 Z<|lmI Z ?_
  refine AL.stx (StX.callN (F:=(famD vs1 us1 x++[])) [(1,11),(2,12)] [] [1,2] 0 Try.func23 (markDisk_e u11 u12 vs1 us1 x [] 1 hv1 hu1 rowF.nil (by simp) hz (by omega)) tlp List.drop_zero List.take_zero (Nat.zero_le _) ((by rw[List.append_nil,hFl];omega)) ((fun y l F ⟨_,e2,_⟩=>by subst e2;exact⟨stays.arr rfl,stays.arr (by show (rowsWV us1 (mkG mWr gWr x.dirty _)).length=_;rw[rowsWV_len (by rw[mkG_len];exact hu1),mkG_len,rowsWV_len hu1]),trivial⟩)) rfl rfl) rfl ?_
  rintro _ _ ⟨xz3,oz3,Fz3,hz3,hF3,hM3,rfl,rfl⟩
  obtain⟨rfl,rfl,rfl⟩:=hz3
  have hrf3:rowF ([]++(famD vs1 us1 (mkDk x 1)++[])):=rowF.app (by first|assumption|exact rowF.nil) hF3
  refine lTt (([]++(famD vs1 us1 (mkDk x 1)++[]))) [1,2,4,6,7,34] [6,2001] ?_
  refine laI Z<|nG<|aS<|aS ?_
  rw[List.nil_append]
  have hrf1c:rowF (famD vs1 us1 (mkDk x 1)++[]):=rowF.app famD_row rowF.nil
  refine aL<|lmI Z<|lbB Z<|lsB 36 false rfl (by first|(simp;done)|(simp;omega))<|lmZ Z<|lmO Z<|lmL Z<|lst (zL Try.func21 (eqEventS_e (logE x) (by have:=logE_len x;omega)) rfl) Z<|luZ Z<|lsB 41 false rfl (by first|(simp;done)|(simp;omega))<|lkZ Z<|nG<|aN Z<|aK<|gA<|laI Z<|nG<|aS ?_
  refine AW.pinA 6 rfl ?_
  intro u6
  refine aL<|lmO Z<|lmI Z ?_
  refine lst (zC [(0,6)] [] [0] Try.func24 (markEventS_e u6 (logE x) 1 (by have:=logE_len x;omega) (by omega)) (⟨stays.arr (by simp[rowsOf,mkLs_len]),trivial⟩) rfl rfl) Z<|laI Z<|nA<|laI Z<|nA<|lmO Z<|lmI Z<|lst (zL Try.func25 (heldEventS_e (logE x).length 1 (by have:=logE_len x;omega) (by omega)) rfl) rfl ?_
  refine lTt ((famD vs1 us1 (mkDk x 1)++[])) [1,2,4,6,8,9,48] [6,2001] ?_
  refine laI Z<|nG<|aS<|sL<|lmI Z<|lbB Z<|lsB 50 false rfl (by first|(simp;done)|(simp;omega))<|nG<|aN Z<|aK<|gT<|aS<|sL<|lmI Z<|lmI Z<|lbB Z<|lsB 53 false rfl (by first|(simp;done)|(simp;omega))<|nG<|aN Z<|aK<|gA<|loX (.agg [vL _ _ _,vL _ _ _]) ty.kd25 Z<|lst (zC [] [] [] Try.func19 (toDisk_f x hz) (trivial) rfl rfl) rfl ?_
  refine lst (zC [] [] [] Try.func20 (logEvents_f x hb) (trivial) rfl rfl) Z<|laL Z<|nG<|aS<|sL<|lmL Z<|lmL Z<|lst (zL Try.func21 (eqEventS_e (logE x) (by have:=logE_len x;omega)) rfl) Z<|luZ Z<|lsB 60 false rfl (by first|(simp;done)|(simp;omega))<|nG<|aN Z<|aK<|gA<|laI Z<|nA<|lmO Z<|lmI Z<|lst (zL Try.func25 (heldEventS_e (logE x).length 1 (by have:=logE_len x;omega) (by omega)) rfl) rfl ?_
  refine lTt ((famD vs1 us1 (mkDk x 1)++[])) [2,8,9,63] [] ?_
  refine laI Z<|nG<|aS<|sL<|lmI Z<|lbB Z<|lsB 65 false rfl (by first|(simp;done)|(simp;omega))<|nG<|aN Z<|aK<|gT<|aS<|sL<|lmI Z<|lmI Z<|lbB Z<|lsB 68 false rfl (by first|(simp;done)|(simp;omega))<|nG<|aN Z<|aK<|gA<|laT Z<|lN ?_
  refine gT<|aR ?_
  refine end_ret ?_ trivial
  rfl

theorem SlR.eachD{α:Type}{sz:Nat}{rep:World→Nat→Nat→List Value→α→Prop}{w:World}{lo hi:Nat}{v:Value}{xs:List α}{p:α→Prop}(h:SlR sz rep w lo hi v xs)(hp:∀lo hi cs x,rep w lo hi cs x→p x):∀x∈xs,p x:=by
 obtain⟨a,cap,rfl,c1,c2,hsl⟩:=h
 intro x hx
 rcases hsl with hz|⟨b,off,rfl,b1,b2,hel⟩
 ·subst hz;simp at hx
 ·obtain⟨i,hi,rfl⟩:=List.getElem_of_mem hx
  obtain⟨cs,h1,_⟩:=hel i hi
  exact hp _ _ _ _ h1
theorem SlR.short{α:Type}{sz:Nat}{rep:World→Nat→Nat→List Value→α→Prop}{w:World}{lo hi:Nat}{v:Value}{xs:List α}(h:SlR sz rep w lo hi v xs):xs.length≤9223372036854775807:=by
 obtain⟨a,c,_,k1,k2,_⟩:=h
 unfold maxLen at k2
 omega
theorem byteRW{w:World}{lo hi:Nat}{v:Value}{b:List Int}(h:SlR 1 repByte w lo hi v b)(hh:hi≤w.heap.size):∃fp,RW w false (lstB b) v fp:=by
 have:=RV.of_slr (L:=fun _=>False) (ρ:=fun _=>undef) (H:=ofO []) (e:=5) h (fun cs x q=>(show cs=encU x from q.1)) (fun _=>rfl) (by intro c u hu;simp[encU]at hu;subst hu;rfl) hh (fun _ _ _=>no_live)
 rw[RV]at this
 obtain⟨fp,q,_⟩:=this
 exact⟨fp,q⟩
theorem byteOk{w:World}{lo hi:Nat}{v:Value}{b:List Int}(h:SlR 1 repByte w lo hi v b):BytesOk b:=fun x hx=>(h.eachD fun _ _ _ _ q=>q.2) x hx
theorem cellRW{w:World}{lo hi:Nat}(hh:hi≤w.heap.size){cs:List Value}{x:Cell}(h:repCell w lo hi cs x):cs.length=1∧∃fp,RWL w false [lstB x.bytes] cs fp:=by
 obtain⟨v0,rfl,q,_⟩:=h
 obtain⟨fp,k⟩:=byteRW q hh
 refine⟨rfl,fp++[],?_⟩
 rw[RWL]
 exact⟨v0,[],fp,[],rfl,rfl,k,by rw[RWL];exact⟨rfl,rfl⟩⟩
theorem writeRW{w:World}{lo hi:Nat}(hh:hi≤w.heap.size){cs:List Value}{x:Write}(h:repWrite w lo hi cs x):cs.length=2∧∃fp,RWL w false [.v (.int .i64 x.at_),lstB x.bytes] cs fp:=by
 obtain⟨v0,rfl,q,_⟩:=h
 obtain⟨fp,k⟩:=byteRW q hh
 refine⟨rfl,[]++(fp++[]),?_⟩
 rw[RWL]
 refine⟨_,[v0],[],fp++[],rfl,rfl,by rw[RW];exact⟨rfl,rfl,rfl⟩,?_⟩
 rw[RWL]
 exact⟨v0,[],fp,[],rfl,rfl,k,by rw[RWL];exact⟨rfl,rfl⟩⟩
structure DkR(d:Disk):Prop where
 hb:DkB d
 lc:d.cells.length≤9223372036854775807
 bc:∀c∈d.cells,c.bytes.length≤9223372036854775807
 lw:d.dirty.length≤9223372036854775807
 bw:∀c∈d.dirty,c.bytes.length≤9223372036854775807
theorem DkR.of{d:Disk}{w:World}{v0 v1:Value}(h0:SlR 1 repCell w 0 w.heap.size v0 d.cells)(h1:SlR 2 repWrite w 0 w.heap.size v1 d.dirty):DkR d:=
 ⟨⟨fun c hc=>(h0.eachD (p:=fun c=>BytesOk c.bytes) fun _ _ _ _ ⟨_,_,q,_⟩=>byteOk q) c hc,fun c hc=>(h1.eachD (p:=fun c=>BytesOk c.bytes) fun _ _ _ _ ⟨_,_,q,_⟩=>byteOk q) c hc⟩,h0.short,fun c hc=>(h0.eachD (p:=fun c=>c.bytes.length≤9223372036854775807) fun _ _ _ _ ⟨_,_,q,_⟩=>q.short) c hc,h1.short,fun c hc=>(h1.eachD (p:=fun c=>c.bytes.length≤9223372036854775807) fun _ _ _ _ ⟨_,_,q,_⟩=>q.short) c hc⟩
theorem cellsRV{e:TypeId}{d:List Cell}{w:World}{v:Value}(h:SlR 1 repCell w 0 w.heap.size v d):RV (fun _=>False) (fun _=>undef) (ofO []) w (.p (.lst e 1 (rowsC d))) v:=by
 obtain⟨fp,q⟩:=RV.of_slrD (e:=e) (row:=fun c:Cell=>[lstB c.bytes]) h (fun cs x k=>cellRW (Nat.le_refl _) k) (fun _=>rfl) (Nat.le_refl _)
 rw[RV]
 exact⟨fp,q,fun _ _=>no_live⟩
theorem writesRV{e:TypeId}{d:List Write}{w:World}{v:Value}(h:SlR 2 repWrite w 0 w.heap.size v d):RV (fun _=>False) (fun _=>undef) (ofO []) w (.p (.lst e 2 (rowsW d))) v:=by
 obtain⟨fp,q⟩:=RV.of_slrD (e:=e) (row:=fun c:Write=>[.v (.int .i64 c.at_),lstB c.bytes]) h (fun cs x k=>writeRW (Nat.le_refl _) k) (fun _=>rfl) (Nat.le_refl _)
 rw[RV]
 exact⟨fp,q,fun _ _=>no_live⟩
theorem diskRV{e1 e2:TypeId}{d:Disk}{w:World}{v0 v1:Value}(h0:SlR 1 repCell w 0 w.heap.size v0 d.cells)(h1:SlR 2 repWrite w 0 w.heap.size v1 d.dirty):RV (fun _=>False) (fun _=>undef) (ofO []) w (.agg [.p (.lst e1 1 (rowsC d.cells)),.p (.lst e2 2 (rowsW d.dirty))]) (.agg #[v0,v1]):=by
 rw[RV]
 refine⟨[v0,v1],rfl,?_⟩
 simp only[RVL]
 exact⟨_,_,rfl,cellsRV h0,_,_,rfl,writesRV h1,rfl⟩

theorem FnExactLogEvents_walk(x:Disk)(a0:Option Addr)(c0:Nat)(a1:Option Addr)(c1:Nat)(w:World)(h0:SlR 1 repCell w 0 w.heap.size (.slice a0 x.cells.length c0) x.cells)(h1:SlR 2 repWrite w 0 w.heap.size (.slice a1 x.dirty.length c1) x.dirty)(wf0:wfDisk x) :
 Calls Try.prog 4 #[.agg #[.slice a0 x.cells.length c0,.slice a1 x.dirty.length c1]] w fun r w'=>r=.returned (.bool true)∧Grow w w':=
 let k:=DkR.of h0 h1
 GC.calls (cs:=[_]) rfl (FnExactLogEvents_e x k.hb k.lc k.bc k.lw k.bw) (by
  simp only[RVL]
  exact⟨_,_,rfl,diskRV h0 h1,rfl⟩)
end Go.Proofs.Yteblcdnhnckkaaa

namespace Go.Proofs.Yteblcdnhnckkaaa.fnExactLogEvents
open Go.ChangeShapes Go.WideShapes Go.ChangeAt Go.RowKit Go.Proofs.Yteblcdnhnckkaaa
set_option maxHeartbeats 16000000
set_option maxRecDepth 100000
set_option linter.unusedVariables false
theorem own:ownKnob Try.prog.godebug=none:=by kernel_rfl
theorem laid:laidOutB Try.prog=true:=by kernel_rfl
theorem readable:∀t∈[25],Try.prog.readableRec t=true∧t<Try.prog.types.size:=by
 intro t ht
 simp only[List.mem_cons,List.not_mem_nil,or_false]at ht
 rcases ht with rfl
 all_goals exact⟨by kernel_rfl,of_decide_eq_true (by kernel_rfl)⟩
theorem lifted(os:Os)(started:os.Started)(H:Type)(enc:TypeId×Value→H) :
 ReturnsInHanded {} Try.checked os 4 .any (Rows.fnExactLogEventsSpec.pre6 enc Try.prog Try.f4 Rows.fnExactLogEventsRow.domain false) (Rows.fnExactLogEventsSpec.post enc Try.prog Try.f4 false true false false):=by
 refine returnsInHanded_of_change (C:=Try.checked) own started (by kernel_rfl) Try.func4
  (ChangeSpec.witness6 (enc:=enc) (C:=Try.checked) false ⟨#[],#[.agg #[.slice none 0 0,.slice none 0 0]],[]⟩ 8 (by kernel_rfl) (by kernel_rfl) (by kernel_rfl) (by kernel_rfl)) ?_
 intro W base args ds gs before hval0 hW hcnd _
 have hval:∀(j:Nat) t v,Try.f4.params[j]? = some t→args[j]? = some v→Value.okWide Try.prog W .any base t v:=hval0
 have hW':=hW
 obtain⟨p,q,hA0,hV,rfl,hfz,hnd⟩:=hW
 have hA:DataW.TrodAll enc Try.prog W 0 (fun _=>true) true Try.f4.params.toList args.toList ds p:=hA0
 rw[Try.params4]at hA hval
 have hB:=hA
 obtain⟨v0,vs0,d0,ds0,p0,q0,hargs,rfl,rfl,h0,r0⟩:=trodAll_cons hA
 obtain⟨rfl,rfl,rfl⟩:=trodAll_nil r0
 obtain rfl:args=#[v0]:=by cases args;simp_all
 obtain⟨rfl,rfl⟩:=trodVars_none hV
 obtain⟨cs0,rfl,_⟩:=okWide_struct Try.underlying25 (hval 0 25 v0 rfl rfl)
 obtain⟨fu0,t0⟩:=h0
 obtain⟨x0,u0_0,u0_1,e0,s0_0,s0_1,w0⟩:=trodDisk t0
 have e0:cs0=#[u0_0,u0_1]:=Array.ext' (by simpa[Value.cells]using e0)
 subst e0
 obtain⟨a0_0,c0_0,rfl⟩:∃a c,u0_0=Value.slice a x0.cells.length c:=let ⟨a,c,h,_⟩:=s0_0;⟨a,c,h⟩
 obtain⟨a0_1,c0_1,rfl⟩:∃a c,u0_1=Value.slice a x0.dirty.length c:=let ⟨a,c,h,_⟩:=s0_1;⟨a,c,h⟩
 clear hA0 hval0
 simp only[List.append_nil]at hW'
 refine(FnExactLogEvents_walk x0 a0_0 c0_0 a0_1 c0_1 W s0_0 s0_1 w0).mono fun e W' ⟨he,hg⟩=>?_
 subst he
 exact⟨_,rfl,_,_,_,_,_,[],hW',trodAll_mk1 (shut_bool Try.underlying4 true),
  trodAll_below laid hg.below (readable) hB,rfl,hg.below.frame _,fun h=>by cases h⟩
theorem over:Rows.fnExactLogEventsRow.holds Try.pinned (OpenSpec.ofChange Rows.fnExactLogEventsSpec):=
 OpenClaim.holds_of_wide 4 Try.f4 rfl rfl rfl rfl rfl rfl rfl ⟨rfl,rfl,rfl,rfl,rfl⟩ rfl rfl rfl rfl rfl (by kernel_rfl) Try.func4 (by kernel_rfl)
  (of_decide_eq_true (by kernel_rfl)) (by unfold Func.isWrapper;first|(rw[if_pos (by decide +kernel)];kernel_rfl)|(rw[if_neg (by decide +kernel)];exact⟨rfl,rfl⟩))
  (fun os started H enc _=>lifted os started H enc)
theorem proved:Rows.FnExactLogEventsSaid:=
 over
#print axioms proved
end Go.Proofs.Yteblcdnhnckkaaa.fnExactLogEvents

