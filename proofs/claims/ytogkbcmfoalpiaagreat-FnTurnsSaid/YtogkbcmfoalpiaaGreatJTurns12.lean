/- Texts of the proof of FnTurns, joined: PoOk, SzOk, ED6, E24, Cur1, ED1, ED2, E25, ED3, ED4, E26, AllF, BalW. -/
import Derived.Test.YtogkbcmfoalpiaaGreatJTurns11
import Derived.Test.YtogkbcmfoalpiaaGreatKNum
import Derived.Test.YtogkbcmfoalpiaaGreatJTurns4
import Derived.Test.YtogkbcmfoalpiaaGreatJTurns7
namespace Go.Proofs.YtogkbcmfoalpiaaGreat
open Go.RowKit
set_option linter.unusedSimpArgs false
set_option linter.unusedVariables false
theorem lessA_trans {a b c : Acc} (h : lessA a b = true) (h2 : lessA b c = true) : lessA a c = true := by
 unfold lessA at *
 simp only [Bool.or_eq_true,Bool.and_eq_true,decide_eq_true_eq,beq_iff_eq] at *
 omega
def lamt (x : Line) : Int := x.amt
theorem insL_asc {x : Line} : ∀ {l : List Line},(l.Pairwise fun a b => lessA a.acc b.acc = true) → Fresh l x.acc.kind x.acc.ch → (insL l x).Pairwise fun a b => lessA a.acc b.acc = true
 | [],_,_ => by unfold insL;exact List.pairwise_singleton _ _
 | y :: l,h,hf => by
  rw [List.pairwise_cons] at h
  unfold insL
  by_cases q : lessA y.acc x.acc = true
  ·rw [if_pos q,List.pairwise_cons]
   refine ⟨fun z hz => ?_,insL_asc h.2 fun z hz => hf z (by simp [hz])⟩
   rcases mem_insL hz with r | rfl
   ·exact h.1 z r
   ·exact q
  ·rw [if_neg q]
   have q' := lessA_or (hf y (by simp)) (by simpa using q)
   rw [List.pairwise_cons]
   refine ⟨fun z hz => ?_,List.pairwise_cons.2 h⟩
   rcases List.mem_cons.1 hz with rfl | r
   ·exact q'
   ·exact lessA_trans q' (h.1 z r)
theorem insL_tot {x : Line} : ∀ (l : List Line),tot lamt (insL l x) = tot lamt l + x.amt
 | [] => by unfold insL;rw [tot_cons,tot_nil];unfold lamt;omega
 | y :: l => by
  unfold insL
  split
  ·rw [tot_cons,tot_cons,insL_tot l];omega
  ·rw [tot_cons];unfold lamt;omega
def AccV (a : Acc) : Prop := (1 ≤ a.kind ∧ a.kind ≤ 5 ∧ a.ch = 0) ∨ (6 ≤ a.kind ∧ a.kind ≤ 8 ∧ 1 ≤ a.ch ∧ a.ch ≤ 99)
structure LnS (l : List Line) (s : Int) (m : Nat) : Prop where
 asc : l.Pairwise fun a b => lessA a.acc b.acc = true
 acc : ∀ y ∈ l,AccV y.acc
 amt : ∀ y ∈ l,y.amt ≠ 0 ∧ -1125899906842624 ≤ y.amt ∧ y.amt ≤ 1125899906842624
 sum : tot lamt l = s
 len : l.length ≤ m
theorem LnS.nil : LnS [] 0 0 := ⟨List.Pairwise.nil,by simp,by simp,rfl,Nat.le_refl _⟩
theorem LnS.add {l : List Line} {s n k c : Int} {m : Nat} (h : LnS l s m) (hv : AccV ⟨k,c⟩) (hf : Fresh l k c) (hn : -1125899906842624 ≤ n ∧ n ≤ 1125899906842624) : LnS (addL l k c n) (s + n) (m + 1) := by
 by_cases q : n = 0
 ·rw [addL_zero q,q,Int.add_zero]
  exact ⟨h.asc,h.acc,h.amt,h.sum,Nat.le_succ_of_le h.len⟩
 ·rw [addL_pos q]
  refine ⟨insL_asc h.asc hf,fun y hy => ?_,fun y hy => ?_,?_,?_⟩
  ·rcases mem_insL hy with r | rfl
   ·exact h.acc y r
   ·exact hv
  ·rcases mem_insL hy with r | rfl
   ·exact h.amt y r
   ·exact ⟨q,hn⟩
  ·rw [insL_tot,h.sum]
  ·rw [insL_length];have := h.len;omega
theorem LnS.two {l : List Line} {m : Nat} (h : LnS l 0 m) (hl : l ≠ []) : 2 ≤ l.length := by
 match l,hl with
 | [y],_ =>
  have h1 := h.sum
  rw [tot_cons,tot_nil] at h1
  have h2 := (h.amt y (by simp)).1
  unfold lamt at h1
  omega
 | _ :: _ :: _,_ => simp
theorem There.ok {x : Book} (b : BOk x) {ch : Int} (h : There x.chans ch) : 1 ≤ ch ∧ ch ≤ 99 := by
 obtain ⟨c,hc,rfl⟩ := h
 exact (b.ch c hc).id
theorem fr2 {l : List Line} {a b c k ch : Int} (h : Fresh l k ch) (hd : a ≠ k ∨ b ≠ ch) : Fresh (addL l a b c) k ch := h.add hd

def Keeps (l l' : List Chan) : Prop := ∀ c ∈ l,∃ d ∈ l',d.id = c.id ∧ d.size = c.size
theorem Keeps.refl (l : List Chan) : Keeps l l := fun c hc => ⟨c,hc,rfl,rfl⟩
theorem Keeps.trans {a b c : List Chan} (h : Keeps a b) (h2 : Keeps b c) : Keeps a c := fun x hx => by
 obtain ⟨y,hy,q1,q2⟩ := h x hx
 obtain ⟨z,hz,r1,r2⟩ := h2 y hy
 exact ⟨z,hz,r1.trans q1,r2.trans q2⟩
theorem Keeps.upd {l : List Chan} {a : Int} {f : Chan → Chan} (hf : ∀ c,(f c).id = c.id ∧ (f c).size = c.size) : Keeps l (updC l a f) := fun c hc => by
 refine ⟨_,List.mem_map_of_mem hc,?_⟩
 split
 ·exact hf c
 ·exact ⟨rfl,rfl⟩
theorem Keeps.map {l : List Chan} {f : Chan → Chan} (hf : ∀ c,(f c).id = c.id ∧ (f c).size = c.size) : Keeps l (l.map f) := fun c hc => ⟨_,List.mem_map_of_mem hc,hf c⟩

set_option maxHeartbeats 16000000
set_option maxRecDepth 100000
theorem chanAt_gone {l : List Chan} {ch : Int} (h : chanAt l ch < 0) : ¬ There l ch := by
 rintro ⟨c,hc,q⟩
 unfold chanAt at h
 split at h
 ·omega
 ·rename_i e
  rw [List.findIdx?_eq_none_iff] at e
  have := e c hc
  simp [q] at this
abbrev chA (c : Chan) : AV := .agg [int c.id,int c.size,int c.loc,int c.remote,int c.base,int c.ppm,int c.score]
def PkR (x : Book) (ch : Int) : AV → List (Nat × AO) → Prop := fun y ob => ob = [] ∧ ∃ d ok,y = .tup [chA d,boo ok] ∧ (ok = true → d ∈ x.chans ∧ d.id = ch) ∧ (ok = false → bookOk x = true → ¬ There x.chans ch)
theorem pick_e (x : Book) (ch : Int) (hw : BookWf x) : GX Tryz.prog 13 [bookV x,int ch] [] (PkR x ch) := by
 refine GX.intro (rs := [.cell 4 40 (some 7),.tmp 5]) Tryz.func13 rfl Tryz.ntmps13 (Nat.le_of_ble_eq_true rfl) ⟨rfl,rfl,ty.kd40,rfl,trivial⟩ ?_
 intro L O w0
 refine sL<|lst (zX 2002 Z) Z<|lst (zA 2004 ty.ze40 Z) Z<|laZ Z<|nA<|loX (.agg [vI _ _,vI _ _,vI _ _,vL _ _ _,vL _ _ _,vL _ _ _]) ty.kd27 Z<|lmI Z<|lst (zC [] [] [] Tryz.func69 (impl_chanAt_e x ch hw) (trivial) Z Z) Z<|laI Z<|nG<|aS<|sL<|loX (.agg [vI _ _,vI _ _,vI _ _,vL _ _ _,vL _ _ _,vL _ _ _]) ty.kd27 Z<|lst (zC [] [] [] Tryz.func11 (impl_BookOk_e x hw) (trivial) Z Z) Z<|luB Z<|lmB Z ?_
 refine AL.bool (t := 13) rfl ?_ ?_
 ·intro h1
  refine lno Z<|lno Z<|lkT Z<|nG<|aY Z<|sL<|lq (rd (x := .agg [vI _ _,vI _ _,vI _ _,vI _ _,vI _ _,vI _ _,vI _ _]) (rd_build Z ty.sa40 Z Z Z) Z)<|lst (zB 2004 ty.co40 ty.inf40 Z) Z<|lT [2,4,5,6] [2002,2004] ?_
  refine laZ Z<|nG<|aR<|rT ?_
  refine end_xret ((.tup [chA ⟨0,0,0,0,0,0,0⟩,boo false])) [] ?_ rfl trivial
  exact ⟨rfl,_,_,rfl,(fun h => by cases h),fun _ hbk => chanAt_gone (by have h := h1;first | (simp [hbk] at h;done) | (simp at h;omega))⟩
 ·intro h1
  refine lmI Z<|lbB Z<|lkB Z<|nG ?_
  refine AW.cond rfl ?_ ?_
  ·intro h2
   refine sL<|lq (rd (x := .agg [vI _ _,vI _ _,vI _ _,vI _ _,vI _ _,vI _ _,vI _ _]) (rd_build Z ty.sa40 Z Z Z) Z)<|lst (zB 2004 ty.co40 ty.inf40 Z) Z<|laZ Z<|nG<|aR<|rT ?_
   refine end_xret ((.tup [chA ⟨0,0,0,0,0,0,0⟩,boo false])) [] ?_ rfl trivial
   exact ⟨rfl,_,_,rfl,(fun h => by cases h),fun _ hbk => chanAt_gone (by have h := h2;first | (simp [hbk] at h;done) | (simp at h;omega))⟩
  ·intro h2
   refine aK<|gA<|lf 3 ty.F27_3 Z<|loL ty.kd23 Z<|lmI Z ?_
   have hb : 0 ≤ chanAt x.chans ch := by have h := h2;simp at h;omega
   obtain ⟨k,hk,hi,hp⟩ : ∃ k,∃ h : k < x.chans.length,chanAt x.chans ch = (k : Int) ∧ x.chans[k].id = ch := by
    rcases atI_cases (fun c : Chan => c.id == ch) x.chans with q | ⟨k,h,q1,q2⟩
    ·rw [chanAt_atI] at hb;omega
    ·exact ⟨k,h,q1,by simpa using q2⟩
   refine lq (rd (x := .rp _) (rd_iaddr_p (i := k) rfl ty.el23 rfl rfl ?hn1 (row_map hk)) rfl) ?_
   case hn1 => exact hi
   refine lrX (.agg [vI _ _,vI _ _,vI _ _,vI _ _,vI _ _,vI _ _,vI _ _]) ty.kd40 Z<|lst (zB 2004 ty.co40 ty.inf40 Z) Z<|laT Z<|nG<|aR ?_
   refine end_xret ((.tup [chA x.chans[k],boo true])) [] ?_ rfl trivial
   exact ⟨rfl,_,_,rfl,(fun _ => ⟨List.getElem_mem hk,hp⟩),fun h => by cases h⟩

def flatR : AO → Prop
 | .arr e sz rows => ∀ r ∈ rows,∀ p ∈ r,∃ v,p = PV.v v
 | _ => False
theorem GX.lent {P : Program} {f : FuncId} {args args' : List AV} {ob0 : List (Nat × AO)} {R : AV → List (Nat × AO) → Prop} (hc : GX P f args [] R) (hl : lendL (ofO ob0) args' = args) (h0 : ∀ p ∈ ob0,arrO p.2 = true)
 (hR : ∀ x ob1,R x ob1 → ownA x = true ∧ (∀ id ∈ ownN x,inO ob1 id = true) ∧ (∀ p ∈ ob1,flatR p.2) ∧ (∀ p ∈ ob0,inO ob1 p.1 = false)) :
 GX P f args' ob0 fun x ob => ∃ ob1,R x ob1 ∧ ob = ob1 ++ ob0 := by
 intro L w cs ρ fp hL hargs hob hdj hLf
 have hv := RVL.lend (fun id => ⟨_,hob id⟩) args' hargs
 rw [hl] at hv
 refine Calls.mono (hc L0 w cs ρ0 (fun _ => []) (fun _ q => q.elim) hv (fun i => rfl) (by simp) (by simp)) ?_
 rintro e w' ⟨x,ob1,hR1,v,ρ',fp',rfl,g1,g2,g3,g4,g5⟩
 obtain ⟨hx,hn,h1,hd⟩ := hR x ob1 hR1
 have hnew : ∀ i,∀ b ∈ fp' i,w.heap.size ≤ b := fun i b hb => by
  rcases (g5 i b hb).1 with ⟨j,q⟩ | q
  ·cases q
  ·exact q
 have hsame : ∀ b,b < w.heap.size → w'.heap[b]? = w.heap[b]? := fun b hb => g1.block b hb (by simp)
 generalize hρ2 : (fun i => if inO ob1 i = true then ρ' i else ρ i) = ρ2
 generalize hf2 : (fun i => if inO ob1 i = true then fp' i else fp i) = f2
 have eρ1 : ∀ {i},inO ob1 i = true → ρ2 i = ρ' i := fun {i} h => by rw [← hρ2];simp only [h,if_true]
 have eρ0 : ∀ {i},inO ob1 i = false → ρ2 i = ρ i := fun {i} h => by rw [← hρ2];simp [h]
 have ef1 : ∀ {i},inO ob1 i = true → f2 i = fp' i := fun {i} h => by rw [← hf2];simp only [h,if_true]
 have ef0 : ∀ {i},inO ob1 i = false → f2 i = fp i := fun {i} h => by rw [← hf2];simp [h]
 have eH1 : ∀ {i},inO ob1 i = true → ofO (ob1 ++ ob0) i = ofO ob1 i := fun {i} h => by rw [ofO_app,if_pos h]
 have eH0 : ∀ {i},inO ob1 i = false → ofO (ob1 ++ ob0) i = ofO ob0 i := fun {i} h => by rw [ofO_app,if_neg (by simp [h])]
 have hlive : ∀ b,b < w.heap.size → ¬ live L ρ (ofO ob0) b → ¬ live L ρ2 (ofO (ob1 ++ ob0)) b := by
  rintro b hb hn (hl | ⟨i,q1,q2⟩)
  ·exact hn (.inl hl)
  ·rcases hi : inO ob1 i with _ | _
   ·rw [eH0 hi] at q1;rw [eρ0 hi] at q2;exact hn (.inr ⟨i,q1,q2⟩)
   ·rw [eH1 hi] at q1;rw [eρ1 hi] at q2
    have := hnew i b ((g3 i).top q1 q2)
    omega
 have E : Env L ρ ρ2 (ofO ob0) (ofO (ob1 ++ ob0)) w w' (inO ob1) := ⟨g1.size,fun b hb hn => ⟨hsame b hb,hlive b hb hn⟩,fun i hk hi => by
  rw [eH0 hk] at hi ⊢
  exact ⟨hi,eρ0 hk,rfl,rfl⟩⟩
 refine ⟨x,ob1 ++ ob0,⟨ob1,hR1,rfl⟩,v,ρ2,f2,rfl,⟨g1.os,g1.tape,g1.output,g1.size,fun b hb _ => hsame b hb,fun b o hb hlt => ?_⟩,?_,fun i => ?_,fun i j hij b hb hb' => ?_,fun i b hb => ?_⟩
 ·rcases Nat.lt_or_ge b w.heap.size with hb2 | hb2
  ·rcases hb with ⟨i,hi⟩ | hb
   ·rw [World.frozen?_of_block (w := w) (hsame b hb2)]
    exact (hob i).frozen b hi o
   ·omega
  ·exact g1.nf b o (.inr hb2) hlt
 ·refine RV.owned x hx g2 fun id hid => ?_
  obtain ⟨o,q1,q2⟩ := ofO_mem (hn id hid)
  have hfl := h1 _ q1
  refine ⟨?_,eρ1 (hn id hid)⟩
  rw [q2]
  cases o with
  | arr e sz rows => rfl
  | box T p c => exact hfl.elim
  | gone => exact hfl.elim
 ·rcases hi : inO ob1 i with _ | _
  ·rw [eH0 hi,eρ0 hi,ef0 hi]
   have h := (hob i).env E (fun b hb => hsame b ((hob i).lt b hb))
   have ek : (ofO ob0 i).kil (inO ob1) = ofO ob0 i := by
    rcases hj : inO ob0 i with _ | _
    ·rw [ofO_out hj];rfl
    ·obtain ⟨o,q1,q2⟩ := ofO_mem hj
     have := h0 _ q1
     rw [q2]
     cases o with
     | arr e sz rows => rfl
     | box T p c => cases this
     | gone => rfl
   rwa [ek] at h
  ·rw [eH1 hi,eρ1 hi,ef1 hi]
   obtain ⟨o,q1,q2⟩ := ofO_mem hi
   have hfl := h1 _ q1
   have h := g3 i
   rw [q2] at h ⊢
   cases o with
   | arr e sz rows =>
    obtain ⟨xs,fr,k1,k2,k3,k4,k5⟩ := h
    have hfr := k1.flat_fp hfl
    subst hfr
    exact ⟨xs,[],k1,by simp,k3,k4,k5⟩
   | box T p c => exact hfl.elim
   | gone => exact hfl.elim
 ·rcases hi : inO ob1 i with _ | _ <;> rcases hj : inO ob1 j with _ | _
  ·rw [ef0 hi] at hb;rw [ef0 hj] at hb';exact hdj i j hij b hb hb'
  ·rw [ef0 hi] at hb;rw [ef1 hj] at hb'
   have := (hob i).lt b hb
   have := hnew j b hb'
   omega
  ·rw [ef1 hi] at hb;rw [ef0 hj] at hb'
   have := (hob j).lt b hb'
   have := hnew i b hb
   omega
  ·rw [ef1 hi] at hb;rw [ef1 hj] at hb';exact g4 i j hij b hb hb'
 ·rcases hi : inO ob1 i with _ | _
  ·rw [ef0 hi] at hb;exact ⟨.inl ⟨i,hb⟩,hLf i b hb⟩
  ·rw [ef1 hi] at hb
   have := hnew i b hb
   exact ⟨.inr this,fun hl => by have := hL b hl;omega⟩
theorem GX.same {P : Program} {f : FuncId} {args : List AV} {ob0 : List (Nat × AO)} {R R' : AV → List (Nat × AO) → Prop} (h : GX P f args ob0 R) (hR : ∀ x ob,R x ob → ∃ ob',R' x ob' ∧ ofO ob' = ofO ob) : GX P f args ob0 R' := fun L w cs ρ fp h1 h2 h3 h4 h5 =>
 Calls.mono (h L w cs ρ fp h1 h2 h3 h4 h5) fun e w' ⟨x,ob,q,r⟩ => by
  obtain ⟨ob',q1,q2⟩ := hR x ob q
  exact ⟨x,ob',q1,by rw [q2];exact r⟩
theorem inO_fam {F : List AO} {i : Nat} (h : i < 1000000) : inO (famL 1000000 F) i = false := by
 cases e : inO (famL 1000000 F) i with
 | false => rfl
 | true =>
  obtain ⟨o,q,_⟩ := ofO_mem e
  obtain ⟨m,_,q2⟩ := mem_famL q
  omega
theorem inO_app {l m : List (Nat × AO)} {i : Nat} : inO (l ++ m) i = (inO l i || inO m i) := by unfold inO;rw [List.map_append,List.contains_eq_any_beq,List.any_append,← List.contains_eq_any_beq,← List.contains_eq_any_beq]
theorem GN.lent {P : Program} {f : FuncId} {args args' : List AV} {ob0 : List (Nat × AO)} {R : AV → List (Nat × AO) → List AO → Prop} (hc : GN P f args [] [] R) (hl : lendL (ofO ob0) args' = args) (h0 : (ob0.all fun p => arrO p.2 && (lowO p.2 && Nat.blt p.1 1000000)) = true)
 (hR : ∀ x l1 F1,R x l1 F1 → ownA x = true ∧ (∀ id ∈ ownN x,inO l1 id = true) ∧ (∀ p ∈ l1,flatR p.2) ∧ (∀ o ∈ F1,flatR o) ∧ (∀ p ∈ ob0,inO l1 p.1 = false)) :
 GN P f args' ob0 [] fun x l F => ∃ l1,R x l1 F ∧ l = l1 ++ ob0 := by
 have hs : smallO ob0 = true := List.all_eq_true.2 fun p hp => by
  have := List.all_eq_true.1 h0 p hp
  simp only [Bool.and_eq_true] at this
  exact this.2.2
 have hlo : (ob0.all fun p => lowO p.2) = true := List.all_eq_true.2 fun p hp => by
  have := List.all_eq_true.1 h0 p hp
  simp only [Bool.and_eq_true] at this
  exact this.2.1
 have hc' : GX P f args [] _ := hc
 have h := GX.lent (ob0 := ob0) hc' hl (fun p hp => by
  have := List.all_eq_true.1 h0 p hp
  simp only [Bool.and_eq_true] at this
  exact this.1) (fun x ob1 ⟨l1,F1,q1,q2,q3,q4,q5⟩ => by
  subst q4
  obtain ⟨r1,r2,r3,r4,r5⟩ := hR x l1 F1 q5
  refine ⟨r1,fun id hid => by rw [inO_app,r2 id hid];rfl,fun p hp => ?_,fun p hp => ?_⟩
  ·rcases List.mem_append.1 hp with hp | hp
   ·exact r3 p hp
   ·have : ∀ (F : List AO) (n : Nat),p ∈ famL n F → p.2 ∈ F := by
     intro F
     induction F with
     | nil => intro n h;cases h
     | cons o F ih =>
      intro n h
      rcases List.mem_cons.1 h with h | h
      ·rw [h];simp
      ·exact List.mem_cons_of_mem _ (ih _ h)
    exact r4 _ (this _ _ hp)
  ·rw [inO_app,r5 p hp,inO_fam (Nat.le_of_ble_eq_true (List.all_eq_true.1 hs p hp))];rfl)
 show GX P f args' (ob0 ++ []) _
 rw [List.append_nil]
 refine h.same fun x ob ⟨ob1,⟨l1,F1,q1,q2,q3,q4,q5⟩,q6⟩ => ?_
 subst q4 q6
 simp only [Bool.and_eq_true] at q1
 have s1 : smallO (l1 ++ ob0) = true := by unfold smallO at *;rw [List.all_append,q1.1,hs];rfl
 refine ⟨(l1 ++ ob0) ++ famL 1000000 F1,⟨l1 ++ ob0,F1,?_,q2,q3,rfl,l1,q5,rfl⟩,?_⟩
 ·rw [s1,List.all_append,q1.2.1,hlo,q1.2.2];rfl
 ·funext i
  rcases lo_or_hi i with q | ⟨m,rfl⟩
  ·rw [ofO_lo q,ofO_app,ofO_app,inO_app,inO_fam q,Bool.or_false,ofO_lo q]
  ·rw [ofO_hi s1,List.append_assoc,ofO_hi q1.1,ofO_app]
   split
   ·rfl
   ·rename_i z
    rw [ofO_out (by simpa using z)]
    have : inO ob0 (1000000 + m) = false := by
     cases e : inO ob0 (1000000 + m) with
     | false => rfl
     | true =>
      obtain ⟨o,w1,_⟩ := ofO_mem e
      have := List.all_eq_true.1 hs _ w1
      have : 1000000 + m < 1000000 := Nat.le_of_ble_eq_true this
      omega
    rw [ofO_out this]
theorem exK {E l : List Nat} {X : Nat → Bool} (h : E = l) (h2 : l.all X = true) : ∀ id ∈ E,X id = true := fun id hid => by subst h;exact List.all_eq_true.1 h2 id hid

theorem bits_and_le (x : Int) (m : Nat) (hm : m < 9223372036854775808) : 0 ≤ bits BinOp.and IntKind.i64 x (m : Int) ∧ bits BinOp.and IntKind.i64 x (m : Int) ≤ m := by
 have h1 : (BitVec.ofInt 64 x &&& BitVec.ofInt 64 (m : Int)).toNat ≤ m := by
  rw [BitVec.toNat_and]
  have h2 : (BitVec.ofInt 64 (m : Int)).toNat = m := by
   rw [BitVec.toNat_ofInt]
   omega
  rw [h2]
  exact Nat.and_le_right
 have h3 : bits BinOp.and IntKind.i64 x (m : Int) = IntKind.i64.wrap ((BitVec.ofInt 64 x &&& BitVec.ofInt 64 (m : Int)).toNat : Int) := rfl
 rw [h3]
 generalize (BitVec.ofInt 64 x &&& BitVec.ofInt 64 (m : Int)).toNat = z at *
 have h4 : IntKind.i64.wrap (z : Int) = z := by
  simp [IntKind.wrap,IntKind.bits,IntKind.signed]
  omega
 rw [h4]
 omega
abbrev encU8 (b : Int) : List Value := [.int .u8 b]
abbrev curO (g : Value) (code : List Int) (i : Nat) (h : Int) : AO := .box 122 (some g) [.p (.lst 5 1 (rowsOf encU8 code)),int (i : Int),int h]
def CurOk (code : List Int) (i : Nat) : Prop := i ≤ code.length ∧ code.length ≤ 1048576
def DrR (g : Value) (code : List Int) (R : AV → Prop) : AV → List (Nat × AO) → Prop := fun x ob => ∃ i h,CurOk code i ∧ R x ∧ ob = [(0,curO g code i h)]
def DrI (R : Int → Prop) : AV → Prop := fun x => ∃ n,R n ∧ x = int n
theorem pins_cur {g : Value} {code : List Int} {i : Nat} {h : Int} {R : AV → Prop} : ∀ x ob1,DrR g code R x ob1 → pins [(0,curO g code i h)] ob1 [0] := fun x ob1 ⟨_,_,_,_,e⟩ => by
 subst e
 exact ⟨stays.box (Eq.refl 3),trivial⟩
theorem and_bd (x : Int) (m : Nat) (hm : m < 9223372036854775808) : 0 ≤ bits .and .i64 x (m : Int) ∧ bits .and .i64 x (m : Int) ≤ m := bits_and_le x m hm
theorem tmod_bd {n m : Int} (h0 : 0 ≤ n) (hm : 1 ≤ m) : 0 ≤ n.tmod m ∧ n.tmod m < m := ⟨Int.tmod_nonneg _ h0,Int.tmod_lt_of_pos _ (by omega)⟩

theorem l01New_e (code : List Int) (hm : code.length ≤ 1048576) : GX Tryz.prog 32 [.p (.lst 5 1 (rowsOf encU8 code))] [] (fun x ob => ∃ h,x = .ptr 31 0 0 ∧ ob = [(31,.box 122 none [.p (.lst 5 1 (rowsOf encU8 code)),int ((0 : Nat) : Int),int h])]) := by
 refine GX.intro (rs := [.tmp 2]) Tryz.func32 rfl Tryz.ntmps32 (Nat.le_of_ble_eq_true rfl) ⟨rfl,trivial⟩ ?_
 intro L O w0
 refine sL<|laV Z<|nA<|lmL Z<|lnI ty.sl22 Z ?_
 refine lhI rfl ⟨rfl,fits_i64 (by rw [length_rowsOf];unfold i64;omega)⟩<|laI Z<|nG<|aS<|sL<|laI Z<|nG<|aB ?_
 refine aW [0,2] [] (D := Nat × Int) (fun d => [(4,int (d.1 : Int)),(3,int d.2)]) (fun d => []) (fun d => d.1 ≤ code.length) (fun d => code.length - d.1) ((0,_)) (Nat.zero_le _) ⟨rfl,rfl,trivial⟩ trivial ?_
 intro ⟨j,q⟩ hI
 replace hI : j ≤ code.length := hI
 refine aS<|sL<|lmI Z<|lmL Z<|lnI ty.sl22 Z<|lbB Z<|lmB Z ?_
 refine AL.bool (t := 12) rfl ?_ ?_
 ·intro h1
  refine lmI Z<|lbB Z<|lkB Z<|nG ?_
  refine AW.cond rfl ?_ ?_
  ·intro h2
   refine aK<|gT<|aS<|aB<|aL<|lmI Z<|lq (rd (x := vI _ _) (rd_val Z Z Z (run_mulw Z) Z) Z)<|lmL Z<|lmI Z ?_
   have hj : j < code.length := by have h := h1;rw [length_rowsOf] at h;simp only [decide_eq_true_eq,Bool.and_eq_true] at h;omega
   refine li j ty.el22 Z (row_map hj)<|lrI ty.kd5 Z<|lq (rd (x := vI _ _) (rd_conv Z ty.ik5 ty.ik3 Z) Z)<|lq (rd (x := vI _ _) (rd_val Z Z Z (run_addw Z) Z) Z)<|lq (rd (x := vI _ _) (rd_val Z Z Z (run_addw Z) Z) Z)<|lq (rd (x := vI _ _) (rd_val Z Z Z (run_and Z) Z) Z)<|laI Z<|lN<|gB<|gT<|aL<|lmI Z<|lgI Z<|laI Z<|nG ?_
   refine ⟨(j + 1,_),hj,by show code.length - (j + 1) < code.length - j;omega,⟨(iq rfl),rfl,trivial⟩,trivial,rfl,rfl⟩
  ·intro h2
   refine aE<|eT<|eT<|eB<|gA<|lmL Z<|lmI Z<|lT [2,28,29] [] ?_
   refine lq (rd (x := .agg [vL _ _ _,vI _ _,vI _ _]) (rd_build Z ty.sa122 Z Z Z) Z)<|lst (zX 31 Z) Z<|laP Z<|nG<|aR ?_
   refine end_xret (.ptr 31 0 0) [(31,.box 122 none [.p (.lst 5 1 (rowsOf encU8 code)),int ((0 : Nat) : Int),int q])] ?_ rfl ⟨rfl,trivial⟩
   exact ⟨_,rfl,rfl⟩
 ·intro h1
  refine lno Z<|lno Z<|lkZ Z<|nG<|aN Z<|aE<|eT<|eT<|eB<|gA<|lmL Z<|lmI Z<|lq (rd (x := .agg [vL _ _ _,vI _ _,vI _ _]) (rd_build Z ty.sa122 Z Z Z) Z)<|lst (zX 31 Z) Z<|laP Z<|nG<|aR ?_
  refine end_xret (.ptr 31 0 0) [(31,.box 122 none [.p (.lst 5 1 (rowsOf encU8 code)),int ((0 : Nat) : Int),int q])] ?_ rfl ⟨rfl,trivial⟩
  exact ⟨_,rfl,rfl⟩
theorem l01Byte_e (g : Value) (code : List Int) (i : Nat) (h : Int) (hc : CurOk code i) : GX Tryz.prog 93 [.ptr 0 0 0] [(0,curO g code i h)] (DrR g code (DrI fun n => 0 ≤ n ∧ n ≤ 255)) := by
 refine GX.intro (rs := [.tmp 2]) Tryz.func93 rfl Tryz.ntmps93 (Nat.le_of_ble_eq_true rfl) ⟨rfl,trivial⟩ ?_
 intro L O w0
 refine sL<|laI Z<|nA<|lmP Z<|lmP Z<|lc Z<|lf 2 ty.F122_2 Z<|loI ty.kd3 Z<|lq (rd (x := vI _ _) (rd_val Z Z Z (run_mulw Z) Z) Z)<|lq (rd (x := vI _ _) (rd_val Z Z Z (run_addw Z) Z) Z)<|lc Z<|lf 2 ty.F122_2 Z<|lst (zB 0 ty.co3 ty.inf3 Z) Z<|nG<|aS<|aF []<|pq 0 (qmP Z)<|pq 1 (qc Z)<|pq 2 (qf 2 ty.F122_2 Z)<|sq 3 (roI ty.kd3 Z) ?_
 refine sq 4 (rhI rfl ⟨rfl,by decide,by decide⟩)<|vq 5 (rmP rfl)<|vq 6 (rc rfl)<|vq 7 (rf 2 ty.F122_2 rfl)<|vq 8 (roI ty.kd3 rfl) ?_
 refine vq 9 (rhI rfl ⟨rfl,by decide,by decide⟩)<|vq 10 (rd (x := vI _ _) (rd_val rfl rfl rfl (run_xor rfl) rfl) rfl)<|vq 11 (rd (x := vI _ _) (rd_val rfl rfl rfl (run_and rfl) rfl) rfl)<|vq 12 (raI rfl)<|fD<|gT<|aS<|aS<|aF []<|pq 0 (qmP rfl)<|pq 1 (qc rfl)<|pq 2 (qf 1 ty.F122_1 rfl)<|sq 3 (roI ty.kd3 rfl)<|vq 4 (rmP rfl)<|vq 5 (rc rfl)<|fT [0,2,3,28,30] [0] ?_
 refine vq 6 (rf 0 ty.F122_0 Z)<|vq 7 (roL ty.kd22 Z)<|vq 8 (rnI ty.sl22 Z)<|vq 9 (rbB Z)<|fD<|gT ?_
 refine AW.cond rfl ?_ ?_
 ·intro h1
  refine aS<|aF []<|pq 0 (qmX (vI _ _) Z)<|pq 1 (qmP Z)<|pq 2 (qc Z)<|pq 3 (qf 0 ty.F122_0 Z)<|sq 4 (roL ty.kd22 Z)<|vq 5 (rmP Z)<|vq 6 (rc Z)<|vq 7 (rf 1 ty.F122_1 Z)<|vq 8 (roI ty.kd3 Z) ?_
  have hi : i < code.length := by have h := h1;rw [length_rowsOf] at h;simp only [decide_eq_true_eq] at h;omega
  refine vq 9 (ri i ty.el22 Z (row_map hi))<|vq 10 (rrI ty.kd5 Z)<|vq 11 (rd (x := vI _ _) (rd_conv Z ty.ik5 ty.ik3 Z) Z)<|vq 12 (rd (x := vI _ _) (rd_val Z Z Z (run_addw Z) Z) Z)<|vq 13 (rd (x := vI _ _) (rd_val Z Z Z (run_and Z) Z) Z)<|vq 14 (raI Z)<|fD<|gT<|aL<|lmP Z<|lmP Z<|lc Z<|lf 1 ty.F122_1 Z<|loI ty.kd3 Z ?_
  refine lhI rfl ⟨rfl,fits_i64 (by unfold i64;have := hc.2;omega)⟩<|lc Z<|lf 1 ty.F122_1 Z<|lst (zB 0 ty.co3 ty.inf3 rfl) Z<|lT [2,3] [0] ?_
  refine nA<|lmI Z<|laI Z<|nG<|aR ?_
  refine end_xret (int _) [(0,curO g code (i + 1) _)] ?_ rfl ⟨(congrArg (fun z : Int => AO.box 122 (some g) [.p (.lst 5 1 (rowsOf encU8 code)),int z,int _]) (by omega)),trivial⟩
  exact ⟨i + 1,_,⟨hi,hc.2⟩,⟨_,and_bd _ 255 (by decide),rfl⟩,rfl⟩
 ·intro h1
  refine aK<|gA<|lmI Z<|laI Z<|nG<|aR ?_
  refine end_xret (int _) [(0,curO g code i _)] ?_ rfl ⟨rfl,trivial⟩
  exact ⟨i,_,hc,⟨_,and_bd _ 255 (by decide),rfl⟩,rfl⟩
theorem l01Below_e (g : Value) (code : List Int) (i : Nat) (h m : Int) (hc : CurOk code i) : GX Tryz.prog 35 [.ptr 0 0 0,int m] [(0,curO g code i h)] (DrR g code (DrI fun n => 0 ≤ n ∧ (n < m ∨ m ≤ 0 ∧ n = 0))) := by
 refine GX.intro (rs := [.tmp 4]) Tryz.func35 rfl Tryz.ntmps35 (Nat.le_of_ble_eq_true rfl) ⟨rfl,trivial⟩ ?_
 intro L O w0
 refine sL<|laI Z<|nG<|aS<|sL<|lmI Z<|lbB Z<|nG ?_
 refine AW.cond rfl ?_ ?_
 ·intro h1
  refine sL<|laI Z<|nG<|aR<|rT ?_
  have hm0 : m ≤ 0 := by have h := h1;simpa using h
  refine end_xret (int 0) [(0,curO g code i h)] ?_ rfl ⟨rfl,trivial⟩
  exact ⟨i,h,hc,⟨0,⟨by omega,.inr ⟨hm0,rfl⟩⟩,rfl⟩,rfl⟩
 ·intro h1
  refine aK<|gT<|aS<|sL<|lmI Z<|lbB Z<|nG ?_
  refine AW.cond rfl ?_ ?_
  ·intro h2
   refine sL<|lmP Z ?_
   refine lX [(0,0)] [] [0] Tryz.func93 (l01Byte_e g code _ _ hc) (⟨⟨0,rfl,rfl⟩,trivial⟩) (pins_cur) Z ?_
   intro xz1 oz1 hz1
   obtain ⟨i1,q1,hc1,⟨n1,⟨na1,nb1⟩,rfl⟩,rfl⟩ := hz1
   refine lmI rfl ?_
   refine lhI rfl ⟨rfl,by have h := h1;simp only [decide_eq_false_iff_not] at h;omega⟩<|laI Z<|nG<|aR<|rT ?_
   have hm1 : 1 ≤ m := by have h := h1;simp only [decide_eq_false_iff_not] at h;omega
   obtain ⟨z1,z2⟩ := tmod_bd (n := n1) (m := m) (by omega) hm1
   refine end_xret (int (n1.tmod m)) [(0,curO g code i1 q1)] ?_ rfl ⟨rfl,trivial⟩
   exact ⟨i1,q1,hc1,⟨_,⟨z1,.inl z2⟩,rfl⟩,rfl⟩
  ·intro h2
   refine aK<|gA<|lmP Z ?_
   refine lX [(0,0)] [] [0] Tryz.func93 (l01Byte_e g code _ _ hc) (⟨⟨0,rfl,rfl⟩,trivial⟩) (pins_cur) Z ?_
   intro xz2 oz2 hz2
   obtain ⟨i2,q2,hc2,⟨n2,⟨na2,nb2⟩,rfl⟩,rfl⟩ := hz2
   refine laI Z<|nA<|lmP Z ?_
   refine lX [(0,0)] [] [0] Tryz.func93 (l01Byte_e g code _ _ hc2) (⟨⟨0,rfl,rfl⟩,trivial⟩) (pins_cur) Z ?_
   intro xz3 oz3 hz3
   obtain ⟨i3,q3,hc3,⟨n3,⟨na3,nb3⟩,rfl⟩,rfl⟩ := hz3
   refine lT [0,1,4,5,20] [0] ?_
   refine laI Z<|nA<|lmP Z ?_
   refine lX [(0,0)] [] [0] Tryz.func93 (l01Byte_e g code _ _ hc3) (⟨⟨0,rfl,rfl⟩,trivial⟩) (pins_cur) Z ?_
   intro xz4 oz4 hz4
   obtain ⟨i4,q4,hc4,⟨n4,⟨na4,nb4⟩,rfl⟩,rfl⟩ := hz4
   refine laI Z<|nA<|lmP Z ?_
   refine lX [(0,0)] [] [0] Tryz.func93 (l01Byte_e g code _ _ hc4) (⟨⟨0,rfl,rfl⟩,trivial⟩) (pins_cur) Z ?_
   intro xz5 oz5 hz5
   obtain ⟨i5,q5,hc5,⟨n5,⟨na5,nb5⟩,rfl⟩,rfl⟩ := hz5
   refine laI Z<|nA<|lmI Z<|lgI Z<|lmI Z<|lgI Z<|lgI Z<|lmI Z<|lgI Z<|lgI Z<|lmI Z<|lgI Z<|lmI Z ?_
   refine lhI rfl ⟨rfl,by have h := h1;simp only [decide_eq_false_iff_not] at h;omega⟩<|laI Z<|nG<|aR ?_
   have hm1 : 1 ≤ m := by have h := h1;simp only [decide_eq_false_iff_not] at h;omega
   obtain ⟨z1,z2⟩ := tmod_bd (n := (n2 * 16777216 + n3 * 65536 + n4 * 256 + n5)) (m := m) (by omega) hm1
   refine end_xret (int ((n2 * 16777216 + n3 * 65536 + n4 * 256 + n5).tmod m)) [(0,curO g code i5 q5)] ?_ rfl ⟨rfl,trivial⟩
   exact ⟨i5,q5,hc5,⟨_,⟨z1,.inl z2⟩,rfl⟩,rfl⟩
theorem shl_bd {n : Int} (h0 : 0 ≤ n) (h1 : n < 51) : 0 < 1 * (2 : Int) ^ n.toNat ∧ 1 * (2 : Int) ^ n.toNat ≤ 1125899906842624 := by
 obtain ⟨k,rfl⟩ := Int.eq_ofNat_of_zero_le h0
 have hk : k < 51 := by omega
 have e : ((k : Int)).toNat = k := Int.toNat_natCast k
 rw [e,Int.one_mul]
 refine ⟨Int.pow_pos (by decide),?_⟩
 have h2 : (2 : Nat) ^ k ≤ 2 ^ 50 := Nat.pow_le_pow_right (by decide) (by omega)
 have h3 : ((2 ^ k : Nat) : Int) ≤ ((2 ^ 50 : Nat) : Int) := Int.ofNat_le.2 h2
 rw [Int.natCast_pow] at h3
 have h4 : ((2 ^ 50 : Nat) : Int) = 1125899906842624 := by decide
 omega
theorem l01Raw_e (g : Value) (code : List Int) (i : Nat) (h : Int) (hc : CurOk code i) : GX Tryz.prog 90 [.ptr 0 0 0] [(0,curO g code i h)] (DrR g code (DrI i64)) := by
 refine GX.intro (rs := [.tmp 2]) Tryz.func90 rfl Tryz.ntmps90 (Nat.le_of_ble_eq_true rfl) ⟨rfl,trivial⟩ ?_
 intro L O w0
 refine sL<|laI Z<|nA<|lmP Z ?_
 refine lX [(0,0)] [] [0] Tryz.func35 (l01Below_e g code _ _ _ hc) (⟨⟨0,rfl,rfl⟩,trivial⟩) (pins_cur) Z ?_
 intro xz1 oz1 hz1
 obtain ⟨i1,q1,hc1,⟨n1,⟨na1,nb1⟩,rfl⟩,rfl⟩ := hz1
 refine laI Z<|nG<|aS<|sL<|lmI Z<|lbB Z<|nG ?_
 refine AW.cond rfl ?_ ?_
 ·intro h1
  refine sL<|lmP Z ?_
  refine lX [(0,0)] [] [0] Tryz.func35 (l01Below_e g code _ _ _ hc1) (⟨⟨0,rfl,rfl⟩,trivial⟩) (pins_cur) Z ?_
  intro xz2 oz2 hz2
  obtain ⟨i2,q2,hc2,⟨n2,⟨na2,nb2⟩,rfl⟩,rfl⟩ := hz2
  refine lgI Z<|laI Z<|nG<|aR<|rT ?_
  refine end_xret (int _) [(0,curO g code i2 q2)] ?_ rfl ⟨rfl,trivial⟩
  exact ⟨i2,q2,hc2,⟨_,by unfold i64;omega,rfl⟩,rfl⟩
 ·intro h1
  refine aK<|gT<|aS<|sL<|lmI Z<|lbB Z<|nG ?_
  refine AW.cond rfl ?_ ?_
  ·intro h2
   refine sL<|lmP Z ?_
   refine lX [(0,0)] [] [0] Tryz.func35 (l01Below_e g code _ _ _ hc1) (⟨⟨0,rfl,rfl⟩,trivial⟩) (pins_cur) Z ?_
   intro xz3 oz3 hz3
   obtain ⟨i3,q3,hc3,⟨n3,⟨na3,nb3⟩,rfl⟩,rfl⟩ := hz3
   refine lT [0,2,3,14] [0] ?_
   refine lgI Z<|laI Z<|nG<|aR<|rT ?_
   refine end_xret (int _) [(0,curO g code i3 q3)] ?_ rfl ⟨rfl,trivial⟩
   exact ⟨i3,q3,hc3,⟨_,by unfold i64;omega,rfl⟩,rfl⟩
  ·intro h2
   refine aK<|gT<|aS<|sL<|lmI Z<|lbB Z<|nG ?_
   refine AW.cond rfl ?_ ?_
   ·intro h3
    refine sL<|lmP Z ?_
    refine lX [(0,0)] [] [0] Tryz.func35 (l01Below_e g code _ _ _ hc1) (⟨⟨0,rfl,rfl⟩,trivial⟩) (pins_cur) Z ?_
    intro xz4 oz4 hz4
    obtain ⟨i4,q4,hc4,⟨n4,⟨na4,nb4⟩,rfl⟩,rfl⟩ := hz4
    refine lgI Z<|laI Z<|nG<|aR<|rT ?_
    refine end_xret (int _) [(0,curO g code i4 q4)] ?_ rfl ⟨rfl,trivial⟩
    exact ⟨i4,q4,hc4,⟨_,by unfold i64;omega,rfl⟩,rfl⟩
   ·intro h3
    refine aK<|gT<|aS<|sL<|lmI Z<|lbB Z<|nG ?_
    refine AW.cond rfl ?_ ?_
    ·intro h4
     refine sL<|lmP Z ?_
     refine lX [(0,0)] [] [0] Tryz.func35 (l01Below_e g code _ _ _ hc1) (⟨⟨0,rfl,rfl⟩,trivial⟩) (pins_cur) Z ?_
     intro xz5 oz5 hz5
     obtain ⟨i5,q5,hc5,⟨n5,⟨na5,nb5⟩,rfl⟩,rfl⟩ := hz5
     refine lgI Z<|laI Z<|nG<|aR<|rT ?_
     refine end_xret (int _) [(0,curO g code i5 q5)] ?_ rfl ⟨rfl,trivial⟩
     exact ⟨i5,q5,hc5,⟨_,by unfold i64;omega,rfl⟩,rfl⟩
    ·intro h4
     refine aK<|gT<|aS<|sL<|lmI Z<|lbB Z<|nG ?_
     refine AW.cond rfl ?_ ?_
     ·intro h5
      refine sL<|lmP Z ?_
      refine lX [(0,0)] [] [0] Tryz.func35 (l01Below_e g code _ _ _ hc1) (⟨⟨0,rfl,rfl⟩,trivial⟩) (pins_cur) Z ?_
      intro xz6 oz6 hz6
      obtain ⟨i6,q6,hc6,⟨n6,⟨na6,nb6⟩,rfl⟩,rfl⟩ := hz6
      refine lT [0,2,3,29] [0] ?_
      refine lgI Z<|laI Z<|nG<|aR<|rT ?_
      refine end_xret (int _) [(0,curO g code i6 q6)] ?_ rfl ⟨rfl,trivial⟩
      exact ⟨i6,q6,hc6,⟨_,by unfold i64;omega,rfl⟩,rfl⟩
     ·intro h5
      refine aK<|gT<|aS<|sL<|lmI Z<|lbB Z<|nG ?_
      refine AW.cond rfl ?_ ?_
      ·intro h6
       refine sL<|lmP Z ?_
       refine lX [(0,0)] [] [0] Tryz.func35 (l01Below_e g code _ _ _ hc1) (⟨⟨0,rfl,rfl⟩,trivial⟩) (pins_cur) Z ?_
       intro xz7 oz7 hz7
       obtain ⟨i7,q7,hc7,⟨n7,⟨na7,nb7⟩,rfl⟩,rfl⟩ := hz7
       refine lgI Z<|laI Z<|nG<|aR<|rT ?_
       refine end_xret (int _) [(0,curO g code i7 q7)] ?_ rfl ⟨rfl,trivial⟩
       exact ⟨i7,q7,hc7,⟨_,by unfold i64;omega,rfl⟩,rfl⟩
      ·intro h6
       refine aK<|gT<|aS<|sL<|lmI Z<|lbB Z<|nG ?_
       refine AW.cond rfl ?_ ?_
       ·intro h7
        refine sL<|lmP Z ?_
        refine lX [(0,0)] [] [0] Tryz.func35 (l01Below_e g code _ _ _ hc1) (⟨⟨0,rfl,rfl⟩,trivial⟩) (pins_cur) Z ?_
        intro xz8 oz8 hz8
        obtain ⟨i8,q8,hc8,⟨n8,⟨na8,nb8⟩,rfl⟩,rfl⟩ := hz8
        obtain ⟨hs1,hs2⟩ := shl_bd (n := n8) na8 (by omega)
        refine lhI rfl ⟨rfl,na8,by omega,by show IntKind.i64.wrap _ = _;exact fits_i64 (by unfold i64;omega)⟩<|laI Z<|nG<|aR<|rT ?_
        refine end_xret (int _) [(0,curO g code i8 q8)] ?_ rfl ⟨rfl,trivial⟩
        exact ⟨i8,q8,hc8,⟨_,by unfold i64;omega,rfl⟩,rfl⟩
       ·intro h7
        refine aK<|gA<|lmP Z ?_
        refine lX [(0,0)] [] [0] Tryz.func35 (l01Below_e g code _ _ _ hc1) (⟨⟨0,rfl,rfl⟩,trivial⟩) (pins_cur) Z ?_
        intro xz9 oz9 hz9
        obtain ⟨i9,q9,hc9,⟨n9,⟨na9,nb9⟩,rfl⟩,rfl⟩ := hz9
        refine lT [0,2,42] [0] ?_
        refine lmP rfl ?_
        refine lX [(0,0)] [] [0] Tryz.func35 (l01Below_e g code _ _ _ hc9) (⟨⟨0,rfl,rfl⟩,trivial⟩) (pins_cur) Z ?_
        intro xz10 oz10 hz10
        obtain ⟨i10,q10,hc10,⟨n10,⟨na10,nb10⟩,rfl⟩,rfl⟩ := hz10
        have hm1 : 0 ≤ n9 * n10 := Int.mul_nonneg na9 na10
        have hm2 : n9 * n10 ≤ 1000000 * 1000000 := Int.mul_le_mul (by omega) (by omega) na10 (by decide)
        refine lgI Z<|laI Z<|nG<|aR ?_
        refine end_xret (int _) [(0,curO g code i10 q10)] ?_ rfl ⟨rfl,trivial⟩
        exact ⟨i10,q10,hc10,⟨_,by unfold i64;omega,rfl⟩,rfl⟩

def DrE : AV → Prop := fun x => ∃ e,wfEvent e ∧ x = evV e
abbrev evC (T : Option Value) (a b c d e f : Int) (g : Bool) : AO := .box 29 T [int a,int b,int c,int d,int e,int f,boo g]
abbrev Ev7 := Int × Int × Int × Int × Int × Int × Bool
abbrev ev7 (z : Ev7) : Event := ⟨z.1,z.2.1,z.2.2.1,z.2.2.2.1,z.2.2.2.2.1,z.2.2.2.2.2.1,z.2.2.2.2.2.2⟩
abbrev encI (n : Int) : List Value := [.int .i64 n]
theorem tmod4 (x : Int) : -3 ≤ x.tmod 4 ∧ x.tmod 4 ≤ 3 := by cases x <;> simp [Int.tmod] <;> omega
theorem mem_i64 : ∀ x ∈ ([-101,-100,0,19,20,100,101] : List Int),i64 x := by intro x hx;simp at hx;unfold i64;omega
theorem l04Draw_e (g : Value) (code : List Int) (i : Nat) (h : Int) (hc : CurOk code i) : GX Tryz.prog 34 [.ptr 0 0 0] [(0,curO g code i h)] (DrR g code DrE) := by
 refine GX.intro (rs := [.cell 2 29 (some 7)]) Tryz.func34 rfl Tryz.ntmps34 (Nat.le_of_ble_eq_true rfl) ⟨rfl,rfl,ty.kd29,trivial⟩ ?_
 intro L O w0
 refine sL<|lst (zA 2002 ty.ze29 Z) Z<|nA<|lmP Z ?_
 refine lX [(0,0)] [] [0] Tryz.func35 (l01Below_e g code _ _ _ hc) (⟨⟨0,rfl,rfl⟩,trivial⟩) (pins_cur) Z ?_
 intro xz1 oz1 hz1
 obtain ⟨i1,q1,hc1,⟨n1,⟨na1,nb1⟩,rfl⟩,rfl⟩ := hz1
 refine lgI Z<|laI Z<|nA<|lmI Z<|lq (rd (x := .agg [vI _ _,vI _ _,vI _ _,vI _ _,vI _ _,vI _ _,vB false]) (rd_build Z ty.sa29 Z Z Z) Z)<|lst (zA 2004 ty.ze29 Z) Z<|lst (zB 2004 ty.co29 ty.inf29 Z) Z<|nA<|lmI Z<|lst (zC [(60,60)] [60] [] Tryz.func92 (shas_e _) (trivial) Z Z) Z<|laO Z<|nG ?_
 refine aJ [0,2,4,5] [60,2002] (D := Nat × Int × Ev7) (fun d => []) (fun d => [(0,curO g code d.1 d.2.1),(2004,evC none d.2.2.1 d.2.2.2.1 d.2.2.2.2.1 d.2.2.2.2.2.1 d.2.2.2.2.2.2.1 d.2.2.2.2.2.2.2.1 d.2.2.2.2.2.2.2.2)]) (fun d => CurOk code d.1 ∧ wfEvent (ev7 d.2.2)) ?_ ?_
 ·refine sL<|lmO Z<|lq (rj 0 ty.el124 rfl (by show 0 < 6;decide))<|lq (rd (x := vB _) (rd_load_arr rfl ty.kd4 rfl rfl rfl (rfl) rfl) rfl)<|nG ?_
  refine AW.cond rfl ?_ ?_
  ·intro h1
   refine aL<|lmP Z ?_
   refine lX [(0,0)] [] [0] Tryz.func35 (l01Below_e g code _ _ _ hc1) (⟨⟨0,rfl,rfl⟩,trivial⟩) (pins_cur) Z ?_
   intro xz2 oz2 hz2
   obtain ⟨i2,q2,hc2,⟨n2,⟨na2,nb2⟩,rfl⟩,rfl⟩ := hz2
   refine lT [0,2,4,5,17] [0,60,2002,2004] ?_
   refine lgI Z<|lf 1 ty.F29_1 Z<|lst (zB 2004 ty.co3 ty.inf3 Z) Z<|nG ?_
   refine ⟨(_,_,_,_,_,_,_,_,_),(by refine ⟨by assumption,?_⟩;simp only [wfEvent,i64,ev7] at *;omega),trivial,⟨rfl,rfl,trivial⟩,rfl,rfl⟩
  ·intro h1
   refine aK<|gT ?_
   refine ⟨(_,_,_,_,_,_,_,_,_),(by refine ⟨by assumption,?_⟩;simp only [wfEvent,i64,ev7] at *;omega),trivial,⟨rfl,rfl,trivial⟩,rfl,rfl⟩
 ·intro ⟨iJ6,qJ6,ea6,eb6,ec6,ed6,ee6,ef6,eg6⟩ hJ6
  dsimp only
  obtain ⟨hcJ6,hwJ6⟩ := hJ6
  replace hcJ6 : CurOk code iJ6 := hcJ6
  unfold wfEvent i64 at hwJ6
  simp only [ev7] at hwJ6
  refine aJ [0,2,4,5] [60,2002] (D := Nat × Int × Ev7) (fun d => []) (fun d => [(0,curO g code d.1 d.2.1),(2004,evC none d.2.2.1 d.2.2.2.1 d.2.2.2.2.1 d.2.2.2.2.2.1 d.2.2.2.2.2.2.1 d.2.2.2.2.2.2.2.1 d.2.2.2.2.2.2.2.2)]) (fun d => CurOk code d.1 ∧ wfEvent (ev7 d.2.2)) ?_ ?_
  ·refine sL<|lmO Z<|lq (rj 1 ty.el124 rfl (by show 1 < 6;decide))<|lq (rd (x := vB _) (rd_load_arr rfl ty.kd4 rfl rfl rfl (rfl) rfl) rfl)<|nG ?_
   refine AW.cond rfl ?_ ?_
   ·intro h2
    refine aL<|lmP Z ?_
    refine lX [(0,0)] [] [0] Tryz.func35 (l01Below_e g code _ _ _ hcJ6) (⟨⟨0,rfl,rfl⟩,trivial⟩) (pins_cur) Z ?_
    intro xz3 oz3 hz3
    obtain ⟨i3,q3,hc3,⟨n3,⟨na3,nb3⟩,rfl⟩,rfl⟩ := hz3
    refine lgI Z<|lf 2 ty.F29_2 Z<|lst (zB 2004 ty.co3 ty.inf3 Z) Z<|nG ?_
    refine ⟨(_,_,_,_,_,_,_,_,_),(by refine ⟨by assumption,?_⟩;simp only [wfEvent,i64,ev7] at *;omega),trivial,⟨rfl,rfl,trivial⟩,rfl,rfl⟩
   ·intro h2
    refine aK<|gT ?_
    refine ⟨(_,_,_,_,_,_,_,_,_),(by refine ⟨by assumption,?_⟩;simp only [wfEvent,i64,ev7] at *;omega),trivial,⟨rfl,rfl,trivial⟩,rfl,rfl⟩
  ·intro ⟨iJ8,qJ8,ea8,eb8,ec8,ed8,ee8,ef8,eg8⟩ hJ8
   dsimp only
   obtain ⟨hcJ8,hwJ8⟩ := hJ8
   replace hcJ8 : CurOk code iJ8 := hcJ8
   unfold wfEvent i64 at hwJ8
   simp only [ev7] at hwJ8
   refine aJ [0,2,4,5] [60,2002] (D := Nat × Int × Ev7) (fun d => []) (fun d => [(0,curO g code d.1 d.2.1),(2004,evC none d.2.2.1 d.2.2.2.1 d.2.2.2.2.1 d.2.2.2.2.2.1 d.2.2.2.2.2.2.1 d.2.2.2.2.2.2.2.1 d.2.2.2.2.2.2.2.2)]) (fun d => CurOk code d.1 ∧ wfEvent (ev7 d.2.2)) ?_ ?_
   ·refine sL<|lmO Z<|lq (rj 2 ty.el124 rfl (by show 2 < 6;decide))<|lq (rd (x := vB _) (rd_load_arr rfl ty.kd4 rfl rfl rfl (rfl) rfl) rfl)<|nG ?_
    refine AW.cond rfl ?_ ?_
    ·intro h3
     refine aG 8 [0]<|tq 0 (rf 2 ty.F29_2 Z)<|tq 1 (roI ty.kd3 Z)<|yq 2 (rmP Z) ?_
     refine AG.stx (i := 3) rfl (by kernel_rfl) (St.callX [(0,0)] [] [0] rfl (by intro s hs;cases hs;decide) rfl Tryz.func35 rfl rfl (l01Below_e g code _ _ _ hcJ8) ⟨rfl,rfl,rfl⟩ (⟨⟨0,rfl,rfl⟩,trivial⟩) (pins_cur) rfl) (exK (l := [0]) rfl rfl) rfl ?_
     rintro _ _ ⟨xz5,oz5,hz5,rfl,rfl⟩
     obtain ⟨i5,q5,hc5,⟨n5,⟨na5,nb5⟩,rfl⟩,rfl⟩ := hz5
     refine yq 4 (rd (x := vI _ _) (rd_val rfl rfl rfl (run_addw rfl) rfl) rfl) ?_
     refine yq 5 (rhI rfl ⟨rfl,by decide⟩) ?_
     have ht4 := tmod4 (IntKind.i64.wrap (ec8 + n5))
     refine yq 6 (rgI rfl (by unfold i64;omega))<|yq 7 (rf 3 ty.F29_3 rfl)<|yl rfl (zB 2004 ty.co3 ty.inf3 rfl)<|gT ?_
     refine ⟨(_,_,_,_,_,_,_,_,_),(by refine ⟨by assumption,?_⟩;simp only [wfEvent,i64,ev7] at *;omega),trivial,⟨rfl,rfl,trivial⟩,rfl,rfl⟩
    ·intro h3
     refine aK<|gT ?_
     refine ⟨(_,_,_,_,_,_,_,_,_),(by refine ⟨by assumption,?_⟩;simp only [wfEvent,i64,ev7] at *;omega),trivial,⟨rfl,rfl,trivial⟩,rfl,rfl⟩
   ·intro ⟨iJ10,qJ10,ea10,eb10,ec10,ed10,ee10,ef10,eg10⟩ hJ10
    dsimp only
    obtain ⟨hcJ10,hwJ10⟩ := hJ10
    replace hcJ10 : CurOk code iJ10 := hcJ10
    unfold wfEvent i64 at hwJ10
    simp only [ev7] at hwJ10
    refine aJ [0,2,4,5] [60,2002] (D := Nat × Int × Ev7) (fun d => []) (fun d => [(0,curO g code d.1 d.2.1),(2004,evC none d.2.2.1 d.2.2.2.1 d.2.2.2.2.1 d.2.2.2.2.2.1 d.2.2.2.2.2.2.1 d.2.2.2.2.2.2.2.1 d.2.2.2.2.2.2.2.2)]) (fun d => CurOk code d.1 ∧ wfEvent (ev7 d.2.2)) ?_ ?_
    ·refine sL<|lmO Z<|lq (rj 3 ty.el124 rfl (by show 3 < 6;decide))<|lq (rd (x := vB _) (rd_load_arr rfl ty.kd4 rfl rfl rfl (rfl) rfl) rfl)<|nG ?_
     refine AW.cond rfl ?_ ?_
     ·intro h4
      refine aL<|lmP Z ?_
      refine lX [(0,0)] [] [0] Tryz.func35 (l01Below_e g code _ _ _ hcJ10) (⟨⟨0,rfl,rfl⟩,trivial⟩) (pins_cur) Z ?_
      intro xz6 oz6 hz6
      obtain ⟨i6,q6,hc6,⟨n6,⟨na6,nb6⟩,rfl⟩,rfl⟩ := hz6
      refine lgI Z<|lgI Z<|lf 4 ty.F29_4 Z<|lst (zB 2004 ty.co3 ty.inf3 Z) Z<|nG ?_
      refine ⟨(_,_,_,_,_,_,_,_,_),(by refine ⟨by assumption,?_⟩;simp only [wfEvent,i64,ev7] at *;omega),trivial,⟨rfl,rfl,trivial⟩,rfl,rfl⟩
     ·intro h4
      refine aK<|gT ?_
      refine ⟨(_,_,_,_,_,_,_,_,_),(by refine ⟨by assumption,?_⟩;simp only [wfEvent,i64,ev7] at *;omega),trivial,⟨rfl,rfl,trivial⟩,rfl,rfl⟩
    ·intro ⟨iJ12,qJ12,ea12,eb12,ec12,ed12,ee12,ef12,eg12⟩ hJ12
     dsimp only
     obtain ⟨hcJ12,hwJ12⟩ := hJ12
     replace hcJ12 : CurOk code iJ12 := hcJ12
     unfold wfEvent i64 at hwJ12
     simp only [ev7] at hwJ12
     refine aJ [0,2,4,5] [60,2002] (D := Nat × Int × Ev7) (fun d => []) (fun d => [(0,curO g code d.1 d.2.1),(2004,evC none d.2.2.1 d.2.2.2.1 d.2.2.2.2.1 d.2.2.2.2.2.1 d.2.2.2.2.2.2.1 d.2.2.2.2.2.2.2.1 d.2.2.2.2.2.2.2.2)]) (fun d => CurOk code d.1 ∧ wfEvent (ev7 d.2.2)) ?_ ?_
     ·refine sL<|lmO Z<|lq (rj 4 ty.el124 rfl (by show 4 < 6;decide))<|lq (rd (x := vB _) (rd_load_arr rfl ty.kd4 rfl rfl rfl (rfl) rfl) rfl)<|nG ?_
      refine AW.cond rfl ?_ ?_
      ·intro h5
       refine aL<|lmP Z ?_
       refine lX [(0,0)] [] [0] Tryz.func35 (l01Below_e g code _ _ _ hcJ12) (⟨⟨0,rfl,rfl⟩,trivial⟩) (pins_cur) Z ?_
       intro xz7 oz7 hz7
       obtain ⟨i7,q7,hc7,⟨n7,⟨na7,nb7⟩,rfl⟩,rfl⟩ := hz7
       refine lgI Z<|lf 5 ty.F29_5 Z<|lst (zB 2004 ty.co3 ty.inf3 Z) Z<|nG ?_
       refine ⟨(_,_,_,_,_,_,_,_,_),(by refine ⟨by assumption,?_⟩;simp only [wfEvent,i64,ev7] at *;omega),trivial,⟨rfl,rfl,trivial⟩,rfl,rfl⟩
      ·intro h5
       refine aK<|gT ?_
       refine ⟨(_,_,_,_,_,_,_,_,_),(by refine ⟨by assumption,?_⟩;simp only [wfEvent,i64,ev7] at *;omega),trivial,⟨rfl,rfl,trivial⟩,rfl,rfl⟩
     ·intro ⟨iJ14,qJ14,ea14,eb14,ec14,ed14,ee14,ef14,eg14⟩ hJ14
      dsimp only
      obtain ⟨hcJ14,hwJ14⟩ := hJ14
      replace hcJ14 : CurOk code iJ14 := hcJ14
      unfold wfEvent i64 at hwJ14
      simp only [ev7] at hwJ14
      refine aJ [0,2,4,5] [60,2002] (D := Nat × Int × Ev7) (fun d => []) (fun d => [(0,curO g code d.1 d.2.1),(2004,evC none d.2.2.1 d.2.2.2.1 d.2.2.2.2.1 d.2.2.2.2.2.1 d.2.2.2.2.2.2.1 d.2.2.2.2.2.2.2.1 d.2.2.2.2.2.2.2.2)]) (fun d => CurOk code d.1 ∧ wfEvent (ev7 d.2.2)) ?_ ?_
      ·refine aL<|lmO Z<|lq (rj 5 ty.el124 rfl (by show 5 < 6;decide))<|lq (rd (x := vB _) (rd_load_arr rfl ty.kd4 rfl rfl rfl (rfl) rfl) rfl)<|lmB rfl ?_
       refine AL.bool (t := 56) rfl ?_ ?_
       ·intro h6
        refine lmP rfl ?_
        refine lX [(0,0)] [] [0] Tryz.func35 (l01Below_e g code _ _ _ hcJ14) (⟨⟨0,rfl,rfl⟩,trivial⟩) (pins_cur) Z ?_
        intro xz8 oz8 hz8
        obtain ⟨i8,q8,hc8,⟨n8,⟨na8,nb8⟩,rfl⟩,rfl⟩ := hz8
        refine lbB Z<|lkB Z<|lf 6 ty.F29_6 Z<|lst (zB 2004 ty.co4 ty.inf4 Z) Z<|nG ?_
        refine ⟨(_,_,_,_,_,_,_,_,_),(by refine ⟨by assumption,?_⟩;simp only [wfEvent,i64,ev7] at *;omega),trivial,⟨rfl,rfl,trivial⟩,rfl,rfl⟩
       ·intro h6
        refine lno Z<|lno Z<|lno Z<|lkZ Z<|lf 6 ty.F29_6 Z<|lst (zB 2004 ty.co4 ty.inf4 Z) Z<|nG ?_
        refine ⟨(_,_,_,_,_,_,_,_,_),(by refine ⟨by assumption,?_⟩;simp only [wfEvent,i64,ev7] at *;omega),trivial,⟨rfl,rfl,trivial⟩,rfl,rfl⟩
      ·intro ⟨iJ15,qJ15,ea15,eb15,ec15,ed15,ee15,ef15,eg15⟩ hJ15
       dsimp only
       obtain ⟨hcJ15,hwJ15⟩ := hJ15
       replace hcJ15 : CurOk code iJ15 := hcJ15
       unfold wfEvent i64 at hwJ15
       simp only [ev7] at hwJ15
       refine aJ [2,4] [60,2002] (D := Nat × Int × Ev7) (fun d => []) (fun d => [(0,curO g code d.1 d.2.1),(2004,evC none d.2.2.1 d.2.2.2.1 d.2.2.2.2.1 d.2.2.2.2.2.1 d.2.2.2.2.2.2.1 d.2.2.2.2.2.2.2.1 d.2.2.2.2.2.2.2.2)]) (fun d => CurOk code d.1 ∧ wfEvent (ev7 d.2.2)) ?_ ?_
       ·refine sL<|lmP Z ?_
        refine lX [(0,0)] [] [0] Tryz.func35 (l01Below_e g code _ _ _ hcJ15) (⟨⟨0,rfl,rfl⟩,trivial⟩) (pins_cur) Z ?_
        intro xz9 oz9 hz9
        obtain ⟨i9,q9,hc9,⟨n9,⟨na9,nb9⟩,rfl⟩,rfl⟩ := hz9
        refine lbB Z<|lmB Z ?_
        refine AL.bool (t := 65) rfl ?_ ?_
        ·intro h7
         refine lmO Z<|lq (rj 3 ty.el124 rfl (by show 3 < 6;decide))<|lq (rd (x := vB _) (rd_load_arr rfl ty.kd4 rfl rfl rfl (rfl) rfl) rfl)<|lkB Z<|nG ?_
         refine AW.cond rfl ?_ ?_
         ·intro h8
          refine aL<|lmP Z ?_
          refine lX [(0,0)] [] [0] Tryz.func35 (l01Below_e g code _ _ _ hc9) (⟨⟨0,rfl,rfl⟩,trivial⟩) (pins_cur) Z ?_
          intro xz10 oz10 hz10
          obtain ⟨i10,q10,hc10,⟨n10,⟨na10,nb10⟩,rfl⟩,rfl⟩ := hz10
          refine lgI Z<|lf 4 ty.F29_4 Z<|lst (zB 2004 ty.co3 ty.inf3 Z) Z<|nG ?_
          refine ⟨(_,_,_,_,_,_,_,_,_),(by refine ⟨by assumption,?_⟩;simp only [wfEvent,i64,ev7] at *;omega),trivial,⟨rfl,rfl,trivial⟩,rfl,rfl⟩
         ·intro h8
          refine aK<|gT ?_
          refine ⟨(_,_,_,_,_,_,_,_,_),(by refine ⟨by assumption,?_⟩;simp only [wfEvent,i64,ev7] at *;omega),trivial,⟨rfl,rfl,trivial⟩,rfl,rfl⟩
        ·intro h7
         refine lno Z<|lno Z<|lno Z<|lkZ Z<|nG<|aN Z<|aK<|gT ?_
         refine ⟨(_,_,_,_,_,_,_,_,_),(by refine ⟨by assumption,?_⟩;simp only [wfEvent,i64,ev7] at *;omega),trivial,⟨rfl,rfl,trivial⟩,rfl,rfl⟩
       ·intro ⟨iJ17,qJ17,ea17,eb17,ec17,ed17,ee17,ef17,eg17⟩ hJ17
        dsimp only
        obtain ⟨hcJ17,hwJ17⟩ := hJ17
        replace hcJ17 : CurOk code iJ17 := hcJ17
        unfold wfEvent i64 at hwJ17
        simp only [ev7] at hwJ17
        refine sL<|loX (.agg [vI _ _,vI _ _,vI _ _,vI _ _,vI _ _,vI _ _,vB _]) ty.kd29 Z<|lst (zB 2002 ty.co29 ty.inf29 Z) Z<|nG<|aR ?_
        refine end_xret (evV ⟨_,_,_,_,_,_,_⟩) [(0,curO g code _ _)] ?_ rfl ⟨rfl,trivial⟩
        exact ⟨_,_,by assumption,⟨_,by simp only [wfEvent,i64] at *;omega,rfl⟩,rfl⟩
theorem l06Score_e (g : Value) (code : List Int) (i : Nat) (h : Int) (hc : CurOk code i) : GX Tryz.prog 91 [.ptr 0 0 0] [(0,curO g code i h)] (DrR g code (DrI i64)) := by
 refine GX.intro (rs := [.tmp 2]) Tryz.func91 rfl Tryz.ntmps91 (Nat.le_of_ble_eq_true rfl) ⟨rfl,trivial⟩ ?_
 intro L O w0
 refine sL<|laI Z<|nA<|lmP Z ?_
 refine lX [(0,0)] [] [0] Tryz.func35 (l01Below_e g code _ _ _ hc) (⟨⟨0,rfl,rfl⟩,trivial⟩) (pins_cur) Z ?_
 intro xz1 oz1 hz1
 obtain ⟨i1,q1,hc1,⟨n1,⟨na1,nb1⟩,rfl⟩,rfl⟩ := hz1
 refine lgI Z<|laI Z<|nA<|lmP Z ?_
 refine lX [(0,0)] [] [0] Tryz.func35 (l01Below_e g code _ _ _ hc1) (⟨⟨0,rfl,rfl⟩,trivial⟩) (pins_cur) Z ?_
 intro xz2 oz2 hz2
 obtain ⟨i2,q2,hc2,⟨n2,⟨na2,nb2⟩,rfl⟩,rfl⟩ := hz2
 refine laI Z<|nG ?_
 refine aJ [0,2,4] [] (D := Nat × Int × Int) (fun d => [(3,int d.2.2)]) (fun d => [(0,curO g code d.1 d.2.1)]) (fun d => CurOk code d.1 ∧ i64 d.2.2) ?_ ?_
 ·refine sL<|lmI Z<|lbB Z<|nG ?_
  refine AW.cond rfl ?_ ?_
  ·intro h1
   refine aL<|lmP Z ?_
   refine lX [(0,0)] [] [0] Tryz.func90 (l01Raw_e g code _ _ hc2) (⟨⟨0,rfl,rfl⟩,trivial⟩) (pins_cur) Z ?_
   intro xz3 oz3 hz3
   obtain ⟨i3,q3,hc3,⟨n3,hn3,rfl⟩,rfl⟩ := hz3
   refine laI Z<|nG ?_
   refine ⟨(_,_,_),(by refine ⟨by assumption,?_⟩;dsimp only;first | assumption | (unfold i64 at *;omega) | exact mem_i64 _ (List.getElem_mem _)),⟨rfl,trivial⟩,⟨rfl,trivial⟩,rfl,rfl⟩
  ·intro h1
   refine aK<|gT ?_
   refine ⟨(_,_,_),(by refine ⟨by assumption,?_⟩;dsimp only;first | assumption | (unfold i64 at *;omega) | exact mem_i64 _ (List.getElem_mem _)),⟨rfl,trivial⟩,⟨rfl,trivial⟩,rfl,rfl⟩
 ·intro ⟨iJ5,qJ5,nJ5⟩ hJ5
  dsimp only
  obtain ⟨hcJ5,hwJ5⟩ := hJ5
  replace hcJ5 : CurOk code iJ5 := hcJ5
  replace hwJ5 : i64 nJ5 := hwJ5
  refine aJ [2] [] (D := Nat × Int × Int) (fun d => [(3,int d.2.2)]) (fun d => [(0,curO g code d.1 d.2.1)]) (fun d => CurOk code d.1 ∧ i64 d.2.2) ?_ ?_
  ·refine sL<|lmI Z<|lbB Z<|nG ?_
   refine AW.cond rfl ?_ ?_
   ·intro h2
    refine aL<|lst (zS 2016 (rowsOf encI [-101,-100,0,19,20,100,101]) ty.el50 ty.ze3 rfl (by intro r hr;simp [rowsOf] at hr;rcases hr with h | h | h | h | h | h | h <;> (subst h;rfl))) Z<|lmP rfl ?_
    refine lX [(0,0)] [] [0] Tryz.func35 (l01Below_e g code _ _ _ hcJ5) (⟨⟨0,rfl,rfl⟩,trivial⟩) (pins_cur) Z ?_
    intro xz4 oz4 hz4
    obtain ⟨i4,q4,hc4,⟨n4,⟨na4,nb4⟩,rfl⟩,rfl⟩ := hz4
    obtain ⟨m,hm⟩ := Int.eq_ofNat_of_zero_le na4
    have hm7 : m < ([-101,-100,0,19,20,100,101] : List Int).length := by show m < 7;omega
    refine lq (rd (x := .ptr 2016 _ 0) (rd_iaddr_own (i := m) rfl ty.el50 rfl rfl rfl ?hn1 (by rw [length_rowsOf];exact hm7)) rfl) ?_
    case hn1 => exact hm
    refine lq (rd (x := vI _ _) (rd_load_arr Z ty.kd3 Z Z Z (row_map hm7) Z) Z)<|laI Z<|nG ?_
    refine ⟨(_,_,_),(by refine ⟨by assumption,?_⟩;dsimp only;first | assumption | (unfold i64 at *;omega) | exact mem_i64 _ (List.getElem_mem _)),⟨rfl,trivial⟩,⟨rfl,trivial⟩,rfl,rfl⟩
   ·intro h2
    refine aK<|gT ?_
    refine ⟨(_,_,_),(by refine ⟨by assumption,?_⟩;dsimp only;first | assumption | (unfold i64 at *;omega) | exact mem_i64 _ (List.getElem_mem _)),⟨rfl,trivial⟩,⟨rfl,trivial⟩,rfl,rfl⟩
  ·intro ⟨iJ7,qJ7,nJ7⟩ hJ7
   dsimp only
   obtain ⟨hcJ7,hwJ7⟩ := hJ7
   replace hcJ7 : CurOk code iJ7 := hcJ7
   replace hwJ7 : i64 nJ7 := hwJ7
   refine sL<|lmI Z<|laI Z<|nG<|aR ?_
   refine end_xret (int _) [(0,curO g code _ _)] ?_ rfl ⟨rfl,trivial⟩
   exact ⟨_,_,by assumption,⟨_,by assumption,rfl⟩,rfl⟩

section
variable {P : Program} {o : Oper} {N : Nat} {τ : Nat → AV} {H : Nat → AO}
theorem St.trunc (id : Nat) {t e e' : TypeId} {pn : Option Value} {x : Operand} {hi : Option Operand} {sz h d : Nat} {rows : List (List PV)} (ho : o.op = .slice t x none hi none) (hd : o.dst = some d) (hN : d < N) (ht : elA P t = some (e,sz)) (hx : ev τ x = .own id) (hH : H id = .arr ⟨e',pn⟩ sz rows) (hhi : bnd τ rows.length hi h) (hn : h ≤ rows.length) :
 St P o N τ H [] (updo (fun s => kil (one? id) (τ s)) o.dst (.own id)) (upd (fun j => (H j).kil (one? id)) id (.arr ⟨e',none⟩ sz (rows.take h))) := by
 refine St.turn id (one? id) (.own id) (.arr ⟨e',none⟩ sz (rows.take h)) [] (fun s hs => by rw [hd] at hs;cases hs;exact hN) (fun {L O w0 ρ fp a w} hr => ?_)
 have hv := hr.ev x
 rw [hx,RV] at hv
 have h0 := hv.2 (by rw [hH];rfl)
 have hO := hr.ob id
 rw [hH] at hO
 obtain ⟨xs,fr,r1,r2,hown,hfp,_⟩ := hO
 have hlen : (rows.take h).length = h := by rw [List.length_take];omega
 obtain ⟨g1,t1,t2⟩ := r1.take h
 have hgrow : w.grownBy w none := ⟨rfl,rfl,rfl,Nat.le_refl _,fun _ _ _ => rfl⟩
 rcases hown.2 with ⟨q,q'⟩ | ⟨g,cap,cur,q,hb0,hg,c1,c2,c3,c4⟩
 ·have hrun := slc_run (o := o) (a := a) (l := 0) (fun z => hr.ev z) ho ht (by show (0 : Nat) = 0;rfl) hhi (Nat.zero_le _) hn (Nat.le_of_eq q') (by rw [h0,q,q']) w
  have hz : h = 0 := by omega
  subst hz
  refine ⟨w,.slice none 0 0,none,_,_,hrun,.inl rfl,hgrow,by simp,(fun b off hb hlt => ?_),(fun hk => by simp [one?] at hk),(fun b hb => by cases hb),(fun E => ⟨⟨[],g1,?_,?_,?_,rfl,(fun u hu => by cases hu)⟩,?_⟩)⟩
  ·rcases hb with hb | hb
   ·cases hb
   ·omega
  ·have : xs.take (0 * sz) = [] := by simp
   rw [this] at t1;exact t1
  ·intro b hb hl
   have hlt := RWR.lt _ r1 b (t2 hb)
   exact (E.block b hlt (r2 b (t2 hb))).2 hl
  ·have : (rows.take 0).length = 0 := by simp
   rw [this]
   exact World.ownsRow_nil _ _ _ _
  ·rw [RV,upd_same]
   exact ⟨by rfl,fun _ => by rw [upd_same];(try rfl);(try simp)⟩
 ·have hrun := slc_run (o := o) (a := a) (l := 0) (fun z => hr.ev z) ho ht (by show (0 : Nat) = 0;rfl) hhi (Nat.zero_le _) hn c1 (h0.trans q) w
  have ead : (if cap = 0 then (some ⟨g,0,none⟩ : Option Addr) else (some ⟨g,0,none⟩ : Option Addr).map (·.add (0 * sz))) = some ⟨g,0,none⟩ := by
   split
   ·rfl
   ·show some ((⟨g,0,none⟩ : Addr).add (0 * sz)) = _
    unfold Addr.add;split <;> simp_all
  rw [ead,Nat.sub_zero,Nat.sub_zero] at hrun
  refine ⟨w,.slice (some ⟨g,0,none⟩) h cap,none,_,_,hrun,.inl rfl,hgrow,by simp,(fun b off hb hlt => ?_),(fun hk => by simp [one?] at hk),(fun b hb => .inr ⟨by rw [hH];rfl,by rw [q];exact hb⟩),(fun E => ⟨⟨xs.take (h * sz),g1,t1,?_,?_,rfl,(fun u hu => by cases hu)⟩,?_⟩)⟩
  ·rcases hb with hb | hb
   ·cases hb
   ·omega
  ·intro b hb hl
   have hlt := RWR.lt _ r1 b (t2 hb)
   exact (E.block b hlt (r2 b (t2 hb))).2 hl
  ·rw [hlen]
   refine ⟨?_,.inr ⟨g,cap,cur,rfl,hb0,hg,by omega,c2,c3,?_⟩⟩
   ·rw [List.length_take,hown.1]
    have := Nat.mul_le_mul_right sz hn
    omega
   ·rw [← c4,List.take_take]
    have := Nat.mul_le_mul_right sz hn
    congr 1
    omega
  ·rw [RV,upd_same]
   exact ⟨by rfl,fun _ => by rw [upd_same];(try rfl);(try simp)⟩
end

def DrX (g : Value) (code : List Int) (R : AV → List (Nat × AO) → Prop) : AV → List (Nat × AO) → Prop := fun x ob => ∃ i h ob2,CurOk code i ∧ R x ob2 ∧ ob = (0,curO g code i h) :: ob2
theorem pins_curX {g : Value} {code : List Int} {i : Nat} {h : Int} {R : AV → List (Nat × AO) → Prop} : ∀ x ob1,DrX g code R x ob1 → pins [(0,curO g code i h)] ob1 [0] := fun x ob1 ⟨_,_,_,_,_,e⟩ => by
 subst e
 exact ⟨stays.box (Eq.refl 3),trivial⟩
theorem tmod3 (x : Int) : -2 ≤ x.tmod 3 ∧ x.tmod 3 ≤ 2 := by cases x <;> simp [Int.tmod] <;> omega
def EvsOk (m : Int) (es : List Event) : Prop := (∀ e ∈ es,wfEvent e) ∧ (es.length : Int) ≤ m
theorem EvsOk.take {m : Int} {es : List Event} (h : EvsOk m es) (k : Nat) : EvsOk m (es.take k) := ⟨fun e he => h.1 e (List.mem_of_mem_take he),by have := h.2;rw [List.length_take];omega⟩
theorem EvsOk.add {m : Int} {es : List Event} (h : EvsOk m es) {e : Event} (he : wfEvent e) : EvsOk (m + 1) (es ++ [e]) := ⟨fun x hx => by
 rcases List.mem_append.1 hx with q | q
 ·exact h.1 x q
 ·rw [List.mem_singleton.1 q];exact he,by have := h.2;simp;omega⟩
theorem EvsOk.mono {m n : Int} {es : List Event} (h : EvsOk m es) (hmn : m ≤ n) : EvsOk n es := ⟨h.1,Int.le_trans h.2 hmn⟩
theorem l07Events_e (g : Value) (code : List Int) (i : Nat) (h m : Int) (hc : CurOk code i) (hm : 0 ≤ m ∧ m ≤ 100) : GX Tryz.prog 70 [.ptr 0 0 0,int m] [(0,curO g code i h)] (DrX g code fun x ob2 => ∃ es,EvsOk (5 + m) es ∧ x = .own 50 ∧ ob2 = [(50,.arr 29 7 (rowsOf encEvent es))]) := by
 refine GX.intro (rs := [.tmp 4]) Tryz.func70 rfl Tryz.ntmps70 (Nat.le_of_ble_eq_true rfl) ⟨rfl,trivial⟩ ?_
 intro L O w0
 refine sL<|laV Z<|nA<|lq (rd (x := .agg [vI _ _,vI _ _,vI _ _,vI _ _,vI _ _,vI _ _,vB false]) (rd_build Z ty.sa29 Z Z Z) Z)<|lq (rd (x := .agg [vI _ _,vI _ _,vI _ _,vI _ _,vI _ _,vI _ _,vB false]) (rd_build Z ty.sa29 Z Z Z) Z)<|lq (rd (x := .agg [vI _ _,vI _ _,vI _ _,vI _ _,vI _ _,vI _ _,vB false]) (rd_build Z ty.sa29 Z Z Z) Z)<|lq (rd (x := .agg [vI _ _,vI _ _,vI _ _,vI _ _,vI _ _,vI _ _,vB false]) (rd_build Z ty.sa29 Z Z Z) Z)<|lmP Z ?_
 refine lX [(0,0)] [] [0] Tryz.func35 (l01Below_e g code _ _ _ hc) (⟨⟨0,rfl,rfl⟩,trivial⟩) (pins_cur) Z ?_
 intro xz1 oz1 hz1
 obtain ⟨i1,q1,hc1,⟨n1,⟨na1,nb1⟩,rfl⟩,rfl⟩ := hz1
 refine lgI Z<|lmP Z ?_
 refine lX [(0,0)] [] [0] Tryz.func35 (l01Below_e g code _ _ _ hc1) (⟨⟨0,rfl,rfl⟩,trivial⟩) (pins_cur) Z ?_
 intro xz2 oz2 hz2
 obtain ⟨i2,q2,hc2,⟨n2,⟨na2,nb2⟩,rfl⟩,rfl⟩ := hz2
 refine lmP rfl ?_
 refine lX [(0,0)] [] [0] Tryz.func35 (l01Below_e g code _ _ _ hc2) (⟨⟨0,rfl,rfl⟩,trivial⟩) (pins_cur) Z ?_
 intro xz3 oz3 hz3
 obtain ⟨i3,q3,hc3,⟨n3,⟨na3,nb3⟩,rfl⟩,rfl⟩ := hz3
 refine lq (rd (x := .agg [vI _ _,vI _ _,vI _ _,vI _ _,vI _ _,vI _ _,vB false]) (rd_build rfl ty.sa29 rfl rfl rfl) rfl) ?_
 refine lst (zS 50 (rowsOf encEvent [⟨1,0,0,0,100000,0,false⟩,⟨2,0,1,0,20000,10000,false⟩,⟨2,0,2,0,10000,20000,false⟩,⟨2,0,3,0,15000,15000,false⟩,⟨4,0,1 + n1,0,n2,n3,false⟩]) ty.el44 ty.ze29 rfl (by intro r hr;simp [rowsOf] at hr;rcases hr with h | h | h | h | h <;> (subst h;rfl))) Z<|lT [0,1,4,20] [0,50] ?_
 refine laO Z<|nG ?_
 refine aJ [0,1,4] [] (D := Nat × Int × List Event) (fun d => [(5,.own 50)]) (fun d => [(0,curO g code d.1 d.2.1),(50,.arr 29 7 (rowsOf encEvent d.2.2))]) (fun d => CurOk code d.1 ∧ EvsOk 5 d.2.2) ?_ ?_
 ·refine sL<|lmP Z ?_
  refine lX [(0,0)] [] [0] Tryz.func35 (l01Below_e g code _ _ _ hc3) (⟨⟨0,rfl,rfl⟩,trivial⟩) (pins_cur) Z ?_
  intro xz4 oz4 hz4
  obtain ⟨i4,q4,hc4,⟨n4,⟨na4,nb4⟩,rfl⟩,rfl⟩ := hz4
  refine lbB Z<|nG ?_
  refine AW.cond rfl ?_ ?_
  ·intro h1
   refine aL<|lmO Z<|lmP Z ?_
   refine lX [(0,0)] [] [0] Tryz.func35 (l01Below_e g code _ _ _ hc4) (⟨⟨0,rfl,rfl⟩,trivial⟩) (pins_cur) Z ?_
   intro xz5 oz5 hz5
   obtain ⟨i5,q5,hc5,⟨n5,⟨na5,nb5⟩,rfl⟩,rfl⟩ := hz5
   obtain ⟨m5,rfl⟩ := Int.eq_ofNat_of_zero_le na5
   refine lst (St.trunc 50 rfl rfl (by decide) ty.el44 rfl rfl ⟨_,rfl⟩ (by simp [rowsOf];omega)) Z<|laO Z<|nG ?_
   refine ⟨(_,_,List.take m5 [⟨1,0,0,0,100000,0,false⟩,⟨2,0,1,0,20000,10000,false⟩,⟨2,0,2,0,10000,20000,false⟩,⟨2,0,3,0,15000,15000,false⟩,⟨4,0,1 + n1,0,n2,n3,false⟩]),⟨by assumption,EvsOk.take (m := 5) ⟨by intro e he;simp at he;rcases he with h | h | h | h | h <;> (subst h;unfold wfEvent i64;dsimp only;omega),by simp⟩ _⟩,⟨rfl,trivial⟩,⟨rfl,(congrArg (AO.arr 29 7) (List.map_take).symm),trivial⟩,rfl,rfl⟩
  ·intro h1
   refine aK<|gT ?_
   refine ⟨(_,_,[⟨1,0,0,0,100000,0,false⟩,⟨2,0,1,0,20000,10000,false⟩,⟨2,0,2,0,10000,20000,false⟩,⟨2,0,3,0,15000,15000,false⟩,⟨4,0,1 + n1,0,n2,n3,false⟩]),⟨by assumption,⟨by intro e he;simp at he;rcases he with h | h | h | h | h <;> (subst h;unfold wfEvent i64;dsimp only;omega),by simp⟩⟩,⟨rfl,trivial⟩,⟨rfl,rfl,trivial⟩,rfl,rfl⟩
 ·intro ⟨iJ4,qJ4,esJ⟩ hJ4
  dsimp only
  obtain ⟨hcJ4,hwJ4⟩ := hJ4
  simp only at hcJ4 hwJ4
  refine aS<|sL<|lmP Z<|lmI Z<|lgI Z ?_
  refine lX [(0,0)] [] [0] Tryz.func35 (l01Below_e g code _ _ _ hcJ4) (⟨⟨0,rfl,rfl⟩,trivial⟩) (pins_cur) Z ?_
  intro xz6 oz6 hz6
  obtain ⟨i6,q6,hc6,⟨n6,⟨na6,nb6⟩,rfl⟩,rfl⟩ := hz6
  refine laI Z<|nG<|aB ?_
  obtain ⟨kk,hkk⟩ := Int.eq_ofNat_of_zero_le na6
  refine aW [0,4] [] (D := Nat × Int × Nat × List Event) (fun d => [(6,int (d.2.2.1 : Int)),(5,.own 50)]) (fun d => [(0,curO g code d.1 d.2.1),(50,.arr 29 7 (rowsOf encEvent d.2.2.2))]) (fun d => CurOk code d.1 ∧ EvsOk (5 + m - d.2.2.1) d.2.2.2 ∧ (d.2.2.1 : Int) ≤ m) (fun d => d.2.2.1) ((_,_,kk,esJ)) (⟨by assumption,hwJ4.mono (by dsimp only;omega),by dsimp only;omega⟩) ⟨(congrArg int hkk),rfl,trivial⟩ ⟨rfl,rfl,trivial⟩ ?_
  intro ⟨iL,qL,kL,esL⟩ hI
  obtain ⟨hcL,hwL,hkL⟩ := hI
  simp only at hcL hwL hkL
  dsimp only
  refine aS<|sL<|lmI Z<|lbB Z<|nG ?_
  refine AW.cond rfl ?_ ?_
  ·intro h2
   refine aK<|gT<|aS<|aB<|aS ?_
   have hk1 : 1 ≤ kL := by have h := h2;simp only [decide_eq_true_eq] at h;omega
   refine aL<|lmP Z ?_
   refine lX [(0,0)] [] [0] Tryz.func34 (l04Draw_e g code _ _ hcL) (⟨⟨0,rfl,rfl⟩,trivial⟩) (pins_cur) Z ?_
   intro xz7 oz7 hz7
   obtain ⟨i7,q7,hc7,⟨⟨va7,vb7,vc7,vd7,ve7,vf7,vg7⟩,hw7,rfl⟩,rfl⟩ := hz7
   refine lst (zA 2007 ty.ze29 Z) Z<|lst (zB 2007 ty.co29 ty.inf29 Z) Z<|nG ?_
   refine aJ [0,4,5,6,7] [50] (D := Nat × Int × Ev7) (fun d => []) (fun d => [(0,curO g code d.1 d.2.1),(2007,evC none d.2.2.1 d.2.2.2.1 d.2.2.2.2.1 d.2.2.2.2.2.1 d.2.2.2.2.2.2.1 d.2.2.2.2.2.2.2.1 d.2.2.2.2.2.2.2.2)]) (fun d => CurOk code d.1 ∧ wfEvent (ev7 d.2.2)) ?_ ?_
   ·refine sL<|lmP Z ?_
    refine lX [(0,0)] [] [0] Tryz.func35 (l01Below_e g code _ _ _ hc7) (⟨⟨0,rfl,rfl⟩,trivial⟩) (pins_cur) Z ?_
    intro xz8 oz8 hz8
    obtain ⟨i8,q8,hc8,⟨n8,⟨na8,nb8⟩,rfl⟩,rfl⟩ := hz8
    refine lbB Z<|nG ?_
    refine AW.cond rfl ?_ ?_
    ·intro h3
     refine sL<|lmP Z ?_
     refine lX [(0,0)] [] [0] Tryz.func35 (l01Below_e g code _ _ _ hc8) (⟨⟨0,rfl,rfl⟩,trivial⟩) (pins_cur) Z ?_
     intro xz9 oz9 hz9
     obtain ⟨i9,q9,hc9,⟨n9,⟨na9,nb9⟩,rfl⟩,rfl⟩ := hz9
     refine lT [0,4,5,6,7,42] [0,50,2007] ?_
     refine lgI Z<|lmP Z ?_
     refine lX [(0,0)] [] [0] Tryz.func35 (l01Below_e g code _ _ _ hc9) (⟨⟨0,rfl,rfl⟩,trivial⟩) (pins_cur) Z ?_
     intro xz10 oz10 hz10
     obtain ⟨i10,q10,hc10,⟨n10,⟨na10,nb10⟩,rfl⟩,rfl⟩ := hz10
     refine lgI Z<|lmP Z ?_
     refine lX [(0,0)] [] [0] Tryz.func35 (l01Below_e g code _ _ _ hc10) (⟨⟨0,rfl,rfl⟩,trivial⟩) (pins_cur) Z ?_
     intro xz11 oz11 hz11
     obtain ⟨i11,q11,hc11,⟨n11,⟨na11,nb11⟩,rfl⟩,rfl⟩ := hz11
     refine lgI Z<|lmP Z ?_
     refine lX [(0,0)] [] [0] Tryz.func35 (l01Below_e g code _ _ _ hc11) (⟨⟨0,rfl,rfl⟩,trivial⟩) (pins_cur) Z ?_
     intro xz12 oz12 hz12
     obtain ⟨i12,q12,hc12,⟨n12,⟨na12,nb12⟩,rfl⟩,rfl⟩ := hz12
     refine lbB Z<|lq (rd (x := .agg [vI _ _,vI _ _,vI _ _,vI _ _,vI _ _,vI _ _,vB _]) (rd_build Z ty.sa29 Z Z Z) Z)<|lst (zB 2007 ty.co29 ty.inf29 Z) Z<|nG<|aL<|lf 2 ty.F29_2 Z<|loI ty.kd3 Z ?_
     refine lhI rfl ⟨rfl,by decide⟩ ?_
     have ht3 := tmod3 (1 + n10)
     refine lgI Z<|lf 3 ty.F29_3 Z<|lst (zB 2007 ty.co3 ty.inf3 Z) Z<|lT [0,4,5,6,7] [0,50,2007] ?_
     refine nG ?_
     refine ⟨(_,_,_,_,_,_,_,_,_),(by refine ⟨by assumption,?_⟩;simp only [wfEvent,i64,ev7] at *;omega),trivial,⟨rfl,rfl,trivial⟩,rfl,rfl⟩
    ·intro h3
     refine aK<|gT ?_
     refine ⟨(_,_,_,_,_,_,_,_,_),(by refine ⟨by assumption,?_⟩;simp only [wfEvent,i64,ev7] at *;omega),trivial,⟨rfl,rfl,trivial⟩,rfl,rfl⟩
   ·intro ⟨iJ11,qJ11,ea11,eb11,ec11,ed11,ee11,ef11,eg11⟩ hJ11
    dsimp only
    obtain ⟨hcJ11,hwJ11⟩ := hJ11
    replace hcJ11 : CurOk code iJ11 := hcJ11
    unfold wfEvent i64 at hwJ11
    simp only [ev7] at hwJ11
    refine aL<|lmO Z<|loX (.agg [vI _ _,vI _ _,vI _ _,vI _ _,vI _ _,vI _ _,vB _]) ty.kd29 Z ?_
    refine lst (zS 2061 (rowsOf encEvent [⟨ea11,eb11,ec11,ed11,ee11,ef11,eg11⟩]) ty.el44 ty.ze29 rfl) Z<|lst (zP 50 ty.el44 ty.ze29 ty.by29 rfl (Src.own rfl rfl) (by have := hwL.2;simp [rowsOf];omega)) Z<|laO Z<|lN<|gB<|gT<|aL<|lmI Z<|lgI Z<|laI Z<|nG ?_
    refine ⟨(_,_,kL - 1,esL ++ [⟨ea11,eb11,ec11,ed11,ee11,ef11,eg11⟩]),⟨by assumption,(hwL.add (by unfold wfEvent i64;dsimp only;omega)).mono (by dsimp only;omega),by dsimp only;omega⟩,by dsimp only;omega,⟨(Eq.trans (b := int _) rfl (congrArg int (by dsimp only;omega))),rfl,trivial⟩,⟨rfl,(congrArg (AO.arr 29 7) (rowsOf_app encEvent _ [_]).symm),trivial⟩,rfl,rfl⟩
  ·intro h2
   refine aE<|eT<|eT<|eB<|gA<|lmO Z<|laO Z<|nG<|aR ?_
   refine end_xret (.own 50) [(0,curO g code _ _),(50,.arr 29 7 (rowsOf encEvent esL))] ?_ rfl ⟨rfl,rfl,trivial⟩
   exact ⟨_,_,_,hcL,⟨esL,hwL.mono (by omega),rfl,rfl⟩,rfl⟩

abbrev newBook : Book := ⟨0,1,0,[],[],[]⟩
theorem newBook_wf : BookWf newBook := ⟨by simp,by simp,by simp,by simp⟩
theorem allA_wf {x : Book} {es : List Event} (hw : BookWf x) (we : ∀ e ∈ es,wfEvent e) : BookWf (allA x es).now := by
 unfold allA
 split
 ·have := allS_wf hw we es.length (Nat.le_refl _)
  rwa [List.take_length] at this
 ·exact ⟨by simp [zeroBook],by simp [zeroBook],by simp [zeroBook],by simp [zeroBook]⟩
abbrev obB (l : List Chan) (h : List Htlc) (i : List Circle) : List (Nat × AO) := [(1,.arr 40 7 (rowsOf encChan l)),(2,.arr 68 7 (rowsOf encHtlc h)),(3,.arr 78 5 (rowsOf encCircle i))]
def DrB : AV → List (Nat × AO) → Prop := fun x ob2 => ∃ a b c l h i,BookWf ⟨a,b,c,l,h,i⟩ ∧ x = ownB a b c ∧ ob2 = obB l h i
section
variable {a b c : Int} {l : List Chan} {h : List Htlc} {i : List Circle}
theorem mem_set {α : Type} {l : List α} {k : Nat} {x : α} {p : α → Prop} (h : ∀ y ∈ l,p y) (hx : p x) : ∀ y ∈ l.set k x,p y := fun y hy => by
 rcases List.mem_or_eq_of_mem_set hy with q | rfl
 ·exact h y q
 ·exact hx
theorem BookWf.nums (w : BookWf ⟨a,b,c,l,h,i⟩) {a' b' c' : Int} : BookWf ⟨a',b',c',l,h,i⟩ := ⟨w.chans,w.htlcs,w.circles,w.len⟩
theorem BookWf.setC (w : BookWf ⟨a,b,c,l,h,i⟩) {k : Nat} {x : Chan} (hx : wfChan x) : BookWf ⟨a,b,c,l.set k x,h,i⟩ := ⟨mem_set w.chans hx,w.htlcs,w.circles,by show (l.set k x).length ≤ _;rw [List.length_set];exact w.len⟩
theorem BookWf.setH (w : BookWf ⟨a,b,c,l,h,i⟩) {k : Nat} {x : Htlc} (hx : wfHtlc x) : BookWf ⟨a,b,c,l,h.set k x,i⟩ := ⟨w.chans,mem_set w.htlcs hx,w.circles,w.len⟩
theorem BookWf.setI (w : BookWf ⟨a,b,c,l,h,i⟩) {k : Nat} {x : Circle} (hx : wfCircle x) : BookWf ⟨a,b,c,l,h,i.set k x⟩ := ⟨w.chans,w.htlcs,mem_set w.circles hx,w.len⟩
theorem BookWf.loc (w : BookWf ⟨a,b,c,l,h,i⟩) {k : Nat} (hk : k < l.length) {n : Int} (hn : i64 n) : BookWf ⟨a,b,c,l.set k { l[k] with loc := n },h,i⟩ := w.setC (by have := w.chans _ (List.getElem_mem hk);unfold wfChan at *;dsimp only at *;simp_all)
theorem BookWf.score (w : BookWf ⟨a,b,c,l,h,i⟩) {k : Nat} (hk : k < l.length) {n : Int} (hn : i64 n) : BookWf ⟨a,b,c,l.set k { l[k] with score := n },h,i⟩ := w.setC (by have := w.chans _ (List.getElem_mem hk);unfold wfChan at *;dsimp only at *;simp_all)
theorem BookWf.key (w : BookWf ⟨a,b,c,l,h,i⟩) {k : Nat} (hk : k < h.length) {n : Int} (hn : i64 n) : BookWf ⟨a,b,c,l,h.set k { h[k] with key := n },i⟩ := w.setH (by have := w.htlcs _ (List.getElem_mem hk);unfold wfHtlc at *;dsimp only at *;simp_all)
theorem BookWf.to (w : BookWf ⟨a,b,c,l,h,i⟩) {k : Nat} (hk : k < i.length) : BookWf ⟨a,b,c,l,h,i.set k { i[k] with to := i[k].frm }⟩ := w.setI (by have := w.circles _ (List.getElem_mem hk);unfold wfCircle at *;dsimp only at *;simp_all)
theorem BookWf.swap (w : BookWf ⟨a,b,c,l,h,i⟩) (hk : 1 < l.length) : BookWf ⟨a,b,c,(l.set 0 l[1]).set 1 (l[0]'(by omega)),h,i⟩ := (w.setC (w.chans _ (List.getElem_mem hk))).setC (w.chans _ (List.getElem_mem _))
end
theorem bookNew_0 : GC Tryz.prog 16 [] [] (.agg [int 0,int 1,int 0,.p (.v (.slice none 0 0)),.p (.v (.slice none 0 0)),.p (.v (.slice none 0 0))]) [] := by
 refine GC.intro (rs := [.cell 0 27 (some 6)]) Tryz.func16 rfl Tryz.ntmps16 (Nat.le_of_ble_eq_true rfl) ⟨rfl,rfl,ty.kd27,trivial⟩ ?_
 intro L O w0
 refine sL<|lst (zA 2000 ty.ze27 Z) Z<|nA<|lq (rd (x := .agg [vI _ _,vI _ _,vI _ _,vV _,vV _,vV _]) (rd_build Z ty.sa27 Z Z Z) Z)<|lst (zB 2000 ty.co27 ty.inf27 Z) Z<|nG<|aR ?_
 refine end_ret ?_ trivial
 rfl
theorem bookNew_e : GC Tryz.prog 16 [] [] (bookV newBook) [] := GX.imp bookNew_0 (fun x ob1 ⟨e1,e2⟩ => by
 subst e1 e2
 exact ⟨bookV newBook,Imp.agg (ImpL.cons (Imp.refl _) (ImpL.cons (Imp.refl _) (ImpL.cons (Imp.refl _) (ImpL.cons (Imp.nil _ _) (ImpL.cons (Imp.nil _ _) (ImpL.cons (Imp.nil _ _) ImpL.nil)))))),rfl,rfl⟩)
theorem l07Draw_e (g : Value) (code : List Int) (i : Nat) (h m : Int) (hc : CurOk code i) (hm : 0 ≤ m ∧ m ≤ 100) : GX Tryz.prog 74 [.ptr 0 0 0,int m] [(0,curO g code i h)] (DrX g code DrB) := by
 refine GX.intro (rs := [.cell 4 27 (some 6)]) Tryz.func74 rfl Tryz.ntmps74 (Nat.le_of_ble_eq_true rfl) ⟨rfl,rfl,ty.kd27,trivial⟩ ?_
 intro L O w0
 refine sL<|lst (zA 2004 ty.ze27 Z) Z<|nA<|lst (zC [] [] [] Tryz.func16 (bookNew_e) (trivial) Z Z) Z<|lmP Z<|lmI Z ?_
 refine lX [(0,0),(50,50)] [50] [0] Tryz.func70 (l07Events_e g code _ _ (m) hc hm) (⟨⟨0,rfl,rfl⟩,trivial⟩) (pins_curX) Z ?_
 intro xz1 oz1 hz1
 obtain ⟨i1,q1,_,hc1,⟨es1,hes1,rfl,rfl⟩,rfl⟩ := hz1
 refine AL.freeze 50 rfl ?_
 refine AL.stx (StX.callN (F := []) [(1,1),(2,2),(3,3),(14,14),(15,15)] [1,2,3,14,15] [] ([]).length Tryz.func87 (sapplyAll_e newBook es1 newBook_wf hes1.1 (by have := hes1.2;omega)) tlp List.drop_length List.take_length (Nat.le_refl _) (by simp) (fun _ _ _ _ => trivial) rfl rfl) rfl ?_
 rintro _ _ ⟨xz2,oz2,Fz2,hz2,hF2,hM2,rfl,rfl⟩
 obtain ⟨vs2,hv2,rfl,rfl,rfl⟩ := hz2
 have hrf2 : rowF ([] ++ famP vs2 (allA newBook es1).ps) := rowF.app (by first | assumption | exact rowF.nil) hF2
 refine lmX (.tup [.agg [vI _ _,vI _ _,vI _ _,.own _,.own _,.own _],.own _,.own _]) Z<|lxX (.agg [vI _ _,vI _ _,vI _ _,.own _,.own _,.own _]) Z<|lxO Z<|lxO Z<|lst (zA 2005 ty.ze27 Z) Z<|lst (zB 2005 ty.co27 ty.inf27 Z) Z<|laO Z<|laO Z<|nA<|loX (.agg [vI _ _,vI _ _,vI _ _,.own _,.own _,.own _]) ty.kd27 Z<|lst (zB 2004 ty.co27 ty.inf27 Z) Z ?_
 refine lTt (([] ++ famP vs2 (allA newBook es1).ps)) [4] [0,1,2,3,14,15,2004,2005] ?_
 refine nG<|aR ?_
 refine end_xret ((ownB _ _ _)) ((0,curO g code i1 q1) :: obB _ _ _) ?_ rfl ⟨rfl,rfl,rfl,rfl,trivial⟩
 exact ⟨_,_,_,hc1,⟨_,_,_,_,_,_,allA_wf newBook_wf hes1.1,rfl,rfl⟩,rfl⟩
theorem l07Any_e (g : Value) (code : List Int) (i : Nat) (h : Int) (hc : CurOk code i) : GX Tryz.prog 33 [.ptr 0 0 0] [(0,curO g code i h)] (DrX g code DrB) := by
 refine GX.intro (rs := [.cell 2 27 (some 6)]) Tryz.func33 rfl Tryz.ntmps33 (Nat.le_of_ble_eq_true rfl) ⟨rfl,rfl,ty.kd27,trivial⟩ ?_
 intro L O w0
 refine sL<|lst (zA 2002 ty.ze27 Z) Z<|nA<|lmP Z ?_
 refine lX [(0,0),(1,1),(2,2),(3,3)] [1,2,3] [0] Tryz.func74 (l07Draw_e g code _ _ _ hc (by omega)) (⟨⟨0,rfl,rfl⟩,trivial⟩) (pins_curX) Z ?_
 intro xz1 oz1 hz1
 obtain ⟨i1,q1,_,hc1,⟨_,_,_,_,_,_,hw1,rfl,rfl⟩,rfl⟩ := hz1
 refine lst (zA 2003 ty.ze27 Z) Z<|lst (zB 2003 ty.co27 ty.inf27 Z) Z<|nA<|lmP Z ?_
 refine lX [(0,0)] [] [0] Tryz.func35 (l01Below_e g code _ _ _ hc1) (⟨⟨0,rfl,rfl⟩,trivial⟩) (pins_cur) Z ?_
 intro xz2 oz2 hz2
 obtain ⟨i2,q2,hc2,⟨n2,⟨na2,nb2⟩,rfl⟩,rfl⟩ := hz2
 refine laI Z<|nG ?_
 refine aJ [0,2,3,4] [2002] (D := Nat × Int × Int × Int × Int × List Chan × List Htlc × List Circle) (fun d => []) (fun d => [(0,curO g code d.1 d.2.1),(2003,.box 27 none [int d.2.2.1,int d.2.2.2.1,int d.2.2.2.2.1,.own 1,.own 2,.own 3]),(1,.arr 40 7 (rowsOf encChan d.2.2.2.2.2.1)),(2,.arr 68 7 (rowsOf encHtlc d.2.2.2.2.2.2.1)),(3,.arr 78 5 (rowsOf encCircle d.2.2.2.2.2.2.2))]) (fun d => CurOk code d.1 ∧ BookWf ⟨d.2.2.1,d.2.2.2.1,d.2.2.2.2.1,d.2.2.2.2.2.1,d.2.2.2.2.2.2.1,d.2.2.2.2.2.2.2⟩) ?_ ?_
 ·refine sL<|lmI Z<|lbB Z<|nG ?_
  refine AW.cond rfl ?_ ?_
  ·intro h1
   refine aL<|lmP Z ?_
   refine lX [(0,0)] [] [0] Tryz.func90 (l01Raw_e g code _ _ hc2) (⟨⟨0,rfl,rfl⟩,trivial⟩) (pins_cur) Z ?_
   intro xz3 oz3 hz3
   obtain ⟨i3,q3,hc3,⟨n3,hn3,rfl⟩,rfl⟩ := hz3
   refine lf 1 ty.F27_1 Z<|lst (zB 2003 ty.co3 ty.inf3 Z) Z<|lT [0,2,3,4] [0,1,2,3,2002,2003] ?_
   refine nG ?_
   refine ⟨(_,_,_,_,_,_,_,_),⟨by assumption,by first | assumption | exact BookWf.nums (by assumption) | exact BookWf.loc (by assumption) _ (by assumption) | exact BookWf.key (by assumption) _ (by assumption) | exact BookWf.to (by assumption) _ | exact BookWf.score (by assumption) _ (by assumption) | exact BookWf.swap (by assumption) _⟩,trivial,⟨rfl,rfl,rfl,rfl,rfl,trivial⟩,rfl,rfl⟩
  ·intro h1
   refine aK<|gT ?_
   refine ⟨(_,_,_,_,_,_,_,_),⟨by assumption,by first | assumption | exact BookWf.nums (by assumption) | exact BookWf.loc (by assumption) _ (by assumption) | exact BookWf.key (by assumption) _ (by assumption) | exact BookWf.to (by assumption) _ | exact BookWf.score (by assumption) _ (by assumption) | exact BookWf.swap (by assumption) _⟩,trivial,⟨rfl,rfl,rfl,rfl,rfl,trivial⟩,rfl,rfl⟩
 ·intro ⟨iJ5,qJ5,aJ5,bJ5,cJ5,lJ5,xJ5,yJ5⟩ hJ5
  dsimp only
  obtain ⟨hcJ5,hwJ5⟩ := hJ5
  simp only at hcJ5 hwJ5
  refine aJ [0,2,3,4] [2002] (D := Nat × Int × Int × Int × Int × List Chan × List Htlc × List Circle) (fun d => []) (fun d => [(0,curO g code d.1 d.2.1),(2003,.box 27 none [int d.2.2.1,int d.2.2.2.1,int d.2.2.2.2.1,.own 1,.own 2,.own 3]),(1,.arr 40 7 (rowsOf encChan d.2.2.2.2.2.1)),(2,.arr 68 7 (rowsOf encHtlc d.2.2.2.2.2.2.1)),(3,.arr 78 5 (rowsOf encCircle d.2.2.2.2.2.2.2))]) (fun d => CurOk code d.1 ∧ BookWf ⟨d.2.2.1,d.2.2.2.1,d.2.2.2.2.1,d.2.2.2.2.2.1,d.2.2.2.2.2.2.1,d.2.2.2.2.2.2.2⟩) ?_ ?_
  ·refine sL<|lmI Z<|lbB Z<|nG ?_
   refine AW.cond rfl ?_ ?_
   ·intro h2
    refine aL<|lmP Z ?_
    refine lX [(0,0)] [] [0] Tryz.func90 (l01Raw_e g code _ _ hcJ5) (⟨⟨0,rfl,rfl⟩,trivial⟩) (pins_cur) Z ?_
    intro xz4 oz4 hz4
    obtain ⟨i4,q4,hc4,⟨n4,hn4,rfl⟩,rfl⟩ := hz4
    refine lf 2 ty.F27_2 Z<|lst (zB 2003 ty.co3 ty.inf3 Z) Z<|nG ?_
    refine ⟨(_,_,_,_,_,_,_,_),⟨by assumption,by first | assumption | exact BookWf.nums (by assumption) | exact BookWf.loc (by assumption) _ (by assumption) | exact BookWf.key (by assumption) _ (by assumption) | exact BookWf.to (by assumption) _ | exact BookWf.score (by assumption) _ (by assumption) | exact BookWf.swap (by assumption) _⟩,trivial,⟨rfl,rfl,rfl,rfl,rfl,trivial⟩,rfl,rfl⟩
   ·intro h2
    refine aK<|gT ?_
    refine ⟨(_,_,_,_,_,_,_,_),⟨by assumption,by first | assumption | exact BookWf.nums (by assumption) | exact BookWf.loc (by assumption) _ (by assumption) | exact BookWf.key (by assumption) _ (by assumption) | exact BookWf.to (by assumption) _ | exact BookWf.score (by assumption) _ (by assumption) | exact BookWf.swap (by assumption) _⟩,trivial,⟨rfl,rfl,rfl,rfl,rfl,trivial⟩,rfl,rfl⟩
  ·intro ⟨iJ7,qJ7,aJ7,bJ7,cJ7,lJ7,xJ7,yJ7⟩ hJ7
   dsimp only
   obtain ⟨hcJ7,hwJ7⟩ := hJ7
   simp only at hcJ7 hwJ7
   refine aJ [0,2,3,4] [2002] (D := Nat × Int × Int × Int × Int × List Chan × List Htlc × List Circle) (fun d => []) (fun d => [(0,curO g code d.1 d.2.1),(2003,.box 27 none [int d.2.2.1,int d.2.2.2.1,int d.2.2.2.2.1,.own 1,.own 2,.own 3]),(1,.arr 40 7 (rowsOf encChan d.2.2.2.2.2.1)),(2,.arr 68 7 (rowsOf encHtlc d.2.2.2.2.2.2.1)),(3,.arr 78 5 (rowsOf encCircle d.2.2.2.2.2.2.2))]) (fun d => CurOk code d.1 ∧ BookWf ⟨d.2.2.1,d.2.2.2.1,d.2.2.2.2.1,d.2.2.2.2.2.1,d.2.2.2.2.2.2.1,d.2.2.2.2.2.2.2⟩) ?_ ?_
   ·refine sL<|lmI Z<|lbB Z<|lmB Z ?_
    refine AL.bool (t := 22) rfl ?_ ?_
    ·intro h3
     refine lf 3 ty.F27_3 Z<|loO ty.kd23 Z<|lnI ty.sl23 Z<|lbB Z<|lkB Z<|nG ?_
     refine AW.cond rfl ?_ ?_
     ·intro h4
      have hl : 0 < lJ7.length := by have h := h4;simp [length_rowsOf] at h;omega
      refine aG 6 [0]<|tq 0 (rf 3 ty.F27_3 Z)<|tq 1 (roO ty.kd23 Z)<|yq 2 (rmP Z) ?_
      refine AG.stx (i := 3) rfl (by kernel_rfl) (St.callX [(0,0)] [] [0] rfl (by intro s hs;cases hs;decide) rfl Tryz.func90 rfl rfl (l01Raw_e g code _ _ hcJ7) ⟨rfl,rfl,rfl⟩ (⟨⟨0,rfl,rfl⟩,trivial⟩) (pins_cur) rfl) (exK (l := [0]) rfl rfl) rfl ?_
      rintro _ _ ⟨xz6,oz6,hz6,rfl,rfl⟩
      obtain ⟨i6,q6,hc6,⟨n6,hn6,rfl⟩,rfl⟩ := hz6
      refine yq 4 (rj 0 ty.el23 rfl (by rw [length_rowsOf];omega))<|yq 5 (rf 2 ty.F40_2 rfl)<|yl rfl (zQ 1 [.v (.int .i64 n6)] ty.co3 ty.inf3 rfl (row_map (by omega)))<|gT ?_
      refine ⟨(_,_,_,_,_,_,_,_),⟨by assumption,by first | assumption | exact BookWf.nums (by assumption) | exact BookWf.loc (by assumption) _ (by assumption) | exact BookWf.key (by assumption) _ (by assumption) | exact BookWf.to (by assumption) _ | exact BookWf.score (by assumption) _ (by assumption) | exact BookWf.swap (by assumption) _⟩,trivial,⟨rfl,rfl,(Eq.trans (b := AO.arr 40 7 ((rowsOf encChan (lJ7)).set 0 ((encChan { lJ7[0] with loc := n6 }).map PV.v))) rfl (congrArg (AO.arr 40 7) rows_set)),rfl,rfl,trivial⟩,rfl,rfl⟩
     ·intro h4
      refine aK<|gT ?_
      refine ⟨(_,_,_,_,_,_,_,_),⟨by assumption,by first | assumption | exact BookWf.nums (by assumption) | exact BookWf.loc (by assumption) _ (by assumption) | exact BookWf.key (by assumption) _ (by assumption) | exact BookWf.to (by assumption) _ | exact BookWf.score (by assumption) _ (by assumption) | exact BookWf.swap (by assumption) _⟩,trivial,⟨rfl,rfl,rfl,rfl,rfl,trivial⟩,rfl,rfl⟩
    ·intro h3
     refine lno Z<|lno Z<|lno Z<|lno Z<|lkZ Z<|nG<|aN Z<|aK<|gT ?_
     refine ⟨(_,_,_,_,_,_,_,_),⟨by assumption,by first | assumption | exact BookWf.nums (by assumption) | exact BookWf.loc (by assumption) _ (by assumption) | exact BookWf.key (by assumption) _ (by assumption) | exact BookWf.to (by assumption) _ | exact BookWf.score (by assumption) _ (by assumption) | exact BookWf.swap (by assumption) _⟩,trivial,⟨rfl,rfl,rfl,rfl,rfl,trivial⟩,rfl,rfl⟩
   ·intro ⟨iJ9,qJ9,aJ9,bJ9,cJ9,lJ9,xJ9,yJ9⟩ hJ9
    dsimp only
    obtain ⟨hcJ9,hwJ9⟩ := hJ9
    simp only at hcJ9 hwJ9
    refine aJ [0,2,3,4] [2002] (D := Nat × Int × Int × Int × Int × List Chan × List Htlc × List Circle) (fun d => []) (fun d => [(0,curO g code d.1 d.2.1),(2003,.box 27 none [int d.2.2.1,int d.2.2.2.1,int d.2.2.2.2.1,.own 1,.own 2,.own 3]),(1,.arr 40 7 (rowsOf encChan d.2.2.2.2.2.1)),(2,.arr 68 7 (rowsOf encHtlc d.2.2.2.2.2.2.1)),(3,.arr 78 5 (rowsOf encCircle d.2.2.2.2.2.2.2))]) (fun d => CurOk code d.1 ∧ BookWf ⟨d.2.2.1,d.2.2.2.1,d.2.2.2.2.1,d.2.2.2.2.2.1,d.2.2.2.2.2.2.1,d.2.2.2.2.2.2.2⟩) ?_ ?_
    ·refine sL<|lmI Z<|lbB Z<|lmB Z ?_
     refine AL.bool (t := 36) rfl ?_ ?_
     ·intro h5
      refine lf 4 ty.F27_4 Z<|loO ty.kd24 Z<|lnI ty.sl24 Z<|lbB Z<|lkB Z<|nG ?_
      refine AW.cond rfl ?_ ?_
      ·intro h6
       have hl : 0 < xJ9.length := by have h := h6;simp [length_rowsOf] at h;omega
       refine aG 6 [0]<|tq 0 (rf 4 ty.F27_4 Z)<|tq 1 (roO ty.kd24 Z)<|yq 2 (rmP Z) ?_
       refine AG.stx (i := 3) rfl (by kernel_rfl) (St.callX [(0,0)] [] [0] rfl (by intro s hs;cases hs;decide) rfl Tryz.func90 rfl rfl (l01Raw_e g code _ _ hcJ9) ⟨rfl,rfl,rfl⟩ (⟨⟨0,rfl,rfl⟩,trivial⟩) (pins_cur) rfl) (exK (l := [0]) rfl rfl) rfl ?_
       rintro _ _ ⟨xz8,oz8,hz8,rfl,rfl⟩
       obtain ⟨i8,q8,hc8,⟨n8,hn8,rfl⟩,rfl⟩ := hz8
       refine yq 4 (rj 0 ty.el24 rfl (by rw [length_rowsOf];omega))<|yq 5 (rf 0 ty.F68_0 rfl)<|yl rfl (zQ 2 [.v (.int .i64 n8)] ty.co3 ty.inf3 rfl (row_map (by omega)))<|gT ?_
       refine ⟨(_,_,_,_,_,_,_,_),⟨by assumption,by first | assumption | exact BookWf.nums (by assumption) | exact BookWf.loc (by assumption) _ (by assumption) | exact BookWf.key (by assumption) _ (by assumption) | exact BookWf.to (by assumption) _ | exact BookWf.score (by assumption) _ (by assumption) | exact BookWf.swap (by assumption) _⟩,trivial,⟨rfl,rfl,rfl,(Eq.trans (b := AO.arr 68 7 ((rowsOf encHtlc (xJ9)).set 0 ((encHtlc { xJ9[0] with key := n8 }).map PV.v))) rfl (congrArg (AO.arr 68 7) rows_set)),rfl,trivial⟩,rfl,rfl⟩
      ·intro h6
       refine aK<|gT ?_
       refine ⟨(_,_,_,_,_,_,_,_),⟨by assumption,by first | assumption | exact BookWf.nums (by assumption) | exact BookWf.loc (by assumption) _ (by assumption) | exact BookWf.key (by assumption) _ (by assumption) | exact BookWf.to (by assumption) _ | exact BookWf.score (by assumption) _ (by assumption) | exact BookWf.swap (by assumption) _⟩,trivial,⟨rfl,rfl,rfl,rfl,rfl,trivial⟩,rfl,rfl⟩
     ·intro h5
      refine lno Z<|lno Z<|lno Z<|lno Z<|lkZ Z<|nG<|aN Z<|aK<|gT ?_
      refine ⟨(_,_,_,_,_,_,_,_),⟨by assumption,by first | assumption | exact BookWf.nums (by assumption) | exact BookWf.loc (by assumption) _ (by assumption) | exact BookWf.key (by assumption) _ (by assumption) | exact BookWf.to (by assumption) _ | exact BookWf.score (by assumption) _ (by assumption) | exact BookWf.swap (by assumption) _⟩,trivial,⟨rfl,rfl,rfl,rfl,rfl,trivial⟩,rfl,rfl⟩
    ·intro ⟨iJ11,qJ11,aJ11,bJ11,cJ11,lJ11,xJ11,yJ11⟩ hJ11
     dsimp only
     obtain ⟨hcJ11,hwJ11⟩ := hJ11
     simp only at hcJ11 hwJ11
     refine aJ [0,2,3,4] [2002] (D := Nat × Int × Int × Int × Int × List Chan × List Htlc × List Circle) (fun d => []) (fun d => [(0,curO g code d.1 d.2.1),(2003,.box 27 none [int d.2.2.1,int d.2.2.2.1,int d.2.2.2.2.1,.own 1,.own 2,.own 3]),(1,.arr 40 7 (rowsOf encChan d.2.2.2.2.2.1)),(2,.arr 68 7 (rowsOf encHtlc d.2.2.2.2.2.2.1)),(3,.arr 78 5 (rowsOf encCircle d.2.2.2.2.2.2.2))]) (fun d => CurOk code d.1 ∧ BookWf ⟨d.2.2.1,d.2.2.2.1,d.2.2.2.2.1,d.2.2.2.2.2.1,d.2.2.2.2.2.2.1,d.2.2.2.2.2.2.2⟩) ?_ ?_
     ·refine sL<|lmI Z<|lbB Z<|nG ?_
      refine AW.cond rfl ?_ ?_
      ·intro h7
       refine aL<|lmP Z ?_
       refine lX [(0,0)] [] [0] Tryz.func35 (l01Below_e g code _ _ _ hcJ11) (⟨⟨0,rfl,rfl⟩,trivial⟩) (pins_cur) Z ?_
       intro xz9 oz9 hz9
       obtain ⟨i9,q9,hc9,⟨n9,⟨na9,nb9⟩,rfl⟩,rfl⟩ := hz9
       refine lgI Z<|lf 0 ty.F27_0 Z<|lst (zB 2003 ty.co3 ty.inf3 Z) Z<|nG ?_
       refine ⟨(_,_,_,_,_,_,_,_),⟨by assumption,by first | assumption | exact BookWf.nums (by assumption) | exact BookWf.loc (by assumption) _ (by assumption) | exact BookWf.key (by assumption) _ (by assumption) | exact BookWf.to (by assumption) _ | exact BookWf.score (by assumption) _ (by assumption) | exact BookWf.swap (by assumption) _⟩,trivial,⟨rfl,rfl,rfl,rfl,rfl,trivial⟩,rfl,rfl⟩
      ·intro h7
       refine aK<|gT ?_
       refine ⟨(_,_,_,_,_,_,_,_),⟨by assumption,by first | assumption | exact BookWf.nums (by assumption) | exact BookWf.loc (by assumption) _ (by assumption) | exact BookWf.key (by assumption) _ (by assumption) | exact BookWf.to (by assumption) _ | exact BookWf.score (by assumption) _ (by assumption) | exact BookWf.swap (by assumption) _⟩,trivial,⟨rfl,rfl,rfl,rfl,rfl,trivial⟩,rfl,rfl⟩
     ·intro ⟨iJ13,qJ13,aJ13,bJ13,cJ13,lJ13,xJ13,yJ13⟩ hJ13
      dsimp only
      obtain ⟨hcJ13,hwJ13⟩ := hJ13
      simp only at hcJ13 hwJ13
      refine aJ [0,2,3,4] [2002] (D := Nat × Int × Int × Int × Int × List Chan × List Htlc × List Circle) (fun d => []) (fun d => [(0,curO g code d.1 d.2.1),(2003,.box 27 none [int d.2.2.1,int d.2.2.2.1,int d.2.2.2.2.1,.own 1,.own 2,.own 3]),(1,.arr 40 7 (rowsOf encChan d.2.2.2.2.2.1)),(2,.arr 68 7 (rowsOf encHtlc d.2.2.2.2.2.2.1)),(3,.arr 78 5 (rowsOf encCircle d.2.2.2.2.2.2.2))]) (fun d => CurOk code d.1 ∧ BookWf ⟨d.2.2.1,d.2.2.2.1,d.2.2.2.2.1,d.2.2.2.2.2.1,d.2.2.2.2.2.2.1,d.2.2.2.2.2.2.2⟩) ?_ ?_
      ·refine sL<|lmI Z<|lbB Z<|lmB Z ?_
       refine AL.bool (t := 56) rfl ?_ ?_
       ·intro h8
        refine lf 3 ty.F27_3 Z<|loO ty.kd23 Z<|lnI ty.sl23 Z<|lbB Z<|lkB Z<|nG ?_
        refine AW.cond rfl ?_ ?_
        ·intro h9
         refine aS ?_
         have hl : 1 < lJ13.length := by have h := h9;simp [length_rowsOf] at h;omega
         refine aL<|lf 3 ty.F27_3 Z<|loO ty.kd23 Z<|lq (rj 0 ty.el23 rfl (by rw [length_rowsOf];omega))<|lq (rd (x := .agg [vI _ _,vI _ _,vI _ _,vI _ _,vI _ _,vI _ _,vI _ _]) (rd_load_arr rfl ty.kd40 rfl rfl rfl (row_map (by omega)) rfl) rfl)<|lst (zA 2005 ty.ze40 rfl) Z<|lst (zB 2005 ty.co40 ty.inf40 rfl) Z<|lT [0,2,3,4,5] [0,1,2,3,2002,2003,2005] ?_
         refine nG<|aS<|aF [7]<|pq 0 (qf 3 ty.F27_3 rfl)<|sq 1 (roO ty.kd23 rfl)<|vq 2 (rf 3 ty.F27_3 rfl)<|vq 3 (roO ty.kd23 rfl)<|vq 4 (rj 1 ty.el23 rfl (by rw [length_rowsOf];omega))<|vq 5 (rd (x := .agg [vI _ _,vI _ _,vI _ _,vI _ _,vI _ _,vI _ _,vI _ _]) (rd_load_arr rfl ty.kd40 rfl rfl rfl (row_map (by omega)) rfl) rfl)<|vq 6 (rj 0 ty.el23 rfl (by rw [length_rowsOf];omega))<|vst 7 rfl (zQ 1 (((encChan lJ13[1]).map PV.v)) ty.co40 ty.inf40 rfl (row_map (by omega))) (.inl rfl)<|fD<|gT ?_
         refine AW.obj 1 (.arr 40 7 (rowsOf encChan ((lJ13).set 0 lJ13[1]))) (Eq.trans (b := AO.arr 40 7 ((rowsOf encChan (lJ13)).set 0 ((encChan lJ13[1]).map PV.v))) rfl (congrArg (AO.arr 40 7) rows_set)) ?_
         refine aL<|lf 3 ty.F27_3 Z<|loO ty.kd23 Z<|loX (.agg [vI _ _,vI _ _,vI _ _,vI _ _,vI _ _,vI _ _,vI _ _]) ty.kd40 Z<|lq (rj 1 ty.el23 rfl (by rw [length_rowsOf,List.length_set];omega))<|lst (zQ 1 (((encChan lJ13[0]).map PV.v)) ty.co40 ty.inf40 rfl (row_map (by rw [List.length_set];omega))) Z<|nG ?_
         refine ⟨(_,_,_,_,_,_,_,_),⟨by assumption,by first | assumption | exact BookWf.nums (by assumption) | exact BookWf.loc (by assumption) _ (by assumption) | exact BookWf.key (by assumption) _ (by assumption) | exact BookWf.to (by assumption) _ | exact BookWf.score (by assumption) _ (by assumption) | exact BookWf.swap (by assumption) _⟩,trivial,⟨rfl,rfl,(Eq.trans (b := AO.arr 40 7 ((rowsOf encChan (lJ13.set 0 lJ13[1])).set 1 ((encChan lJ13[0]).map PV.v))) rfl (congrArg (AO.arr 40 7) rows_set)),rfl,rfl,trivial⟩,rfl,rfl⟩
        ·intro h9
         refine aK<|gT ?_
         refine ⟨(_,_,_,_,_,_,_,_),⟨by assumption,by first | assumption | exact BookWf.nums (by assumption) | exact BookWf.loc (by assumption) _ (by assumption) | exact BookWf.key (by assumption) _ (by assumption) | exact BookWf.to (by assumption) _ | exact BookWf.score (by assumption) _ (by assumption) | exact BookWf.swap (by assumption) _⟩,trivial,⟨rfl,rfl,rfl,rfl,rfl,trivial⟩,rfl,rfl⟩
       ·intro h8
        refine lno Z<|lno Z<|lno Z<|lno Z<|lkZ Z<|nG<|aN Z<|aK<|gT ?_
        refine ⟨(_,_,_,_,_,_,_,_),⟨by assumption,by first | assumption | exact BookWf.nums (by assumption) | exact BookWf.loc (by assumption) _ (by assumption) | exact BookWf.key (by assumption) _ (by assumption) | exact BookWf.to (by assumption) _ | exact BookWf.score (by assumption) _ (by assumption) | exact BookWf.swap (by assumption) _⟩,trivial,⟨rfl,rfl,rfl,rfl,rfl,trivial⟩,rfl,rfl⟩
      ·intro ⟨iJ17,qJ17,aJ17,bJ17,cJ17,lJ17,xJ17,yJ17⟩ hJ17
       dsimp only
       obtain ⟨hcJ17,hwJ17⟩ := hJ17
       simp only at hcJ17 hwJ17
       refine aJ [0,2,3,4] [2002] (D := Nat × Int × Int × Int × Int × List Chan × List Htlc × List Circle) (fun d => []) (fun d => [(0,curO g code d.1 d.2.1),(2003,.box 27 none [int d.2.2.1,int d.2.2.2.1,int d.2.2.2.2.1,.own 1,.own 2,.own 3]),(1,.arr 40 7 (rowsOf encChan d.2.2.2.2.2.1)),(2,.arr 68 7 (rowsOf encHtlc d.2.2.2.2.2.2.1)),(3,.arr 78 5 (rowsOf encCircle d.2.2.2.2.2.2.2))]) (fun d => CurOk code d.1 ∧ BookWf ⟨d.2.2.1,d.2.2.2.1,d.2.2.2.2.1,d.2.2.2.2.2.1,d.2.2.2.2.2.2.1,d.2.2.2.2.2.2.2⟩) ?_ ?_
       ·refine sL<|lmI Z<|lbB Z<|lmB Z ?_
        refine AL.bool (t := 79) rfl ?_ ?_
        ·intro h10
         refine lf 5 ty.F27_5 Z<|loO ty.kd25 Z<|lnI ty.sl25 Z<|lbB Z<|lkB Z<|nG ?_
         refine AW.cond rfl ?_ ?_
         ·intro h11
          have hl : 0 < yJ17.length := by have h := h11;simp [length_rowsOf] at h;omega
          refine aF [9]<|pq 0 (qf 5 ty.F27_5 rfl)<|sq 1 (roO ty.kd25 rfl)<|vq 2 (rf 5 ty.F27_5 rfl)<|vq 3 (roO ty.kd25 rfl)<|vq 4 (rj 0 ty.el25 rfl (by rw [length_rowsOf];omega))<|vq 5 (rf 1 ty.F78_1 rfl)<|vq 6 (rd (x := vI _ _) (rd_load_arr rfl ty.kd3 rfl rfl rfl (row_map (by omega)) rfl) rfl)<|vq 7 (rj 0 ty.el25 rfl (by rw [length_rowsOf];omega))<|vq 8 (rf 2 ty.F78_2 rfl)<|vst 9 rfl (zQ 3 [.v (.int .i64 yJ17[0].frm)] ty.co3 ty.inf3 rfl (row_map (by omega))) (.inl rfl)<|fT [0,2,3,4] [0,1,2,3,2002,2003] ?_
          refine fD<|gT ?_
          refine ⟨(_,_,_,_,_,_,_,_),⟨by assumption,by first | assumption | exact BookWf.nums (by assumption) | exact BookWf.loc (by assumption) _ (by assumption) | exact BookWf.key (by assumption) _ (by assumption) | exact BookWf.to (by assumption) _ | exact BookWf.score (by assumption) _ (by assumption) | exact BookWf.swap (by assumption) _⟩,trivial,⟨rfl,rfl,rfl,rfl,(Eq.trans (b := AO.arr 78 5 ((rowsOf encCircle (yJ17)).set 0 ((encCircle { yJ17[0] with to := yJ17[0].frm }).map PV.v))) rfl (congrArg (AO.arr 78 5) rows_set)),trivial⟩,rfl,rfl⟩
         ·intro h11
          refine aK<|gT ?_
          refine ⟨(_,_,_,_,_,_,_,_),⟨by assumption,by first | assumption | exact BookWf.nums (by assumption) | exact BookWf.loc (by assumption) _ (by assumption) | exact BookWf.key (by assumption) _ (by assumption) | exact BookWf.to (by assumption) _ | exact BookWf.score (by assumption) _ (by assumption) | exact BookWf.swap (by assumption) _⟩,trivial,⟨rfl,rfl,rfl,rfl,rfl,trivial⟩,rfl,rfl⟩
        ·intro h10
         refine lno Z<|lno Z<|lno Z<|lno Z<|lkZ Z<|nG<|aN Z<|aK<|gT ?_
         refine ⟨(_,_,_,_,_,_,_,_),⟨by assumption,by first | assumption | exact BookWf.nums (by assumption) | exact BookWf.loc (by assumption) _ (by assumption) | exact BookWf.key (by assumption) _ (by assumption) | exact BookWf.to (by assumption) _ | exact BookWf.score (by assumption) _ (by assumption) | exact BookWf.swap (by assumption) _⟩,trivial,⟨rfl,rfl,rfl,rfl,rfl,trivial⟩,rfl,rfl⟩
       ·intro ⟨iJ19,qJ19,aJ19,bJ19,cJ19,lJ19,xJ19,yJ19⟩ hJ19
        dsimp only
        obtain ⟨hcJ19,hwJ19⟩ := hJ19
        simp only at hcJ19 hwJ19
        refine aJ [2,3] [2002] (D := Nat × Int × Int × Int × Int × List Chan × List Htlc × List Circle) (fun d => []) (fun d => [(0,curO g code d.1 d.2.1),(2003,.box 27 none [int d.2.2.1,int d.2.2.2.1,int d.2.2.2.2.1,.own 1,.own 2,.own 3]),(1,.arr 40 7 (rowsOf encChan d.2.2.2.2.2.1)),(2,.arr 68 7 (rowsOf encHtlc d.2.2.2.2.2.2.1)),(3,.arr 78 5 (rowsOf encCircle d.2.2.2.2.2.2.2))]) (fun d => CurOk code d.1 ∧ BookWf ⟨d.2.2.1,d.2.2.2.1,d.2.2.2.2.1,d.2.2.2.2.2.1,d.2.2.2.2.2.2.1,d.2.2.2.2.2.2.2⟩) ?_ ?_
        ·refine sL<|lmI Z<|lbB Z<|lmB Z ?_
         refine AL.bool (t := 96) rfl ?_ ?_
         ·intro h12
          refine lf 3 ty.F27_3 Z<|loO ty.kd23 Z<|lnI ty.sl23 Z<|lbB Z<|lkB Z<|nG ?_
          refine AW.cond rfl ?_ ?_
          ·intro h13
           have hl : 0 < lJ19.length := by have h := h13;simp [length_rowsOf] at h;omega
           refine aG 6 [0]<|tq 0 (rf 3 ty.F27_3 Z)<|tq 1 (roO ty.kd23 Z)<|yq 2 (rmP Z) ?_
           refine AG.stx (i := 3) rfl (by kernel_rfl) (St.callX [(0,0)] [] [0] rfl (by intro s hs;cases hs;decide) rfl Tryz.func91 rfl rfl (l06Score_e g code _ _ hcJ19) ⟨rfl,rfl,rfl⟩ (⟨⟨0,rfl,rfl⟩,trivial⟩) (pins_cur) rfl) (exK (l := [0]) rfl rfl) rfl ?_
           rintro _ _ ⟨xz11,oz11,hz11,rfl,rfl⟩
           obtain ⟨i11,q11,hc11,⟨n11,hn11,rfl⟩,rfl⟩ := hz11
           refine yq 4 (rj 0 ty.el23 rfl (by rw [length_rowsOf];omega))<|yq 5 (rf 6 ty.F40_6 rfl)<|yl rfl (zQ 1 [.v (.int .i64 n11)] ty.co3 ty.inf3 rfl (row_map (by omega)))<|gT ?_
           refine ⟨(_,_,_,_,_,_,_,_),⟨by assumption,by first | assumption | exact BookWf.nums (by assumption) | exact BookWf.loc (by assumption) _ (by assumption) | exact BookWf.key (by assumption) _ (by assumption) | exact BookWf.to (by assumption) _ | exact BookWf.score (by assumption) _ (by assumption) | exact BookWf.swap (by assumption) _⟩,trivial,⟨rfl,rfl,(Eq.trans (b := AO.arr 40 7 ((rowsOf encChan (lJ19)).set 0 ((encChan { lJ19[0] with score := n11 }).map PV.v))) rfl (congrArg (AO.arr 40 7) rows_set)),rfl,rfl,trivial⟩,rfl,rfl⟩
          ·intro h13
           refine aK<|gT ?_
           refine ⟨(_,_,_,_,_,_,_,_),⟨by assumption,by first | assumption | exact BookWf.nums (by assumption) | exact BookWf.loc (by assumption) _ (by assumption) | exact BookWf.key (by assumption) _ (by assumption) | exact BookWf.to (by assumption) _ | exact BookWf.score (by assumption) _ (by assumption) | exact BookWf.swap (by assumption) _⟩,trivial,⟨rfl,rfl,rfl,rfl,rfl,trivial⟩,rfl,rfl⟩
         ·intro h12
          refine lno Z<|lno Z<|lno Z<|lno Z<|lkZ Z<|nG<|aN Z<|aK<|gT ?_
          refine ⟨(_,_,_,_,_,_,_,_),⟨by assumption,by first | assumption | exact BookWf.nums (by assumption) | exact BookWf.loc (by assumption) _ (by assumption) | exact BookWf.key (by assumption) _ (by assumption) | exact BookWf.to (by assumption) _ | exact BookWf.score (by assumption) _ (by assumption) | exact BookWf.swap (by assumption) _⟩,trivial,⟨rfl,rfl,rfl,rfl,rfl,trivial⟩,rfl,rfl⟩
        ·intro ⟨iJ21,qJ21,aJ21,bJ21,cJ21,lJ21,xJ21,yJ21⟩ hJ21
         dsimp only
         obtain ⟨hcJ21,hwJ21⟩ := hJ21
         simp only at hcJ21 hwJ21
         refine sL<|loX (.agg [vI _ _,vI _ _,vI _ _,.own _,.own _,.own _]) ty.kd27 Z<|lst (zB 2002 ty.co27 ty.inf27 Z) Z<|nG<|aR ?_
         refine end_xret ((ownB _ _ _)) ((0,curO g code _ _) :: obB _ _ _) ?_ rfl ⟨rfl,rfl,rfl,rfl,trivial⟩
         exact ⟨_,_,_,hcJ21,⟨_,_,_,_,_,_,hwJ21,rfl,rfl⟩,rfl⟩

theorem no_liveN {L : Nat → Prop} {ρ : Nat → Value} {b : Nat} (h : ¬ L b) : ¬ live L ρ (ofO []) b := by
 rintro (q | ⟨_,q,_⟩)
 ·exact h q
 ·cases q
theorem GC.of_row {P : Program} {f : FuncId} {args : List AV} {x : AV} {R : World → Nat → Value → Prop}
 (ho : ∀ {L : Nat → Prop} {ρ : Nat → Value} {w : World} {lo : Nat} {v : Value},(∀ b,L b → b < lo) → R w lo v → RV L ρ (ofO []) w x v)
 (h : ∀ (L : Nat → Prop) (ρ : Nat → Value) (w : World) (cs : List Value),RVL L ρ (ofO []) w args cs → Calls P f cs.toArray w fun e w' => ∃ v,e = .returned v ∧ Grow w w' ∧ R w' w.heap.size v) : GC P f args [] x [] := by
 intro L w cs ρ fp hL hargs hob hdj hLf
 refine Calls.mono (h L ρ w cs hargs) ?_
 rintro e w' ⟨v,rfl,g,hR⟩
 refine ⟨x,[],⟨rfl,rfl⟩,v,ρ,fun _ => [],rfl,⟨g.below.os,g.below.tape,g.below.output,g.size,fun b hb _ => g.below.block b hb,fun b o hb hlt => ?_⟩,ho hL hR,fun i => rfl,by simp,by simp⟩
 rcases hb with ⟨i,hi⟩ | hb
 ·have := (hob i).only hi
  cases this.1
 ·exact g.nf b o hb hlt
def RowN {α : Type} (sz : Nat) (rep : World → Nat → Nat → List Value → α → Prop) (xs : List α) (w : World) (lo : Nat) (v : Value) : Prop := SlR sz rep w lo w.heap.size v xs
theorem RowN.rv {α : Type} {enc : α → List Value} {e : TypeId} {sz : Nat} {rep : World → Nat → Nat → List Value → α → Prop} {xs : List α} (hrep : ∀ w lo hi cs x,rep w lo hi cs x → cs = enc x) (hs : ∀ x,(enc x).length = sz) (h1 : ∀ x,∀ u ∈ enc x,u.oneCell' = true)
 {L : Nat → Prop} {ρ : Nat → Value} {w : World} {lo : Nat} {v : Value} (hL : ∀ b,L b → b < lo) (h : RowN sz rep xs w lo v) : RV L ρ (ofO []) w (.p (.lst e sz (rowsOf enc xs))) v :=
 RV.of_slr h (fun _ _ q => hrep _ _ _ _ _ q) hs h1 (Nat.le_refl _) (fun b q _ => no_liveN fun z => by have := hL b z;omega)
theorem GC.of_sl {α : Type} {P : Program} {f : FuncId} {args : List AV} {enc : α → List Value} {e : TypeId} {sz : Nat} {rep : World → Nat → Nat → List Value → α → Prop} {xs : List α} (hrep : ∀ w lo hi cs x,rep w lo hi cs x → cs = enc x) (hs : ∀ x,(enc x).length = sz) (h1 : ∀ x,∀ u ∈ enc x,u.oneCell' = true)
 (h : ∀ (L : Nat → Prop) (ρ : Nat → Value) (w : World) (cs : List Value),RVL L ρ (ofO []) w args cs → Calls P f cs.toArray w fun en w' => ∃ v,en = .returned v ∧ Grow w w' ∧ RowN sz rep xs w' w.heap.size v) : GC P f args [] (.p (.lst e sz (rowsOf enc xs))) [] :=
 GC.of_row (R := RowN sz rep xs) (fun hL q => q.rv hrep hs h1 hL) h
section
variable {L : Nat → Prop} {ρ : Nat → Value} {H : Nat → AO} {w : World} {S : Nat → Prop}
def Lie (L : Nat → Prop) (ρ : Nat → Value) (H : Nat → AO) (w : World) (S : Nat → Prop) : Prop := (∀ id,∃ f,OB L ρ H w (ρ id) f (H id) ∧ ∀ b ∈ f,S b) ∧ ∀ b,¬ live L ρ H b → S b
theorem Lie.row (hl : Lie L ρ H w S) {id : Nat} {e : Pin} {sz : Nat} {rows rows' : List (List PV)} (hH : H id = .arr e sz rows) (h : ∀ {xs fp},RWR w false sz rows xs fp → (∀ b ∈ fp,S b) → ∃ g,RWR w false sz rows' xs g ∧ ∀ b ∈ g,S b) (hlen : rows'.length = rows.length) :
 ∃ g,RW w false (.lst e.ty sz rows') (ρ id) g ∧ ∀ b ∈ g,S b := by
 obtain ⟨f,ho,hf⟩ := hl.1 id
 rw [hH] at ho
 obtain ⟨xs,fr,b1,b2,b3,b4,b5⟩ := ho
 obtain ⟨g,k1,k2⟩ := h b1 (fun b hb => hl.2 b (b2 b hb))
 rcases b3.2 with ⟨q,q2⟩ | ⟨gb,cap,cur,q,_,hg,hnc,hcm,_⟩
 ·refine ⟨[] ++ g,?_,fun b hb => k2 b (by simpa using hb)⟩
  rw [RW]
  refine ⟨xs,[],g,k1,?_,rfl⟩
  unfold SlAt
  simp only [Bool.false_eq_true,if_false]
  exact ⟨none,0,by rw [q,hlen,q2],by omega,by simp [maxLen],.inl ⟨by omega,trivial⟩⟩
 ·have b3' := b3
  rw [q] at b3'
  refine ⟨[gb] ++ g,?_,fun b hb => ?_⟩
  ·rw [RW]
   refine ⟨xs,[gb],g,k1,?_,rfl⟩
   unfold SlAt
   simp only [Bool.false_eq_true,if_false]
   exact ⟨_,cap,by rw [q,hlen],by omega,hcm,.inr ⟨gb,0,rfl,cellsAt_of_own b3',(Array.getElem?_eq_some_iff.1 hg).1,rfl⟩⟩
  ·rcases List.mem_append.1 hb with hb | hb
   ·refine hf b ?_
    rw [List.mem_singleton.1 hb,b4,q]
    simp [Value.ownBlock]
   ·exact k2 b hb
theorem Lie.self (hl : Lie L ρ H w S) {id : Nat} {e : Pin} {sz : Nat} {rows : List (List PV)} (hH : H id = .arr e sz rows) : ∃ g,RW w false (.lst e.ty sz rows) (ρ id) g ∧ ∀ b ∈ g,S b := hl.row hH (fun h hs => ⟨_,h,hs⟩) rfl
theorem RWL.deepS (hl : Lie L ρ H w S) : ∀ {x y : List PV} {c : List Value} {fp : List Nat},All2 (dpC H) x y → RWL w false x c fp → (∀ b ∈ fp,S b) → ∃ fp',RWL w false y c fp' ∧ ∀ b ∈ fp',S b
 | _,_,c,fp,.nil,h,hs => ⟨fp,h,hs⟩
 | _,_,c,fp,.cons h1 h2,h,hs => by
  rw [RWL] at h
  obtain ⟨c,r,f1,f2,rfl,rfl,k1,k2⟩ := h
  obtain ⟨g2,k3,k4⟩ := RWL.deepS hl h2 k2 (fun b hb => hs b (List.mem_append_right _ hb))
  rcases h1 with rfl | ⟨v,m,e,sz,rows,rfl,hm,rfl⟩
  ·refine ⟨f1 ++ g2,by rw [RWL];exact ⟨c,r,f1,g2,rfl,rfl,k1,k3⟩,fun b hb => ?_⟩
   rcases List.mem_append.1 hb with q | q
   ·exact hs b (List.mem_append_left _ q)
   ·exact k4 b q
  ·obtain ⟨g1,k5,k6⟩ := hl.self hm
   have hv : ρ m = v := by
    obtain ⟨f,ho,_⟩ := hl.1 m
    rw [hm] at ho
    obtain ⟨_,_,_,_,_,_,k⟩ := ho
    exact k v rfl
   rw [RW] at k1
   rw [k1.1,← hv]
   refine ⟨g1 ++ g2,by rw [RWL];exact ⟨ρ m,r,g1,g2,rfl,rfl,k5,k3⟩,fun b hb => ?_⟩
   rcases List.mem_append.1 hb with q | q
   ·exact k6 b q
   ·exact k4 b q
theorem RWR.deepS (hl : Lie L ρ H w S) {sz : Nat} : ∀ {x y : List (List PV)} {c : List Value} {fp : List Nat},All2 (All2 (dpC H)) x y → RWR w false sz x c fp → (∀ b ∈ fp,S b) → ∃ fp',RWR w false sz y c fp' ∧ ∀ b ∈ fp',S b
 | _,_,c,fp,.nil,h,hs => ⟨fp,h,hs⟩
 | _,_,c,fp,.cons h1 h2,h,hs => by
  rw [RWR] at h
  obtain ⟨hn,c,r,f1,f2,rfl,rfl,k1,k2⟩ := h
  obtain ⟨g1,k3,k5⟩ := RWL.deepS hl h1 k1 (fun b hb => hs b (List.mem_append_left _ hb))
  obtain ⟨g2,k4,k6⟩ := RWR.deepS hl h2 k2 (fun b hb => hs b (List.mem_append_right _ hb))
  refine ⟨g1 ++ g2,by rw [RWR];exact ⟨by rw [← h1.len];exact hn,c,r,g1,g2,rfl,rfl,k3,k4⟩,fun b hb => ?_⟩
  rcases List.mem_append.1 hb with q | q
  ·exact k5 b q
  ·exact k6 b q
end
structure Still (H : Nat → AO) (x y : AV) : Prop where
 to : ∀ {L : Nat → Prop} {ρ : Nat → Value} {w : World} {c : Value},Lie L ρ H w (fun b => ¬ L b) → RV L ρ H w x c → RV L ρ (ofO []) w y c
theorem Still.p {H : Nat → AO} (x : PV) : Still H (.p x) (.p x) := .mk fun {L ρ w c} hl h => by
 rw [RV] at *
 obtain ⟨fp,h1,h2⟩ := h
 exact ⟨fp,h1,fun b hb => no_liveN (hl.2 b (h2 b hb))⟩
theorem Still.own {H : Nat → AO} {id : Nat} {e : Pin} {sz : Nat} {rows rows' : List (List PV)} (hH : H id = .arr e sz rows) (h : All2 (All2 (dpC H)) rows rows') : Still H (.own id) (.p (.lst e.ty sz rows')) := .mk fun {L ρ w c} hl hx => by
 rw [RV] at hx
 have hc := hx.2 (by rw [hH];rfl)
 obtain ⟨g,k1,k2⟩ := hl.row hH (fun q hs => RWR.deepS hl h q hs) h.len.symm
 rw [hc,RV]
 exact ⟨g,k1,fun b hb => no_liveN (k2 b hb)⟩
theorem Still.row {H : Nat → AO} {id : Nat} {e : Pin} {sz : Nat} {rows : List (List PV)} (hH : H id = .arr e sz rows) : Still H (.own id) (.p (.lst e.ty sz rows)) := .mk fun {L ρ w c} hl hx => by
 rw [RV] at hx
 have hc := hx.2 (by rw [hH];rfl)
 obtain ⟨g,k1,k2⟩ := hl.self hH
 rw [hc,RV]
 exact ⟨g,k1,fun b hb => no_liveN (k2 b hb)⟩
theorem RVL.still {H : Nat → AO} {L : Nat → Prop} {ρ : Nat → Value} {w : World} (hl : Lie L ρ H w (fun b => ¬ L b)) : ∀ {l m : List AV} {cs : List Value},All2 (Still H) l m → RVL L ρ H w l cs → RVL L ρ (ofO []) w m cs
 | _,_,cs,.nil,h => by rw [RVL] at *;exact h
 | _,_,cs,.cons h1 h2,h => by
  rw [RVL] at *
  obtain ⟨c,r,rfl,k1,k2⟩ := h
  exact ⟨c,r,rfl,h1.to hl k1,RVL.still hl h2 k2⟩
theorem Still.agg {H : Nat → AO} {l m : List AV} (h : All2 (Still H) l m) : Still H (.agg l) (.agg m) := .mk fun hl hx => by
 rw [RV] at *
 obtain ⟨cs,rfl,h1⟩ := hx
 exact ⟨cs,rfl,RVL.still hl h h1⟩
theorem Still.tup {H : Nat → AO} {l m : List AV} (h : All2 (Still H) l m) : Still H (.tup l) (.tup m) := .mk fun hl hx => by
 rw [RV] at *
 obtain ⟨cs,rfl,h1⟩ := hx
 exact ⟨cs,rfl,RVL.still hl h h1⟩
theorem GX.frozen {P : Program} {f : FuncId} {args : List AV} {R : AV → List (Nat × AO) → Prop} {Z : AV → Prop} (h : GX P f args [] R) (hR : ∀ x ob1,R x ob1 → ∃ y,Still (ofO ob1) x y ∧ Z y) : GX P f args [] fun y ob => ob = [] ∧ Z y := fun L w cs ρ fp h1 h2 h3 h4 h5 =>
 Calls.mono (h L w cs ρ fp h1 h2 h3 h4 h5) fun e w' ⟨x,ob1,q,v,ρ',fp',q1,q2,q3,q4,q5,q6⟩ => by
  obtain ⟨y,hy,hz⟩ := hR x ob1 q
  have hl : Lie L ρ' (ofO ob1) w' (fun b => ¬ L b) := ⟨fun id => ⟨fp' id,q4 id,fun b hb => (q6 id b hb).2⟩,fun b hb => fun z => hb (.inl z)⟩
  exact ⟨y,[],⟨rfl,hz⟩,v,ρ',fun _ => [],q1,q2,hy.to hl q3,fun i => rfl,by simp,by simp⟩

abbrev allW (r : AllS) : AV := .tup [bookV r.now,.p (.lst 34 2 (rowsP r.ps)),.p (.lst 3 1 (rowsOf encKey r.codes))]
theorem all_frozen {f : FuncId} {args : List AV} {r : AllS} (h : GN Tryz.prog f args [] [] (allRel r)) : GC Tryz.prog f args [] (allW r) [] :=
 (GX.frozen (Z := fun y => y = allW r) (show GX Tryz.prog f args [] _ from h) fun x ob ⟨l1,F1,hs,hF,hM,e,⟨vs,hv,e1,e2,e3⟩⟩ => by
   subst e e1 e2 e3
   refine ⟨allW r,?_,rfl⟩
   have hT : Tl (ofO (allOb r vs ++ famL 1000000 (famP vs r.ps))) (famP vs r.ps) := by
    rw [ofO_fam rfl]
    exact Tl.tl hF
   exact Still.tup (.cons (Still.agg (.cons (Still.p _) (.cons (Still.p _) (.cons (Still.p _) (.cons (Still.row (id := 1) (e := ⟨40,none⟩) (sz := 7) (rows := rowsOf encChan r.now.chans) rfl) (.cons (Still.row (id := 2) (e := ⟨68,none⟩) (sz := 7) (rows := rowsOf encHtlc r.now.htlcs) rfl) (.cons (Still.row (id := 3) (e := ⟨78,none⟩) (sz := 5) (rows := rowsOf encCircle r.now.circles) rfl) .nil)))))))
    (.cons (Still.own (id := 14) (e := ⟨34,none⟩) (sz := 2) (rows := rowsV vs r.ps) rfl (deepV hT hv (s := 0) fun i hi => by rw [Nat.zero_add])) (.cons (Still.row (id := 15) (e := ⟨3,none⟩) (sz := 1) (rows := rowsOf encKey r.codes) rfl) .nil)))).mono fun y o ⟨e1,e2⟩ => ⟨e2,e1⟩
theorem applyAll_f (x : Book) (es : List Event) (hw : BookWf x) (we : ∀ e ∈ es,wfEvent e) (hm : es.length ≤ 1048576) : GC Tryz.prog 18 [bookV x,.p (.lst 29 7 (rowsOf encEvent es))] [] (allW (allA x es)) [] := all_frozen (applyAll_e x es hw we hm)

instance {l : List Chan} {ch : Int} : Decidable (There l ch) := inferInstanceAs (Decidable (∃ c,c ∈ l ∧ c.id = ch))
def accT (k c : Int) (x : Line) : Int := if x.acc.kind = k ∧ x.acc.ch = c then x.amt else 0
def sumA (l : List Line) (k c : Int) : Int := tot (accT k c) l
theorem sumA_nil (k c : Int) : sumA [] k c = 0 := rfl
theorem chanOr_cons (c : Chan) (l : List Chan) (ch : Int) : chanOr (c :: l) ch = if c.id = ch then c else chanOr l ch := by
 unfold chanOr
 rw [List.find?_cons]
 by_cases q : c.id = ch
 ·rw [if_pos q,show (c.id == ch) = true from by simpa using q];rfl
 ·rw [if_neg q,show (c.id == ch) = false from by simpa using q]
theorem chanOr_upd {f : Chan → Chan} (hf : ∀ c,(f c).id = c.id) (a ch : Int) : ∀ (l : List Chan),chanOr (updC l a f) ch = if ch = a ∧ There l a then f (chanOr l a) else chanOr l ch
 | [] => by rw [if_neg (fun ⟨_,c,hc,_⟩ => by simp at hc)];rfl
 | c :: l => by
  have ih := chanOr_upd hf a ch l
  have e0 : updC (c :: l) a f = (if c.id = a then f c else c) :: updC l a f := rfl
  have hid : (if c.id = a then f c else c).id = c.id := by split <;> simp [hf]
  rw [e0,chanOr_cons,hid]
  by_cases q : c.id = ch
  ·rw [if_pos q]
   by_cases r : ch = a
   ·have ht : There (c :: l) a := ⟨c,by simp,by omega⟩
    rw [if_pos (by omega),if_pos ⟨r,ht⟩,chanOr_cons,if_pos (by omega)]
   ·rw [if_neg (by omega),if_neg (fun z => r z.1),chanOr_cons,if_pos q]
  ·rw [if_neg q,ih]
   by_cases r : ch = a
   ·subst r
    have e : There (c :: l) ch ↔ There l ch := ⟨fun ⟨d,hd,r⟩ => by
     rcases List.mem_cons.1 hd with rfl | hd
     ·exact absurd r q
     ·exact ⟨d,hd,r⟩,fun ⟨d,hd,r⟩ => ⟨d,by simp [hd],r⟩⟩
    by_cases t : There l ch
    ·rw [if_pos ⟨rfl,t⟩,if_pos ⟨rfl,e.2 t⟩,chanOr_cons,if_neg q]
    ·rw [if_neg (fun z => t z.2),if_neg (fun z => t (e.1 z.2)),chanOr_cons,if_neg q]
   ·rw [if_neg (fun z => r z.1),if_neg (fun z => r z.1),chanOr_cons,if_neg q]
def locL (l : List Chan) (ch : Int) : Int := (chanOr l ch).loc
structure Bal (x y : Book) (l : List Line) : Prop where
 wal : y.wallet = x.wallet + sumA l 1 0
 loc : ∀ ch,locL y.chans ch = locL x.chans ch + sumA l 6 ch
 out : ∀ ch,outOf y ch = outOf x ch + sumA l 8 ch
 inn : ∀ ch,sumA l 7 ch = 0
theorem Bal.refl (x : Book) : Bal x x [] := ⟨by rw [sumA_nil];omega,fun ch => by rw [sumA_nil];omega,fun ch => by rw [sumA_nil];omega,fun ch => rfl⟩
end Go.Proofs.YtogkbcmfoalpiaaGreat

