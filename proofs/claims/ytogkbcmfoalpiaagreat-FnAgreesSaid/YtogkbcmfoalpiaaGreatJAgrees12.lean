/- Texts of the proof of FnAgrees, joined: PoOk, SzOk, ED6, BalW, LedS, EG1, E24, E25. -/
import Derived.Test.YtogkbcmfoalpiaaGreatJAgrees11
namespace Go.Proofs.YtogkbcmfoalpiaaGreat
open Go.RowKit
set_option linter.unusedSimpArgs false
set_option linter.unusedVariables false
theorem lessA_trans {a b c : Acc} (h : lessA a b = true) (h2 : lessA b c = true) : lessA a c = true := by
 unfold lessA at *
 simp only [Bool.or_eq_true,Bool.and_eq_true,decide_eq_true_eq,beq_iff_eq] at *
 omega
def lamt (x : Line) : Int := x.amt
theorem insL_asc {x : Line} : ∀ {l : List Line},(l.Pairwise fun a b => lessA a.acc b.acc = true) → Fresh l x.acc.kind x.acc.ch → (insL l x).Pairwise fun a b => lessA a.acc b.acc = true
 | [],_,_ => by unfold insL;exact List.pairwise_singleton _ _
 | y :: l,h,hf => by
  rw [List.pairwise_cons] at h
  unfold insL
  by_cases q : lessA y.acc x.acc = true
  ·rw [if_pos q,List.pairwise_cons]
   refine ⟨fun z hz => ?_,insL_asc h.2 fun z hz => hf z (by simp [hz])⟩
   rcases mem_insL hz with r | rfl
   ·exact h.1 z r
   ·exact q
  ·rw [if_neg q]
   have q' := lessA_or (hf y (by simp)) (by simpa using q)
   rw [List.pairwise_cons]
   refine ⟨fun z hz => ?_,List.pairwise_cons.2 h⟩
   rcases List.mem_cons.1 hz with rfl | r
   ·exact q'
   ·exact lessA_trans q' (h.1 z r)
theorem insL_tot {x : Line} : ∀ (l : List Line),tot lamt (insL l x) = tot lamt l + x.amt
 | [] => by unfold insL;rw [tot_cons,tot_nil];unfold lamt;omega
 | y :: l => by
  unfold insL
  split
  ·rw [tot_cons,tot_cons,insL_tot l];omega
  ·rw [tot_cons];unfold lamt;omega
def AccV (a : Acc) : Prop := (1 ≤ a.kind ∧ a.kind ≤ 5 ∧ a.ch = 0) ∨ (6 ≤ a.kind ∧ a.kind ≤ 8 ∧ 1 ≤ a.ch ∧ a.ch ≤ 99)
structure LnS (l : List Line) (s : Int) (m : Nat) : Prop where
 asc : l.Pairwise fun a b => lessA a.acc b.acc = true
 acc : ∀ y ∈ l,AccV y.acc
 amt : ∀ y ∈ l,y.amt ≠ 0 ∧ -1125899906842624 ≤ y.amt ∧ y.amt ≤ 1125899906842624
 sum : tot lamt l = s
 len : l.length ≤ m
theorem LnS.nil : LnS [] 0 0 := ⟨List.Pairwise.nil,by simp,by simp,rfl,Nat.le_refl _⟩
theorem LnS.add {l : List Line} {s n k c : Int} {m : Nat} (h : LnS l s m) (hv : AccV ⟨k,c⟩) (hf : Fresh l k c) (hn : -1125899906842624 ≤ n ∧ n ≤ 1125899906842624) : LnS (addL l k c n) (s + n) (m + 1) := by
 by_cases q : n = 0
 ·rw [addL_zero q,q,Int.add_zero]
  exact ⟨h.asc,h.acc,h.amt,h.sum,Nat.le_succ_of_le h.len⟩
 ·rw [addL_pos q]
  refine ⟨insL_asc h.asc hf,fun y hy => ?_,fun y hy => ?_,?_,?_⟩
  ·rcases mem_insL hy with r | rfl
   ·exact h.acc y r
   ·exact hv
  ·rcases mem_insL hy with r | rfl
   ·exact h.amt y r
   ·exact ⟨q,hn⟩
  ·rw [insL_tot,h.sum]
  ·rw [insL_length];have := h.len;omega
theorem LnS.eq {l : List Line} {s t : Int} {m : Nat} (h : LnS l s m) (e : s = t) : LnS l t m := e ▸ h
theorem LnS.two {l : List Line} {m : Nat} (h : LnS l 0 m) (hl : l ≠ []) : 2 ≤ l.length := by
 match l,hl with
 | [y],_ =>
  have h1 := h.sum
  rw [tot_cons,tot_nil] at h1
  have h2 := (h.amt y (by simp)).1
  unfold lamt at h1
  omega
 | _ :: _ :: _,_ => simp
theorem There.ok {x : Book} (b : BOk x) {ch : Int} (h : There x.chans ch) : 1 ≤ ch ∧ ch ≤ 99 := by
 obtain ⟨c,hc,rfl⟩ := h
 exact (b.ch c hc).id
theorem av0 {k : Int} (h : 1 ≤ k ∧ k ≤ 5) : AccV ⟨k,0⟩ := .inl ⟨h.1,h.2,rfl⟩
theorem av1 {k ch : Int} (h : 6 ≤ k ∧ k ≤ 8) (hc : 1 ≤ ch ∧ ch ≤ 99) : AccV ⟨k,ch⟩ := .inr ⟨h.1,h.2,hc.1,hc.2⟩
theorem fr2 {l : List Line} {a b c k ch : Int} (h : Fresh l k ch) (hd : a ≠ k ∨ b ≠ ch) : Fresh (addL l a b c) k ch := h.add hd
theorem ln_work {x : Book} {e : Event} (h : applyC x e = 0) : LnS (workR x e).l 0 3 := by
 obtain ⟨h1,h2,h3⟩ := applyC_ok h
 have b := bOk_of h1
 have hbe : (bookOk x && eventOk e) = true := by rw [h1,h2];rfl
 have hw : (workR x e).c = 0 := by rw [← applyC_work hbe h3];exact h
 have am := evAmt h2
 rw [amtOk_true,amtOk_true] at am
 obtain ⟨a0,f0⟩ := am
 obtain ⟨p1,p2,p3,p4⟩ := ev_parts h2
 have hn := over_next h3
 have nil3 : LnS [] 0 3 := ⟨List.Pairwise.nil,by simp,by simp,rfl,by simp⟩
 have up : ∀ {l : List Line} {s : Int},LnS l s 2 → s = 0 → LnS l 0 3 := fun q r => by subst r;exact ⟨q.asc,q.acc,q.amt,q.sum,Nat.le_succ_of_le q.len⟩
 by_cases k1 : e.kind = 1
 ·rw [← wk1 k1]
  exact up ((LnS.nil.add (av0 (by omega)) (Fresh.nil _ _) (by omega)).add (av0 (by omega)) (fr2 (Fresh.nil _ _) (.inl (by decide))) (by omega)) (by omega)
 by_cases k2 : e.kind = 2
 ·rw [← wk2 k2] at hw ⊢
  by_cases q : openC x e = 0
  ·rw [openR_yes q]
   exact up ((LnS.nil.add (av1 (by omega) (p2 (by rw [k2];rfl))) (Fresh.nil _ _) (by omega)).add (av0 (by omega)) (fr2 (Fresh.nil _ _) (.inl (by decide))) (by omega)) (by omega)
  ·rw [openR_no q] at hw;exact absurd hw q
 by_cases k3 : e.kind = 3
 ·rw [← wk3 k3] at hw ⊢
  by_cases q : shutC x e = 0
  ·rw [shutR_yes q]
   unfold shutC at q
   obtain ⟨_,g1⟩ := failC_zero (by decide) q
   simp only [decide_eq_false_iff_not] at g1
   have hl : Amt (chanOr x.chans e.ch).loc := by
    rcases chan_find x.chans e.ch with ⟨_,r⟩ | ⟨i,c,_,r2,r3,_⟩
    ·rw [r];exact ⟨Int.le_refl _,by decide⟩
    ·rw [r3];exact (b.ch c (mem_of_get r2)).loc
   unfold Amt at hl
   exact (((LnS.nil.add (av0 (by omega)) (Fresh.nil _ _) (by omega)).add (av0 (by omega)) (fr2 (Fresh.nil _ _) (.inl (by decide))) (by omega)).add (av1 (by omega) (p2 (by rw [k3];rfl))) (fr2 (fr2 (Fresh.nil _ _) (.inl (by decide))) (.inl (by decide))) (by omega)).eq (by omega)
  ·rw [shutR_no q] at hw;exact absurd hw q
 by_cases k4 : e.kind = 4
 ·rw [← wk4 k4]
  unfold priR
  split <;> exact nil3
 by_cases k5 : e.kind = 5
 ·rw [← wk5 k5] at hw ⊢
  by_cases q : admC x e = 0
  ·rw [admR_yes q]
   have hto : 1 ≤ e.to ∧ e.to ≤ 99 := by
    have h5 := h2
    unfold eventOk at h5
    simp only [Bool.and_eq_true] at h5
    have := h5.1.1.1.1.2
    unfold fieldB at this
    rw [if_pos (by rw [k5];rfl)] at this
    exact inB_true.1 this
   exact up ((LnS.nil.add (av1 (by omega) hto) (Fresh.nil _ _) (by omega)).add (av1 (by omega) hto) (fr2 (Fresh.nil _ _) (.inl (by decide))) (by omega)) (by omega)
  ·rw [admR_no q] at hw;exact absurd hw q
 by_cases k6 : e.kind = 6 ∨ e.kind = 7
 ·rw [← wk6 k6]
  unfold setR
  split
  ·rename_i y hy
   have q := b.hs y (List.mem_of_find?_eq_some hy)
   have q1 := q.inn
   have q2 := q.out
   unfold Amt at q1
   have ti := There.ok b q.ti
   have to := There.ok b q.to
   unfold setY
   split
   ·exact (((LnS.nil.add (av0 (by omega)) (Fresh.nil _ _) (by omega)).add (av1 (by omega) ti) (fr2 (Fresh.nil _ _) (.inl (by decide))) (by omega)).add (av1 (by omega) to) (fr2 (fr2 (Fresh.nil _ _) (.inl (by decide))) (.inl (by decide))) (by omega)).eq (by omega)
   ·exact up ((LnS.nil.add (av1 (by omega) to) (Fresh.nil _ _) (by omega)).add (av1 (by omega) to) (fr2 (Fresh.nil _ _) (.inl (by decide))) (by omega)) (by omega)
  ·exact nil3
 by_cases k8 : e.kind = 8
 ·rw [← wk8 k8];exact nil3
 by_cases k9 : e.kind = 9
 ·rw [← wk9 k9] at hw ⊢
  by_cases q : lauC x e = 0
  ·rw [lauR_yes q]
   have hs : A50 (addV e.amt e.fee) := addV_A50 _ _
   unfold A50 at hs
   have hch := p2 (by rw [k9];rfl)
   exact up ((LnS.nil.add (av1 (by omega) hch) (Fresh.nil _ _) (by omega)).add (av1 (by omega) hch) (fr2 (Fresh.nil _ _) (.inl (by decide))) (by omega)) (by omega)
  ·rw [lauR_no q] at hw;exact absurd hw q
 ·have := ev_kind h2
  rw [← wk10 (by omega)]
  unfold landR
  split
  ·rename_i y hy
   have hm := List.mem_of_find?_eq_some hy
   have q := b.cs y hm
   have q1 := circle_fits h1 y hm
   have ti := There.ok b q.ti
   have to := There.ok b q.to
   unfold landY
   split
   ·exact (((LnS.nil.add (av0 (by omega)) (Fresh.nil _ _) (by omega)).add (av1 (by omega) to) (fr2 (Fresh.nil _ _) (.inl (by decide))) (by omega)).add (av1 (by omega) ti) (fr2 (fr2 (Fresh.nil _ _) (.inl (by decide))) (.inl (by decide))) (by omega)).eq (by omega)
   ·exact up ((LnS.nil.add (av1 (by omega) ti) (Fresh.nil _ _) (by omega)).add (av1 (by omega) ti) (fr2 (Fresh.nil _ _) (.inl (by decide))) (by omega)) (by omega)
  ·exact nil3

def Keeps (l l' : List Chan) : Prop := ∀ c ∈ l,∃ d ∈ l',d.id = c.id ∧ d.size = c.size
theorem Keeps.refl (l : List Chan) : Keeps l l := fun c hc => ⟨c,hc,rfl,rfl⟩
theorem Keeps.trans {a b c : List Chan} (h : Keeps a b) (h2 : Keeps b c) : Keeps a c := fun x hx => by
 obtain ⟨y,hy,q1,q2⟩ := h x hx
 obtain ⟨z,hz,r1,r2⟩ := h2 y hy
 exact ⟨z,hz,r1.trans q1,r2.trans q2⟩
theorem Keeps.upd {l : List Chan} {a : Int} {f : Chan → Chan} (hf : ∀ c,(f c).id = c.id ∧ (f c).size = c.size) : Keeps l (updC l a f) := fun c hc => by
 refine ⟨_,List.mem_map_of_mem hc,?_⟩
 split
 ·exact hf c
 ·exact ⟨rfl,rfl⟩
theorem Keeps.map {l : List Chan} {f : Chan → Chan} (hf : ∀ c,(f c).id = c.id ∧ (f c).size = c.size) : Keeps l (l.map f) := fun c hc => ⟨_,List.mem_map_of_mem hc,hf c⟩

set_option maxHeartbeats 16000000
set_option maxRecDepth 100000
def accOk (a : Acc) : Bool := if inB a.kind 6 8 = true then inB a.ch 1 99 else inB a.kind 1 5 && (a.ch == 0)
def prevOk (l : List Line) (i : Nat) (x : Line) : Bool := match i with | 0 => true | j + 1 => match l[j]? with | some y => lessA y.acc x.acc | none => true
def lineAt (l : List Line) (i : Nat) : Bool := match l[i]? with | some x => accOk x.acc && !(x.amt == 0) && rangeA x.amt && prevOk l i x | none => true
def amtOf (x : Line) : Int := x.amt
def linesOk (l : List Line) : Bool := (List.range l.length).all (lineAt l) && (tot amtOf l == 0)
theorem accOk_iff {a : Acc} : accOk a = true ↔ (1 ≤ a.kind ∧ a.kind ≤ 5 ∧ a.ch = 0) ∨ (6 ≤ a.kind ∧ a.kind ≤ 8 ∧ 1 ≤ a.ch ∧ a.ch ≤ 99) := by
 unfold accOk
 by_cases h : inB a.kind 6 8 = true
 ·rw [if_pos h]
  have := inB_true.1 h
  rw [inB_true];omega
 ·rw [if_neg h,Bool.and_eq_true,inB_true,beq_iff_eq]
  have h' := inB_false.1 (by simpa using h)
  omega
theorem lineAt_eq {l : List Line} {k : Nat} (h : k < l.length) : lineAt l k = (accOk l[k].acc && !(l[k].amt == 0) && rangeA l[k].amt && prevOk l k l[k]) := by
 unfold lineAt;rw [List.getElem?_eq_getElem h]
theorem linesOk_no {l : List Line} {k : Nat} (h : k < l.length) (h2 : lineAt l k = false) : linesOk l = false := by
 unfold linesOk
 rw [show (List.range l.length).all (lineAt l) = false from List.all_eq_false.2 ⟨k,by simpa using h,by simp [h2]⟩]
 rfl
theorem linesOk_yes {l : List Line} (h : ∀ j,j < l.length → lineAt l j = true) : linesOk l = (tot amtOf l == 0) := by
 unfold linesOk
 rw [show (List.range l.length).all (lineAt l) = true from List.all_eq_true.2 fun j hj => h j (by simpa using hj)]
 rfl
theorem prevOk_pos {l : List Line} {k : Nat} {x : Line} (h0 : 0 < k) (h : k < l.length) : prevOk l k x = lessA (l[k - 1]'(by omega)).acc x.acc := by
 obtain ⟨j,rfl⟩ : ∃ j,k = j + 1 := ⟨k - 1,by omega⟩
 show (match l[j]? with | some y => lessA y.acc x.acc | none => true) = _
 rw [List.getElem?_eq_getElem (by omega : j < l.length)]
 rfl
theorem amts_bd {l : List Line} : ∀ (k : Nat),k ≤ l.length → (∀ j,j < k → lineAt l j = true) → -((k : Int) * 1125899906842624) ≤ tot amtOf (l.take k) ∧ tot amtOf (l.take k) ≤ (k : Int) * 1125899906842624
 | 0,_,_ => by simp [tot]
 | k + 1,hk,h => by
  have ih := amts_bd k (by omega) (fun j hj => h j (by omega))
  have hl := h k (by omega)
  rw [lineAt_eq (by omega : k < l.length)] at hl
  simp only [Bool.and_eq_true] at hl
  have hr := inB_true.1 hl.1.2
  rw [tot_succ amtOf l (by omega : k < l.length)]
  unfold amtOf at *
  push_cast
  omega
theorem sum_fit {l : List Line} {k : Nat} (hn : l.length ≤ 1000) (hk : k < l.length) (h : ∀ j,j < k → lineAt l j = true) (hr : rangeA l[k].amt = true) : Fits .i64 (tot amtOf (l.take k) + l[k].amt) := by
 have := amts_bd k (by omega) h
 have := inB_true.1 hr
 refine fits_i64 ?_
 unfold i64
 omega
def postOk (n : Int) (l : List Line) : Bool := inB n 1 1125899906842624 && inB (l.length : Int) 2 8 && linesOk l
theorem accOk_e (a : Acc) : GC Tryz.prog 120 [.agg [int a.kind,int a.ch]] [] (boo (accOk a)) [] := by
 refine gi 2 Tryz.func120 rfl Tryz.ntmps120 rfl ?_
 intro L O w0
 refine sL<|lst (zX 2001 Z) Z<|laZ Z<|nG<|aS<|sL<|lf 0 ty.F110_0 Z<|loI ty.kd3 Z<|lst (zC [] [] [] Tryz.func63 (in_e _ _ _) (trivial) Z Z) Z<|nG ?_
 refine AW.cond rfl ?_ ?_
 ·intro h1
  refine sL<|lf 1 ty.F110_1 Z<|loI ty.kd3 Z<|lst (zC [] [] [] Tryz.func63 (in_e _ _ _) (trivial) Z Z) Z<|laB Z<|nG<|aR<|rT ?_
  refine eBo trivial ?_
  first | rfl | (simp_all [accOk,dec_beq];done) | (simp_all [accOk,inB];omega)
 ·intro h1
  refine aK<|gA<|lf 0 ty.F110_0 Z<|loI ty.kd3 Z<|lst (zC [] [] [] Tryz.func63 (in_e _ _ _) (trivial) Z Z) Z<|lmB Z ?_
  refine AL.bool (t := 12) rfl ?_ ?_
  ·intro h2
   refine lf 1 ty.F110_1 Z<|loI ty.kd3 Z<|lbB Z<|lkB Z<|laB Z<|nG<|aR ?_
   refine eBo trivial ?_
   first | rfl | (simp_all [accOk,dec_beq];done) | (simp_all [accOk,inB];omega)
  ·intro h2
   refine lno Z<|lno Z<|lno Z<|lkZ Z<|laZ Z<|nG<|aR ?_
   refine eBo trivial ?_
   first | rfl | (simp_all [accOk,dec_beq];done) | (simp_all [accOk,inB];omega)
theorem linesOk_e (l : List Line) (hn : l.length ≤ 1000) : GC Tryz.prog 68 [.p (.lst 120 3 (rowsOf encLine l))] [] (boo (linesOk l)) [] := by
 refine gi 2 Tryz.func68 rfl Tryz.ntmps68 rfl ?_
 intro L O w0
 refine sL<|laZ Z<|nA<|laI Z<|nG<|aS<|sL<|lmL Z<|lnI ty.sl32 Z<|lmI Z<|nG<|aB ?_
 refine aW [0,2,6,7] [] (D := Nat) (fun k => [(3,int (tot amtOf (l.take k))),(8,int (k : Int))]) (fun k => []) (fun k => k ≤ l.length ∧ ∀ j,j < k → lineAt l j = true) (fun k => l.length - k) (0) (⟨Nat.zero_le _,fun j h => absurd h (by omega)⟩) ⟨rfl,rfl,trivial⟩ trivial ?_
 intro k hI
 obtain ⟨hkl,hall⟩ := hI
 refine sL<|lbB Z<|nG<|aS ?_
 refine AW.cond rfl ?_ ?_
 ·intro h1
  refine aK<|gT<|aS<|aB<|sL<|lmI Z ?_
  have hk : k < l.length := by simpa [length_rowsOf] using h1
  refine li k ty.el32 Z (row_map hk)<|lrX (.agg [vI _ _,vI _ _,vI _ _]) ty.kd120 Z<|lst (zA 2005 ty.ze120 Z) Z<|laI Z<|lst (zB 2005 ty.co120 ty.inf120 Z) Z<|nG<|aS<|aS<|aF []<|vq 0 (rf 0 ty.F120_0 Z)<|vq 1 (roX (.agg [vI _ _,vI _ _]) ty.kd110 Z)<|vst 2 Z (zC [] [] [] Tryz.func120 (accOk_e l[k].acc) (trivial) Z Z) (.inr Z)<|fT [0,2,3,4,5,6,7,8,15] [2005] ?_
  refine vq 3 (ruB Z)<|vq 4 (rmB Z) ?_
  refine AF.bool (t := 17) rfl ?_ ?_
  ·intro h2
   refine vno 5 Z<|vno 6 Z<|vno 7 Z<|vq 8 (rkT Z)<|vq 9 (rmT Z)<|vno 10 Z<|vno 11 Z<|vno 12 Z<|vno 13 Z<|vq 14 (rkT Z)<|vq 15 (rmT Z)<|vno 16 Z<|vno 17 Z<|vno 18 Z<|pno 19 Z<|pno 20 Z<|pno 21 Z<|pno 22 Z<|pno 23 Z<|pno 24 Z<|vno 25 Z<|vno 26 Z<|vno 27 Z<|vno 28 Z<|vno 29 Z<|vq 30 (rkT Z)<|fD<|gT<|aY Z<|aS ?_
   refine aL<|laZ Z<|nG<|aR<|rT<|rB<|rT<|rT<|rB<|rT ?_
   refine eBo trivial ?_
   first | (exfalso;simp only [decide_eq_true_eq] at *;omega) | exact (linesOk_no hk (by rw [lineAt_eq hk];simp_all [rangeA,prevOk_pos])).symm
  ·intro h2
   refine vq 5 (rf 2 ty.F120_1 Z)<|vq 6 (roI ty.kd3 Z)<|vq 7 (rbB Z)<|vq 8 (rkB Z)<|vq 9 (rmB Z) ?_
   refine AF.bool (t := 22) rfl ?_ ?_
   ·intro h3
    refine vno 10 Z<|vno 11 Z<|vno 12 Z<|vno 13 Z<|vq 14 (rkT Z)<|vq 15 (rmT Z)<|vno 16 Z<|vno 17 Z<|vno 18 Z<|pno 19 Z<|pno 20 Z<|pno 21 Z<|pno 22 Z<|pno 23 Z<|pno 24 Z<|vno 25 Z<|vno 26 Z<|vno 27 Z<|vno 28 Z<|vno 29 Z<|vq 30 (rkT Z)<|fD<|gT<|aY Z<|sL<|laZ Z<|nG<|aR ?_
    refine rT<|rB<|rT<|rT<|rB<|rT ?_
    refine eBo trivial ?_
    first | (exfalso;simp only [decide_eq_true_eq] at *;omega) | exact (linesOk_no hk (by rw [lineAt_eq hk];simp_all [rangeA,prevOk_pos])).symm
   ·intro h3
    refine vq 10 (rf 2 ty.F120_1 Z)<|vq 11 (roI ty.kd3 Z)<|vst 12 Z (zC [] [] [] Tryz.func63 (in_e _ _ _) (trivial) Z Z) (.inr Z)<|fT [0,2,3,4,5,6,7,8,22,25] [2005] ?_
    refine vq 13 (ruB Z)<|vq 14 (rkB Z)<|vq 15 (rmB Z) ?_
    refine AF.bool (t := 28) rfl ?_ ?_
    ·intro h4
     refine vno 16 Z<|vno 17 Z<|vno 18 Z<|pno 19 Z<|pno 20 Z<|pno 21 Z<|pno 22 Z<|pno 23 Z<|pno 24 Z<|vno 25 Z<|vno 26 Z<|vno 27 Z<|vno 28 Z<|vno 29 Z<|vq 30 (rkT Z)<|fD<|gT<|aY Z<|sL<|laZ Z<|nG<|aR<|rT<|rB<|rT<|rT<|rB<|rT ?_
     refine eBo trivial ?_
     first | (exfalso;simp only [decide_eq_true_eq] at *;omega) | exact (linesOk_no hk (by rw [lineAt_eq hk];simp_all [rangeA,prevOk_pos])).symm
    ·intro h4
     refine vq 16 (rmI Z)<|vq 17 (rbB Z)<|vq 18 (rmB Z) ?_
     refine AF.bool (t := 31) rfl ?_ ?_
     ·intro h5
      refine pq 19 (qmL Z)<|pq 20 (qmX (vI _ _) Z) ?_
      have hp : 0 < k := by simpa using h5
      refine sq 21 (rgI rfl (by unfold i64;omega))<|sq 22 (rd (x := .rp _) (rd_iaddr_p (i := k - 1) rfl ty.el32 rfl rfl ?hn1 (row_map (by omega : k - 1 < l.length))) rfl) ?_
      case hn1 => omega
      refine pq 23 (qd (x := .rp _) (zpfr ty.F120_0 rfl) rfl)<|sq 24 (rrX (.agg [vI _ _,vI _ _]) ty.kd110 rfl)<|vq 25 (rf 0 ty.F120_0 rfl)<|vq 26 (roX (.agg [vI _ _,vI _ _]) ty.kd110 rfl)<|vst 27 rfl (zC [] [] [] Tryz.func121 (lessA_e (l[k-1]'(by omega)).acc l[k].acc) (trivial) rfl rfl) (.inr rfl)<|fT [0,2,3,5,6,7,8,28,31,40] [2005] ?_
      refine vq 28 (ruB Z)<|vq 29 (rkB Z)<|vq 30 (rkB Z)<|fD<|gT ?_
      refine AW.cond rfl ?_ ?_
      ·intro h6
       refine sL<|laZ Z<|nG<|aR<|rT<|rB<|rT<|rT<|rB<|rT ?_
       refine eBo trivial ?_
       first | (exfalso;simp only [decide_eq_true_eq] at *;omega) | exact (linesOk_no hk (by rw [lineAt_eq hk];simp_all [rangeA,prevOk_pos])).symm
      ·intro h6
       refine aK<|gT<|aL<|lmI Z<|lf 2 ty.F120_1 Z<|loI ty.kd3 Z ?_
       have hpv : prevOk l k l[k] = true := by
        rcases Nat.eq_zero_or_pos k with q | q
        ·subst q;rfl
        ·rw [prevOk_pos q hk];simp_all
       have hgood : lineAt l k = true := by rw [lineAt_eq hk,hpv];simp_all [rangeA]
       have hrg : rangeA l[k].amt = true := by rw [lineAt_eq hk] at hgood;simp only [Bool.and_eq_true] at hgood;exact hgood.1.2
       refine lhI rfl ⟨rfl,sum_fit (by omega) hk hall hrg⟩<|laI Z<|lN<|gB<|gT<|aL<|lgI Z<|lmI Z<|nG ?_
       refine ⟨k + 1,⟨hk,fun j hj => (Nat.lt_or_ge j k).elim (hall j) (fun q => by rw [show j = k by omega];exact hgood)⟩,by omega,⟨(Eq.trans (b := int _) rfl (congrArg int (tot_succ amtOf l hk).symm)),(iq rfl),trivial⟩,trivial,rfl,rfl⟩
     ·intro h5
      refine pno 19 Z<|pno 20 Z<|pno 21 Z<|pno 22 Z<|pno 23 Z<|pno 24 Z<|vno 25 Z<|vno 26 Z<|vno 27 Z<|vno 28 Z<|vq 29 (rkZ Z)<|vq 30 (rkZ Z)<|fD<|gT<|aN Z<|aK<|gT<|aL<|lmI Z<|lf 2 ty.F120_1 Z<|loI ty.kd3 Z ?_
      have hpv : prevOk l k l[k] = true := by
       rcases Nat.eq_zero_or_pos k with q | q
       ·subst q;rfl
       ·rw [prevOk_pos q hk];simp_all
      have hgood : lineAt l k = true := by rw [lineAt_eq hk,hpv];simp_all [rangeA]
      have hrg : rangeA l[k].amt = true := by rw [lineAt_eq hk] at hgood;simp only [Bool.and_eq_true] at hgood;exact hgood.1.2
      refine lhI rfl ⟨rfl,sum_fit (by omega) hk hall hrg⟩<|laI Z<|lN<|gB<|gT<|aL<|lgI Z<|lmI Z<|nG ?_
      refine ⟨k + 1,⟨hk,fun j hj => (Nat.lt_or_ge j k).elim (hall j) (fun q => by rw [show j = k by omega];exact hgood)⟩,by omega,⟨(Eq.trans (b := int _) rfl (congrArg int (tot_succ amtOf l hk).symm)),(iq rfl),trivial⟩,trivial,rfl,rfl⟩
 ·intro h1
  refine aE<|eT<|eT<|eB<|gA<|lmI Z<|lbB Z<|laB Z<|nG<|aR ?_
  refine eBo trivial ?_
  have hkn : ¬ k < l.length := by simpa [length_rowsOf] using h1
  obtain rfl : k = l.length := by omega
  rw [linesOk_yes hall,List.take_length,dec_beq]
theorem postOk_e (n : Int) (l : List Line) (hn : l.length ≤ 1000) : GC Tryz.prog 12 [.agg [int n,.p (.lst 120 3 (rowsOf encLine l))]] [] (boo (postOk n l)) [] := by
 refine gi 2 Tryz.func12 rfl Tryz.ntmps12 rfl ?_
 intro L O w0
 refine sL<|lst (zX 2001 Z) Z<|laZ Z<|nA<|lf 0 ty.F34_0 Z<|loI ty.kd3 Z<|lst (zC [] [] [] Tryz.func63 (in_e _ _ _) (trivial) Z Z) Z<|lmB Z ?_
 refine AL.bool (t := 6) rfl ?_ ?_
 ·intro h1
  refine lf 1 ty.F34_1 Z<|loL ty.kd32 Z<|lnI ty.sl32 Z<|lst (zC [] [] [] Tryz.func63 (in_e _ _ _) (trivial) Z Z) Z<|lkB Z<|lmB Z ?_
  refine AL.bool (t := 12) rfl ?_ ?_
  ·intro h2
   refine lf 1 ty.F34_1 Z<|loL ty.kd32 Z<|lst (zC [] [] [] Tryz.func68 (linesOk_e l hn) (trivial) Z Z) Z<|lT [2,12,15] [2001] ?_
   refine lkB Z<|laB Z<|nG<|aR ?_
   refine eBo trivial ?_
   simp_all [postOk,length_rowsOf]
  ·intro h2
   refine lno Z<|lno Z<|lno Z<|lkZ Z<|laZ Z<|nG<|aR ?_
   refine eBo trivial ?_
   simp_all [postOk,length_rowsOf]
 ·intro h1
  refine lno Z<|lno Z<|lno Z<|lno Z<|lkZ Z<|lmZ Z<|lno Z<|lno Z<|lno Z<|lkZ Z<|laZ Z<|nG<|aR ?_
  refine eBo trivial ?_
  simp_all [postOk,length_rowsOf]

instance {l : List Chan} {ch : Int} : Decidable (There l ch) := inferInstanceAs (Decidable (∃ c,c ∈ l ∧ c.id = ch))
def accT (k c : Int) (x : Line) : Int := if x.acc.kind = k ∧ x.acc.ch = c then x.amt else 0
def sumA (l : List Line) (k c : Int) : Int := tot (accT k c) l
theorem sumA_nil (k c : Int) : sumA [] k c = 0 := rfl
theorem sumA_cons (x : Line) (l : List Line) (k c : Int) : sumA (x :: l) k c = accT k c x + sumA l k c := tot_cons _ _ _
theorem sumA_ins {x : Line} {k c : Int} : ∀ (l : List Line),sumA (insL l x) k c = sumA l k c + accT k c x
 | [] => by unfold insL;rw [sumA_cons,sumA_nil];omega
 | y :: l => by
  unfold insL
  split
  ·rw [sumA_cons,sumA_cons,sumA_ins l];omega
  ·rw [sumA_cons];omega
theorem sumA_add (l : List Line) (k c n k' c' : Int) : sumA (addL l k c n) k' c' = sumA l k' c' + (if k = k' ∧ c = c' then n else 0) := by
 by_cases q : n = 0
 ·rw [addL_zero q,q];split <;> omega
 ·rw [addL_pos q,sumA_ins];rfl
theorem chanOr_cons (c : Chan) (l : List Chan) (ch : Int) : chanOr (c :: l) ch = if c.id = ch then c else chanOr l ch := by
 unfold chanOr
 rw [List.find?_cons]
 by_cases q : c.id = ch
 ·rw [if_pos q,show (c.id == ch) = true from by simpa using q];rfl
 ·rw [if_neg q,show (c.id == ch) = false from by simpa using q]
theorem chanOr_app (l m : List Chan) (ch : Int) : chanOr (l ++ m) ch = if There l ch then chanOr l ch else chanOr m ch := by
 induction l with
 | nil => rw [List.nil_append,if_neg (fun ⟨c,hc,_⟩ => by simp at hc)]
 | cons c l ih =>
  rw [List.cons_append,chanOr_cons,chanOr_cons,ih]
  by_cases q : c.id = ch
  ·rw [if_pos q,if_pos q,if_pos ⟨c,by simp,q⟩]
  ·rw [if_neg q,if_neg q]
   have e : There (c :: l) ch ↔ There l ch := ⟨fun ⟨d,hd,r⟩ => by
    rcases List.mem_cons.1 hd with rfl | hd
    ·exact absurd r q
    ·exact ⟨d,hd,r⟩,fun ⟨d,hd,r⟩ => ⟨d,by simp [hd],r⟩⟩
   by_cases t : There l ch
   ·rw [if_pos t,if_pos (e.2 t)]
   ·rw [if_neg t,if_neg (fun z => t (e.1 z))]
theorem chanOr_none {l : List Chan} {ch : Int} (h : ¬ There l ch) : chanOr l ch = zeroChan := by
 rcases chan_find l ch with ⟨_,r⟩ | ⟨i,c,_,q,_,r⟩
 ·exact r
 ·exact absurd ⟨c,mem_of_get q,r⟩ h
theorem chanOr_upd {f : Chan → Chan} (hf : ∀ c,(f c).id = c.id) (a ch : Int) : ∀ (l : List Chan),chanOr (updC l a f) ch = if ch = a ∧ There l a then f (chanOr l a) else chanOr l ch
 | [] => by rw [if_neg (fun ⟨_,c,hc,_⟩ => by simp at hc)];rfl
 | c :: l => by
  have ih := chanOr_upd hf a ch l
  have e0 : updC (c :: l) a f = (if c.id = a then f c else c) :: updC l a f := rfl
  have hid : (if c.id = a then f c else c).id = c.id := by split <;> simp [hf]
  rw [e0,chanOr_cons,hid]
  by_cases q : c.id = ch
  ·rw [if_pos q]
   by_cases r : ch = a
   ·have ht : There (c :: l) a := ⟨c,by simp,by omega⟩
    rw [if_pos (by omega),if_pos ⟨r,ht⟩,chanOr_cons,if_pos (by omega)]
   ·rw [if_neg (by omega),if_neg (fun z => r z.1),chanOr_cons,if_pos q]
  ·rw [if_neg q,ih]
   by_cases r : ch = a
   ·subst r
    have e : There (c :: l) ch ↔ There l ch := ⟨fun ⟨d,hd,r⟩ => by
     rcases List.mem_cons.1 hd with rfl | hd
     ·exact absurd r q
     ·exact ⟨d,hd,r⟩,fun ⟨d,hd,r⟩ => ⟨d,by simp [hd],r⟩⟩
    by_cases t : There l ch
    ·rw [if_pos ⟨rfl,t⟩,if_pos ⟨rfl,e.2 t⟩,chanOr_cons,if_neg q]
    ·rw [if_neg (fun z => t z.2),if_neg (fun z => t (e.1 z.2)),chanOr_cons,if_neg q]
   ·rw [if_neg (fun z => r z.1),if_neg (fun z => r z.1),chanOr_cons,if_neg q]
def locL (l : List Chan) (ch : Int) : Int := (chanOr l ch).loc
theorem locL_upd {f : Chan → Chan} (hf : ∀ c,(f c).id = c.id) {n : Int} (hn : ∀ c,(f c).loc = c.loc + n) {l : List Chan} {a : Int} (ht : There l a) (ch : Int) : locL (updC l a f) ch = locL l ch + (if a = ch then n else 0) := by
 unfold locL
 rw [chanOr_upd hf]
 by_cases q : ch = a
 ·rw [if_pos ⟨q,ht⟩,hn,if_pos q.symm,q]
 ·rw [if_neg (fun z => q z.1),if_neg (fun z => q z.symm),Int.add_zero]
theorem locL_keep {f : Chan → Chan} (hf : ∀ c,(f c).id = c.id) (hn : ∀ c,(f c).loc = c.loc) (l : List Chan) (a ch : Int) : locL (updC l a f) ch = locL l ch := by
 unfold locL
 rw [chanOr_upd hf]
 split
 ·rename_i q;rw [hn,q.1]
 ·rfl
theorem locL_upd2 {l : List Chan} {a b : Int} {f g : Chan → Chan} (hf : ∀ c,(f c).id = c.id) (hg : ∀ c,(g c).id = c.id) {n m : Int} (hn : ∀ c,(f c).loc = c.loc + n) (hm : ∀ c,(g c).loc = c.loc + m) (ta : There l a ∨ n = 0) (tb : There l b ∨ m = 0) (ch : Int) : locL (updC (updC l a f) b g) ch = locL l ch + (if a = ch then n else 0) + (if b = ch then m else 0) := by
 have h1 : locL (updC l a f) ch = locL l ch + (if a = ch then n else 0) := by
  rcases ta with t | t
  ·exact locL_upd hf hn t ch
  ·rw [locL_keep hf (fun c => by rw [hn,t,Int.add_zero]),t];split <;> omega
 have h2 : locL (updC (updC l a f) b g) ch = locL (updC l a f) ch + (if b = ch then m else 0) := by
  rcases tb with t | t
  ·exact locL_upd hg hm (there_upd hf t) ch
  ·rw [locL_keep hg (fun c => by rw [hm,t,Int.add_zero]),t];split <;> omega
 rw [h2,h1]
theorem locL_map {f : Chan → Chan} (hf : ∀ c,(f c).id = c.id) (hn : ∀ c,(f c).loc = c.loc) (ch : Int) : ∀ (l : List Chan),locL (l.map f) ch = locL l ch
 | [] => rfl
 | c :: l => by
  have ih := locL_map hf hn ch l
  unfold locL at *
  rw [List.map_cons,chanOr_cons,chanOr_cons,hf]
  split
  ·exact hn c
  ·exact ih
theorem locL_del (ch a : Int) : ∀ (l : List Chan),locL (delC l a) ch = if a = ch then 0 else locL l ch
 | [] => by show (0 : Int) = _;split <;> rfl
 | c :: l => by
  have ih := locL_del ch a l
  unfold locL delC at *
  rw [List.filter_cons]
  by_cases q : c.id = a
  ·rw [show (!(c.id == a)) = false from by simp [q],if_neg (by simp),ih]
   split
   ·rfl
   ·rw [chanOr_cons,if_neg (by omega)]
  ·rw [show (!(c.id == a)) = true from by simp [q],if_pos rfl,chanOr_cons,chanOr_cons]
   by_cases r : c.id = ch
   ·rw [if_pos r,if_pos r,if_neg (by omega)]
   ·rw [if_neg r,if_neg r,ih]
theorem locL_ins {l : List Chan} {c : Chan} (hn : ¬ There l c.id) (ch : Int) : locL (insC l c) ch = if c.id = ch then c.loc else locL l ch := by
 unfold locL insC
 have hsub : ∀ k,∀ m : List Chan,(∀ d ∈ m,d ∈ l) → There m k → There l k := fun k m h ⟨d,hd,r⟩ => ⟨d,h d hd,r⟩
 rw [chanOr_app]
 have e : chanOr l ch = if There (l.take (posC l c.id)) ch then chanOr (l.take (posC l c.id)) ch else chanOr (l.drop (posC l c.id)) ch := by
  rw [← chanOr_app,List.take_append_drop]
 by_cases q : c.id = ch
 ·subst q
  rw [if_pos ⟨c,by simp,rfl⟩,if_pos rfl,chanOr_app,if_neg (fun z => hn (hsub _ _ (fun d hd => List.mem_of_mem_take hd) z)),chanOr_cons,if_pos rfl]
 ·rw [if_neg q,e]
  have e2 : There (l.take (posC l c.id) ++ [c]) ch ↔ There (l.take (posC l c.id)) ch := ⟨fun ⟨d,hd,r⟩ => by
   rcases List.mem_append.1 hd with hd | hd
   ·exact ⟨d,hd,r⟩
   ·rw [List.mem_singleton] at hd;subst hd;exact absurd r q,fun ⟨d,hd,r⟩ => ⟨d,by simp [hd],r⟩⟩
  by_cases t : There (l.take (posC l c.id)) ch
  ·rw [if_pos t,if_pos (e2.2 t),chanOr_app,if_pos t]
  ·rw [if_neg t,if_neg (fun z => t (e2.1 z))]
structure Bal (x y : Book) (l : List Line) : Prop where
 wal : y.wallet = x.wallet + sumA l 1 0
 loc : ∀ ch,locL y.chans ch = locL x.chans ch + sumA l 6 ch
 out : ∀ ch,outOf y ch = outOf x ch + sumA l 8 ch
 inn : ∀ ch,sumA l 7 ch = 0
theorem Bal.refl (x : Book) : Bal x x [] := ⟨by rw [sumA_nil];omega,fun ch => by rw [sumA_nil];omega,fun ch => by rw [sumA_nil];omega,fun ch => rfl⟩
theorem bal_work {x : Book} {e : Event} (h : applyC x e = 0) : Bal x (workR x e).b (workR x e).l := by
 obtain ⟨h1,h2,h3⟩ := applyC_ok h
 have b := bOk_of h1
 have hbe : (bookOk x && eventOk e) = true := by rw [h1,h2];rfl
 have hw : (workR x e).c = 0 := by rw [← applyC_work hbe h3];exact h
 have hne := ev_parts h2
 by_cases k1 : e.kind = 1
 ·rw [← wk1 k1]
  unfold depR
  refine ⟨?_,fun ch => ?_,fun ch => ?_,fun ch => ?_⟩ <;> simp only [sumA_add,sumA_nil] <;> simp
  rfl
 by_cases k2 : e.kind = 2
 ·rw [← wk2 k2] at hw ⊢
  by_cases q : openC x e = 0
  ·rw [openR_yes q]
   have hno := no_chan (opC_no q)
   have hnt : ¬ There x.chans e.ch := fun ⟨c,q1,q2⟩ => hno c q1 q2
   refine ⟨?_,fun ch => ?_,fun ch => ?_,fun ch => ?_⟩
   ·simp only [sumA_add,sumA_nil];simp;omega
   ·show locL (insC x.chans _) ch = _
    rw [locL_ins hnt]
    simp only [sumA_add,sumA_nil]
    by_cases r : e.ch = ch
    ·subst r
     have : locL x.chans e.ch = 0 := by unfold locL;rw [chanOr_none hnt];rfl
     simp [this]
    ·simp [r]
   ·simp only [sumA_add,sumA_nil];simp;rfl
   ·simp only [sumA_add,sumA_nil];simp
  ·rw [openR_no q] at hw;exact absurd hw q
 by_cases k3 : e.kind = 3
 ·rw [← wk3 k3] at hw ⊢
  by_cases q : shutC x e = 0
  ·rw [shutR_yes q]
   unfold shutY
   refine ⟨?_,fun ch => ?_,fun ch => ?_,fun ch => ?_⟩
   ·simp only [sumA_add,sumA_nil];simp
   ·show locL (delC x.chans _) ch = _
    rw [locL_del]
    simp only [sumA_add,sumA_nil]
    by_cases r : e.ch = ch
    ·subst r;simp;unfold locL;omega
    ·simp [r]
   ·simp only [sumA_add,sumA_nil];simp;rfl
   ·simp only [sumA_add,sumA_nil];simp
  ·rw [shutR_no q] at hw;exact absurd hw q
 by_cases k4 : e.kind = 4
 ·rw [← wk4 k4]
  unfold priR
  split
  ·exact Bal.refl x
  ·refine ⟨by rw [sumA_nil];exact (Int.add_zero _).symm,fun ch => ?_,fun ch => ?_,fun ch => rfl⟩
   ·rw [sumA_nil,Int.add_zero];show locL (updC x.chans e.ch _) ch = _;exact locL_keep (f := fun c => { c with base := e.amt,ppm := e.fee }) (fun _ => rfl) (fun _ => rfl) _ _ _
   ·rw [sumA_nil,Int.add_zero];rfl
 by_cases k5 : e.kind = 5
 ·rw [← wk5 k5] at hw ⊢
  by_cases q : admC x e = 0
  ·rw [admR_yes q]
   have t2 : There x.chans e.to := by
    have h1 : admC1 x e = 0 := by
     by_cases q' : admC1 x e = 0
     ·exact q'
     ·rw [admC_one q'] at q;exact q
    unfold admC1 at h1
    obtain ⟨h2,_⟩ := failC_zero (by decide) h1
    obtain ⟨h3,_⟩ := failC_zero (by decide) h2
    obtain ⟨h4,_⟩ := failC_zero (by decide) h3
    unfold admC0 at h4
    obtain ⟨h5,_⟩ := failC_zero (by decide) h4
    refine Classical.byContradiction fun hn => ?_
    have hn' : chanAt x.chans e.to = -1 := by
     rcases chan_find x.chans e.to with ⟨r,_⟩ | ⟨i,c,r,s,_,t⟩
     ·exact r
     ·exact absurd ⟨c,mem_of_get s,t⟩ hn
    rw [missC_none hn'] at h5
    exact failC_set (by decide) h5
   refine ⟨?_,fun ch => ?_,fun ch => ?_,fun ch => ?_⟩
   ·unfold admY;simp only [sumA_add,sumA_nil];simp
   ·unfold admY
    dsimp only
    refine Eq.trans (locL_upd2 (n := 0) (m := -e.amt) (by intro c;rfl) (by intro c;rfl) (by intro c;first | rfl | (dsimp only;omega)) (by intro c;first | rfl | (dsimp only;omega)) (.inr rfl) (.inl t2) ch) ?_
    simp only [sumA_add,sumA_nil];simp
   ·unfold outOf admY
    dsimp only
    rw [tot_snoc]
    unfold hOut
    simp only [sumA_add,sumA_nil];simp;omega
   ·unfold admY;simp only [sumA_add,sumA_nil];simp
  ·rw [admR_no q] at hw;exact absurd hw q
 by_cases k6 : e.kind = 6 ∨ e.kind = 7
 ·rw [← wk6 k6]
  unfold setR
  split
  ·rename_i y hy
   have hm := List.mem_of_find?_eq_some hy
   have q := b.hs y hm
   have ho : ∀ ch,tot (hOut ch) (delH x.htlcs y.key) + hOut ch y = tot (hOut ch) x.htlcs := fun ch => by
    have := tot_filter (g := fun z : Htlc => z.key) (f := hOut ch) (hks_of b).1 hm
    unfold delH
    omega
   unfold setY
   split
   ·refine ⟨?_,fun ch => ?_,fun ch => ?_,fun ch => ?_⟩
    ·simp only [sumA_add,sumA_nil];simp
    ·dsimp only
     refine Eq.trans (locL_upd2 (n := y.amtIn) (m := 0) (by intro c;rfl) (by intro c;rfl) (by intro c;first | rfl | (dsimp only;omega)) (by intro c;first | rfl | (dsimp only;omega)) (.inl q.ti) (.inr rfl) ch) ?_
     simp only [sumA_add,sumA_nil];simp
    ·have := ho ch
     unfold outOf
     dsimp only
     unfold hOut at this ⊢
     simp only [sumA_add,sumA_nil];simp
     by_cases r : y.out = ch
     ·rw [if_pos r] at this ⊢;omega
     ·rw [if_neg r] at this ⊢;omega
    ·simp only [sumA_add,sumA_nil];simp
   ·refine ⟨?_,fun ch => ?_,fun ch => ?_,fun ch => ?_⟩
    ·simp only [sumA_add,sumA_nil];simp
    ·dsimp only
     refine Eq.trans (locL_upd2 (n := 0) (m := y.amtOut) (by intro c;rfl) (by intro c;rfl) (by intro c;first | rfl | (dsimp only;omega)) (by intro c;first | rfl | (dsimp only;omega)) (.inr rfl) (.inl q.to) ch) ?_
     simp only [sumA_add,sumA_nil];simp
    ·have := ho ch
     unfold outOf
     dsimp only
     unfold hOut at this ⊢
     simp only [sumA_add,sumA_nil];simp
     by_cases r : y.out = ch
     ·rw [if_pos r] at this ⊢;omega
     ·rw [if_neg r] at this ⊢;omega
    ·simp only [sumA_add,sumA_nil];simp
  ·exact Bal.refl x
 by_cases k8 : e.kind = 8
 ·rw [← wk8 k8]
  refine ⟨?_,fun ch => ?_,fun ch => ?_,fun ch => rfl⟩
  ·show x.wallet = x.wallet + 0;omega
  ·show locL (x.chans.map (fadeC x.tick)) ch = locL x.chans ch + 0
   rw [Int.add_zero]
   exact locL_map (fun c => fadeC_id _ c) (fun c => by unfold fadeC;split <;> rfl) ch _
  ·show tot (hOut ch) (x.htlcs.map ageH) + tot (cOut ch) x.circles = outOf x ch + 0
   rw [Int.add_zero]
   unfold outOf
   congr 1
   exact tot_same fun h _ => rfl
 by_cases k9 : e.kind = 9
 ·rw [← wk9 k9] at hw ⊢
  by_cases q : lauC x e = 0
  ·rw [lauR_yes q]
   have hok : addOk e.amt e.fee = true ∧ There x.chans e.ch := by
    unfold lauC at q
    obtain ⟨h2,_⟩ := failC_zero (by decide) q
    obtain ⟨h3,_⟩ := failC_zero (by decide) h2
    obtain ⟨h4,g⟩ := failC_zero (by decide) h3
    refine ⟨by simpa using g,?_⟩
    unfold lauC0 at h4
    obtain ⟨h5,_⟩ := failC_zero (by decide) h4
    refine Classical.byContradiction fun hn => ?_
    have hn' : chanAt x.chans e.ch = -1 := by
     rcases chan_find x.chans e.ch with ⟨r,_⟩ | ⟨i,c,r,s,_,t⟩
     ·exact r
     ·exact absurd ⟨c,mem_of_get s,t⟩ hn
    rcases chan_find x.chans e.to with ⟨r,_⟩ | ⟨i,c,r,s,_,t⟩
    ·rw [missC_none r] at h5
     exact failC_set (by decide) h5
    ·rw [missC_some r,missC_none hn'] at h5
     exact failC_set (by decide) h5
   have hs : addV e.amt e.fee = e.amt + e.fee := addV_yes hok.1
   unfold lauY
   refine ⟨?_,fun ch => ?_,fun ch => ?_,fun ch => ?_⟩
   ·simp only [sumA_add,sumA_nil];simp
   ·dsimp only
    refine Eq.trans (locL_upd2 (n := -addV e.amt e.fee) (m := 0) (by intro c;rfl) (by intro c;rfl) (by intro c;first | rfl | (dsimp only;omega)) (by intro c;first | rfl | (dsimp only;omega)) (.inl hok.2) (.inr rfl) ch) ?_
    simp only [sumA_add,sumA_nil];simp
   ·unfold outOf
    dsimp only
    rw [tot_snoc]
    unfold cOut
    simp only [sumA_add,sumA_nil];simp
    rw [hs];omega
   ·simp only [sumA_add,sumA_nil];simp
  ·rw [lauR_no q] at hw;exact absurd hw q
 ·have := ev_kind h2
  rw [← wk10 (by omega)]
  unfold landR
  split
  ·rename_i y hy
   have hm := List.mem_of_find?_eq_some hy
   have q := b.cs y hm
   have ho : ∀ ch,tot (cOut ch) (delI x.circles y.key) + cOut ch y = tot (cOut ch) x.circles := fun ch => by
    have := tot_filter (g := fun z : Circle => z.key) (f := cOut ch) (hks_of b).2 hm
    unfold delI
    omega
   unfold landY
   split
   ·refine ⟨?_,fun ch => ?_,fun ch => ?_,fun ch => ?_⟩
    ·simp only [sumA_add,sumA_nil];simp
    ·dsimp only
     refine Eq.trans (locL_upd2 (n := 0) (m := y.amt) (by intro c;rfl) (by intro c;rfl) (by intro c;first | rfl | (dsimp only;omega)) (by intro c;first | rfl | (dsimp only;omega)) (.inr rfl) (.inl q.to) ch) ?_
     simp only [sumA_add,sumA_nil];simp
    ·have := ho ch
     unfold outOf
     dsimp only
     unfold cOut at this ⊢
     simp only [sumA_add,sumA_nil];simp
     by_cases r : y.frm = ch
     ·rw [if_pos r] at this ⊢;omega
     ·rw [if_neg r] at this ⊢;omega
    ·simp only [sumA_add,sumA_nil];simp
   ·refine ⟨?_,fun ch => ?_,fun ch => ?_,fun ch => ?_⟩
    ·simp only [sumA_add,sumA_nil];simp
    ·dsimp only
     refine Eq.trans (locL_upd2 (n := y.amt + y.fee) (m := 0) (by intro c;rfl) (by intro c;rfl) (by intro c;first | rfl | (dsimp only;omega)) (by intro c;first | rfl | (dsimp only;omega)) (.inl q.ti) (.inr rfl) ch) ?_
     simp only [sumA_add,sumA_nil];simp
    ·have := ho ch
     unfold outOf
     dsimp only
     unfold cOut at this ⊢
     simp only [sumA_add,sumA_nil];simp
     by_cases r : y.frm = ch
     ·rw [if_pos r] at this ⊢;omega
     ·rw [if_neg r] at this ⊢;omega
    ·simp only [sumA_add,sumA_nil];simp
  ·exact Bal.refl x

def ledgerOk (x : Ledger) : Bool := inB x.last 0 1125899906842624 && decide (x.lines.length ≤ 320) && linesOk x.lines
def balAt (l : List Line) (a : Acc) : Int := match l with | [] => 0 | x :: r => if x.acc.kind = a.kind ∧ x.acc.ch = a.ch then x.amt else balAt r a
def balance (x : Ledger) (a : Acc) : Int := if ledgerOk x && accOk a then balAt x.lines a else 0
def locA (x : Book) (ch : Int) : Int := if 0 ≤ chanAt x.chans ch then (match x.chans[(chanAt x.chans ch).toNat]? with | some c => c.loc | none => 0) else 0
def outA (x : Book) (ch : Int) : Int := if 0 ≤ chanAt x.chans ch then outOf x ch else 0
def agreeAt (x : Book) (l : Ledger) (ch : Int) : Bool := (balance l ⟨6,ch⟩ == locA x ch) && (balance l ⟨8,ch⟩ == outA x ch) && (balance l ⟨7,ch⟩ == 0)
def agrees (x : Book) (l : Ledger) : Bool := bookOk x && ledgerOk l && (l.last == x.next - 1) && (balance l ⟨1,0⟩ == x.wallet) && (List.range 99).all fun j => agreeAt x l ((j : Int) + 1)
theorem LnS.ok {l : List Line} {m : Nat} (h : LnS l 0 m) : linesOk l = true := by
 rw [linesOk_yes fun j hj => ?_]
 ·have : tot amtOf l = 0 := h.sum
  rw [this];rfl
 ·rw [lineAt_eq hj]
  have hm := List.getElem_mem hj
  obtain ⟨a1,a2,a3⟩ := h.amt _ hm
  have hp : prevOk l j l[j] = true := by
   rcases Nat.eq_zero_or_pos j with q | q
   ·subst q;rfl
   ·rw [prevOk_pos q hj];exact List.pairwise_iff_getElem.1 h.asc _ _ _ _ (by omega)
  have h1 : accOk l[j].acc = true := accOk_iff.2 (h.acc _ hm)
  have h2 : rangeA l[j].amt = true := inB_true.2 ⟨a2,a3⟩
  rw [h1,h2,hp];simpa using a1
theorem LnS.of {l : List Line} (h : linesOk l = true) : LnS l 0 l.length := by
 have hall : ∀ j,j < l.length → lineAt l j = true := fun j hj => by
  unfold linesOk at h
  rw [Bool.and_eq_true,List.all_eq_true] at h
  exact h.1 j (by simpa using hj)
 have hsum : tot lamt l = 0 := by
  rw [linesOk_yes hall,beq_iff_eq] at h
  exact h
 have hat : ∀ j (hj : j < l.length),accOk l[j].acc = true ∧ l[j].amt ≠ 0 ∧ rangeA l[j].amt = true ∧ prevOk l j l[j] = true := fun j hj => by
  have := hall j hj
  rw [lineAt_eq hj] at this
  simp only [Bool.and_eq_true] at this
  exact ⟨this.1.1.1,by simpa using this.1.1.2,this.1.2,this.2⟩
 have hmem : ∀ y ∈ l,accOk y.acc = true ∧ y.amt ≠ 0 ∧ rangeA y.amt = true := fun y hy => by
  obtain ⟨j,hj,rfl⟩ := List.getElem_of_mem hy
  have := hat j hj
  exact ⟨this.1,this.2.1,this.2.2.1⟩
 refine ⟨?_,fun y hy => accOk_iff.1 (hmem y hy).1,fun y hy => ⟨(hmem y hy).2.1,inB_true.1 (hmem y hy).2.2⟩,hsum,Nat.le_refl _⟩
 rw [List.pairwise_iff_getElem]
 intro i j hi hj hij
 induction j with
 | zero => omega
 | succ j ih =>
  have h1 := (hat (j + 1) hj).2.2.2
  rw [prevOk_pos (by omega) hj] at h1
  have h1 : lessA l[j].acc l[j + 1].acc = true := h1
  by_cases q : i = j
  ·subst q;exact h1
  ·exact lessA_trans (ih (by omega) (by omega)) h1
theorem lessA_ne {a b : Acc} (h : lessA a b = true) : ¬ (a.kind = b.kind ∧ a.ch = b.ch) := fun ⟨h1,h2⟩ => by
 unfold lessA at h
 simp [h1,h2] at h
theorem lessA_eq {a b : Acc} (h : lessA a b = false) (h2 : lessA b a = false) : a.kind = b.kind ∧ a.ch = b.ch := by
 unfold lessA at h h2
 simp only [Bool.or_eq_false_iff,decide_eq_false_iff_not,Bool.and_eq_false_iff,beq_eq_false_iff_ne] at h h2
 omega
theorem Acc.ext2 {a b : Acc} (h : a.kind = b.kind ∧ a.ch = b.ch) : a = b := by
 cases a;cases b;simp at h;simp [h]
structure MgS (a b r : List Line) : Prop where
 asc : r.Pairwise fun a b => lessA a.acc b.acc = true
 acc : ∀ y ∈ r,∃ z,(z ∈ a ∨ z ∈ b) ∧ y.acc = z.acc
 amt : ∀ y ∈ r,y.amt ≠ 0 ∧ -1125899906842624 ≤ y.amt ∧ y.amt ≤ 1125899906842624
 sum : tot lamt r = tot lamt a + tot lamt b
 at' : ∀ k c,sumA r k c = sumA a k c + sumA b k c
def Lns (l : List Line) : Prop := (l.Pairwise fun a b => lessA a.acc b.acc = true) ∧ ∀ y ∈ l,y.amt ≠ 0 ∧ -1125899906842624 ≤ y.amt ∧ y.amt ≤ 1125899906842624
theorem Lns.tail {x : Line} {l : List Line} (h : Lns (x :: l)) : Lns l := ⟨(List.pairwise_cons.1 h.1).2,fun y hy => h.2 y (by simp [hy])⟩
theorem merge_good : ∀ (n : Nat) (a b r : List Line),a.length + b.length ≤ n → Lns a → Lns b → mergeL a b = some r → MgS a b r
 | n,[],b,r,_,_,hb,h => by
  rw [mergeL_nil] at h
  injection h with h
  subst h
  exact ⟨hb.1,fun y hy => ⟨y,.inr hy,rfl⟩,hb.2,by rw [tot_nil];omega,fun k c => by rw [sumA_nil];omega⟩
 | n,x :: a,[],r,_,ha,_,h => by
  rw [mergeL_nil2] at h
  injection h with h
  subst h
  exact ⟨ha.1,fun y hy => ⟨y,.inl hy,rfl⟩,ha.2,by rw [tot_nil];omega,fun k c => by rw [sumA_nil];omega⟩
 | 0,x :: a,y :: b,r,hn,_,_,_ => by simp at hn
 | n + 1,x :: a,y :: b,r,hn,ha,hb,h => by
  simp only [List.length_cons] at hn
  have ha2 := List.pairwise_cons.1 ha.1
  have hb2 := List.pairwise_cons.1 hb.1
  by_cases q1 : lessA x.acc y.acc = true
  ·rw [mergeL_lt q1] at h
   obtain ⟨s,hs,rfl⟩ := Option.map_eq_some_iff.1 h
   have g := merge_good n a (y :: b) s (by simp;omega) ha.tail hb hs
   refine ⟨List.pairwise_cons.2 ⟨fun z hz => ?_,g.asc⟩,fun z hz => ?_,fun z hz => ?_,?_,fun k c => ?_⟩
   ·obtain ⟨u,hu,e⟩ := g.acc z hz
    rw [e]
    rcases hu with hu | hu
    ·exact ha2.1 u hu
    ·rcases List.mem_cons.1 hu with rfl | hu
     ·exact q1
     ·exact lessA_trans q1 (hb2.1 u hu)
   ·rcases List.mem_cons.1 hz with rfl | hz
    ·exact ⟨_,.inl (by simp),rfl⟩
    ·obtain ⟨u,hu,e⟩ := g.acc z hz
     exact ⟨u,hu.imp (by intro q;simp [q]) id,e⟩
   ·rcases List.mem_cons.1 hz with rfl | hz
    ·exact ha.2 _ (by simp)
    ·exact g.amt z hz
   ·rw [tot_cons,tot_cons,g.sum];omega
   ·rw [sumA_cons,sumA_cons,g.at'];omega
  ·have q1 : lessA x.acc y.acc = false := by simpa using q1
   by_cases q2 : lessA y.acc x.acc = true
   ·rw [mergeL_gt q1 q2] at h
    obtain ⟨s,hs,rfl⟩ := Option.map_eq_some_iff.1 h
    have g := merge_good n (x :: a) b s (by simp;omega) ha hb.tail hs
    refine ⟨List.pairwise_cons.2 ⟨fun z hz => ?_,g.asc⟩,fun z hz => ?_,fun z hz => ?_,?_,fun k c => ?_⟩
    ·obtain ⟨u,hu,e⟩ := g.acc z hz
     rw [e]
     rcases hu with hu | hu
     ·rcases List.mem_cons.1 hu with rfl | hu
      ·exact q2
      ·exact lessA_trans q2 (ha2.1 u hu)
     ·exact hb2.1 u hu
    ·rcases List.mem_cons.1 hz with rfl | hz
     ·exact ⟨_,.inr (by simp),rfl⟩
     ·obtain ⟨u,hu,e⟩ := g.acc z hz
      exact ⟨u,hu.imp id (by intro q;simp [q]),e⟩
    ·rcases List.mem_cons.1 hz with rfl | hz
     ·exact hb.2 _ (by simp)
     ·exact g.amt z hz
    ·rw [tot_cons,g.sum,tot_cons,tot_cons];omega
    ·rw [sumA_cons,g.at',sumA_cons,sumA_cons];omega
   ·have q2 : lessA y.acc x.acc = false := by simpa using q2
    have e := lessA_eq q1 q2
    have ee : x.acc = y.acc := Acc.ext2 e
    have hk : ∀ k c,accT k c x + accT k c y = if x.acc.kind = k ∧ x.acc.ch = c then x.amt + y.amt else 0 := fun k c => by
     unfold accT
     rw [e.1,e.2]
     split <;> omega
    by_cases q3 : rangeA (x.amt + y.amt) = true
    ·by_cases q4 : x.amt + y.amt = 0
     ·rw [mergeL_zero q1 q2 q3 q4] at h
      have g := merge_good n a b r (by omega) ha.tail hb.tail h
      refine ⟨g.asc,fun z hz => ?_,g.amt,?_,fun k c => ?_⟩
      ·obtain ⟨u,hu,e⟩ := g.acc z hz
       exact ⟨u,hu.imp (by intro q;simp [q]) (by intro q;simp [q]),e⟩
      ·rw [g.sum,tot_cons,tot_cons]
       unfold lamt;omega
      ·rw [g.at',sumA_cons,sumA_cons]
       have := hk k c
       rw [q4] at this
       split at this <;> omega
     ·rw [mergeL_sum q1 q2 q3 q4] at h
      obtain ⟨s,hs,rfl⟩ := Option.map_eq_some_iff.1 h
      have g := merge_good n a b s (by omega) ha.tail hb.tail hs
      refine ⟨List.pairwise_cons.2 ⟨fun z hz => ?_,g.asc⟩,fun z hz => ?_,fun z hz => ?_,?_,fun k c => ?_⟩
      ·obtain ⟨u,hu,e⟩ := g.acc z hz
       rw [e]
       rcases hu with hu | hu
       ·exact ha2.1 u hu
       ·show lessA x.acc u.acc = true
        rw [ee];exact hb2.1 u hu
      ·rcases List.mem_cons.1 hz with rfl | hz
       ·exact ⟨x,.inl (by simp),rfl⟩
       ·obtain ⟨u,hu,e⟩ := g.acc z hz
        exact ⟨u,hu.imp (by intro q;simp [q]) (by intro q;simp [q]),e⟩
      ·rcases List.mem_cons.1 hz with rfl | hz
       ·exact ⟨q4,inB_true.1 q3⟩
       ·exact g.amt z hz
      ·rw [tot_cons,g.sum,tot_cons,tot_cons]
       unfold lamt;dsimp only;omega
      ·rw [sumA_cons,g.at',sumA_cons,sumA_cons]
       have := hk k c
       show (if x.acc.kind = k ∧ x.acc.ch = c then x.amt + y.amt else 0) + _ = _
       omega
    ·rw [mergeL_bad q1 q2 (by simpa using q3)] at h
     cases h
theorem LnS.lns {l : List Line} {s : Int} {m : Nat} (h : LnS l s m) : Lns l := ⟨h.asc,h.amt⟩
theorem merge_lnS {a b r : List Line} {s t : Int} {m k : Nat} (ha : LnS a s m) (hb : LnS b t k) (h : mergeL a b = some r) : LnS r (s + t) r.length ∧ ∀ k c,sumA r k c = sumA a k c + sumA b k c := by
 have g := merge_good _ a b r (Nat.le_refl _) ha.lns hb.lns h
 exact ⟨⟨g.asc,fun y hy => by
  obtain ⟨z,hz,e⟩ := g.acc y hy
  rw [e]
  rcases hz with hz | hz
  ·exact ha.acc z hz
  ·exact hb.acc z hz,g.amt,by rw [g.sum,ha.sum,hb.sum],Nat.le_refl _⟩,g.at'⟩
theorem balAt_sum {a : Acc} : ∀ {l : List Line},(l.Pairwise fun a b => lessA a.acc b.acc = true) → balAt l a = sumA l a.kind a.ch
 | [],_ => rfl
 | x :: l,h => by
  rw [List.pairwise_cons] at h
  have ih := balAt_sum (a := a) h.2
  rw [sumA_cons]
  unfold balAt accT
  split
  ·rename_i q
   have : sumA l a.kind a.ch = 0 := by
    unfold sumA
    refine tot_none fun y hy => ?_
    unfold accT
    rw [if_neg]
    rintro ⟨r1,r2⟩
    exact lessA_ne (h.1 y hy) ⟨by omega,by omega⟩
   omega
  ·rw [ih];omega
structure Agr (x : Book) (l : Ledger) : Prop where
 book : bookOk x = true
 lns : LnS l.lines 0 320
 last : l.last = x.next - 1
 wal : sumA l.lines 1 0 = x.wallet
 loc : ∀ ch,1 ≤ ch ∧ ch ≤ 99 → sumA l.lines 6 ch = locL x.chans ch
 out : ∀ ch,1 ≤ ch ∧ ch ≤ 99 → sumA l.lines 8 ch = outOf x ch
 inn : ∀ ch,1 ≤ ch ∧ ch ≤ 99 → sumA l.lines 7 ch = 0
theorem locA_eq (x : Book) (ch : Int) : locA x ch = locL x.chans ch := by
 unfold locA locL
 rcases chan_find x.chans ch with ⟨q,r⟩ | ⟨i,c,q,r,s,_⟩
 ·rw [if_neg (by omega),r];rfl
 ·rw [if_pos (by omega),q,Int.toNat_natCast,r,s]
theorem outA_eq {x : Book} {ch : Int} (b : BOk x) : outA x ch = outOf x ch := by
 unfold outA
 split
 ·rfl
 ·rename_i q
  exact (b.none fun t => q (there_at.2 t)).1.symm
theorem Agr.ledger {x : Book} {l : Ledger} (h : Agr x l) : ledgerOk l = true := by
 have hn := (bOk_of h.book).next
 have := h.last
 unfold ledgerOk
 rw [h.lns.ok,inB_true.2 (by omega),decide_eq_true h.lns.len];rfl
theorem bal_eq {l : Ledger} {k c : Int} (h : ledgerOk l = true) (hl : l.lines.Pairwise fun a b => lessA a.acc b.acc = true) (ha : accOk ⟨k,c⟩ = true) : balance l ⟨k,c⟩ = sumA l.lines k c := by
 unfold balance
 rw [h,ha]
 exact balAt_sum hl
theorem acc6 {k c : Int} (hk : 6 ≤ k ∧ k ≤ 8) (hc : 1 ≤ c ∧ c ≤ 99) : accOk ⟨k,c⟩ = true := accOk_iff.2 (.inr ⟨hk.1,hk.2,hc.1,hc.2⟩)
theorem acc1 : accOk ⟨1,0⟩ = true := accOk_iff.2 (.inl ⟨by decide,by decide,rfl⟩)
theorem Agr.yes {x : Book} {l : Ledger} (h : Agr x l) : agrees x l = true := by
 have b := bOk_of h.book
 have hl := h.ledger
 have hp := h.lns.asc
 unfold agrees
 rw [h.book,hl,bal_eq hl hp acc1,h.wal,h.last]
 simp only [beq_self_eq_true,Bool.true_and,List.all_eq_true,List.mem_range]
 intro j hj
 have hc : 1 ≤ (j : Int) + 1 ∧ (j : Int) + 1 ≤ 99 := by omega
 unfold agreeAt
 rw [bal_eq hl hp (acc6 (by decide) hc),bal_eq hl hp (acc6 (by decide) hc),bal_eq hl hp (acc6 (by decide) hc),locA_eq,outA_eq b,h.loc _ hc,h.out _ hc,h.inn _ hc]
 simp
theorem Agr.of {x : Book} {l : Ledger} (h : agrees x l = true) : Agr x l := by
 unfold agrees at h
 simp only [Bool.and_eq_true,List.all_eq_true,List.mem_range,beq_iff_eq] at h
 obtain ⟨⟨⟨⟨h1,h2⟩,h3⟩,h4⟩,h5⟩ := h
 have b := bOk_of h1
 have h2' := h2
 unfold ledgerOk at h2'
 simp only [Bool.and_eq_true,decide_eq_true_eq] at h2'
 have ln := LnS.of h2'.2
 have hp := ln.asc
 have at' : ∀ ch,1 ≤ ch ∧ ch ≤ 99 → agreeAt x l ch = true := fun ch hc => by
  have := h5 (ch - 1).toNat (by omega)
  rwa [show (((ch - 1).toNat : Nat) : Int) + 1 = ch by omega] at this
 have at2 : ∀ ch,1 ≤ ch ∧ ch ≤ 99 → sumA l.lines 6 ch = locL x.chans ch ∧ sumA l.lines 8 ch = outOf x ch ∧ sumA l.lines 7 ch = 0 := fun ch hc => by
  have := at' ch hc
  unfold agreeAt at this
  rw [bal_eq h2 hp (acc6 (by decide) hc),bal_eq h2 hp (acc6 (by decide) hc),bal_eq h2 hp (acc6 (by decide) hc),locA_eq,outA_eq b] at this
  simp only [Bool.and_eq_true,beq_iff_eq] at this
  exact ⟨this.1.1,this.1.2,this.2⟩
 rw [bal_eq h2 hp acc1] at h4
 exact ⟨h1,⟨ln.asc,ln.acc,ln.amt,ln.sum,h2'.1.2⟩,h3,h4,fun ch hc => (at2 ch hc).1,fun ch hc => (at2 ch hc).2.1,fun ch hc => (at2 ch hc).2.2⟩
theorem agr_nil {x : Book} {e : Event} {l : Ledger} (h : Agr x l) (hc : applyC x e = 0) (hp : (workR x e).l = []) : Agr (appB x e) l := by
 have g := bal_work hc
 rw [hp] at g
 have e1 := (appB_nil hc hp).1
 refine ⟨bookOk_appB hc,h.lns,?_,?_,fun ch hh => ?_,fun ch hh => ?_,h.inn⟩
 ·rw [e1,workR_next];exact h.last
 ·rw [e1,h.wal];have := g.wal;rw [sumA_nil] at this;omega
 ·rw [e1,h.loc ch hh];have := g.loc ch;rw [sumA_nil] at this;omega
 ·rw [e1,h.out ch hh];have := g.out ch;rw [sumA_nil] at this;omega
theorem agr_post {x : Book} {e : Event} {l : Ledger} (h : Agr x l) (hc : applyC x e = 0) (hp : (workR x e).l ≠ []) {m : List Line} (hm : mergeL l.lines (appP x e).lines = some m) (hl : m.length ≤ 320) : Agr (appB x e) ⟨(appP x e).id,m⟩ := by
 have g := bal_work hc
 obtain ⟨e1,e2⟩ := appB_yes hc hp
 rw [e2] at hm
 obtain ⟨k1,k2⟩ := merge_lnS h.lns (ln_work hc) hm
 refine ⟨bookOk_appB hc,⟨k1.asc,k1.acc,k1.amt,k1.sum,hl⟩,?_,?_,fun ch hh => ?_,fun ch hh => ?_,fun ch hh => ?_⟩
 ·rw [e1,e2]
  show x.next = (workR x e).b.next + 1 - 1
  rw [workR_next];omega
 ·rw [e1]
  show sumA m 1 0 = (workR x e).b.wallet
  rw [k2,h.wal,g.wal]
 ·rw [e1]
  show sumA m 6 ch = locL (workR x e).b.chans ch
  rw [k2,h.loc ch hh,g.loc ch]
 ·rw [e1]
  show sumA m 8 ch = outOf (workR x e).b ch
  rw [k2,h.out ch hh,g.out ch]
 ·show sumA m 7 ch = 0
  rw [k2,h.inn ch hh,g.inn ch];rfl
-- ---------- postings taken
def postC (l : Ledger) (p : Posting) : Int := if (ledgerOk l && postOk p.id p.lines) = true then (if p.id ≤ l.last then 2 else match mergeL l.lines p.lines with | none => 3 | some m => if 320 < m.length then 3 else 0) else 1
def postL (l : Ledger) (p : Posting) : Ledger := if postC l p = 0 then ⟨p.id,(mergeL l.lines p.lines).getD []⟩ else ⟨0,[]⟩
theorem postC_zero {l : Ledger} {p : Posting} (h : postC l p = 0) : ledgerOk l = true ∧ postOk p.id p.lines = true ∧ l.last < p.id ∧ ∃ m,mergeL l.lines p.lines = some m ∧ m.length ≤ 320 := by
 unfold postC at h
 split at h
 ·rename_i q
  rw [Bool.and_eq_true] at q
  split at h
  ·cases h
  ·rename_i r
   split at h
   ·cases h
   ·rename_i m hm
    split at h
    ·cases h
    ·exact ⟨q.1,q.2,by omega,m,hm,by omega⟩
 ·cases h
theorem postL_yes {l : Ledger} {p : Posting} (h : postC l p = 0) {m : List Line} (hm : mergeL l.lines p.lines = some m) : postL l p = ⟨p.id,m⟩ := by unfold postL;rw [if_pos h,hm];rfl
theorem postL_no {l : Ledger} {p : Posting} (h : postC l p ≠ 0) : postL l p = ⟨0,[]⟩ := if_neg h
theorem agr_step {x : Book} {e : Event} {l : Ledger} (h : Agr x l) (hc : applyC x e = 0) (hp : (appP x e).lines ≠ []) (hq : postC l (appP x e) = 0) : Agr (appB x e) (postL l (appP x e)) := by
 obtain ⟨_,_,_,m,hm,hl⟩ := postC_zero hq
 rw [postL_yes hq hm]
 refine agr_post h hc (fun r => hp ?_) hm hl
 rw [(appB_nil hc r).2]
theorem agr_still {x : Book} {e : Event} {l : Ledger} (h : Agr x l) (hc : applyC x e = 0) (hp : (appP x e).lines = []) : Agr (appB x e) l := by
 refine agr_nil h hc ?_
 refine Classical.byContradiction fun r => ?_
 rw [(appB_yes hc r).2] at hp
 exact r hp
theorem led_rng {l : Ledger} (h : ledgerOk l = true) : l.lines.length ≤ 320 ∧ (∀ z ∈ l.lines,rangeA z.amt = true) ∧ 0 ≤ l.last ∧ l.last ≤ 1125899906842624 := by
 unfold ledgerOk at h
 simp only [Bool.and_eq_true,decide_eq_true_eq] at h
 have := inB_true.1 h.1.1
 exact ⟨h.1.2,fun z hz => inB_true.2 ((LnS.of h.2).amt z hz).2,this.1,this.2⟩
theorem post_rng {n : Int} {l : List Line} (h : postOk n l = true) : l.length ≤ 8 ∧ (∀ z ∈ l,rangeA z.amt = true) ∧ 1 ≤ n ∧ n ≤ 1125899906842624 := by
 unfold postOk at h
 simp only [Bool.and_eq_true] at h
 have h1 := inB_true.1 h.1.1
 have h2 := inB_true.1 h.1.2
 exact ⟨by omega,fun z hz => inB_true.2 ((LnS.of h.2).amt z hz).2,h1.1,h1.2⟩
theorem postC_bad {l : Ledger} {p : Posting} (h : (ledgerOk l && postOk p.id p.lines) = false) : postC l p = 1 := by unfold postC;rw [if_neg (by simp [h])]
theorem postC_old {l : Ledger} {p : Posting} (h : ledgerOk l = true) (h2 : postOk p.id p.lines = true) (h3 : p.id ≤ l.last) : postC l p = 2 := by unfold postC;rw [h,h2,if_pos (by rfl),if_pos h3]
theorem postC_none {l : Ledger} {p : Posting} (h : ledgerOk l = true) (h2 : postOk p.id p.lines = true) (h3 : ¬ p.id ≤ l.last) (h4 : mergeL l.lines p.lines = none) : postC l p = 3 := by unfold postC;rw [h,h2,if_pos (by rfl),if_neg h3,h4]
theorem postC_long {l : Ledger} {p : Posting} (h : ledgerOk l = true) (h2 : postOk p.id p.lines = true) (h3 : ¬ p.id ≤ l.last) {m : List Line} (h4 : mergeL l.lines p.lines = some m) (h5 : 320 < m.length) : postC l p = 3 := by unfold postC;rw [h,h2,if_pos (by rfl),if_neg h3,h4];exact if_pos h5
theorem postC_fine {l : Ledger} {p : Posting} (h : ledgerOk l = true) (h2 : postOk p.id p.lines = true) (h3 : ¬ p.id ≤ l.last) {m : List Line} (h4 : mergeL l.lines p.lines = some m) (h5 : m.length ≤ 320) : postC l p = 0 := by unfold postC;rw [h,h2,if_pos (by rfl),if_neg h3,h4];exact if_neg (by omega)
def postF (s : Ledger × Int) (p : Posting) : Ledger × Int := if postC s.1 p = 0 then (postL s.1 p,s.2 + 1) else s
def postS (l : Ledger) (ps : List Posting) : Ledger × Int := ps.foldl postF (l,0)
theorem postS_succ {l : Ledger} {ps : List Posting} {k : Nat} (h : k < ps.length) : postS l (ps.take (k + 1)) = postF (postS l (ps.take k)) ps[k] := by
 unfold postS
 rw [List.take_succ_eq_append_getElem h,List.foldl_append]
 rfl
theorem postL_len (l : Ledger) (p : Posting) : (postL l p).lines.length ≤ 320 := by
 unfold postL
 split
 ·rename_i h
  obtain ⟨_,_,_,m,hm,hl⟩ := postC_zero h
  rw [hm];exact hl
 ·simp
theorem postS_le {l : Ledger} {ps : List Posting} (hl : l.lines.length ≤ 320) : ∀ k,k ≤ ps.length → (postS l (ps.take k)).1.lines.length ≤ 320 ∧ 0 ≤ (postS l (ps.take k)).2 ∧ (postS l (ps.take k)).2 ≤ k
 | 0,_ => by rw [List.take_zero];exact ⟨hl,Int.le_refl _,Int.le_refl _⟩
 | k + 1,h => by
  rw [postS_succ (by omega)]
  obtain ⟨h1,h2,h3⟩ := postS_le (ps := ps) hl k (by omega)
  unfold postF
  split
  ·exact ⟨postL_len _ _,by dsimp only;omega,by dsimp only;omega⟩
  ·exact ⟨h1,h2,by omega⟩
theorem agr_all {x : Book} {l : Ledger} (h : Agr x l) {es : List Event} : ∀ k,k ≤ es.length → (postS l (allS x (es.take k)).ps).2 ≤ (allS x (es.take k)).ps.length ∧ ((postS l (allS x (es.take k)).ps).2 = (allS x (es.take k)).ps.length → Agr (allS x (es.take k)).now (postS l (allS x (es.take k)).ps).1)
 | 0,_ => by rw [List.take_zero];exact ⟨Int.le_refl _,fun _ => h⟩
 | k + 1,hk => by
  rw [allS_succ (by omega)]
  obtain ⟨h1,h2⟩ := agr_all h (es := es) k (by omega)
  generalize allS x (es.take k) = s at *
  generalize es[k] = e at *
  by_cases c : applyC s.now e = 0
  ·by_cases q : (appP s.now e).lines = []
   ·rw [allF_ps2 q,allF_ok c]
    exact ⟨h1,fun r => agr_still (h2 r) c q⟩
   ·rw [allF_ps c q,allF_ok c]
    have e1 : postS l (s.ps ++ [appP s.now e]) = postF (postS l s.ps) (appP s.now e) := by unfold postS;rw [List.foldl_append];rfl
    rw [e1,List.length_append,List.length_singleton]
    unfold postF
    split
    ·rename_i r
     refine ⟨by dsimp only;omega,fun z => ?_⟩
     dsimp only at z
     exact agr_step (h2 (by omega)) c q r
    ·exact ⟨by omega,fun z => by omega⟩
  ·rw [allF_ps1 c,allF_no c]
   exact ⟨h1,h2⟩

abbrev ledV (l : Ledger) : AV := .agg [int l.last,.p (.lst 120 3 (rowsOf encLine l.lines))]
abbrev posV (p : Posting) : AV := .agg [int p.id,.p (.lst 120 3 (rowsOf encLine p.lines))]
theorem balAt_drop {l : List Line} {a : Acc} {k : Nat} (h : k < l.length) : balAt (l.drop k) a = if l[k].acc.kind = a.kind ∧ l[k].acc.ch = a.ch then l[k].amt else balAt (l.drop (k + 1)) a := by
 rw [List.drop_eq_getElem_cons h];rfl
theorem ledgerOk_e (x : Ledger) : GC Tryz.prog 71 [ledV x] [] (boo (ledgerOk x)) [] := by
 refine gi 2 Tryz.func71 rfl Tryz.ntmps71 rfl ?_
 intro L O w0
 refine sL<|lst (zX 2001 Z) Z<|laZ Z<|nA<|lf 0 ty.F54_0 Z<|loI ty.kd3 Z<|lst (zC [] [] [] Tryz.func62 (amtOk_e _) (trivial) Z Z) Z<|lmB Z ?_
 refine AL.bool (t := 6) rfl ?_ ?_
 ·intro h1
  refine lf 1 ty.F54_1 Z<|loL ty.kd32 Z<|lnI ty.sl32 Z<|lbB Z<|lkB Z<|lmB Z ?_
  refine AL.bool (t := 12) rfl ?_ ?_
  ·intro h2
   refine lf 1 ty.F54_1 Z<|loL ty.kd32 Z<|lst (zC [] [] [] Tryz.func68 (linesOk_e x.lines (by have h := h2;simp only [length_rowsOf,decide_eq_true_eq] at h;omega)) (trivial) rfl rfl) Z<|lT [2,12,15] [2001] ?_
   refine lkB Z<|laB Z<|nG<|aR ?_
   refine eBo trivial ?_
   unfold ledgerOk
   simp_all [length_rowsOf,amtOk,inB] <;> (intros;omega)
  ·intro h2
   refine lno Z<|lno Z<|lno Z<|lkZ Z<|laZ Z<|nG<|aR ?_
   refine eBo trivial ?_
   unfold ledgerOk
   simp_all [length_rowsOf,amtOk,inB] <;> (intros;omega)
 ·intro h1
  refine lno Z<|lno Z<|lno Z<|lno Z<|lkZ Z<|lmZ Z<|lno Z<|lno Z<|lno Z<|lkZ Z<|laZ Z<|nG<|aR ?_
  refine eBo trivial ?_
  unfold ledgerOk
  simp_all [length_rowsOf,amtOk,inB] <;> (intros;omega)
theorem balance_e (x : Ledger) (a : Acc) (hm : x.lines.length ≤ 9007199254740992) : GC Tryz.prog 73 [ledV x,.agg [int a.kind,int a.ch]] [] (int (balance x a)) [] := by
 refine gi 4 Tryz.func73 rfl Tryz.ntmps73 rfl ?_
 intro L O w0
 refine sL<|lst (zX 2002 Z) Z<|lst (zX 2003 Z) Z<|laI Z<|nG<|aS<|sL<|loX (.agg [vI _ _,vL _ _ _]) ty.kd54 Z<|lst (zC [] [] [] Tryz.func71 (ledgerOk_e x) (trivial) Z Z) Z<|luB Z<|lmB Z ?_
 refine AL.bool (t := 10) rfl ?_ ?_
 ·intro h1
  refine lno Z<|lno Z<|lno Z<|lkT Z<|nG<|aY Z<|sL<|laI Z<|nG<|aR<|rT ?_
  refine end_ret ?_ trivial
  refine congrArg (fun b => some (int b)) ?_
  unfold balance
  simp_all
 ·intro h1
  refine loX (.agg [vI _ _,vI _ _]) ty.kd110 Z<|lst (zC [] [] [] Tryz.func120 (accOk_e a) (trivial) Z Z) Z<|luB Z<|lkB Z<|nG ?_
  refine AW.cond rfl ?_ ?_
  ·intro h2
   refine sL<|laI Z<|nG<|aR<|rT ?_
   refine end_ret ?_ trivial
   refine congrArg (fun b => some (int b)) ?_
   unfold balance
   simp_all
  ·intro h2
   refine aK<|gT<|aS<|sL<|lf 1 ty.F54_1 Z<|loL ty.kd32 Z<|lnI ty.sl32 Z<|lmI Z<|nG<|aB ?_
   refine aW [3,4,16,17] [2002,2003] (D := Nat) (fun k => [(18,int (k : Int))]) (fun k => []) (fun k => k ≤ x.lines.length ∧ balAt (x.lines.drop k) a = balance x a) (fun k => x.lines.length - k) (0) (⟨Nat.zero_le _,by unfold balance;simp_all⟩) ⟨rfl,trivial⟩ trivial ?_
   intro k hI
   obtain ⟨hkl,hbal⟩ := hI
   refine sL<|lbB Z<|nG<|aS ?_
   refine AW.cond rfl ?_ ?_
   ·intro h3
    refine aK<|gT<|aS<|aB<|sL ?_
    have hk : k < x.lines.length := by simpa [length_rowsOf] using h3
    refine li k ty.el32 Z (row_map hk)<|lrX (.agg [vI _ _,vI _ _,vI _ _]) ty.kd120 Z<|lst (zA 2006 ty.ze120 Z) Z<|lT [3,4,6,16,17,18,21] [2002,2003,2006] ?_
    refine lst (zB 2006 ty.co120 ty.inf120 rfl) Z<|nA<|lf 0 ty.F120_0 Z<|loX (.agg [vI _ _,vI _ _]) ty.kd110 Z<|loX (.agg [vI _ _,vI _ _]) ty.kd110 Z<|lq (rd (x := vB _) (rd_eqS rfl (.inl rfl) rfl rfl ty.sf110 ty.su110 ty.sh110 ty.sg110 ?hn1) rfl) ?_
    case hn1 => exact ⟨rfl,by decide,rfl,⟨_,Tryz.underlying3⟩,rfl,by decide,rfl,⟨_,Tryz.underlying3⟩,trivial⟩
    refine nG ?_
    refine AW.cond rfl ?_ ?_
    ·intro h4
     refine sL<|lf 2 ty.F120_1 Z<|loI ty.kd3 Z<|laI Z<|nG<|aR<|rB<|rT<|rT<|rB<|rT ?_
     refine end_ret ?_ trivial
     refine congrArg (fun b => some (int b)) ?_
     have hc : x.lines[k].acc.kind = a.kind ∧ x.lines[k].acc.ch = a.ch := by
      have h := h4
      simp only [eqVals,Bool.and_true,Bool.and_eq_true,beq_iff_eq] at h
      exact h
     rw [← hbal,balAt_drop hk,if_pos hc]
    ·intro h4
     refine aK<|gB<|gT<|aL ?_
     have hne : balAt (x.lines.drop (k + 1)) a = balance x a := by
      rw [← hbal,balAt_drop hk,if_neg]
      have h := h4
      intro q
      simp [eqVals,q.1,q.2] at h
     refine lgI Z<|lmI Z<|nG ?_
     refine ⟨k + 1,⟨hk,hne⟩,by omega,⟨(iq rfl),trivial⟩,trivial,rfl,rfl⟩
   ·intro h3
    refine aE<|eT<|eT<|eB<|gA<|laI Z<|nG<|aR ?_
    refine end_ret ?_ trivial
    refine congrArg (fun b => some (int b)) ?_
    have hkn : ¬ k < x.lines.length := by simpa [length_rowsOf] using h3
    rw [← hbal,List.drop_eq_nil_of_le (by omega)]
    rfl
theorem locA_some {x : Book} {ch : Int} {q : Nat} (hq : q < x.chans.length) (h : chanAt x.chans ch = (q : Int)) : locA x ch = x.chans[q].loc := by
 unfold locA
 rw [if_pos (by omega),h,Int.toNat_natCast,List.getElem?_eq_getElem hq]
theorem locA_none {x : Book} {ch : Int} (h : ¬ 0 ≤ chanAt x.chans ch) : locA x ch = 0 := if_neg h
theorem outA_some {x : Book} {ch : Int} (h : 0 ≤ chanAt x.chans ch) : outA x ch = outOf x ch := if_pos h
theorem outA_none {x : Book} {ch : Int} (h : ¬ 0 ≤ chanAt x.chans ch) : outA x ch = 0 := if_neg h
theorem agrees_no {x : Book} {l : Ledger} {k : Nat} (hk : k < 99) (h : agreeAt x l ((k : Int) + 1) = false) : agrees x l = false := by
 unfold agrees
 rw [show ((List.range 99).all fun j => agreeAt x l ((j : Int) + 1)) = false from List.all_eq_false.2 ⟨k,by simpa using hk,by simp [h]⟩,Bool.and_false]
theorem agrees_yes {x : Book} {l : Ledger} (h : ∀ j : Nat,j < 99 → agreeAt x l ((j : Int) + 1) = true) : agrees x l = (bookOk x && ledgerOk l && (l.last == x.next - 1) && (balance l ⟨1,0⟩ == x.wallet)) := by
 unfold agrees
 rw [show ((List.range 99).all fun j => agreeAt x l ((j : Int) + 1)) = true from List.all_eq_true.2 fun j hj => h j (by simpa using hj),Bool.and_true]
theorem agrees_e (x : Book) (l : Ledger) (hw : BookWf x) (hm : l.lines.length ≤ 9007199254740992) : GC Tryz.prog 20 [bookV x,ledV l] [] (boo (agrees x l)) [] := by
 refine gi 4 Tryz.func20 rfl Tryz.ntmps20 rfl ?_
 intro L O w0
 refine sL<|lst (zX 2002 Z) Z<|lst (zX 2003 Z) Z<|laZ Z<|nG<|aS<|aS<|aG 23 []<|yq 0 (roX (.agg [vI _ _,vI _ _,vI _ _,vL _ _ _,vL _ _ _,vL _ _ _]) ty.kd27 Z)<|yst 1 Z (zC [] [] [] Tryz.func11 (impl_BookOk_e x hw) (trivial) Z Z)<|yq 2 (ruB Z)<|yq 3 (rmB Z) ?_
 refine AG.bool (t := 12) rfl ?_ ?_
 ·intro h1
  refine yno 4 Z<|yno 5 Z<|yno 6 Z<|yq 7 (rkT Z)<|yq 8 (rmT Z)<|tno 9 Z<|tno 10 Z<|yno 11 Z<|yno 12 Z<|yno 13 Z<|yno 14 Z<|yq 15 (rkT Z)<|yq 16 (rmT Z)<|tno 17 Z<|tno 18 Z<|tno 19 Z<|yno 20 Z<|yno 21 Z<|yno 22 Z<|yq 23 (rkT Z)<|gD<|gT<|aY Z<|sL<|laZ Z<|nG<|aR<|rT ?_
  refine eBo trivial ?_
  unfold agrees
  simp_all
 ·intro h1
  refine yq 4 (roX (.agg [vI _ _,vL _ _ _]) ty.kd54 Z)<|yst 5 Z (zC [] [] [] Tryz.func71 (ledgerOk_e l) (trivial) Z Z)<|gX [2,3,4,12,14] [2002,2003] ?_
  refine yq 6 (ruB Z)<|yq 7 (rkB Z)<|yq 8 (rmB Z) ?_
  refine AG.bool (t := 17) rfl ?_ ?_
  ·intro h2
   refine tno 9 Z<|tno 10 Z<|yno 11 Z<|yno 12 Z<|yno 13 Z<|yno 14 Z<|yq 15 (rkT Z)<|yq 16 (rmT Z)<|tno 17 Z<|tno 18 Z<|tno 19 Z<|yno 20 Z<|yno 21 Z<|yno 22 Z<|yq 23 (rkT Z)<|gD<|gT<|aY Z<|sL<|laZ Z<|nG<|aR<|rT ?_
   refine eBo trivial ?_
   unfold agrees
   simp_all
  ·intro h2
   refine tq 9 (rf 0 ty.F54_0 Z)<|tq 10 (roI ty.kd3 Z)<|yq 11 (rf 1 ty.F27_1 Z)<|yq 12 (roI ty.kd3 Z) ?_
   have hbk : bookOk x = true := by simpa using h1
   have hnx := bookOk_next hbk
   refine yq 13 (rgI rfl (by unfold i64;omega))<|yq 14 (rbB rfl)<|yq 15 (rkB rfl)<|yq 16 (rmB rfl) ?_
   refine AG.bool (t := 25) rfl ?_ ?_
   ·intro h3
    refine tno 17 Z<|tno 18 Z<|tno 19 Z<|yno 20 Z<|yno 21 Z<|yno 22 Z<|yq 23 (rkT Z)<|gD<|gT<|aY Z<|sL<|laZ Z<|nG<|aR<|rT ?_
    refine eBo trivial ?_
    unfold agrees
    simp_all
   ·intro h3
    refine tq 17 (roX (.agg [vI _ _,vL _ _ _]) ty.kd54 Z)<|tq 18 (rd (x := .agg [vI _ _,vI _ _]) (rd_build Z ty.sa110 Z Z Z) Z)<|tq 20 (rf 2 ty.F27_2 Z)<|tq 21 (roI ty.kd3 Z) ?_
    refine yst 19 rfl (zC [] [] [] Tryz.func73 (balance_e l ⟨1,0⟩ hm) (trivial) rfl rfl)<|gX [2,3,4,25,28,30] [2002,2003] ?_
    refine yq 22 (rbB Z)<|yq 23 (rkB Z)<|gD<|gT ?_
    refine AW.cond rfl ?_ ?_
    ·intro h4
     refine sL<|laZ Z<|nG<|aR<|rT ?_
     refine eBo trivial ?_
     unfold agrees
     simp_all
    ·intro h4
     refine aK<|gT<|aS<|sL<|laI Z<|nG<|aB ?_
     refine aW [2,3,4] [2002,2003] (D := Nat) (fun k => [(5,int ((k : Int) + 1))]) (fun k => []) (fun k => k ≤ 99 ∧ ∀ j : Nat,j < k → agreeAt x l ((j : Int) + 1) = true) (fun k => 99 - k) (0) (⟨Nat.zero_le _,fun j h => absurd h (by omega)⟩) ⟨(Eq.trans (b := int _) rfl (congrArg int (by simp))),trivial⟩ trivial ?_
     intro k hI
     obtain ⟨hk99,hall⟩ := hI
     refine aS<|sL<|lmI Z<|lbB Z<|nG ?_
     refine AW.cond rfl ?_ ?_
     ·intro h5
      refine aK<|gT<|aS<|aB<|sL ?_
      have hk : k < 99 := by have h := h5;simp only [decide_eq_true_eq] at h;omega
      refine laI Z<|laI Z<|nG<|aS<|sL<|loX (.agg [vI _ _,vI _ _,vI _ _,vL _ _ _,vL _ _ _,vL _ _ _]) ty.kd27 Z<|lmI Z<|lst (zC [] [] [] Tryz.func69 (impl_chanAt_e x ((k : Int) + 1) hw) (trivial) Z Z) Z<|laI Z<|nA<|lmI Z<|lbB Z<|nG ?_
      refine AW.cond rfl ?_ ?_
      ·intro h6
       refine sL<|lf 3 ty.F27_3 Z<|loL ty.kd23 Z<|lmI Z ?_
       have hpos : 0 ≤ chanAt x.chans ((k : Int) + 1) := by simpa using h6
       obtain ⟨q,hq,hqe,hqi⟩ : ∃ q,∃ h : q < x.chans.length,chanAt x.chans ((k : Int) + 1) = (q : Int) ∧ x.chans[q].id = (k : Int) + 1 := (chanAt_cases x.chans ((k : Int) + 1)).resolve_left (by omega)
       have hloc := locA_some hq hqe
       have hout := outA_some hpos
       refine lq (rd (x := .rp _) (rd_iaddr_p (i := q) rfl ty.el23 rfl rfl ?hn1 (row_map hq)) rfl) ?_
       case hn1 => exact hqe
       refine lq (rd (x := .rp _) (zfr ty.F40_2 Z) Z)<|lrI ty.kd3 Z<|laI Z<|nG<|aL<|loX (.agg [vI _ _,vI _ _,vI _ _,vL _ _ _,vL _ _ _,vL _ _ _]) ty.kd27 Z<|lmI Z<|lst (zC [] [] [] Tryz.func67 (transit_e x ((k : Int) + 1) hw (bookOk_small hbk)) (trivial) Z Z) Z<|lT [2,3,4,5,6,7,51] [2002,2003] ?_
       refine lmX (.tup [vI _ _,vI _ _]) Z<|lxI Z<|lxI Z<|laI Z<|nA<|loX (.agg [vI _ _,vL _ _ _]) ty.kd54 Z<|lmI Z<|lq (rd (x := .agg [vI _ _,vI _ _]) (rd_build Z ty.sa110 Z Z Z) Z) ?_
       refine lst (zC [] [] [] Tryz.func73 (balance_e l ⟨6,(k : Int) + 1⟩ hm) (trivial) rfl rfl) Z<|lmI Z<|lbB Z<|lmB rfl ?_
       refine AL.bool (t := 60) rfl ?_ ?_
       ·intro h7
        refine lno Z<|lno Z<|lno Z<|lno Z<|lno Z<|lno Z<|lkT Z<|lmT Z<|lno Z<|lno Z<|lno Z<|lno Z<|lno Z<|lkT Z<|nG<|aY Z<|sL<|laZ Z<|nG<|aR<|rB<|rT<|rT<|rB<|rT ?_
        refine eBo trivial ?_
        first
        | (exact (agrees_no hk (by unfold agreeAt;rw [hloc,hout];simp_all)).symm)
        | (have hke : k = 99 := by simp only [decide_eq_false_iff_not] at *;omega
           subst hke
           rw [agrees_yes hall]
           simp_all)
       ·intro h7
        refine loX (.agg [vI _ _,vL _ _ _]) ty.kd54 Z<|lmI Z<|lq (rd (x := .agg [vI _ _,vI _ _]) (rd_build Z ty.sa110 Z Z Z) Z) ?_
        refine lst (zC [] [] [] Tryz.func73 (balance_e l ⟨8,(k : Int) + 1⟩ hm) (trivial) rfl rfl) Z<|lT [2,3,4,5,7,60,64] [2002,2003] ?_
        refine lmI Z<|lbB Z<|lkB Z<|lmB Z ?_
        refine AL.bool (t := 68) rfl ?_ ?_
        ·intro h8
         refine lno Z<|lno Z<|lno Z<|lno Z<|lno Z<|lkT Z<|nG<|aY Z<|sL<|laZ Z<|nG<|aR<|rB<|rT<|rT<|rB<|rT ?_
         refine eBo trivial ?_
         first
         | (exact (agrees_no hk (by unfold agreeAt;rw [hloc,hout];simp_all)).symm)
         | (have hke : k = 99 := by simp only [decide_eq_false_iff_not] at *;omega
            subst hke
            rw [agrees_yes hall]
            simp_all)
        ·intro h8
         refine loX (.agg [vI _ _,vL _ _ _]) ty.kd54 Z<|lmI Z<|lq (rd (x := .agg [vI _ _,vI _ _]) (rd_build Z ty.sa110 Z Z Z) Z) ?_
         refine lst (zC [] [] [] Tryz.func73 (balance_e l ⟨7,(k : Int) + 1⟩ hm) (trivial) rfl rfl) Z<|lbB Z<|lkB Z<|nG ?_
         refine AW.cond rfl ?_ ?_
         ·intro h9
          refine sL<|laZ Z<|nG<|aR<|rB<|rT<|rT<|rB<|rT ?_
          refine eBo trivial ?_
          first
          | (exact (agrees_no hk (by unfold agreeAt;rw [hloc,hout];simp_all)).symm)
          | (have hke : k = 99 := by simp only [decide_eq_false_iff_not] at *;omega
             subst hke
             rw [agrees_yes hall]
             simp_all)
         ·intro h9
          refine aK<|gB<|gT<|aL<|lmI Z ?_
          have hgood : agreeAt x l ((k : Int) + 1) = true := by unfold agreeAt;rw [hloc,hout];simp_all
          refine lgI Z<|laI Z<|nG ?_
          refine ⟨k + 1,⟨hk,fun j hj => (Nat.lt_or_ge j k).elim (hall j) (fun q => by rw [show j = k by omega];exact hgood)⟩,by omega,⟨(Eq.trans (b := int _) rfl (congrArg int (by push_cast;rfl))),trivial⟩,trivial,rfl,rfl⟩
      ·intro h6
       refine aK<|gA ?_
       have hneg : ¬ 0 ≤ chanAt x.chans ((k : Int) + 1) := by simpa using h6
       have hloc := locA_none hneg
       have hout := outA_none hneg
       refine loX (.agg [vI _ _,vL _ _ _]) ty.kd54 Z<|lmI Z<|lq (rd (x := .agg [vI _ _,vI _ _]) (rd_build Z ty.sa110 Z Z Z) Z) ?_
       refine lst (zC [] [] [] Tryz.func73 (balance_e l ⟨6,(k : Int) + 1⟩ hm) (trivial) rfl rfl) Z<|lT [2,3,4,5,6,7,57] [2002,2003] ?_
       refine lmI Z<|lbB Z<|lmB Z ?_
       refine AL.bool (t := 60) rfl ?_ ?_
       ·intro h10
        refine lno Z<|lno Z<|lno Z<|lno Z<|lno Z<|lno Z<|lkT Z<|lmT Z<|lno Z<|lno Z<|lno Z<|lno Z<|lno Z<|lkT Z<|nG<|aY Z<|sL<|laZ Z<|nG<|aR<|rB<|rT<|rT<|rB<|rT ?_
        refine eBo trivial ?_
        first
        | (exact (agrees_no hk (by unfold agreeAt;rw [hloc,hout];simp_all)).symm)
        | (have hke : k = 99 := by simp only [decide_eq_false_iff_not] at *;omega
           subst hke
           rw [agrees_yes hall]
           simp_all)
       ·intro h10
        refine loX (.agg [vI _ _,vL _ _ _]) ty.kd54 Z<|lmI Z<|lq (rd (x := .agg [vI _ _,vI _ _]) (rd_build Z ty.sa110 Z Z Z) Z) ?_
        refine lst (zC [] [] [] Tryz.func73 (balance_e l ⟨8,(k : Int) + 1⟩ hm) (trivial) rfl rfl) Z<|lmI Z<|lbB Z<|lkB Z<|lmB rfl ?_
        refine AL.bool (t := 68) rfl ?_ ?_
        ·intro h11
         refine lno Z<|lno Z<|lno Z<|lno Z<|lno Z<|lkT Z<|nG<|aY Z<|sL<|laZ Z<|nG<|aR<|rB<|rT<|rT<|rB<|rT ?_
         refine eBo trivial ?_
         first
         | (exact (agrees_no hk (by unfold agreeAt;rw [hloc,hout];simp_all)).symm)
         | (have hke : k = 99 := by simp only [decide_eq_false_iff_not] at *;omega
            subst hke
            rw [agrees_yes hall]
            simp_all)
        ·intro h11
         refine loX (.agg [vI _ _,vL _ _ _]) ty.kd54 Z<|lmI Z<|lq (rd (x := .agg [vI _ _,vI _ _]) (rd_build Z ty.sa110 Z Z Z) Z) ?_
         refine lst (zC [] [] [] Tryz.func73 (balance_e l ⟨7,(k : Int) + 1⟩ hm) (trivial) rfl rfl) Z<|lT [2,3,4,5,68,72] [2002,2003] ?_
         refine lbB Z<|lkB Z<|nG ?_
         refine AW.cond rfl ?_ ?_
         ·intro h12
          refine sL<|laZ Z<|nG<|aR<|rB<|rT<|rT<|rB<|rT ?_
          refine eBo trivial ?_
          first
          | (exact (agrees_no hk (by unfold agreeAt;rw [hloc,hout];simp_all)).symm)
          | (have hke : k = 99 := by simp only [decide_eq_false_iff_not] at *;omega
             subst hke
             rw [agrees_yes hall]
             simp_all)
         ·intro h12
          refine aK<|gB<|gT<|aL<|lmI Z ?_
          have hgood : agreeAt x l ((k : Int) + 1) = true := by unfold agreeAt;rw [hloc,hout];simp_all
          refine lgI Z<|laI Z<|nG ?_
          refine ⟨k + 1,⟨hk,fun j hj => (Nat.lt_or_ge j k).elim (hall j) (fun q => by rw [show j = k by omega];exact hgood)⟩,by omega,⟨(Eq.trans (b := int _) rfl (congrArg int (by push_cast;rfl))),trivial⟩,trivial,rfl,rfl⟩
     ·intro h5
      refine aE<|eT<|eT<|eB<|gA<|laT Z<|nG<|aR ?_
      refine eBo trivial ?_
      first
      | (exact (agrees_no hk (by unfold agreeAt;rw [hloc,hout];simp_all)).symm)
      | (have hke : k = 99 := by simp only [decide_eq_false_iff_not] at *;omega
         subst hke
         rw [agrees_yes hall]
         simp_all)
def poR (l : Ledger) (p : Posting) : AV → List (Nat × AO) → Prop := fun y ob => ob = [] ∧ ((postC l p ≠ 0 ∧ y = .tup [.agg [int 0,.p (.v (.slice none 0 0))],int (postC l p)]) ∨ (postC l p = 0 ∧ y = .tup [.agg [int p.id,.p (.lst 120 3 (rowsOf encLine ((mergeL l.lines p.lines).getD [])))],int 0]))
theorem merged_some {a b r : List Line} (hn : a.length + b.length ≤ 1000000) (ha : ∀ z ∈ a,rangeA z.amt = true) (hb : ∀ z ∈ b,rangeA z.amt = true) (h : mergeL a b = some r) : GC Tryz.prog 89 [.p (.lst 120 3 (rowsOf encLine a)),.p (.lst 120 3 (rowsOf encLine b))] [] (.tup [.own 50,boo true]) [(50,lAr r)] :=
 (merged_e a b hn ha hb).gc fun y o q => by unfold mgR at q;rw [h] at q;exact q
theorem merged_none {a b : List Line} (hn : a.length + b.length ≤ 1000000) (ha : ∀ z ∈ a,rangeA z.amt = true) (hb : ∀ z ∈ b,rangeA z.amt = true) (h : mergeL a b = none) : GC Tryz.prog 89 [.p (.lst 120 3 (rowsOf encLine a)),.p (.lst 120 3 (rowsOf encLine b))] [] (.tup [.p (.v (.slice none 0 0)),boo false]) [] :=
 (merged_e a b hn ha hb).gc fun y o q => by unfold mgR at q;rw [h] at q;exact q
theorem post_x (l : Ledger) (p : Posting) (hp : p.lines.length ≤ 1000) : GX Tryz.prog 28 [ledV l,posV p] [] (poR l p) := by
 refine GX.intro (rs := [.cell 4 54 (some 2),.tmp 5]) Tryz.func28 rfl Tryz.ntmps28 (Nat.le_of_ble_eq_true rfl) ⟨rfl,rfl,ty.kd54,rfl,trivial⟩ ?_
 intro L O w0
 refine sL<|lst (zX 2002 Z) Z<|lst (zX 2003 Z) Z<|lst (zA 2004 ty.ze54 Z) Z<|laI Z<|nG<|aS<|sL<|loX (.agg [vI _ _,vL _ _ _]) ty.kd54 Z<|lst (zC [] [] [] Tryz.func71 (ledgerOk_e l) (trivial) Z Z) Z<|luB Z<|lmB Z ?_
 refine AL.bool (t := 11) rfl ?_ ?_
 ·intro h1
  refine lno Z<|lno Z<|lno Z<|lkT Z<|nG<|aY Z<|sL<|lq (rd (x := .agg [vI _ _,vV _]) (rd_build Z ty.sa54 Z Z Z) Z)<|lst (zB 2004 ty.co54 ty.inf54 Z) Z<|laI Z<|nG<|aR<|rT ?_
  refine end_xret ((.tup [.agg [int 0,.p (.v (.slice none 0 0))],int 1])) [] ?_ rfl trivial
  have hc : postC l p = 1 := postC_bad (by simp_all)
  exact ⟨rfl,.inl ⟨by omega,by rw [hc]⟩⟩
 ·intro h1
  refine loX (.agg [vI _ _,vL _ _ _]) ty.kd34 Z<|lst (zC [] [] [] Tryz.func12 (postOk_e p.id p.lines hp) (trivial) Z Z) Z<|lT [2,3,4,5,11,13] [2002,2003,2004] ?_
  refine luB Z<|lkB Z<|nG ?_
  refine AW.cond rfl ?_ ?_
  ·intro h2
   refine sL<|lq (rd (x := .agg [vI _ _,vV _]) (rd_build Z ty.sa54 Z Z Z) Z)<|lst (zB 2004 ty.co54 ty.inf54 Z) Z<|laI Z<|nG<|aR<|rT ?_
   refine end_xret ((.tup [.agg [int 0,.p (.v (.slice none 0 0))],int 1])) [] ?_ rfl trivial
   have hc : postC l p = 1 := postC_bad (by simp_all)
   exact ⟨rfl,.inl ⟨by omega,by rw [hc]⟩⟩
  ·intro h2
   refine aK<|gT<|aS<|sL<|lf 0 ty.F34_0 Z<|loI ty.kd3 Z<|lf 0 ty.F54_0 Z<|loI ty.kd3 Z<|lbB Z<|nG ?_
   refine AW.cond rfl ?_ ?_
   ·intro h3
    refine sL<|lq (rd (x := .agg [vI _ _,vV _]) (rd_build Z ty.sa54 Z Z Z) Z)<|lst (zB 2004 ty.co54 ty.inf54 Z) Z<|laI Z<|nG<|aR<|rT ?_
    refine end_xret ((.tup [.agg [int 0,.p (.v (.slice none 0 0))],int 2])) [] ?_ rfl trivial
    have hc : postC l p = 2 := postC_old (by simpa using h1) (by simpa using h2) (by simpa using h3)
    exact ⟨rfl,.inl ⟨by omega,by rw [hc]⟩⟩
   ·intro h3
    refine aK<|gA<|lf 1 ty.F54_1 Z<|loL ty.kd32 Z<|lf 1 ty.F34_1 Z<|loL ty.kd32 Z ?_
    have hlo : ledgerOk l = true := by simpa using h1
    have hpo : postOk p.id p.lines = true := by simpa using h2
    obtain ⟨hr1,hr2,-,-⟩ := led_rng hlo
    obtain ⟨hr3,hr4,-,-⟩ := post_rng hpo
    have hold : ¬ p.id ≤ l.last := by simpa using h3
    rcases hmg : mergeL l.lines p.lines with _ | r
    ·skip
     refine lst (zC [] [] [] Tryz.func89 (merged_none (by omega) hr2 hr4 hmg) (trivial) rfl rfl) Z<|lT [3,4,5,28] [2002,2003,2004] ?_
     refine lmX (.tup [vV _,vB false]) Z<|lxV Z<|lxX (vB false) Z<|laV Z<|laZ Z<|nG<|aS<|sL<|lmZ Z<|luT Z<|lmT Z<|lno Z<|lno Z<|lno Z<|lkT Z<|nG<|aY Z<|sL<|lq (rd (x := .agg [vI _ _,vV _]) (rd_build Z ty.sa54 Z Z Z) Z)<|lst (zB 2004 ty.co54 ty.inf54 Z) Z<|laI Z<|nG<|aR<|rT ?_
     refine end_xret ((.tup [.agg [int 0,.p (.v (.slice none 0 0))],int 3])) [] ?_ rfl trivial
     have hc : postC l p = 3 := postC_none hlo hpo hold hmg
     exact ⟨rfl,.inl ⟨by omega,by rw [hc]⟩⟩
    ·skip
     refine lst (zC [(50,50)] [50] [] Tryz.func89 (merged_some (by omega) hr2 hr4 hmg) (trivial) rfl rfl) Z<|lmX (.tup [.own _,vB true]) Z<|lxO Z<|lxX (vB true) Z<|laO Z<|laT Z<|nG<|aS<|sL<|lmT Z<|luZ Z<|lmZ Z<|lmO Z<|lnI ty.sl32 Z<|lbB Z<|lkB Z<|nG ?_
     refine AW.cond rfl ?_ ?_
     ·intro h4
      refine sL<|lq (rd (x := .agg [vI _ _,vV _]) (rd_build Z ty.sa54 Z Z Z) Z)<|lst (zB 2004 ty.co54 ty.inf54 Z) Z<|lT [3,4,5,6] [50,2002,2003,2004] ?_
      refine laI Z<|nG<|aR<|rT ?_
      refine end_xret ((.tup [.agg [int 0,.p (.v (.slice none 0 0))],int 3])) [] ?_ rfl trivial
      have hc : postC l p = 3 := postC_long hlo hpo hold hmg (by have h := h4;simp [length_rowsOf] at h;omega)
      exact ⟨rfl,.inl ⟨by omega,by rw [hc]⟩⟩
     ·intro h4
      refine aK<|gA<|lf 0 ty.F34_0 Z<|loI ty.kd3 Z ?_
      refine AL.freeze 50 rfl ?_
      refine lmL Z<|lq (rd (x := .agg [vI _ _,vL _ _ _]) (rd_build Z ty.sa54 Z Z Z) Z)<|lst (zB 2004 ty.co54 ty.inf54 Z) Z<|laI Z<|nG<|aR ?_
      refine end_xret ((.tup [.agg [int p.id,.p (.lst 120 3 (rowsOf encLine r))],int 0])) [] ?_ rfl trivial
      exact ⟨rfl,.inr ⟨postC_fine hlo hpo hold hmg (by have h := h4;simp [length_rowsOf] at h;omega),by rw [hmg];rfl⟩⟩
theorem post_e (l : Ledger) (p : Posting) (hp : p.lines.length ≤ 1000) : GC Tryz.prog 28 [ledV l,posV p] [] (.tup [ledV (postL l p),int (postC l p)]) [] := GX.imp (post_x l p hp) (fun x ob1 ⟨e1,e2⟩ => by
 subst e1
 rcases e2 with ⟨h,rfl⟩ | ⟨h,rfl⟩
 ·rw [postL_no h]
  exact ⟨_,Imp.tup (ImpL.cons (Imp.agg (ImpL.cons (Imp.refl _) (ImpL.cons (Imp.nil _ _) ImpL.nil))) (ImpL.cons (Imp.refl _) ImpL.nil)),rfl,rfl⟩
 ·have e : postL l p = ⟨p.id,(mergeL l.lines p.lines).getD []⟩ := if_pos h
  rw [e,h]
  exact ⟨_,Imp.refl _,rfl,rfl⟩)
theorem copyLines_e (l : List Line) (hl : l.length ≤ 1000) : GC Tryz.prog 122 [.p (.lst 120 3 (rowsOf encLine l))] [] (.own 51) [(51,lAr l)] := by
 refine gi 2 Tryz.func122 rfl Tryz.ntmps122 rfl ?_
 intro L O w0
 refine sL<|laV Z<|nA<|lmL Z<|lst (St.app0 51 rfl rfl (by decide) ty.el32 ty.ze120 rfl (by decide) rfl (Src.p rfl) (by simp [rowsOf,maxLen] at *;omega) (Nat.le_trans (Nat.mul_le_mul_left _ ty.by120) (by simp [rowsOf] at *;omega))) Z<|laO Z<|nG<|aR ?_
 refine end_ret ?_ ⟨rfl,trivial⟩
 rfl
theorem copyLedger_e (l : Ledger) (hl : l.lines.length ≤ 1000) : GC Tryz.prog 72 [ledV l] [] (ledV l) [] := by
 refine GC.intro (rs := [.cell 2 54 (some 2)]) Tryz.func72 rfl Tryz.ntmps72 (Nat.le_of_ble_eq_true rfl) ⟨rfl,rfl,ty.kd54,trivial⟩ ?_
 intro L O w0
 refine sL<|lst (zX 2001 Z) Z<|lst (zA 2002 ty.ze54 Z) Z<|nG<|aS<|aG 6 [51]<|tq 0 (rf 0 ty.F54_0 Z)<|tq 1 (roI ty.kd3 Z)<|yq 2 (rf 1 ty.F54_1 Z)<|yq 3 (roL ty.kd32 Z)<|yst 4 Z (zC [(51,51)] [51] [] Tryz.func122 (copyLines_e l.lines hl) (trivial) Z Z) ?_
 refine AG.freeze 51 rfl ?_
 refine yq 5 (rd (x := .agg [vI _ _,vL _ _ _]) (rd_build Z ty.sa54 Z Z Z) Z)<|yl Z (zB 2002 ty.co54 ty.inf54 Z)<|gT<|aR ?_
 refine end_ret ?_ trivial
 rfl
theorem rowsP_at {ps : List Posting} {k : Nat} (h : k < ps.length) : (rowsP ps)[k]? = some [.v (.int .i64 ps[k].id),.lst 120 3 (rowsOf encLine ps[k].lines)] := by unfold rowsP;rw [List.getElem?_map,List.getElem?_eq_getElem h];rfl
def paR (l : Ledger) (ps : List Posting) : AV → List (Nat × AO) → Prop := fun y ob => ob = [] ∧ ((ledgerOk l = false ∧ y = .tup [.agg [int 0,.p (.v (.slice none 0 0))],int (-1)]) ∨ (ledgerOk l = true ∧ y = .tup [ledV (postS l ps).1,int (postS l ps).2]))
theorem postAll_x (l : Ledger) (ps : List Posting) (hps : ∀ p ∈ ps,p.lines.length ≤ 1000) (hn : ps.length ≤ 1000000) : GX Tryz.prog 19 [ledV l,.p (.lst 34 2 (rowsP ps))] [] (paR l ps) := by
 refine GX.intro (rs := [.cell 4 54 (some 2),.tmp 5]) Tryz.func19 rfl Tryz.ntmps19 (Nat.le_of_ble_eq_true rfl) ⟨rfl,rfl,ty.kd54,rfl,trivial⟩ ?_
 intro L O w0
 refine sL<|lst (zX 2002 Z) Z<|lst (zA 2004 ty.ze54 Z) Z<|laI Z<|nG<|aS<|sL<|loX (.agg [vI _ _,vL _ _ _]) ty.kd54 Z<|lst (zC [] [] [] Tryz.func71 (ledgerOk_e l) (trivial) Z Z) Z<|luB Z<|nG ?_
 refine AW.cond rfl ?_ ?_
 ·intro h1
  refine sL<|lq (rd (x := .agg [vI _ _,vV _]) (rd_build Z ty.sa54 Z Z Z) Z)<|lst (zB 2004 ty.co54 ty.inf54 Z) Z<|laI Z<|nG<|aR<|rT ?_
  refine end_xret ((.tup [.agg [int 0,.p (.v (.slice none 0 0))],int (-1)])) [] ?_ rfl trivial
  exact ⟨rfl,.inl ⟨by simpa using h1,rfl⟩⟩
 ·intro h1
  refine aK<|gA<|loX (.agg [vI _ _,vL _ _ _]) ty.kd54 Z ?_
  have hlo : ledgerOk l = true := by simpa using h1
  obtain ⟨hr1,hr2,-,-⟩ := led_rng hlo
  refine lst (zC [] [] [] Tryz.func72 (copyLedger_e l (by omega)) (trivial) rfl rfl) Z<|lst (zA 2006 ty.ze54 rfl) Z<|lst (zB 2006 ty.co54 ty.inf54 rfl) Z<|nA<|laI Z<|nG<|aS<|sL<|lmL Z<|lnI ty.sl49 Z<|lmI Z<|nG<|aB ?_
  refine aW [4,5,6,18,19] [2002,2004] (D := Nat) (fun k => [(7,int (postS l (ps.take k)).2),(20,int (k : Int))]) (fun k => [(2006,.box 54 none [int (postS l (ps.take k)).1.last,.p (.lst 120 3 (rowsOf encLine (postS l (ps.take k)).1.lines))])]) (fun k => k ≤ ps.length) (fun k => ps.length - k) (0) (Nat.zero_le _) ⟨rfl,rfl,trivial⟩ ⟨rfl,trivial⟩ ?_
  intro k hI
  refine sL<|lbB Z<|nG<|aS ?_
  refine AW.cond rfl ?_ ?_
  ·intro h2
   refine aK<|gT<|aS<|aB<|sL ?_
   have hk : k < ps.length := by simpa [rowsP_len] using h2
   have hs := postS_le (ps := ps) hr1 k (by omega)
   refine li k ty.el49 Z (rowsP_at hk)<|lrX (.agg [vI _ _,vL _ _ _]) ty.kd34 Z<|lst (zA 2009 ty.ze34 Z) Z<|lT [4,5,6,7,9,18,19,20,23] [2002,2004,2006,2009] ?_
   refine lst (zB 2009 ty.co34 ty.inf34 Z) Z<|nA<|loX (.agg [vI _ _,vL _ _ _]) ty.kd54 Z<|loX (.agg [vI _ _,vL _ _ _]) ty.kd34 Z<|lst (zC [] [] [] Tryz.func28 (post_e (postS l (ps.take k)).1 ps[k] (hps _ (List.getElem_mem hk))) (trivial) Z Z) Z<|lmX (.tup [.agg [vI _ _,vL _ _ _],vI _ _]) Z<|lxX (.agg [vI _ _,vL _ _ _]) Z<|lxI Z<|lst (zA 2010 ty.ze54 Z) Z<|lst (zB 2010 ty.co54 ty.inf54 Z) Z<|laI Z<|nA<|lmI Z<|lbB Z<|nG ?_
   refine AW.cond rfl ?_ ?_
   ·intro h3
    refine sL<|loX (.agg [vI _ _,vL _ _ _]) ty.kd54 Z<|lst (zB 2006 ty.co54 ty.inf54 Z) Z<|lT [4,5,6,7,18,19,20] [2002,2004,2006,2009,2010] ?_
    refine nG<|aL<|lmI Z<|lgI Z<|laI Z<|lN<|gB<|gT<|aL<|lgI Z<|lmI Z<|nG ?_
    have hst : postS l (ps.take (k + 1)) = (postL (postS l (ps.take k)).1 ps[k],(postS l (ps.take k)).2 + 1) := by
     rw [postS_succ hk]
     exact if_pos (by simpa using h3)
    refine ⟨k + 1,hk,by omega,⟨(Eq.trans (b := int _) rfl (congrArg int (by rw [hst]))),(iq rfl),trivial⟩,⟨(by rw [hst];rfl),trivial⟩,rfl,rfl⟩
   ·intro h3
    refine aK<|gB<|gT<|aL<|lgI Z<|lmI Z<|nG ?_
    have hst : postS l (ps.take (k + 1)) = postS l (ps.take k) := by
     rw [postS_succ hk]
     exact if_neg (by simpa using h3)
    refine ⟨k + 1,hk,by omega,⟨(Eq.trans (b := int _) rfl (congrArg int (by rw [hst]))),(iq rfl),trivial⟩,⟨(by rw [hst];rfl),trivial⟩,rfl,rfl⟩
  ·intro h2
   refine aE<|eT<|eT<|eB<|gA<|loX (.agg [vI _ _,vL _ _ _]) ty.kd54 Z<|lmI Z<|lst (zB 2004 ty.co54 ty.inf54 Z) Z<|laI Z<|nG<|aR ?_
   have hke : ps.take k = ps := List.take_of_length_le (by have h := h2;simp [rowsP_len] at h;omega)
   rw [hke]
   refine end_xret ((.tup [ledV (postS l ps).1,int (postS l ps).2])) [] ?_ rfl trivial
   exact ⟨rfl,.inr ⟨hlo,rfl⟩⟩
theorem postAll_e (l : Ledger) (ps : List Posting) (hl : ledgerOk l = true) (hps : ∀ p ∈ ps,p.lines.length ≤ 1000) (hn : ps.length ≤ 1000000) : GC Tryz.prog 19 [ledV l,.p (.lst 34 2 (rowsP ps))] [] (.tup [ledV (postS l ps).1,int (postS l ps).2]) [] := (postAll_x l ps hps hn).gc fun y o ⟨e1,e2⟩ => by
 rcases e2 with ⟨h,_⟩ | ⟨_,h⟩
 ·rw [hl] at h;cases h
 ·exact ⟨h,e1⟩

def flatR : AO → Prop
 | .arr e sz rows => ∀ r ∈ rows,∀ p ∈ r,∃ v,p = PV.v v
 | _ => False
theorem GX.lent {P : Program} {f : FuncId} {args args' : List AV} {ob0 : List (Nat × AO)} {R : AV → List (Nat × AO) → Prop} (hc : GX P f args [] R) (hl : lendL (ofO ob0) args' = args) (h0 : ∀ p ∈ ob0,arrO p.2 = true)
 (hR : ∀ x ob1,R x ob1 → ownA x = true ∧ (∀ id ∈ ownN x,inO ob1 id = true) ∧ (∀ p ∈ ob1,flatR p.2) ∧ (∀ p ∈ ob0,inO ob1 p.1 = false)) :
 GX P f args' ob0 fun x ob => ∃ ob1,R x ob1 ∧ ob = ob1 ++ ob0 := by
 intro L w cs ρ fp hL hargs hob hdj hLf
 have hv := RVL.lend (fun id => ⟨_,hob id⟩) args' hargs
 rw [hl] at hv
 refine Calls.mono (hc L0 w cs ρ0 (fun _ => []) (fun _ q => q.elim) hv (fun i => rfl) (by simp) (by simp)) ?_
 rintro e w' ⟨x,ob1,hR1,v,ρ',fp',rfl,g1,g2,g3,g4,g5⟩
 obtain ⟨hx,hn,h1,hd⟩ := hR x ob1 hR1
 have hnew : ∀ i,∀ b ∈ fp' i,w.heap.size ≤ b := fun i b hb => by
  rcases (g5 i b hb).1 with ⟨j,q⟩ | q
  ·cases q
  ·exact q
 have hsame : ∀ b,b < w.heap.size → w'.heap[b]? = w.heap[b]? := fun b hb => g1.block b hb (by simp)
 generalize hρ2 : (fun i => if inO ob1 i = true then ρ' i else ρ i) = ρ2
 generalize hf2 : (fun i => if inO ob1 i = true then fp' i else fp i) = f2
 have eρ1 : ∀ {i},inO ob1 i = true → ρ2 i = ρ' i := fun {i} h => by rw [← hρ2];simp only [h,if_true]
 have eρ0 : ∀ {i},inO ob1 i = false → ρ2 i = ρ i := fun {i} h => by rw [← hρ2];simp [h]
 have ef1 : ∀ {i},inO ob1 i = true → f2 i = fp' i := fun {i} h => by rw [← hf2];simp only [h,if_true]
 have ef0 : ∀ {i},inO ob1 i = false → f2 i = fp i := fun {i} h => by rw [← hf2];simp [h]
 have eH1 : ∀ {i},inO ob1 i = true → ofO (ob1 ++ ob0) i = ofO ob1 i := fun {i} h => by rw [ofO_app,if_pos h]
 have eH0 : ∀ {i},inO ob1 i = false → ofO (ob1 ++ ob0) i = ofO ob0 i := fun {i} h => by rw [ofO_app,if_neg (by simp [h])]
 have hlive : ∀ b,b < w.heap.size → ¬ live L ρ (ofO ob0) b → ¬ live L ρ2 (ofO (ob1 ++ ob0)) b := by
  rintro b hb hn (hl | ⟨i,q1,q2⟩)
  ·exact hn (.inl hl)
  ·rcases hi : inO ob1 i with _ | _
   ·rw [eH0 hi] at q1;rw [eρ0 hi] at q2;exact hn (.inr ⟨i,q1,q2⟩)
   ·rw [eH1 hi] at q1;rw [eρ1 hi] at q2
    have := hnew i b ((g3 i).top q1 q2)
    omega
 have E : Env L ρ ρ2 (ofO ob0) (ofO (ob1 ++ ob0)) w w' (inO ob1) := ⟨g1.size,fun b hb hn => ⟨hsame b hb,hlive b hb hn⟩,fun i hk hi => by
  rw [eH0 hk] at hi ⊢
  exact ⟨hi,eρ0 hk,rfl,rfl⟩⟩
 refine ⟨x,ob1 ++ ob0,⟨ob1,hR1,rfl⟩,v,ρ2,f2,rfl,⟨g1.os,g1.tape,g1.output,g1.size,fun b hb _ => hsame b hb,fun b o hb hlt => ?_⟩,?_,fun i => ?_,fun i j hij b hb hb' => ?_,fun i b hb => ?_⟩
 ·rcases Nat.lt_or_ge b w.heap.size with hb2 | hb2
  ·rcases hb with ⟨i,hi⟩ | hb
   ·rw [World.frozen?_of_block (w := w) (hsame b hb2)]
    exact (hob i).frozen b hi o
   ·omega
  ·exact g1.nf b o (.inr hb2) hlt
 ·refine RV.owned x hx g2 fun id hid => ?_
  obtain ⟨o,q1,q2⟩ := ofO_mem (hn id hid)
  have hfl := h1 _ q1
  refine ⟨?_,eρ1 (hn id hid)⟩
  rw [q2]
  cases o with
  | arr e sz rows => rfl
  | box T p c => exact hfl.elim
  | gone => exact hfl.elim
 ·rcases hi : inO ob1 i with _ | _
  ·rw [eH0 hi,eρ0 hi,ef0 hi]
   have h := (hob i).env E (fun b hb => hsame b ((hob i).lt b hb))
   have ek : (ofO ob0 i).kil (inO ob1) = ofO ob0 i := by
    rcases hj : inO ob0 i with _ | _
    ·rw [ofO_out hj];rfl
    ·obtain ⟨o,q1,q2⟩ := ofO_mem hj
     have := h0 _ q1
     rw [q2]
     cases o with
     | arr e sz rows => rfl
     | box T p c => cases this
     | gone => rfl
   rwa [ek] at h
  ·rw [eH1 hi,eρ1 hi,ef1 hi]
   obtain ⟨o,q1,q2⟩ := ofO_mem hi
   have hfl := h1 _ q1
   have h := g3 i
   rw [q2] at h ⊢
   cases o with
   | arr e sz rows =>
    obtain ⟨xs,fr,k1,k2,k3,k4,k5⟩ := h
    have hfr := k1.flat_fp hfl
    subst hfr
    exact ⟨xs,[],k1,by simp,k3,k4,k5⟩
   | box T p c => exact hfl.elim
   | gone => exact hfl.elim
 ·rcases hi : inO ob1 i with _ | _ <;> rcases hj : inO ob1 j with _ | _
  ·rw [ef0 hi] at hb;rw [ef0 hj] at hb';exact hdj i j hij b hb hb'
  ·rw [ef0 hi] at hb;rw [ef1 hj] at hb'
   have := (hob i).lt b hb
   have := hnew j b hb'
   omega
  ·rw [ef1 hi] at hb;rw [ef0 hj] at hb'
   have := (hob j).lt b hb'
   have := hnew i b hb
   omega
  ·rw [ef1 hi] at hb;rw [ef1 hj] at hb';exact g4 i j hij b hb hb'
 ·rcases hi : inO ob1 i with _ | _
  ·rw [ef0 hi] at hb;exact ⟨.inl ⟨i,hb⟩,hLf i b hb⟩
  ·rw [ef1 hi] at hb
   have := hnew i b hb
   exact ⟨.inr this,fun hl => by have := hL b hl;omega⟩
theorem GX.same {P : Program} {f : FuncId} {args : List AV} {ob0 : List (Nat × AO)} {R R' : AV → List (Nat × AO) → Prop} (h : GX P f args ob0 R) (hR : ∀ x ob,R x ob → ∃ ob',R' x ob' ∧ ofO ob' = ofO ob) : GX P f args ob0 R' := fun L w cs ρ fp h1 h2 h3 h4 h5 =>
 Calls.mono (h L w cs ρ fp h1 h2 h3 h4 h5) fun e w' ⟨x,ob,q,r⟩ => by
  obtain ⟨ob',q1,q2⟩ := hR x ob q
  exact ⟨x,ob',q1,by rw [q2];exact r⟩
theorem inO_fam {F : List AO} {i : Nat} (h : i < 1000000) : inO (famL 1000000 F) i = false := by
 cases e : inO (famL 1000000 F) i with
 | false => rfl
 | true =>
  obtain ⟨o,q,_⟩ := ofO_mem e
  obtain ⟨m,_,q2⟩ := mem_famL q
  omega
theorem inO_app {l m : List (Nat × AO)} {i : Nat} : inO (l ++ m) i = (inO l i || inO m i) := by unfold inO;rw [List.map_append,List.contains_eq_any_beq,List.any_append,← List.contains_eq_any_beq,← List.contains_eq_any_beq]
theorem GN.lent {P : Program} {f : FuncId} {args args' : List AV} {ob0 : List (Nat × AO)} {R : AV → List (Nat × AO) → List AO → Prop} (hc : GN P f args [] [] R) (hl : lendL (ofO ob0) args' = args) (h0 : (ob0.all fun p => arrO p.2 && (lowO p.2 && Nat.blt p.1 1000000)) = true)
 (hR : ∀ x l1 F1,R x l1 F1 → ownA x = true ∧ (∀ id ∈ ownN x,inO l1 id = true) ∧ (∀ p ∈ l1,flatR p.2) ∧ (∀ o ∈ F1,flatR o) ∧ (∀ p ∈ ob0,inO l1 p.1 = false)) :
 GN P f args' ob0 [] fun x l F => ∃ l1,R x l1 F ∧ l = l1 ++ ob0 := by
 have hs : smallO ob0 = true := List.all_eq_true.2 fun p hp => by
  have := List.all_eq_true.1 h0 p hp
  simp only [Bool.and_eq_true] at this
  exact this.2.2
 have hlo : (ob0.all fun p => lowO p.2) = true := List.all_eq_true.2 fun p hp => by
  have := List.all_eq_true.1 h0 p hp
  simp only [Bool.and_eq_true] at this
  exact this.2.1
 have hc' : GX P f args [] _ := hc
 have h := GX.lent (ob0 := ob0) hc' hl (fun p hp => by
  have := List.all_eq_true.1 h0 p hp
  simp only [Bool.and_eq_true] at this
  exact this.1) (fun x ob1 ⟨l1,F1,q1,q2,q3,q4,q5⟩ => by
  subst q4
  obtain ⟨r1,r2,r3,r4,r5⟩ := hR x l1 F1 q5
  refine ⟨r1,fun id hid => by rw [inO_app,r2 id hid];rfl,fun p hp => ?_,fun p hp => ?_⟩
  ·rcases List.mem_append.1 hp with hp | hp
   ·exact r3 p hp
   ·have : ∀ (F : List AO) (n : Nat),p ∈ famL n F → p.2 ∈ F := by
     intro F
     induction F with
     | nil => intro n h;cases h
     | cons o F ih =>
      intro n h
      rcases List.mem_cons.1 h with h | h
      ·rw [h];simp
      ·exact List.mem_cons_of_mem _ (ih _ h)
    exact r4 _ (this _ _ hp)
  ·rw [inO_app,r5 p hp,inO_fam (Nat.le_of_ble_eq_true (List.all_eq_true.1 hs p hp))];rfl)
 show GX P f args' (ob0 ++ []) _
 rw [List.append_nil]
 refine h.same fun x ob ⟨ob1,⟨l1,F1,q1,q2,q3,q4,q5⟩,q6⟩ => ?_
 subst q4 q6
 simp only [Bool.and_eq_true] at q1
 have s1 : smallO (l1 ++ ob0) = true := by unfold smallO at *;rw [List.all_append,q1.1,hs];rfl
 refine ⟨(l1 ++ ob0) ++ famL 1000000 F1,⟨l1 ++ ob0,F1,?_,q2,q3,rfl,l1,q5,rfl⟩,?_⟩
 ·rw [s1,List.all_append,q1.2.1,hlo,q1.2.2];rfl
 ·funext i
  rcases lo_or_hi i with q | ⟨m,rfl⟩
  ·rw [ofO_lo q,ofO_app,ofO_app,inO_app,inO_fam q,Bool.or_false,ofO_lo q]
  ·rw [ofO_hi s1,List.append_assoc,ofO_hi q1.1,ofO_app]
   split
   ·rfl
   ·rename_i z
    rw [ofO_out (by simpa using z)]
    have : inO ob0 (1000000 + m) = false := by
     cases e : inO ob0 (1000000 + m) with
     | false => rfl
     | true =>
      obtain ⟨o,w1,_⟩ := ofO_mem e
      have := List.all_eq_true.1 hs _ w1
      have : 1000000 + m < 1000000 := Nat.le_of_ble_eq_true this
      omega
    rw [ofO_out this]
theorem exK {E l : List Nat} {X : Nat → Bool} (h : E = l) (h2 : l.all X = true) : ∀ id ∈ E,X id = true := fun id hid => by subst h;exact List.all_eq_true.1 h2 id hid

section
variable {P : Program} {o : Oper} {N : Nat} {τ : Nat → AV} {H : Nat → AO}
theorem St.trunc (id : Nat) {t e e' : TypeId} {pn : Option Value} {x : Operand} {hi : Option Operand} {sz h d : Nat} {rows : List (List PV)} (ho : o.op = .slice t x none hi none) (hd : o.dst = some d) (hN : d < N) (ht : elA P t = some (e,sz)) (hx : ev τ x = .own id) (hH : H id = .arr ⟨e',pn⟩ sz rows) (hhi : bnd τ rows.length hi h) (hn : h ≤ rows.length) :
 St P o N τ H [] (updo (fun s => kil (one? id) (τ s)) o.dst (.own id)) (upd (fun j => (H j).kil (one? id)) id (.arr ⟨e',none⟩ sz (rows.take h))) := by
 refine St.turn id (one? id) (.own id) (.arr ⟨e',none⟩ sz (rows.take h)) [] (fun s hs => by rw [hd] at hs;cases hs;exact hN) (fun {L O w0 ρ fp a w} hr => ?_)
 have hv := hr.ev x
 rw [hx,RV] at hv
 have h0 := hv.2 (by rw [hH];rfl)
 have hO := hr.ob id
 rw [hH] at hO
 obtain ⟨xs,fr,r1,r2,hown,hfp,_⟩ := hO
 have hlen : (rows.take h).length = h := by rw [List.length_take];omega
 obtain ⟨g1,t1,t2⟩ := r1.take h
 have hgrow : w.grownBy w none := ⟨rfl,rfl,rfl,Nat.le_refl _,fun _ _ _ => rfl⟩
 rcases hown.2 with ⟨q,q'⟩ | ⟨g,cap,cur,q,hb0,hg,c1,c2,c3,c4⟩
 ·have hrun := slc_run (o := o) (a := a) (l := 0) (fun z => hr.ev z) ho ht (by show (0 : Nat) = 0;rfl) hhi (Nat.zero_le _) hn (Nat.le_of_eq q') (by rw [h0,q,q']) w
  have hz : h = 0 := by omega
  subst hz
  refine ⟨w,.slice none 0 0,none,_,_,hrun,.inl rfl,hgrow,by simp,(fun b off hb hlt => ?_),(fun hk => by simp [one?] at hk),(fun b hb => by cases hb),(fun E => ⟨⟨[],g1,?_,?_,?_,rfl,(fun u hu => by cases hu)⟩,?_⟩)⟩
  ·rcases hb with hb | hb
   ·cases hb
   ·omega
  ·have : xs.take (0 * sz) = [] := by simp
   rw [this] at t1;exact t1
  ·intro b hb hl
   have hlt := RWR.lt _ r1 b (t2 hb)
   exact (E.block b hlt (r2 b (t2 hb))).2 hl
  ·have : (rows.take 0).length = 0 := by simp
   rw [this]
   exact World.ownsRow_nil _ _ _ _
  ·rw [RV,upd_same]
   exact ⟨by rfl,fun _ => by rw [upd_same];(try rfl);(try simp)⟩
 ·have hrun := slc_run (o := o) (a := a) (l := 0) (fun z => hr.ev z) ho ht (by show (0 : Nat) = 0;rfl) hhi (Nat.zero_le _) hn c1 (h0.trans q) w
  have ead : (if cap = 0 then (some ⟨g,0,none⟩ : Option Addr) else (some ⟨g,0,none⟩ : Option Addr).map (·.add (0 * sz))) = some ⟨g,0,none⟩ := by
   split
   ·rfl
   ·show some ((⟨g,0,none⟩ : Addr).add (0 * sz)) = _
    unfold Addr.add;split <;> simp_all
  rw [ead,Nat.sub_zero,Nat.sub_zero] at hrun
  refine ⟨w,.slice (some ⟨g,0,none⟩) h cap,none,_,_,hrun,.inl rfl,hgrow,by simp,(fun b off hb hlt => ?_),(fun hk => by simp [one?] at hk),(fun b hb => .inr ⟨by rw [hH];rfl,by rw [q];exact hb⟩),(fun E => ⟨⟨xs.take (h * sz),g1,t1,?_,?_,rfl,(fun u hu => by cases hu)⟩,?_⟩)⟩
  ·rcases hb with hb | hb
   ·cases hb
   ·omega
  ·intro b hb hl
   have hlt := RWR.lt _ r1 b (t2 hb)
   exact (E.block b hlt (r2 b (t2 hb))).2 hl
  ·rw [hlen]
   refine ⟨?_,.inr ⟨g,cap,cur,rfl,hb0,hg,by omega,c2,c3,?_⟩⟩
   ·rw [List.length_take,hown.1]
    have := Nat.mul_le_mul_right sz hn
    omega
   ·rw [← c4,List.take_take]
    have := Nat.mul_le_mul_right sz hn
    congr 1
    omega
  ·rw [RV,upd_same]
   exact ⟨by rfl,fun _ => by rw [upd_same];(try rfl);(try simp)⟩
end
end Go.Proofs.YtogkbcmfoalpiaaGreat

