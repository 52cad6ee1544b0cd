/- FnSizes is proved: the given statement holds with no condition. Texts joined: SzOk, ED6, ED7, LFnSizes, CFnSizes. -/
import Derived.Test.YtogkbcmfoalpiaaGreatJSizes5
import Derived.Test.YtogkbcmfoalpiaaGreatRows
import Derived.Test.YtogkbcmfoalpiaaGreatKOpn
namespace Go.Proofs.YtogkbcmfoalpiaaGreat
open Go.RowKit
set_option linter.unusedSimpArgs false
set_option linter.unusedVariables false
def Keeps (l l' : List Chan) : Prop := ∀ c ∈ l,∃ d ∈ l',d.id = c.id ∧ d.size = c.size
theorem Keeps.refl (l : List Chan) : Keeps l l := fun c hc => ⟨c,hc,rfl,rfl⟩
theorem Keeps.trans {a b c : List Chan} (h : Keeps a b) (h2 : Keeps b c) : Keeps a c := fun x hx => by
  obtain ⟨y,hy,q1,q2⟩ := h x hx
  obtain ⟨z,hz,r1,r2⟩ := h2 y hy
  exact ⟨z,hz,r1.trans q1,r2.trans q2⟩
theorem Keeps.upd {l : List Chan} {a : Int} {f : Chan → Chan} (hf : ∀ c,(f c).id = c.id ∧ (f c).size = c.size) : Keeps l (updC l a f) := fun c hc => by
  refine ⟨_,List.mem_map_of_mem hc,?_⟩
  split
  · exact hf c
  · exact ⟨rfl,rfl⟩
theorem Keeps.upd2 {l : List Chan} {a b : Int} {f g : Chan → Chan} (hf : ∀ c,(f c).id = c.id ∧ (f c).size = c.size) (hg : ∀ c,(g c).id = c.id ∧ (g c).size = c.size) : Keeps l (updC (updC l a f) b g) := (Keeps.upd hf).trans (Keeps.upd hg)
theorem Keeps.map {l : List Chan} {f : Chan → Chan} (hf : ∀ c,(f c).id = c.id ∧ (f c).size = c.size) : Keeps l (l.map f) := fun c hc => ⟨_,List.mem_map_of_mem hc,hf c⟩
theorem keeps_work {x : Book} {e : Event} (h : e.kind ≠ 3) : Keeps x.chans (workR x e).b.chans := by
  unfold workR
  rw [if_neg (c := e.kind = 3) h]
  repeat' split
  · exact Keeps.refl _
  · unfold openR
    split
    · exact fun c hc => ⟨c,insC_mem (.inl hc),rfl,rfl⟩
    · exact Keeps.refl _
  · unfold priR
    split
    · exact Keeps.refl _
    · exact Keeps.upd fun c => ⟨rfl,rfl⟩
  · unfold admR
    split
    · exact Keeps.upd2 (fun c => ⟨rfl,rfl⟩) (fun c => ⟨rfl,rfl⟩)
    · exact Keeps.refl _
  · unfold setR
    split
    · unfold setY
      split <;> exact Keeps.upd2 (fun c => ⟨rfl,rfl⟩) (fun c => ⟨rfl,rfl⟩)
    · exact Keeps.refl _
  · refine Keeps.map fun c => ?_
    unfold fadeC
    split <;> exact ⟨rfl,rfl⟩
  · unfold lauR
    split
    · exact Keeps.upd2 (fun c => ⟨rfl,rfl⟩) (fun c => ⟨rfl,rfl⟩)
    · exact Keeps.refl _
  · unfold landR
    split
    · unfold landY
      split <;> exact Keeps.upd2 (fun c => ⟨rfl,rfl⟩) (fun c => ⟨rfl,rfl⟩)
    · exact Keeps.refl _
theorem shut_keeps {x : Book} {e : Event} (h : e.kind = 3) : ∀ c ∈ x.chans,c.id ≠ e.ch → c ∈ (workR x e).b.chans := fun c hc hne => by
  rw [← wk3 h]
  unfold shutR
  split
  · exact List.mem_filter.2 ⟨hc,by simpa using hne⟩
  · exact hc
theorem appB_chans {x : Book} {e : Event} (h : applyC x e = 0) : (appB x e).chans = (workR x e).b.chans := by
  by_cases r : (workR x e).l = []
  · rw [(appB_nil h r).1]
  · rw [(appB_yes h r).1]
theorem sizes {x : Book} {e : Event} (h : applyC x e = 0) {c : Chan} (hc : c ∈ x.chans) : (∀ d ∈ (appB x e).chans,d.id = c.id → d.size = c.size) ∧ (There (appB x e).chans c.id ∨ (e.kind = 3 ∧ e.ch = c.id)) := by
  have b := bOk_of (bookOk_appB h)
  have one : ∀ d ∈ (appB x e).chans,∀ d' ∈ (appB x e).chans,d.id = d'.id → d = d' := fun d hd d' hd' q => by
    rw [← chanOr_eq b.asc hd,← chanOr_eq b.asc hd',q]
  by_cases k : e.kind = 3
  · by_cases q : c.id = e.ch
    · refine ⟨fun d hd r => ?_,.inr ⟨k,q.symm⟩⟩
      exfalso
      rw [appB_chans h,← wk3 k] at hd
      obtain ⟨h1,h2,h3⟩ := applyC_ok h
      have hw : (workR x e).c = 0 := by rw [← applyC_work (by rw [h1,h2];rfl) h3];exact h
      rw [← wk3 k] at hw
      by_cases z : shutC x e = 0
      · rw [shutR_yes z] at hd
        have := (List.mem_filter.1 hd).2
        simp [r,q] at this
      · rw [shutR_no z] at hw;exact absurd hw z
    · have hm : c ∈ (appB x e).chans := by rw [appB_chans h];exact shut_keeps k c hc q
      exact ⟨fun d hd r => by rw [one d hd c hm r],.inl ⟨c,hm,rfl⟩⟩
  · obtain ⟨d0,hd0,q1,q2⟩ := keeps_work k c hc
    rw [← appB_chans h] at hd0
    exact ⟨fun d hd r => by rw [one d hd d0 hd0 (r.trans q1.symm),q2],.inl ⟨d0,hd0,q1⟩⟩
theorem appP_next {x : Book} {e : Event} (h : applyC x e = 0) (hp : (appP x e).id ≠ 0) : (appP x e).id = x.next ∧ (appB x e).next = x.next + 1 ∧ LnS (appP x e).lines 0 3 ∧ 2 ≤ (appP x e).lines.length := by
  by_cases r : (workR x e).l = []
  · rw [(appB_nil h r).2] at hp;exact absurd rfl hp
  · rw [(appB_yes h r).1,(appB_yes h r).2]
    exact ⟨rfl,by show (workR x e).b.next + 1 = _;rw [workR_next],ln_work h,(ln_work h).two r⟩

set_option maxHeartbeats 16000000
set_option maxRecDepth 100000
def accOk (a : Acc) : Bool := if inB a.kind 6 8 = true then inB a.ch 1 99 else inB a.kind 1 5 && (a.ch == 0)
def prevOk (l : List Line) (i : Nat) (x : Line) : Bool := match i with | 0 => true | j + 1 => match l[j]? with | some y => lessA y.acc x.acc | none => true
def lineAt (l : List Line) (i : Nat) : Bool := match l[i]? with | some x => accOk x.acc && !(x.amt == 0) && rangeA x.amt && prevOk l i x | none => true
def amtOf (x : Line) : Int := x.amt
def linesOk (l : List Line) : Bool := (List.range l.length).all (lineAt l) && (tot amtOf l == 0)
theorem accOk_iff {a : Acc} : accOk a = true ↔ (1 ≤ a.kind ∧ a.kind ≤ 5 ∧ a.ch = 0) ∨ (6 ≤ a.kind ∧ a.kind ≤ 8 ∧ 1 ≤ a.ch ∧ a.ch ≤ 99) := by
  unfold accOk
  by_cases h : inB a.kind 6 8 = true
  · rw [if_pos h]
    have := inB_true.1 h
    rw [inB_true];omega
  · rw [if_neg h,Bool.and_eq_true,inB_true,beq_iff_eq]
    have h' := inB_false.1 (by simpa using h)
    omega
theorem lineAt_eq {l : List Line} {k : Nat} (h : k < l.length) : lineAt l k = (accOk l[k].acc && !(l[k].amt == 0) && rangeA l[k].amt && prevOk l k l[k]) := by
  unfold lineAt;rw [List.getElem?_eq_getElem h]
theorem linesOk_no {l : List Line} {k : Nat} (h : k < l.length) (h2 : lineAt l k = false) : linesOk l = false := by
  unfold linesOk
  rw [show (List.range l.length).all (lineAt l) = false from List.all_eq_false.2 ⟨k,by simpa using h,by simp [h2]⟩]
  rfl
theorem linesOk_yes {l : List Line} (h : ∀ j,j < l.length → lineAt l j = true) : linesOk l = (tot amtOf l == 0) := by
  unfold linesOk
  rw [show (List.range l.length).all (lineAt l) = true from List.all_eq_true.2 fun j hj => h j (by simpa using hj)]
  rfl
theorem prevOk_pos {l : List Line} {k : Nat} {x : Line} (h0 : 0 < k) (h : k < l.length) : prevOk l k x = lessA (l[k - 1]'(by omega)).acc x.acc := by
  obtain ⟨j,rfl⟩ : ∃ j,k = j + 1 := ⟨k - 1,by omega⟩
  show (match l[j]? with | some y => lessA y.acc x.acc | none => true) = _
  rw [List.getElem?_eq_getElem (by omega : j < l.length)]
  rfl
theorem amts_bd {l : List Line} : ∀ (k : Nat),k ≤ l.length → (∀ j,j < k → lineAt l j = true) → -((k : Int) * 1125899906842624) ≤ tot amtOf (l.take k) ∧ tot amtOf (l.take k) ≤ (k : Int) * 1125899906842624
  | 0,_,_ => by simp [tot]
  | k + 1,hk,h => by
    have ih := amts_bd k (by omega) (fun j hj => h j (by omega))
    have hl := h k (by omega)
    rw [lineAt_eq (by omega : k < l.length)] at hl
    simp only [Bool.and_eq_true] at hl
    have hr := inB_true.1 hl.1.2
    rw [tot_succ amtOf l (by omega : k < l.length)]
    unfold amtOf at *
    push_cast
    omega
theorem sum_fit {l : List Line} {k : Nat} (hn : l.length ≤ 1000) (hk : k < l.length) (h : ∀ j,j < k → lineAt l j = true) (hr : rangeA l[k].amt = true) : Fits .i64 (tot amtOf (l.take k) + l[k].amt) := by
  have := amts_bd k (by omega) h
  have := inB_true.1 hr
  refine fits_i64 ?_
  unfold i64
  omega
def postOk (n : Int) (l : List Line) : Bool := inB n 1 1125899906842624 && inB (l.length : Int) 2 8 && linesOk l
theorem accOk_e (a : Acc) : GC Tryz.prog 120 [.agg [int a.kind,int a.ch]] [] (boo (accOk a)) [] := by
 refine gi 2 Tryz.func120 rfl Tryz.ntmps120 rfl ?_
 intro L O w0
 refine sL<|lst (zX 2001 Z) Z<|laZ Z<|nG<|aS<|sL<|lf 0 ty.F110_0 Z<|loI ty.kd3 Z<|lst (zC [] [] [] Tryz.func63 (in_e _ _ _) (trivial) Z Z) Z<|nG ?_
 refine AW.cond rfl ?_ ?_
 ·intro h1
  refine sL<|lf 1 ty.F110_1 Z<|loI ty.kd3 Z<|lst (zC [] [] [] Tryz.func63 (in_e _ _ _) (trivial) Z Z) Z<|laB Z<|nG<|aR<|rT ?_
  refine eBo trivial ?_
  first | rfl | (simp_all [accOk,dec_beq];done) | (simp_all [accOk,inB];omega)
 ·intro h1
  refine aK<|gA<|lf 0 ty.F110_0 Z<|loI ty.kd3 Z<|lst (zC [] [] [] Tryz.func63 (in_e _ _ _) (trivial) Z Z) Z<|lmB Z ?_
  refine AL.bool (t := 12) rfl ?_ ?_
  ·intro h2
   refine lf 1 ty.F110_1 Z<|loI ty.kd3 Z<|lbB Z<|lkB Z<|laB Z<|nG<|aR ?_
   refine eBo trivial ?_
   first | rfl | (simp_all [accOk,dec_beq];done) | (simp_all [accOk,inB];omega)
  ·intro h2
   refine lno Z<|lno Z<|lno Z<|lkZ Z<|laZ Z<|nG<|aR ?_
   refine eBo trivial ?_
   first | rfl | (simp_all [accOk,dec_beq];done) | (simp_all [accOk,inB];omega)
theorem linesOk_e (l : List Line) (hn : l.length ≤ 1000) : GC Tryz.prog 68 [.p (.lst 120 3 (rowsOf encLine l))] [] (boo (linesOk l)) [] := by
 refine gi 2 Tryz.func68 rfl Tryz.ntmps68 rfl ?_
 intro L O w0
 refine sL<|laZ Z<|nA<|laI Z<|nG<|aS<|sL<|lmL Z<|lnI ty.sl32 Z<|lmI Z<|nG<|aB ?_
 refine aW [0,2,6,7] [] (D := Nat) (fun k => [(3,int (tot amtOf (l.take k))),(8,int (k : Int))]) (fun k => []) (fun k => k ≤ l.length ∧ ∀ j,j < k → lineAt l j = true) (fun k => l.length - k) (0) (⟨Nat.zero_le _,fun j h => absurd h (by omega)⟩) ⟨rfl,rfl,trivial⟩ trivial ?_
 intro k hI
 obtain ⟨hkl,hall⟩ := hI
 refine sL<|lbB Z<|nG<|aS ?_
 refine AW.cond rfl ?_ ?_
 ·intro h1
  refine aK<|gT<|aS<|aB<|sL<|lmI Z ?_
  have hk : k < l.length := by simpa [length_rowsOf] using h1
  refine li k ty.el32 Z (row_map hk)<|lrX (.agg [vI _ _,vI _ _,vI _ _]) ty.kd120 Z<|lst (zA 2005 ty.ze120 Z) Z<|laI Z<|lst (zB 2005 ty.co120 ty.inf120 Z) Z<|nG<|aS<|aS<|aF []<|vq 0 (rf 0 ty.F120_0 Z)<|vq 1 (roX (.agg [vI _ _,vI _ _]) ty.kd110 Z)<|vst 2 Z (zC [] [] [] Tryz.func120 (accOk_e l[k].acc) (trivial) Z Z) (.inr Z)<|fT [0,2,3,4,5,6,7,8,15] [2005] ?_
  refine vq 3 (ruB Z)<|vq 4 (rmB Z) ?_
  refine AF.bool (t := 17) rfl ?_ ?_
  ·intro h2
   refine vno 5 Z<|vno 6 Z<|vno 7 Z<|vq 8 (rkT Z)<|vq 9 (rmT Z)<|vno 10 Z<|vno 11 Z<|vno 12 Z<|vno 13 Z<|vq 14 (rkT Z)<|vq 15 (rmT Z)<|vno 16 Z<|vno 17 Z<|vno 18 Z<|pno 19 Z<|pno 20 Z<|pno 21 Z<|pno 22 Z<|pno 23 Z<|pno 24 Z<|vno 25 Z<|vno 26 Z<|vno 27 Z<|vno 28 Z<|vno 29 Z<|vq 30 (rkT Z)<|fD<|gT<|aY Z<|aS ?_
   refine aL<|laZ Z<|nG<|aR<|rT<|rB<|rT<|rT<|rB<|rT ?_
   refine eBo trivial ?_
   first | (exfalso;simp only [decide_eq_true_eq] at *;omega) | exact (linesOk_no hk (by rw [lineAt_eq hk];simp_all [rangeA,prevOk_pos])).symm
  ·intro h2
   refine vq 5 (rf 2 ty.F120_1 Z)<|vq 6 (roI ty.kd3 Z)<|vq 7 (rbB Z)<|vq 8 (rkB Z)<|vq 9 (rmB Z) ?_
   refine AF.bool (t := 22) rfl ?_ ?_
   ·intro h3
    refine vno 10 Z<|vno 11 Z<|vno 12 Z<|vno 13 Z<|vq 14 (rkT Z)<|vq 15 (rmT Z)<|vno 16 Z<|vno 17 Z<|vno 18 Z<|pno 19 Z<|pno 20 Z<|pno 21 Z<|pno 22 Z<|pno 23 Z<|pno 24 Z<|vno 25 Z<|vno 26 Z<|vno 27 Z<|vno 28 Z<|vno 29 Z<|vq 30 (rkT Z)<|fD<|gT<|aY Z<|sL<|laZ Z<|nG<|aR ?_
    refine rT<|rB<|rT<|rT<|rB<|rT ?_
    refine eBo trivial ?_
    first | (exfalso;simp only [decide_eq_true_eq] at *;omega) | exact (linesOk_no hk (by rw [lineAt_eq hk];simp_all [rangeA,prevOk_pos])).symm
   ·intro h3
    refine vq 10 (rf 2 ty.F120_1 Z)<|vq 11 (roI ty.kd3 Z)<|vst 12 Z (zC [] [] [] Tryz.func63 (in_e _ _ _) (trivial) Z Z) (.inr Z)<|fT [0,2,3,4,5,6,7,8,22,25] [2005] ?_
    refine vq 13 (ruB Z)<|vq 14 (rkB Z)<|vq 15 (rmB Z) ?_
    refine AF.bool (t := 28) rfl ?_ ?_
    ·intro h4
     refine vno 16 Z<|vno 17 Z<|vno 18 Z<|pno 19 Z<|pno 20 Z<|pno 21 Z<|pno 22 Z<|pno 23 Z<|pno 24 Z<|vno 25 Z<|vno 26 Z<|vno 27 Z<|vno 28 Z<|vno 29 Z<|vq 30 (rkT Z)<|fD<|gT<|aY Z<|sL<|laZ Z<|nG<|aR<|rT<|rB<|rT<|rT<|rB<|rT ?_
     refine eBo trivial ?_
     first | (exfalso;simp only [decide_eq_true_eq] at *;omega) | exact (linesOk_no hk (by rw [lineAt_eq hk];simp_all [rangeA,prevOk_pos])).symm
    ·intro h4
     refine vq 16 (rmI Z)<|vq 17 (rbB Z)<|vq 18 (rmB Z) ?_
     refine AF.bool (t := 31) rfl ?_ ?_
     ·intro h5
      refine pq 19 (qmL Z)<|pq 20 (qmX (vI _ _) Z) ?_
      have hp : 0 < k := by simpa using h5
      refine sq 21 (rgI rfl (by unfold i64;omega))<|sq 22 (rd (x := .rp _) (rd_iaddr_p (i := k - 1) rfl ty.el32 rfl rfl ?hn1 (row_map (by omega : k - 1 < l.length))) rfl) ?_
      case hn1 => omega
      refine pq 23 (qd (x := .rp _) (zpfr ty.F120_0 rfl) rfl)<|sq 24 (rrX (.agg [vI _ _,vI _ _]) ty.kd110 rfl)<|vq 25 (rf 0 ty.F120_0 rfl)<|vq 26 (roX (.agg [vI _ _,vI _ _]) ty.kd110 rfl)<|vst 27 rfl (zC [] [] [] Tryz.func121 (lessA_e (l[k-1]'(by omega)).acc l[k].acc) (trivial) rfl rfl) (.inr rfl)<|fT [0,2,3,5,6,7,8,28,31,40] [2005] ?_
      refine vq 28 (ruB Z)<|vq 29 (rkB Z)<|vq 30 (rkB Z)<|fD<|gT ?_
      refine AW.cond rfl ?_ ?_
      ·intro h6
       refine sL<|laZ Z<|nG<|aR<|rT<|rB<|rT<|rT<|rB<|rT ?_
       refine eBo trivial ?_
       first | (exfalso;simp only [decide_eq_true_eq] at *;omega) | exact (linesOk_no hk (by rw [lineAt_eq hk];simp_all [rangeA,prevOk_pos])).symm
      ·intro h6
       refine aK<|gT<|aL<|lmI Z<|lf 2 ty.F120_1 Z<|loI ty.kd3 Z ?_
       have hpv : prevOk l k l[k] = true := by
         rcases Nat.eq_zero_or_pos k with q | q
         ·subst q;rfl
         ·rw [prevOk_pos q hk];simp_all
       have hgood : lineAt l k = true := by rw [lineAt_eq hk,hpv];simp_all [rangeA]
       have hrg : rangeA l[k].amt = true := by rw [lineAt_eq hk] at hgood;simp only [Bool.and_eq_true] at hgood;exact hgood.1.2
       refine lhI rfl ⟨rfl,sum_fit (by omega) hk hall hrg⟩<|laI Z<|lN<|gB<|gT<|aL<|lgI Z<|lmI Z<|nG ?_
       refine ⟨k + 1,⟨hk,fun j hj => (Nat.lt_or_ge j k).elim (hall j) (fun q => by rw [show j = k by omega];exact hgood)⟩,by omega,⟨(Eq.trans (b := int _) rfl (congrArg int (tot_succ amtOf l hk).symm)),(iq rfl),trivial⟩,trivial,rfl,rfl⟩
     ·intro h5
      refine pno 19 Z<|pno 20 Z<|pno 21 Z<|pno 22 Z<|pno 23 Z<|pno 24 Z<|vno 25 Z<|vno 26 Z<|vno 27 Z<|vno 28 Z<|vq 29 (rkZ Z)<|vq 30 (rkZ Z)<|fD<|gT<|aN Z<|aK<|gT<|aL<|lmI Z<|lf 2 ty.F120_1 Z<|loI ty.kd3 Z ?_
      have hpv : prevOk l k l[k] = true := by
        rcases Nat.eq_zero_or_pos k with q | q
        ·subst q;rfl
        ·rw [prevOk_pos q hk];simp_all
      have hgood : lineAt l k = true := by rw [lineAt_eq hk,hpv];simp_all [rangeA]
      have hrg : rangeA l[k].amt = true := by rw [lineAt_eq hk] at hgood;simp only [Bool.and_eq_true] at hgood;exact hgood.1.2
      refine lhI rfl ⟨rfl,sum_fit (by omega) hk hall hrg⟩<|laI Z<|lN<|gB<|gT<|aL<|lgI Z<|lmI Z<|nG ?_
      refine ⟨k + 1,⟨hk,fun j hj => (Nat.lt_or_ge j k).elim (hall j) (fun q => by rw [show j = k by omega];exact hgood)⟩,by omega,⟨(Eq.trans (b := int _) rfl (congrArg int (tot_succ amtOf l hk).symm)),(iq rfl),trivial⟩,trivial,rfl,rfl⟩
 ·intro h1
  refine aE<|eT<|eT<|eB<|gA<|lmI Z<|lbB Z<|laB Z<|nG<|aR ?_
  refine eBo trivial ?_
  have hkn : ¬ k < l.length := by simpa [length_rowsOf] using h1
  obtain rfl : k = l.length := by omega
  rw [linesOk_yes hall,List.take_length,dec_beq]
theorem postOk_e (n : Int) (l : List Line) (hn : l.length ≤ 1000) : GC Tryz.prog 12 [.agg [int n,.p (.lst 120 3 (rowsOf encLine l))]] [] (boo (postOk n l)) [] := by
 refine gi 2 Tryz.func12 rfl Tryz.ntmps12 rfl ?_
 intro L O w0
 refine sL<|lst (zX 2001 Z) Z<|laZ Z<|nA<|lf 0 ty.F34_0 Z<|loI ty.kd3 Z<|lst (zC [] [] [] Tryz.func63 (in_e _ _ _) (trivial) Z Z) Z<|lmB Z ?_
 refine AL.bool (t := 6) rfl ?_ ?_
 ·intro h1
  refine lf 1 ty.F34_1 Z<|loL ty.kd32 Z<|lnI ty.sl32 Z<|lst (zC [] [] [] Tryz.func63 (in_e _ _ _) (trivial) Z Z) Z<|lkB Z<|lmB Z ?_
  refine AL.bool (t := 12) rfl ?_ ?_
  ·intro h2
   refine lf 1 ty.F34_1 Z<|loL ty.kd32 Z<|lst (zC [] [] [] Tryz.func68 (linesOk_e l hn) (trivial) Z Z) Z<|lT [2,12,15] [2001] ?_
   refine lkB Z<|laB Z<|nG<|aR ?_
   refine eBo trivial ?_
   simp_all [postOk,length_rowsOf]
  ·intro h2
   refine lno Z<|lno Z<|lno Z<|lkZ Z<|laZ Z<|nG<|aR ?_
   refine eBo trivial ?_
   simp_all [postOk,length_rowsOf]
 ·intro h1
  refine lno Z<|lno Z<|lno Z<|lno Z<|lkZ Z<|lmZ Z<|lno Z<|lno Z<|lno Z<|lkZ Z<|laZ Z<|nG<|aR ?_
  refine eBo trivial ?_
  simp_all [postOk,length_rowsOf]
theorem chanAt_gone {l : List Chan} {ch : Int} (h : chanAt l ch < 0) : ¬ There l ch := by
  rintro ⟨c,hc,q⟩
  unfold chanAt at h
  split at h
  · omega
  · rename_i e
    rw [List.findIdx?_eq_none_iff] at e
    have := e c hc
    simp [q] at this
abbrev chA (c : Chan) : AV := .agg [int c.id,int c.size,int c.loc,int c.remote,int c.base,int c.ppm,int c.score]
def PkR (x : Book) (ch : Int) : AV → List (Nat × AO) → Prop := fun y ob => ob = [] ∧ ∃ d ok,y = .tup [chA d,boo ok] ∧ (ok = true → d ∈ x.chans ∧ d.id = ch) ∧ (ok = false → bookOk x = true → ¬ There x.chans ch)
theorem pick_e (x : Book) (ch : Int) (hw : BookWf x) : GX Tryz.prog 13 [bookV x,int ch] [] (PkR x ch) := by
 refine GX.intro (rs := [.cell 4 40 (some 7),.tmp 5]) Tryz.func13 rfl Tryz.ntmps13 (Nat.le_of_ble_eq_true rfl) ⟨rfl,rfl,ty.kd40,rfl,trivial⟩ ?_
 intro L O w0
 refine sL<|lst (zX 2002 Z) Z<|lst (zA 2004 ty.ze40 Z) Z<|laZ Z<|nA<|loX (.agg [vI _ _,vI _ _,vI _ _,vL _ _ _,vL _ _ _,vL _ _ _]) ty.kd27 Z<|lmI Z<|lst (zC [] [] [] Tryz.func69 (impl_chanAt_e x ch hw) (trivial) Z Z) Z<|laI Z<|nG<|aS<|sL<|loX (.agg [vI _ _,vI _ _,vI _ _,vL _ _ _,vL _ _ _,vL _ _ _]) ty.kd27 Z<|lst (zC [] [] [] Tryz.func11 (impl_BookOk_e x hw) (trivial) Z Z) Z<|luB Z<|lmB Z ?_
 refine AL.bool (t := 13) rfl ?_ ?_
 ·intro h1
  refine lno Z<|lno Z<|lkT Z<|nG<|aY Z<|sL<|lq (rd (x := .agg [vI _ _,vI _ _,vI _ _,vI _ _,vI _ _,vI _ _,vI _ _]) (rd_build Z ty.sa40 Z Z Z) Z)<|lst (zB 2004 ty.co40 ty.inf40 Z) Z<|lT [2,4,5,6] [2002,2004] ?_
  refine laZ Z<|nG<|aR<|rT ?_
  refine end_xret ((.tup [chA ⟨0,0,0,0,0,0,0⟩,boo false])) [] ?_ rfl trivial
  exact ⟨rfl,_,_,rfl,(fun h => by cases h),fun _ hbk => chanAt_gone (by have h := h1;first | (simp [hbk] at h;done) | (simp at h;omega))⟩
 ·intro h1
  refine lmI Z<|lbB Z<|lkB Z<|nG ?_
  refine AW.cond rfl ?_ ?_
  ·intro h2
   refine sL<|lq (rd (x := .agg [vI _ _,vI _ _,vI _ _,vI _ _,vI _ _,vI _ _,vI _ _]) (rd_build Z ty.sa40 Z Z Z) Z)<|lst (zB 2004 ty.co40 ty.inf40 Z) Z<|laZ Z<|nG<|aR<|rT ?_
   refine end_xret ((.tup [chA ⟨0,0,0,0,0,0,0⟩,boo false])) [] ?_ rfl trivial
   exact ⟨rfl,_,_,rfl,(fun h => by cases h),fun _ hbk => chanAt_gone (by have h := h2;first | (simp [hbk] at h;done) | (simp at h;omega))⟩
  ·intro h2
   refine aK<|gA<|lf 3 ty.F27_3 Z<|loL ty.kd23 Z<|lmI Z ?_
   have hb : 0 ≤ chanAt x.chans ch := by have h := h2;simp at h;omega
   obtain ⟨k,hk,hi,hp⟩ : ∃ k,∃ h : k < x.chans.length,chanAt x.chans ch = (k : Int) ∧ x.chans[k].id = ch := by
     rcases atI_cases (fun c : Chan => c.id == ch) x.chans with q | ⟨k,h,q1,q2⟩
     ·rw [chanAt_atI] at hb;omega
     ·exact ⟨k,h,q1,by simpa using q2⟩
   refine lq (rd (x := .rp _) (rd_iaddr_p (i := k) rfl ty.el23 rfl rfl ?hn1 (row_map hk)) rfl) ?_
   case hn1 => exact hi
   refine lrX (.agg [vI _ _,vI _ _,vI _ _,vI _ _,vI _ _,vI _ _,vI _ _]) ty.kd40 Z<|lst (zB 2004 ty.co40 ty.inf40 Z) Z<|laT Z<|nG<|aR ?_
   refine end_xret ((.tup [chA x.chans[k],boo true])) [] ?_ rfl trivial
   exact ⟨rfl,_,_,rfl,(fun _ => ⟨List.getElem_mem hk,hp⟩),fun h => by cases h⟩

theorem LnS.ok {l : List Line} {m : Nat} (h : LnS l 0 m) : linesOk l = true := by
  rw [linesOk_yes fun j hj => ?_]
  · have : tot amtOf l = 0 := h.sum
    rw [this];rfl
  · rw [lineAt_eq hj]
    have hm := List.getElem_mem hj
    obtain ⟨a1,a2,a3⟩ := h.amt _ hm
    have hp : prevOk l j l[j] = true := by
      rcases Nat.eq_zero_or_pos j with q | q
      · subst q;rfl
      · rw [prevOk_pos q hj];exact List.pairwise_iff_getElem.1 h.asc _ _ _ _ (by omega)
    have h1 : accOk l[j].acc = true := accOk_iff.2 (h.acc _ hm)
    have h2 : rangeA l[j].amt = true := inB_true.2 ⟨a2,a3⟩
    rw [h1,h2,hp];simpa using a1
theorem post_ok {x : Book} {e : Event} (h : applyC x e = 0) (hp : (appP x e).id ≠ 0) : postOk (appP x e).id (appP x e).lines = true := by
  obtain ⟨q1,q2,q3,q4⟩ := appP_next h hp
  have hn := (bOk_of (applyC_ok h).1).next
  unfold postOk
  rw [q3.ok,q1,inB_true.2 hn,inB_true.2 ⟨by omega,by have := q3.len;omega⟩];rfl
theorem appP_nolines {x : Book} {e : Event} (h : applyC x e = 0) (hp : (appP x e).id = 0) : (appP x e).lines = [] := by
  by_cases r : (workR x e).l = []
  · rw [(appB_nil h r).2]
  · rw [(appB_yes h r).2] at hp
    have := (bOk_of (applyC_ok h).1).next
    simp only at hp;omega
theorem fnSizes_e (code : List Int) : GC Tryz.prog 3 [.p (.lst 5 1 (rowsOf encU8 code))] [] (boo true) [] := by
 refine gi 2 Tryz.func3 rfl Tryz.ntmps3 rfl ?_
 intro L O w0
 refine sL<|laZ Z<|nG<|aS<|sL<|lmL Z<|lnI ty.sl22 Z<|lbB Z<|nG ?_
 refine AW.cond rfl ?_ ?_
 ·intro h1
  refine sL<|laT Z<|nG<|aR<|rT ?_
  refine eBo trivial ?_
  first | rfl | (obtain ⟨z1,z2⟩ := appB_no (x := ⟨wa,wb,wc,wl,wh,wi⟩) (e := ev) (by simpa using h3);first | (rw [z2];rfl) | (simp [z1,zeroBook,rowsOf] at h1;done)) | (exfalso;simp [bookOk_appB hc0] at h1;done) | (exfalso;obtain ⟨q1,q2,-,-⟩ := appP_next hc0 (by simpa using h6);have q3 := post_ok hc0 (by simpa using h6);simp only at q1 q2;first | (simp [q1] at h1;done) | (simp [q3] at h1;done) | (simp [q2] at h1;done)) | (exfalso;obtain ⟨s1,s2⟩ := sizes hc0 (List.getElem_mem hk);first | (have s3 := s1 dk (hyk (by assumption)).1 (hyk (by assumption)).2;simp [s3] at h1;done) | (rcases s2 with r | ⟨r1,r2⟩ <;> first | exact hnk (by simp_all) (bookOk_appB hc0) r | (simp [r1] at h1;done) | (simp [r2] at h1;done))) | (trace_state;sorry)
 ·intro h1
  refine aK<|gA<|lmL Z ?_
  have hm : code.length ≤ 1048576 := by have h := h1;simp [length_rowsOf] at h;omega
  refine lX [(1,1),(2,2),(3,3)] [1,2,3] [] Tryz.func8 (drawApply_e code hm) (trivial) (fun _ _ _ => trivial) Z ?_
  intro xz1 oz1 hz1
  obtain ⟨wa,wb,wc,wl,wh,wi,ev,hwB,hwe,rfl,rfl⟩ := hz1
  refine lmX (.tup [.agg [vI _ _,vI _ _,vI _ _,.own _,.own _,.own _],.agg [vI _ _,vI _ _,vI _ _,vI _ _,vI _ _,vI _ _,vB _]]) Z<|lxX (.agg [vI _ _,vI _ _,vI _ _,.own _,.own _,.own _]) Z<|lxX (.agg [vI _ _,vI _ _,vI _ _,vI _ _,vI _ _,vI _ _,vB _]) Z<|lst (zA 2003 ty.ze27 Z) Z<|lst (zA 2004 ty.ze29 Z) Z<|lst (zB 2003 ty.co27 ty.inf27 Z) Z<|lst (zB 2004 ty.co29 ty.inf29 Z) Z<|lT [2,3,4] [1,2,3,2003,2004] ?_
  refine nA<|loX (.agg [vI _ _,vI _ _,vI _ _,.own _,.own _,.own _]) ty.kd27 Z<|loX (.agg [vI _ _,vI _ _,vI _ _,vI _ _,vI _ _,vI _ _,vB _]) ty.kd29 Z ?_
  refine AL.freeze 1 rfl ?_
  refine AL.freeze 2 rfl ?_
  refine AL.freeze 3 rfl ?_
  refine lst (zC [(11,11),(12,12),(13,13),(14,14)] [11,12,13,14] [] Tryz.func9 (apply_g ⟨wa,wb,wc,wl,wh,wi⟩ ev hwB) (trivial) rfl rfl) Z<|lmX (.tup [.agg [vI _ _,vI _ _,vI _ _,.own _,.own _,.own _],.agg [vI _ _,.own _],vI _ _]) Z<|lxX (.agg [vI _ _,vI _ _,vI _ _,.own _,.own _,.own _]) Z<|lxX (.agg [vI _ _,.own _]) Z<|lxI Z<|lst (zA 2005 ty.ze27 rfl) Z<|lst (zA 2006 ty.ze34 rfl) Z<|lst (zB 2005 ty.co27 ty.inf27 rfl) Z<|lst (zB 2006 ty.co34 ty.inf34 rfl) Z<|laI Z<|nA<|loX (.agg [vI _ _,vI _ _,vI _ _,vL _ _ _,vL _ _ _,vL _ _ _]) ty.kd27 Z<|loX (.agg [vI _ _,vI _ _,vI _ _,vI _ _,vI _ _,vI _ _,vB _]) ty.kd29 rfl ?_
  refine lst (zC [(11,21),(12,22),(13,23),(14,24)] [21,22,23,24] [] Tryz.func10 (sapply_g ⟨wa,wb,wc,wl,wh,wi⟩ ev hwB) (trivial) rfl rfl) Z<|lT [2,3,4,5,6,7,33] [11,12,13,14,21,22,23,24,2003,2004,2005,2006] ?_
  refine lmX (.tup [.agg [vI _ _,vI _ _,vI _ _,.own _,.own _,.own _],.agg [vI _ _,.own _],vI _ _]) Z<|lxX (.agg [vI _ _,vI _ _,vI _ _,.own _,.own _,.own _]) Z<|lxX (.agg [vI _ _,.own _]) Z<|lxI Z<|lst (zA 2008 ty.ze27 Z) Z<|lst (zA 2009 ty.ze34 Z) Z<|lst (zB 2008 ty.co27 ty.inf27 Z) Z<|lst (zB 2009 ty.co34 ty.inf34 Z) Z<|laI Z<|nG<|aS<|sL<|lmI Z<|lmI Z<|lbB Z<|nG ?_
  refine AW.cond rfl ?_ ?_
  ·intro h2
   refine sL<|laZ Z<|nG<|aR<|rT ?_
   refine eBo trivial ?_
   exfalso
   simp at h2
  ·intro h2
   refine aK<|gT<|aS<|sL<|lmI Z<|lbB Z<|nG ?_
   refine AW.cond rfl ?_ ?_
   ·intro h3
    refine sL<|lf 3 ty.F27_3 Z<|loO ty.kd23 Z<|lnI ty.sl23 Z<|lbB Z<|lmB Z ?_
    refine AL.bool (t := 46) rfl ?_ ?_
    ·intro h4
     refine lf 0 ty.F34_0 Z<|loI ty.kd3 Z<|lbB Z<|lkB Z<|laB Z<|nG<|aR<|rT ?_
     refine eBo trivial ?_
     first | rfl | (obtain ⟨z1,z2⟩ := appB_no (x := ⟨wa,wb,wc,wl,wh,wi⟩) (e := ev) (by simpa using h3);first | (rw [z2];rfl) | (simp [z1,zeroBook,rowsOf] at h4;done)) | (exfalso;simp [bookOk_appB hc0] at h4;done) | (exfalso;obtain ⟨q1,q2,-,-⟩ := appP_next hc0 (by simpa using h6);have q3 := post_ok hc0 (by simpa using h6);simp only at q1 q2;first | (simp [q1] at h4;done) | (simp [q3] at h4;done) | (simp [q2] at h4;done)) | (exfalso;obtain ⟨s1,s2⟩ := sizes hc0 (List.getElem_mem hk);first | (have s3 := s1 dk (hyk (by assumption)).1 (hyk (by assumption)).2;simp [s3] at h4;done) | (rcases s2 with r | ⟨r1,r2⟩ <;> first | exact hnk (by simp_all) (bookOk_appB hc0) r | (simp [r1] at h4;done) | (simp [r2] at h4;done))) | (trace_state;sorry)
    ·intro h4
     refine lno Z<|lno Z<|lno Z<|lkZ Z<|laZ Z<|nG<|aR<|rT ?_
     refine eBo trivial ?_
     first | rfl | (obtain ⟨z1,z2⟩ := appB_no (x := ⟨wa,wb,wc,wl,wh,wi⟩) (e := ev) (by simpa using h3);first | (rw [z2];rfl) | (simp [z1,zeroBook,rowsOf] at h4;done)) | (exfalso;simp [bookOk_appB hc0] at h4;done) | (exfalso;obtain ⟨q1,q2,-,-⟩ := appP_next hc0 (by simpa using h6);have q3 := post_ok hc0 (by simpa using h6);simp only at q1 q2;first | (simp [q1] at h4;done) | (simp [q3] at h4;done) | (simp [q2] at h4;done)) | (exfalso;obtain ⟨s1,s2⟩ := sizes hc0 (List.getElem_mem hk);first | (have s3 := s1 dk (hyk (by assumption)).1 (hyk (by assumption)).2;simp [s3] at h4;done) | (rcases s2 with r | ⟨r1,r2⟩ <;> first | exact hnk (by simp_all) (bookOk_appB hc0) r | (simp [r1] at h4;done) | (simp [r2] at h4;done))) | (trace_state;sorry)
   ·intro h3
    refine aK<|gT<|aS<|sL<|loX (.agg [vI _ _,vI _ _,vI _ _,.own _,.own _,.own _]) ty.kd27 Z ?_
    have hwA : BookWf (appB ⟨wa,wb,wc,wl,wh,wi⟩ ev) := appB_wf hwB hwe
    have hc0 : applyC ⟨wa,wb,wc,wl,wh,wi⟩ ev = 0 := by simpa using h3
    have bk := bOk_of (applyC_ok hc0).1
    have hnx := bk.next
    have hlc := bk.lc
    simp only at hnx hlc
    have hlA : (appP ⟨wa,wb,wc,wl,wh,wi⟩ ev).lines.length ≤ 1000 := by
      by_cases q : (appP ⟨wa,wb,wc,wl,wh,wi⟩ ev).id = 0
      ·rw [appP_nolines hc0 q];simp
      ·have := (appP_next hc0 q).2.2.1.len;omega
    refine AL.freeze 11 rfl ?_
    refine AL.freeze 12 rfl ?_
    refine AL.freeze 13 rfl ?_
    refine AL.freeze 14 rfl ?_
    refine lst (zC [] [] [] Tryz.func11 (impl_BookOk_e (appB ⟨wa,wb,wc,wl,wh,wi⟩ ev) hwA) (trivial) rfl rfl) Z<|lT [2,3,4,5,6,52] [21,22,23,24,2003,2004,2005,2006,2008,2009] ?_
    refine luB Z<|lmB Z ?_
    refine AL.bool (t := 54) rfl ?_ ?_
    ·intro h5
     refine lno Z<|lno Z<|lno Z<|lno Z<|lno Z<|lno Z<|lno Z<|lno Z<|lno Z<|lno Z<|lno Z<|lno Z<|lno Z<|lno Z<|lno Z<|lno Z<|lno Z<|lno Z<|lno Z<|lno Z<|lno Z<|lno Z<|lno Z<|lkT Z<|nG<|aY Z<|sL<|laZ Z ?_
     refine nG<|aR<|rT ?_
     refine eBo trivial ?_
     first | rfl | (obtain ⟨z1,z2⟩ := appB_no (x := ⟨wa,wb,wc,wl,wh,wi⟩) (e := ev) (by simpa using h3);first | (rw [z2];rfl) | (simp [z1,zeroBook,rowsOf] at h5;done)) | (exfalso;simp [bookOk_appB hc0] at h5;done) | (exfalso;obtain ⟨q1,q2,-,-⟩ := appP_next hc0 (by simpa using h6);have q3 := post_ok hc0 (by simpa using h6);simp only at q1 q2;first | (simp [q1] at h5;done) | (simp [q3] at h5;done) | (simp [q2] at h5;done)) | (exfalso;obtain ⟨s1,s2⟩ := sizes hc0 (List.getElem_mem hk);first | (have s3 := s1 dk (hyk (by assumption)).1 (hyk (by assumption)).2;simp [s3] at h5;done) | (rcases s2 with r | ⟨r1,r2⟩ <;> first | exact hnk (by simp_all) (bookOk_appB hc0) r | (simp [r1] at h5;done) | (simp [r2] at h5;done))) | (trace_state;sorry)
    ·intro h5
     refine lf 0 ty.F34_0 Z<|loI ty.kd3 Z<|lbB Z<|lmB Z ?_
     refine AL.bool (t := 58) rfl ?_ ?_
     ·intro h6
      refine lf 0 ty.F34_0 Z<|loI ty.kd3 Z<|lf 1 ty.F27_1 Z<|loI ty.kd3 Z<|lbB Z<|lmB Z ?_
      refine AL.bool (t := 64) rfl ?_ ?_
      ·intro h7
       refine lno Z<|lno Z<|lno Z<|lkT Z<|lmT Z<|lno Z<|lno Z<|lno Z<|lno Z<|lno Z<|lno Z<|lkT Z<|lkT Z<|lkT Z<|nG<|aY Z<|sL<|laZ Z<|nG<|aR<|rT ?_
       refine eBo trivial ?_
       first | rfl | (obtain ⟨z1,z2⟩ := appB_no (x := ⟨wa,wb,wc,wl,wh,wi⟩) (e := ev) (by simpa using h3);first | (rw [z2];rfl) | (simp [z1,zeroBook,rowsOf] at h7;done)) | (exfalso;simp [bookOk_appB hc0] at h7;done) | (exfalso;obtain ⟨q1,q2,-,-⟩ := appP_next hc0 (by simpa using h6);have q3 := post_ok hc0 (by simpa using h6);simp only at q1 q2;first | (simp [q1] at h7;done) | (simp [q3] at h7;done) | (simp [q2] at h7;done)) | (exfalso;obtain ⟨s1,s2⟩ := sizes hc0 (List.getElem_mem hk);first | (have s3 := s1 dk (hyk (by assumption)).1 (hyk (by assumption)).2;simp [s3] at h7;done) | (rcases s2 with r | ⟨r1,r2⟩ <;> first | exact hnk (by simp_all) (bookOk_appB hc0) r | (simp [r1] at h7;done) | (simp [r2] at h7;done))) | (trace_state;sorry)
      ·intro h7
       refine loX (.agg [vI _ _,vL _ _ _]) ty.kd34 Z<|lst (zC [] [] [] Tryz.func12 (postOk_e _ _ hlA) (trivial) Z Z) Z<|lT [2,3,4,5,54,58,64,66] [21,22,23,24,2003,2004,2005,2006,2008,2009] ?_
       refine luB Z<|lkB Z<|lmB Z ?_
       refine AL.bool (t := 69) rfl ?_ ?_
       ·intro h8
        refine lno Z<|lno Z<|lno Z<|lno Z<|lno Z<|lno Z<|lkT Z<|lkT Z<|lkT Z<|nG<|aY Z<|sL<|laZ Z<|nG<|aR<|rT ?_
        refine eBo trivial ?_
        first | rfl | (obtain ⟨z1,z2⟩ := appB_no (x := ⟨wa,wb,wc,wl,wh,wi⟩) (e := ev) (by simpa using h3);first | (rw [z2];rfl) | (simp [z1,zeroBook,rowsOf] at h8;done)) | (exfalso;simp [bookOk_appB hc0] at h8;done) | (exfalso;obtain ⟨q1,q2,-,-⟩ := appP_next hc0 (by simpa using h6);have q3 := post_ok hc0 (by simpa using h6);simp only at q1 q2;first | (simp [q1] at h8;done) | (simp [q3] at h8;done) | (simp [q2] at h8;done)) | (exfalso;obtain ⟨s1,s2⟩ := sizes hc0 (List.getElem_mem hk);first | (have s3 := s1 dk (hyk (by assumption)).1 (hyk (by assumption)).2;simp [s3] at h8;done) | (rcases s2 with r | ⟨r1,r2⟩ <;> first | exact hnk (by simp_all) (bookOk_appB hc0) r | (simp [r1] at h8;done) | (simp [r2] at h8;done))) | (trace_state;sorry)
       ·intro h8
        refine lf 1 ty.F27_1 Z<|loI ty.kd3 Z<|lf 1 ty.F27_1 Z<|loI ty.kd3 Z<|lgI Z<|lbB Z<|lkB Z<|lkB Z<|lkB Z<|nG ?_
        refine AW.cond rfl ?_ ?_
        ·intro h9
         refine sL<|laZ Z<|nG<|aR<|rT ?_
         refine eBo trivial ?_
         first | rfl | (obtain ⟨z1,z2⟩ := appB_no (x := ⟨wa,wb,wc,wl,wh,wi⟩) (e := ev) (by simpa using h3);first | (rw [z2];rfl) | (simp [z1,zeroBook,rowsOf] at h9;done)) | (exfalso;simp [bookOk_appB hc0] at h9;done) | (exfalso;obtain ⟨q1,q2,-,-⟩ := appP_next hc0 (by simpa using h6);have q3 := post_ok hc0 (by simpa using h6);simp only at q1 q2;first | (simp [q1] at h9;done) | (simp [q3] at h9;done) | (simp [q2] at h9;done)) | (exfalso;obtain ⟨s1,s2⟩ := sizes hc0 (List.getElem_mem hk);first | (have s3 := s1 dk (hyk (by assumption)).1 (hyk (by assumption)).2;simp [s3] at h9;done) | (rcases s2 with r | ⟨r1,r2⟩ <;> first | exact hnk (by simp_all) (bookOk_appB hc0) r | (simp [r1] at h9;done) | (simp [r2] at h9;done))) | (trace_state;sorry)
        ·intro h9
         refine aK<|gT<|aS<|sL<|lf 3 ty.F27_3 Z<|loL ty.kd23 Z<|lnI ty.sl23 Z<|lmI Z<|nG<|aB ?_
         refine aW [2,4,5,80,81] [21,22,23,24,2003,2004,2005,2006,2008,2009] (D := Nat) (fun k => [(82,int (k : Int))]) (fun k => []) (fun k => k ≤ wl.length) (fun k => wl.length - k) (0) (Nat.zero_le _) ⟨rfl,trivial⟩ trivial ?_
         intro k hI
         refine sL<|lbB Z<|nG<|aS ?_
         refine AW.cond rfl ?_ ?_
         ·intro h10
          refine aK<|gT<|aS<|aB<|sL ?_
          have hk : k < wl.length := by simpa [length_rowsOf] using h10
          refine li k ty.el23 Z (row_map hk)<|lrX (.agg [vI _ _,vI _ _,vI _ _,vI _ _,vI _ _,vI _ _,vI _ _]) ty.kd40 Z<|lst (zA 2012 ty.ze40 Z) Z<|lT [2,4,5,12,80,81,82,85] [21,22,23,24,2003,2004,2005,2006,2008,2009,2012] ?_
          refine lst (zB 2012 ty.co40 ty.inf40 Z) Z<|nA<|loX (.agg [vI _ _,vI _ _,vI _ _,vL _ _ _,vL _ _ _,vL _ _ _]) ty.kd27 Z<|lf 0 ty.F40_0 Z<|loI ty.kd3 Z ?_
          refine lX [] [] [] Tryz.func13 (pick_e (appB ⟨wa,wb,wc,wl,wh,wi⟩ ev) wl[k].id hwA) (trivial) (fun _ _ _ => trivial) Z ?_
          intro xz2 oz2 hz2
          obtain ⟨rfl,dk,ok,rfl,hyk,hnk⟩ := hz2
          refine lmX (.tup [.agg [vI _ _,vI _ _,vI _ _,vI _ _,vI _ _,vI _ _,vI _ _],vB _]) Z<|lxX (.agg [vI _ _,vI _ _,vI _ _,vI _ _,vI _ _,vI _ _,vI _ _]) Z<|lxB Z<|lst (zA 2013 ty.ze40 Z) Z<|lst (zB 2013 ty.co40 ty.inf40 Z) Z<|laB Z<|nA<|lmB Z<|lmB Z ?_
          refine AL.bool (t := 94) rfl ?_ ?_
          ·intro h11
           refine lf 1 ty.F40_1 Z<|loI ty.kd3 Z<|lf 1 ty.F40_1 Z<|loI ty.kd3 Z<|lbB Z<|lkB Z<|lmB Z ?_
           refine AL.bool (t := 101) rfl ?_ ?_
           ·intro h12
            refine lno Z<|lno Z<|lno Z<|lno Z<|lno Z<|lno Z<|lno Z<|lno Z<|lno Z<|lno Z<|lno Z<|lno Z<|lno Z<|lno Z<|lkT Z<|nG<|aY Z<|sL<|laZ Z<|nG<|aR<|rB<|rT<|rT<|rB<|rT ?_
            refine eBo trivial ?_
            first | rfl | (obtain ⟨z1,z2⟩ := appB_no (x := ⟨wa,wb,wc,wl,wh,wi⟩) (e := ev) (by simpa using h3);first | (rw [z2];rfl) | (simp [z1,zeroBook,rowsOf] at h12;done)) | (exfalso;simp [bookOk_appB hc0] at h12;done) | (exfalso;obtain ⟨q1,q2,-,-⟩ := appP_next hc0 (by simpa using h6);have q3 := post_ok hc0 (by simpa using h6);simp only at q1 q2;first | (simp [q1] at h12;done) | (simp [q3] at h12;done) | (simp [q2] at h12;done)) | (exfalso;obtain ⟨s1,s2⟩ := sizes hc0 (List.getElem_mem hk);first | (have s3 := s1 dk (hyk (by assumption)).1 (hyk (by assumption)).2;simp [s3] at h12;done) | (rcases s2 with r | ⟨r1,r2⟩ <;> first | exact hnk (by simp_all) (bookOk_appB hc0) r | (simp [r1] at h12;done) | (simp [r2] at h12;done))) | (trace_state;sorry)
           ·intro h12
            refine lmB Z<|luB Z<|lmB Z ?_
            refine AL.bool (t := 104) rfl ?_ ?_
            ·intro h13
             refine lf 0 ty.F29_0 Z<|loI ty.kd3 Z<|lbB Z<|lmB Z ?_
             refine AL.bool (t := 108) rfl ?_ ?_
             ·intro h14
              refine lno Z<|lno Z<|lno Z<|lno Z<|lno Z<|lkT Z<|lT [2,4,5,80,81,82,101,104,114] [21,22,23,24,2003,2004,2005,2006,2008,2009,2012,2013] ?_
              refine lkT Z<|lkT Z<|nG<|aY Z<|sL<|laZ Z<|nG<|aR<|rB<|rT<|rT<|rB<|rT ?_
              refine eBo trivial ?_
              first | rfl | (obtain ⟨z1,z2⟩ := appB_no (x := ⟨wa,wb,wc,wl,wh,wi⟩) (e := ev) (by simpa using h3);first | (rw [z2];rfl) | (simp [z1,zeroBook,rowsOf] at h14;done)) | (exfalso;simp [bookOk_appB hc0] at h14;done) | (exfalso;obtain ⟨q1,q2,-,-⟩ := appP_next hc0 (by simpa using h6);have q3 := post_ok hc0 (by simpa using h6);simp only at q1 q2;first | (simp [q1] at h14;done) | (simp [q3] at h14;done) | (simp [q2] at h14;done)) | (exfalso;obtain ⟨s1,s2⟩ := sizes hc0 (List.getElem_mem hk);first | (have s3 := s1 dk (hyk (by assumption)).1 (hyk (by assumption)).2;simp [s3] at h14;done) | (rcases s2 with r | ⟨r1,r2⟩ <;> first | exact hnk (by simp_all) (bookOk_appB hc0) r | (simp [r1] at h14;done) | (simp [r2] at h14;done))) | (trace_state;sorry)
             ·intro h14
              refine lf 2 ty.F29_2 Z<|loI ty.kd3 Z<|lf 0 ty.F40_0 Z<|loI ty.kd3 Z<|lbB Z<|lkB Z<|lkB Z<|lkB Z<|nG ?_
              refine AW.cond rfl ?_ ?_
              ·intro h15
               refine sL<|laZ Z<|nG<|aR<|rB<|rT<|rT<|rB<|rT ?_
               refine eBo trivial ?_
               first | rfl | (obtain ⟨z1,z2⟩ := appB_no (x := ⟨wa,wb,wc,wl,wh,wi⟩) (e := ev) (by simpa using h3);first | (rw [z2];rfl) | (simp [z1,zeroBook,rowsOf] at h15;done)) | (exfalso;simp [bookOk_appB hc0] at h15;done) | (exfalso;obtain ⟨q1,q2,-,-⟩ := appP_next hc0 (by simpa using h6);have q3 := post_ok hc0 (by simpa using h6);simp only at q1 q2;first | (simp [q1] at h15;done) | (simp [q3] at h15;done) | (simp [q2] at h15;done)) | (exfalso;obtain ⟨s1,s2⟩ := sizes hc0 (List.getElem_mem hk);first | (have s3 := s1 dk (hyk (by assumption)).1 (hyk (by assumption)).2;simp [s3] at h15;done) | (rcases s2 with r | ⟨r1,r2⟩ <;> first | exact hnk (by simp_all) (bookOk_appB hc0) r | (simp [r1] at h15;done) | (simp [r2] at h15;done))) | (trace_state;sorry)
              ·intro h15
               refine aK<|gB<|gT<|aL<|lgI Z<|lmI Z<|nG ?_
               refine ⟨k + 1,hk,by omega,⟨(iq rfl),trivial⟩,trivial,rfl,rfl⟩
            ·intro h13
             refine lno Z<|lno Z<|lno Z<|lno Z<|lno Z<|lno Z<|lno Z<|lno Z<|lno Z<|lno Z<|lkZ Z<|lkZ Z<|nG<|aN Z<|aK<|gB<|gT<|aL<|lgI Z<|lmI Z<|nG ?_
             refine ⟨k + 1,hk,by omega,⟨(iq rfl),trivial⟩,trivial,rfl,rfl⟩
          ·intro h11
           refine lno Z<|lno Z<|lno Z<|lno Z<|lno Z<|lkZ Z<|lmZ Z<|lmB Z<|luB Z<|lmB Z ?_
           refine AL.bool (t := 104) rfl ?_ ?_
           ·intro h16
            refine lf 0 ty.F29_0 Z<|loI ty.kd3 Z<|lbB Z<|lmB Z ?_
            refine AL.bool (t := 108) rfl ?_ ?_
            ·intro h17
             refine lno Z<|lno Z<|lno Z<|lno Z<|lno Z<|lkT Z<|lkT Z<|lkT Z<|lT [2,4,5,80,81,82,116] [21,22,23,24,2003,2004,2005,2006,2008,2009,2012,2013] ?_
             refine nG<|aY Z<|sL<|laZ Z<|nG<|aR<|rB<|rT<|rT<|rB<|rT ?_
             refine eBo trivial ?_
             first | rfl | (obtain ⟨z1,z2⟩ := appB_no (x := ⟨wa,wb,wc,wl,wh,wi⟩) (e := ev) (by simpa using h3);first | (rw [z2];rfl) | (simp [z1,zeroBook,rowsOf] at h17;done)) | (exfalso;simp [bookOk_appB hc0] at h17;done) | (exfalso;obtain ⟨q1,q2,-,-⟩ := appP_next hc0 (by simpa using h6);have q3 := post_ok hc0 (by simpa using h6);simp only at q1 q2;first | (simp [q1] at h17;done) | (simp [q3] at h17;done) | (simp [q2] at h17;done)) | (exfalso;obtain ⟨s1,s2⟩ := sizes hc0 (List.getElem_mem hk);first | (have s3 := s1 dk (hyk (by assumption)).1 (hyk (by assumption)).2;simp [s3] at h17;done) | (rcases s2 with r | ⟨r1,r2⟩ <;> first | exact hnk (by simp_all) (bookOk_appB hc0) r | (simp [r1] at h17;done) | (simp [r2] at h17;done))) | (trace_state;sorry)
            ·intro h17
             refine lf 2 ty.F29_2 Z<|loI ty.kd3 Z<|lf 0 ty.F40_0 Z<|loI ty.kd3 Z<|lbB Z<|lkB Z<|lkB Z<|lkB Z<|nG ?_
             refine AW.cond rfl ?_ ?_
             ·intro h18
              refine sL<|laZ Z<|nG<|aR<|rB<|rT<|rT<|rB<|rT ?_
              refine eBo trivial ?_
              first | rfl | (obtain ⟨z1,z2⟩ := appB_no (x := ⟨wa,wb,wc,wl,wh,wi⟩) (e := ev) (by simpa using h3);first | (rw [z2];rfl) | (simp [z1,zeroBook,rowsOf] at h18;done)) | (exfalso;simp [bookOk_appB hc0] at h18;done) | (exfalso;obtain ⟨q1,q2,-,-⟩ := appP_next hc0 (by simpa using h6);have q3 := post_ok hc0 (by simpa using h6);simp only at q1 q2;first | (simp [q1] at h18;done) | (simp [q3] at h18;done) | (simp [q2] at h18;done)) | (exfalso;obtain ⟨s1,s2⟩ := sizes hc0 (List.getElem_mem hk);first | (have s3 := s1 dk (hyk (by assumption)).1 (hyk (by assumption)).2;simp [s3] at h18;done) | (rcases s2 with r | ⟨r1,r2⟩ <;> first | exact hnk (by simp_all) (bookOk_appB hc0) r | (simp [r1] at h18;done) | (simp [r2] at h18;done))) | (trace_state;sorry)
             ·intro h18
              refine aK<|gB<|gT<|aL<|lgI Z<|lmI Z<|nG ?_
              refine ⟨k + 1,hk,by omega,⟨(iq rfl),trivial⟩,trivial,rfl,rfl⟩
           ·intro h16
            refine lno Z<|lno Z<|lno Z<|lno Z<|lno Z<|lno Z<|lno Z<|lno Z<|lno Z<|lno Z<|lkZ Z<|lkZ Z<|nG<|aN Z<|aK<|gB<|gT<|aL<|lgI Z<|lmI Z<|nG ?_
            refine ⟨k + 1,hk,by omega,⟨(iq rfl),trivial⟩,trivial,rfl,rfl⟩
         ·intro h10
          refine aE<|eT<|eT<|eB<|gA<|laT Z<|nG<|aR ?_
          refine eBo trivial ?_
          first | rfl | (obtain ⟨z1,z2⟩ := appB_no (x := ⟨wa,wb,wc,wl,wh,wi⟩) (e := ev) (by simpa using h3);first | (rw [z2];rfl) | (simp [z1,zeroBook,rowsOf] at h10;done)) | (exfalso;simp [bookOk_appB hc0] at h10;done) | (exfalso;obtain ⟨q1,q2,-,-⟩ := appP_next hc0 (by simpa using h6);have q3 := post_ok hc0 (by simpa using h6);simp only at q1 q2;first | (simp [q1] at h10;done) | (simp [q3] at h10;done) | (simp [q2] at h10;done)) | (exfalso;obtain ⟨s1,s2⟩ := sizes hc0 (List.getElem_mem hk);first | (have s3 := s1 dk (hyk (by assumption)).1 (hyk (by assumption)).2;simp [s3] at h10;done) | (rcases s2 with r | ⟨r1,r2⟩ <;> first | exact hnk (by simp_all) (bookOk_appB hc0) r | (simp [r1] at h10;done) | (simp [r2] at h10;done))) | (trace_state;sorry)
     ·intro h6
      refine lno Z<|lno Z<|lno Z<|lno Z<|lno Z<|lno Z<|lno Z<|lno Z<|lno Z<|lno Z<|lno Z<|lno Z<|lno Z<|lno Z<|lno Z<|lno Z<|lno Z<|lno Z<|lkZ Z<|lkZ Z<|nG<|aN Z<|aK<|gT<|aS<|sL<|lf 3 ty.F27_3 Z<|loL ty.kd23 Z ?_
      refine lnI ty.sl23 Z<|lmI Z<|nG<|aB ?_
      refine aW [2,4,5,80,81] [21,22,23,24,2003,2004,2005,2006,2008,2009] (D := Nat) (fun k => [(82,int (k : Int))]) (fun k => []) (fun k => k ≤ wl.length) (fun k => wl.length - k) (0) (Nat.zero_le _) ⟨rfl,trivial⟩ trivial ?_
      intro k hI
      refine sL<|lbB Z<|nG<|aS ?_
      refine AW.cond rfl ?_ ?_
      ·intro h19
       refine aK<|gT<|aS<|aB<|sL ?_
       have hk : k < wl.length := by simpa [length_rowsOf] using h19
       refine li k ty.el23 Z (row_map hk)<|lrX (.agg [vI _ _,vI _ _,vI _ _,vI _ _,vI _ _,vI _ _,vI _ _]) ty.kd40 Z<|lst (zA 2012 ty.ze40 Z) Z<|lT [2,4,5,12,80,81,82,85] [21,22,23,24,2003,2004,2005,2006,2008,2009,2012] ?_
       refine lst (zB 2012 ty.co40 ty.inf40 Z) Z<|nA<|loX (.agg [vI _ _,vI _ _,vI _ _,vL _ _ _,vL _ _ _,vL _ _ _]) ty.kd27 Z<|lf 0 ty.F40_0 Z<|loI ty.kd3 Z ?_
       refine lX [] [] [] Tryz.func13 (pick_e (appB ⟨wa,wb,wc,wl,wh,wi⟩ ev) wl[k].id hwA) (trivial) (fun _ _ _ => trivial) Z ?_
       intro xz3 oz3 hz3
       obtain ⟨rfl,dk,ok,rfl,hyk,hnk⟩ := hz3
       refine lmX (.tup [.agg [vI _ _,vI _ _,vI _ _,vI _ _,vI _ _,vI _ _,vI _ _],vB _]) Z<|lxX (.agg [vI _ _,vI _ _,vI _ _,vI _ _,vI _ _,vI _ _,vI _ _]) Z<|lxB Z<|lst (zA 2013 ty.ze40 Z) Z<|lst (zB 2013 ty.co40 ty.inf40 Z) Z<|laB Z<|nA<|lmB Z<|lmB Z ?_
       refine AL.bool (t := 94) rfl ?_ ?_
       ·intro h20
        refine lf 1 ty.F40_1 Z<|loI ty.kd3 Z<|lf 1 ty.F40_1 Z<|loI ty.kd3 Z<|lbB Z<|lkB Z<|lmB Z ?_
        refine AL.bool (t := 101) rfl ?_ ?_
        ·intro h21
         refine lno Z<|lno Z<|lno Z<|lno Z<|lno Z<|lno Z<|lno Z<|lno Z<|lno Z<|lno Z<|lno Z<|lno Z<|lno Z<|lno Z<|lkT Z<|nG<|aY Z<|sL<|laZ Z<|nG<|aR<|rB<|rT<|rT<|rB<|rT ?_
         refine eBo trivial ?_
         first | rfl | (obtain ⟨z1,z2⟩ := appB_no (x := ⟨wa,wb,wc,wl,wh,wi⟩) (e := ev) (by simpa using h3);first | (rw [z2];rfl) | (simp [z1,zeroBook,rowsOf] at h21;done)) | (exfalso;simp [bookOk_appB hc0] at h21;done) | (exfalso;obtain ⟨q1,q2,-,-⟩ := appP_next hc0 (by simpa using h6);have q3 := post_ok hc0 (by simpa using h6);simp only at q1 q2;first | (simp [q1] at h21;done) | (simp [q3] at h21;done) | (simp [q2] at h21;done)) | (exfalso;obtain ⟨s1,s2⟩ := sizes hc0 (List.getElem_mem hk);first | (have s3 := s1 dk (hyk (by assumption)).1 (hyk (by assumption)).2;simp [s3] at h21;done) | (rcases s2 with r | ⟨r1,r2⟩ <;> first | exact hnk (by simp_all) (bookOk_appB hc0) r | (simp [r1] at h21;done) | (simp [r2] at h21;done))) | (trace_state;sorry)
        ·intro h21
         refine lmB Z<|luB Z<|lmB Z ?_
         refine AL.bool (t := 104) rfl ?_ ?_
         ·intro h22
          refine lf 0 ty.F29_0 Z<|loI ty.kd3 Z<|lbB Z<|lmB Z ?_
          refine AL.bool (t := 108) rfl ?_ ?_
          ·intro h23
           refine lno Z<|lno Z<|lno Z<|lno Z<|lno Z<|lkT Z<|lT [2,4,5,80,81,82,101,104,114] [21,22,23,24,2003,2004,2005,2006,2008,2009,2012,2013] ?_
           refine lkT Z<|lkT Z<|nG<|aY Z<|sL<|laZ Z<|nG<|aR<|rB<|rT<|rT<|rB<|rT ?_
           refine eBo trivial ?_
           first | rfl | (obtain ⟨z1,z2⟩ := appB_no (x := ⟨wa,wb,wc,wl,wh,wi⟩) (e := ev) (by simpa using h3);first | (rw [z2];rfl) | (simp [z1,zeroBook,rowsOf] at h23;done)) | (exfalso;simp [bookOk_appB hc0] at h23;done) | (exfalso;obtain ⟨q1,q2,-,-⟩ := appP_next hc0 (by simpa using h6);have q3 := post_ok hc0 (by simpa using h6);simp only at q1 q2;first | (simp [q1] at h23;done) | (simp [q3] at h23;done) | (simp [q2] at h23;done)) | (exfalso;obtain ⟨s1,s2⟩ := sizes hc0 (List.getElem_mem hk);first | (have s3 := s1 dk (hyk (by assumption)).1 (hyk (by assumption)).2;simp [s3] at h23;done) | (rcases s2 with r | ⟨r1,r2⟩ <;> first | exact hnk (by simp_all) (bookOk_appB hc0) r | (simp [r1] at h23;done) | (simp [r2] at h23;done))) | (trace_state;sorry)
          ·intro h23
           refine lf 2 ty.F29_2 Z<|loI ty.kd3 Z<|lf 0 ty.F40_0 Z<|loI ty.kd3 Z<|lbB Z<|lkB Z<|lkB Z<|lkB Z<|nG ?_
           refine AW.cond rfl ?_ ?_
           ·intro h24
            refine sL<|laZ Z<|nG<|aR<|rB<|rT<|rT<|rB<|rT ?_
            refine eBo trivial ?_
            first | rfl | (obtain ⟨z1,z2⟩ := appB_no (x := ⟨wa,wb,wc,wl,wh,wi⟩) (e := ev) (by simpa using h3);first | (rw [z2];rfl) | (simp [z1,zeroBook,rowsOf] at h24;done)) | (exfalso;simp [bookOk_appB hc0] at h24;done) | (exfalso;obtain ⟨q1,q2,-,-⟩ := appP_next hc0 (by simpa using h6);have q3 := post_ok hc0 (by simpa using h6);simp only at q1 q2;first | (simp [q1] at h24;done) | (simp [q3] at h24;done) | (simp [q2] at h24;done)) | (exfalso;obtain ⟨s1,s2⟩ := sizes hc0 (List.getElem_mem hk);first | (have s3 := s1 dk (hyk (by assumption)).1 (hyk (by assumption)).2;simp [s3] at h24;done) | (rcases s2 with r | ⟨r1,r2⟩ <;> first | exact hnk (by simp_all) (bookOk_appB hc0) r | (simp [r1] at h24;done) | (simp [r2] at h24;done))) | (trace_state;sorry)
           ·intro h24
            refine aK<|gB<|gT<|aL<|lgI Z<|lmI Z<|nG ?_
            refine ⟨k + 1,hk,by omega,⟨(iq rfl),trivial⟩,trivial,rfl,rfl⟩
         ·intro h22
          refine lno Z<|lno Z<|lno Z<|lno Z<|lno Z<|lno Z<|lno Z<|lno Z<|lno Z<|lno Z<|lkZ Z<|lkZ Z<|nG<|aN Z<|aK<|gB<|gT<|aL<|lgI Z<|lmI Z<|nG ?_
          refine ⟨k + 1,hk,by omega,⟨(iq rfl),trivial⟩,trivial,rfl,rfl⟩
       ·intro h20
        refine lno Z<|lno Z<|lno Z<|lno Z<|lno Z<|lkZ Z<|lmZ Z<|lmB Z<|luB Z<|lmB Z ?_
        refine AL.bool (t := 104) rfl ?_ ?_
        ·intro h25
         refine lf 0 ty.F29_0 Z<|loI ty.kd3 Z<|lbB Z<|lmB Z ?_
         refine AL.bool (t := 108) rfl ?_ ?_
         ·intro h26
          refine lno Z<|lno Z<|lno Z<|lno Z<|lno Z<|lkT Z<|lkT Z<|lkT Z<|lT [2,4,5,80,81,82,116] [21,22,23,24,2003,2004,2005,2006,2008,2009,2012,2013] ?_
          refine nG<|aY Z<|sL<|laZ Z<|nG<|aR<|rB<|rT<|rT<|rB<|rT ?_
          refine eBo trivial ?_
          first | rfl | (obtain ⟨z1,z2⟩ := appB_no (x := ⟨wa,wb,wc,wl,wh,wi⟩) (e := ev) (by simpa using h3);first | (rw [z2];rfl) | (simp [z1,zeroBook,rowsOf] at h26;done)) | (exfalso;simp [bookOk_appB hc0] at h26;done) | (exfalso;obtain ⟨q1,q2,-,-⟩ := appP_next hc0 (by simpa using h6);have q3 := post_ok hc0 (by simpa using h6);simp only at q1 q2;first | (simp [q1] at h26;done) | (simp [q3] at h26;done) | (simp [q2] at h26;done)) | (exfalso;obtain ⟨s1,s2⟩ := sizes hc0 (List.getElem_mem hk);first | (have s3 := s1 dk (hyk (by assumption)).1 (hyk (by assumption)).2;simp [s3] at h26;done) | (rcases s2 with r | ⟨r1,r2⟩ <;> first | exact hnk (by simp_all) (bookOk_appB hc0) r | (simp [r1] at h26;done) | (simp [r2] at h26;done))) | (trace_state;sorry)
         ·intro h26
          refine lf 2 ty.F29_2 Z<|loI ty.kd3 Z<|lf 0 ty.F40_0 Z<|loI ty.kd3 Z<|lbB Z<|lkB Z<|lkB Z<|lkB Z<|nG ?_
          refine AW.cond rfl ?_ ?_
          ·intro h27
           refine sL<|laZ Z<|nG<|aR<|rB<|rT<|rT<|rB<|rT ?_
           refine eBo trivial ?_
           first | rfl | (obtain ⟨z1,z2⟩ := appB_no (x := ⟨wa,wb,wc,wl,wh,wi⟩) (e := ev) (by simpa using h3);first | (rw [z2];rfl) | (simp [z1,zeroBook,rowsOf] at h27;done)) | (exfalso;simp [bookOk_appB hc0] at h27;done) | (exfalso;obtain ⟨q1,q2,-,-⟩ := appP_next hc0 (by simpa using h6);have q3 := post_ok hc0 (by simpa using h6);simp only at q1 q2;first | (simp [q1] at h27;done) | (simp [q3] at h27;done) | (simp [q2] at h27;done)) | (exfalso;obtain ⟨s1,s2⟩ := sizes hc0 (List.getElem_mem hk);first | (have s3 := s1 dk (hyk (by assumption)).1 (hyk (by assumption)).2;simp [s3] at h27;done) | (rcases s2 with r | ⟨r1,r2⟩ <;> first | exact hnk (by simp_all) (bookOk_appB hc0) r | (simp [r1] at h27;done) | (simp [r2] at h27;done))) | (trace_state;sorry)
          ·intro h27
           refine aK<|gB<|gT<|aL<|lgI Z<|lmI Z<|nG ?_
           refine ⟨k + 1,hk,by omega,⟨(iq rfl),trivial⟩,trivial,rfl,rfl⟩
        ·intro h25
         refine lno Z<|lno Z<|lno Z<|lno Z<|lno Z<|lno Z<|lno Z<|lno Z<|lno Z<|lno Z<|lkZ Z<|lkZ Z<|nG<|aN Z<|aK<|gB<|gT<|aL<|lgI Z<|lmI Z<|nG ?_
         refine ⟨k + 1,hk,by omega,⟨(iq rfl),trivial⟩,trivial,rfl,rfl⟩
      ·intro h19
       refine aE<|eT<|eT<|eB<|gA<|laT Z<|nG<|aR ?_
       refine eBo trivial ?_
       first | rfl | (obtain ⟨z1,z2⟩ := appB_no (x := ⟨wa,wb,wc,wl,wh,wi⟩) (e := ev) (by simpa using h3);first | (rw [z2];rfl) | (simp [z1,zeroBook,rowsOf] at h19;done)) | (exfalso;simp [bookOk_appB hc0] at h19;done) | (exfalso;obtain ⟨q1,q2,-,-⟩ := appP_next hc0 (by simpa using h6);have q3 := post_ok hc0 (by simpa using h6);simp only at q1 q2;first | (simp [q1] at h19;done) | (simp [q3] at h19;done) | (simp [q2] at h19;done)) | (exfalso;obtain ⟨s1,s2⟩ := sizes hc0 (List.getElem_mem hk);first | (have s3 := s1 dk (hyk (by assumption)).1 (hyk (by assumption)).2;simp [s3] at h19;done) | (rcases s2 with r | ⟨r1,r2⟩ <;> first | exact hnk (by simp_all) (bookOk_appB hc0) r | (simp [r1] at h19;done) | (simp [r2] at h19;done))) | (trace_state;sorry)

theorem FnSizes_walk (l : List Int) (a : Option Addr) (c : Nat) (w : World) (h0 : SlR 1 repByte w 0 w.heap.size (.slice a l.length c) l) :
    Calls Tryz.prog 3 #[.slice a l.length c] w fun r w' => r = .returned (.bool true) ∧ Grow w w' :=
  GC.calls (cs := [_]) rfl (fnSizes_e l) (by
    simp only [RVL]
    exact ⟨_,_,rfl,RV.of_slr (enc := encU8) h0 (fun _ _ h => h.1) (fun _ => rfl) (by intro c u hu;simp [encU8] at hu;subst hu;rfl) (Nat.le_refl _) (fun _ _ _ => no_live),rfl⟩)
end Go.Proofs.YtogkbcmfoalpiaaGreat

namespace Go.Proofs.YtogkbcmfoalpiaaGreat.fnSizes
open Go.ChangeShapes Go.WideShapes Go.ChangeAt Go.RowKit Go.Proofs.YtogkbcmfoalpiaaGreat
set_option maxHeartbeats 16000000
set_option maxRecDepth 100000
set_option linter.unusedVariables false
theorem own : ownKnob Tryz.prog.godebug = none := by kernel_rfl
theorem laid : laidOutB Tryz.prog = true := by kernel_rfl
theorem readable : ∀ t ∈ [22],Tryz.prog.readableRec t = true ∧ t < Tryz.prog.types.size := by
  intro t ht
  simp only [List.mem_cons,List.not_mem_nil,or_false] at ht
  rcases ht with rfl
  all_goals exact ⟨by kernel_rfl,of_decide_eq_true (by kernel_rfl)⟩
theorem lifted (os : Os) (started : os.Started) (H : Type) (enc : TypeId × Value → H) :
    ReturnsInHanded {} Tryz.checked os 3 .any (Rows.fnSizesSpec.pre6 enc Tryz.prog Tryz.f3 Rows.fnSizesRow.domain false) (Rows.fnSizesSpec.post enc Tryz.prog Tryz.f3 false true false false) := by
  refine returnsInHanded_of_change (C := Tryz.checked) own started (by kernel_rfl) Tryz.func3
    (ChangeSpec.witness6 (enc := enc) (C := Tryz.checked) false ⟨#[],#[.slice none 0 0],[]⟩ 8 (by kernel_rfl) (by kernel_rfl) (by kernel_rfl) (by kernel_rfl)) ?_
  intro W base args ds gs before hval0 hW hcnd _
  have hval : ∀ (j : Nat) t v,Tryz.f3.params[j]? = some t → args[j]? = some v → Value.okWide Tryz.prog W .any base t v := hval0
  have hW' := hW
  obtain ⟨p,q,hA0,hV,rfl,hfz,hnd⟩ := hW
  have hA : DataW.TrodAll enc Tryz.prog W 0 (fun _ => true) true Tryz.f3.params.toList args.toList ds p := hA0
  rw [Tryz.params3] at hA hval
  have hB := hA
  obtain ⟨v0,vs0,d0,ds0,p0,q0,hargs,rfl,rfl,h0,r0⟩ := trodAll_cons hA
  obtain ⟨rfl,rfl,rfl⟩ := trodAll_nil r0
  obtain rfl : args = #[v0] := by cases args;simp_all
  obtain ⟨rfl,rfl⟩ := trodVars_none hV
  obtain ⟨a0,l0,c0,rfl⟩ := okWide_slice Tryz.underlying22 (hval 0 22 v0 rfl rfl)
  obtain ⟨fu0,t0⟩ := h0
  obtain ⟨x0,s0⟩ := SlR.of_trod (rep := repByte) Tryz.underlying22 cellsByte (by decide) (fun _ _ _ h => trodByte h) t0
  obtain rfl : l0 = x0.length := by obtain ⟨_,_,he,_⟩ := s0;injection he
  clear hA0 hval0
  simp only [List.append_nil] at hW'
  refine (FnSizes_walk x0 a0 c0 W s0).mono fun e W' ⟨he,hg⟩ => ?_
  subst he
  exact ⟨_,rfl,_,_,_,_,_,[],hW',trodAll_mk1 (shut_bool Tryz.underlying4 true),
    trodAll_below laid hg.below (readable) hB,rfl,hg.below.frame _,fun h => by cases h⟩
theorem over : Rows.fnSizesRow.holds Tryz.pinned (OpenSpec.ofChange Rows.fnSizesSpec) :=
  OpenClaim.holds_of_wide 3 Tryz.f3 rfl rfl rfl rfl rfl rfl rfl ⟨rfl,rfl,rfl,rfl,rfl⟩ rfl rfl rfl rfl rfl (by kernel_rfl) Tryz.func3 (by kernel_rfl)
    (of_decide_eq_true (by kernel_rfl)) (by unfold Func.isWrapper;first | (rw [if_pos (by decide +kernel)];kernel_rfl) | (rw [if_neg (by decide +kernel)];exact ⟨rfl,rfl⟩))
    (fun os started H enc _ => lifted os started H enc)
theorem proved : Rows.FnSizesSaid :=
  over
#print axioms proved
end Go.Proofs.YtogkbcmfoalpiaaGreat.fnSizes

