/- Texts of the proof of FnExactApplyAll, joined: EA3, EA4, EA5, EA6, EA7. -/
import Derived.Test.YtohobndkbmpfcaaGreatJExactApplyAll2
import Derived.Test.YtohobndkbmpfcaaGreatKAllowI
import Derived.Test.YtohobndkbmpfcaaGreatKAllowS
import Derived.Test.YtohobndkbmpfcaaGreatKScore1
namespace Go.Proofs.YtohobndkbmpfcaaGreat
open Go.RowKit
set_option maxHeartbeats 16000000
set_option maxRecDepth 100000
set_option linter.unusedSimpArgs false
set_option linter.unusedVariables false
def atI {α : Type} (p : α → Bool) (l : List α) : Int := match l.findIdx? p with | some i => (i : Int) | none => -1
theorem atI_at {α : Type} {p : α → Bool} {l : List α} {k : Nat} (hk : k < l.length) (h : ∀ j (h : j < l.length),j < k → p l[j] = false) (h2 : p l[k] = true) : atI p l = (k : Int) := by
  unfold atI
  rw [List.findIdx?_eq_some_iff_getElem.2 ⟨hk,h2,fun j hj => by simp [h j (by omega) hj]⟩]
theorem atI_no {α : Type} {p : α → Bool} {l : List α} (h : ∀ j (h : j < l.length),p l[j] = false) : atI p l = -1 := by
  unfold atI
  rw [List.findIdx?_eq_none_iff.2 (fun x hx => by
    obtain ⟨j,hj,rfl⟩ := List.getElem_of_mem hx
    exact h j hj)]
theorem atI_cases {α : Type} (p : α → Bool) (l : List α) : atI p l = -1 ∨ ∃ k,∃ h : k < l.length,atI p l = (k : Int) ∧ p l[k] = true := by
  unfold atI
  cases h : l.findIdx? p with
  | none => exact .inl rfl
  | some i =>
    obtain ⟨h1,h2,_⟩ := List.findIdx?_eq_some_iff_getElem.1 h
    exact .inr ⟨i,h1,rfl,by simpa using h2⟩
theorem all_succ {α : Type} {p : α → Bool} {l : List α} {k : Nat} (hk : k < l.length) (h : ∀ j (h : j < l.length),j < k → p l[j] = false) (h2 : p l[k] = false) : ∀ j (h : j < l.length),j < k + 1 → p l[j] = false := fun j hj hlt => by
  rcases Nat.lt_or_ge j k with q | q
  · exact h j hj q
  · have : j = k := by omega
    subst this;exact h2
theorem any_no {α : Type} {p : α → Bool} {l : List α} (h : ∀ j (h : j < l.length),p l[j] = false) : l.any p = false := by
  rw [List.any_eq_false]
  intro x hx
  obtain ⟨j,hj,rfl⟩ := List.getElem_of_mem hx
  simp [h j hj]
theorem any_yes {α : Type} {p : α → Bool} {l : List α} {k : Nat} (hk : k < l.length) (h : p l[k] = true) : l.any p = true := List.any_eq_true.2 ⟨_,List.getElem_mem hk,h⟩
def htlcAt (l : List Htlc) (key : Int) : Int := atI (fun h => h.key == key) l
def circleAt (l : List Circle) (key : Int) : Int := atI (fun h => h.key == key) l
theorem chanAt_atI (l : List Chan) (ch : Int) : chanAt l ch = atI (fun c => c.id == ch) l := rfl
def hUses (ch : Int) (h : Htlc) : Bool := h.inn == ch || h.out == ch
def cUses (ch : Int) (c : Circle) : Bool := c.frm == ch || c.to == ch
def usedB (x : Book) (ch : Int) : Bool := x.htlcs.any (hUses ch) || x.circles.any (cUses ch)
def knownB (x : Book) (key : Int) : Bool := decide (0 ≤ htlcAt x.htlcs key) || decide (0 ≤ circleAt x.circles key)
def hFew (ch : Int) (h : Htlc) : Int := if h.out = ch ∧ h.kept = false then h.amtOut else 0
def hOne (ch : Int) (h : Htlc) : Int := if h.out = ch then 1 else 0
def hOneF (ch : Int) (h : Htlc) : Int := if h.out = ch ∧ h.kept = false then 1 else 0
def standing (n : Int) (g : Bool) : Bool := scoreOk n && decide (20 ≤ n) && g
def roomV (l : List Htlc) (frm to : Chan) (ch amt : Int) (yes : Bool) : Int := allow to.size (tot (hFew ch) l) (tot (hOut ch) l) (tot (hOneF ch) l) (tot (hOne ch) l) amt (standing frm.score yes)
def clampV (n lo hi : Int) : Int := if n < lo then lo else if hi < n then hi else n
def SmallH (l : List Htlc) : Prop := l.length ≤ 60 ∧ ∀ h ∈ l,0 ≤ h.amtOut ∧ h.amtOut ≤ 1125899906842624
theorem SmallH.at {l : List Htlc} (s : SmallH l) {k : Nat} (hk : k < l.length) : 0 ≤ l[k].amtOut ∧ l[k].amtOut ≤ 1125899906842624 := s.2 _ (List.getElem_mem hk)
theorem SmallH.few {l : List Htlc} (s : SmallH l) (ch : Int) (k : Nat) : 0 ≤ tot (hFew ch) (l.take k) ∧ tot (hFew ch) (l.take k) ≤ 60 * 1125899906842624 := tot_lim 60 (by decide) (fun h hh => by have := s.2 h hh;unfold hFew;split <;> omega) s.1 k
theorem SmallH.all {l : List Htlc} (s : SmallH l) (ch : Int) (k : Nat) : 0 ≤ tot (hOut ch) (l.take k) ∧ tot (hOut ch) (l.take k) ≤ 60 * 1125899906842624 := tot_lim 60 (by decide) (fun h hh => by have := s.2 h hh;unfold hOut;split <;> omega) s.1 k
theorem SmallH.one {l : List Htlc} (s : SmallH l) (ch : Int) (k : Nat) : 0 ≤ tot (hOne ch) (l.take k) ∧ tot (hOne ch) (l.take k) ≤ 60 * 1 := tot_lim 60 (by decide) (fun h hh => by unfold hOne;split <;> omega) s.1 k
theorem SmallH.oneF {l : List Htlc} (s : SmallH l) (ch : Int) (k : Nat) : 0 ≤ tot (hOneF ch) (l.take k) ∧ tot (hOneF ch) (l.take k) ≤ 60 * 1 := tot_lim 60 (by decide) (fun h hh => by unfold hOneF;split <;> omega) s.1 k
theorem tot_skip {α : Type} {f : α → Int} {l : List α} {k : Nat} (hk : k < l.length) (h : f l[k] = 0) : tot f (l.take (k + 1)) = tot f (l.take k) := by rw [tot_succ f l hk,h];omega
theorem tot_add {α : Type} {f : α → Int} {l : List α} {k : Nat} {n : Int} (hk : k < l.length) (h : f l[k] = n) : tot f (l.take k) + n = tot f (l.take (k + 1)) := by rw [tot_succ f l hk,h]
theorem chanAt_e (x : Book) (ch : Int) (hm : x.chans.length ≤ 1000000000) : GC Tryz.prog 102 [bookV x,int ch] [] (int (atI (fun c => c.id == ch) x.chans)) [] := by
 refine gi 4 Tryz.func102 rfl Tryz.ntmps102 rfl ?_
 intro L O w0
 refine sL<|lst (zX 2002 Z) Z<|laI Z<|nG<|aS<|sL<|lf 3 ty.F34_3 Z<|loL ty.kd30 Z<|lnI ty.sl30 Z<|lmI Z<|nG<|aB ?_
 refine AW.loopE [(1,vI _ _),(4,vI _ _),(8,vL _ _ _),(9,vI _ _)] [(2002,.box _ _ [vI _ _,vI _ _,vI _ _,vL _ _ _,vL _ _ _,vL _ _ _])] (D := Nat) (fun k => [(10,int (k : Int))]) (fun k => []) (fun k => k ≤ x.chans.length ∧ ∀ j (h : j < x.chans.length),j < k → (fun c => c.id == ch) x.chans[j] = false) (fun k => x.chans.length - k) (0) (⟨Nat.zero_le _,fun j _ h => absurd h (by omega)⟩) ⟨rfl,trivial⟩ trivial ⟨rfl,rfl,rfl,rfl,trivial⟩ ⟨rfl,trivial⟩ ?_
 intro k hI
 obtain ⟨hkl,hall⟩ := hI
 refine sL<|lbB Z<|nG<|aS ?_
 refine AW.cond rfl ?_ ?_
 ·intro h1
  refine aK<|gT<|aS<|aB<|sL<|lmI Z ?_
  have hk : k < x.chans.length := by simpa [length_rowsOf] using h1
  refine li k ty.el30 Z (row_map hk)<|lrX (.agg [vI _ _,vI _ _,vI _ _,vI _ _,vI _ _,vI _ _,vI _ _]) ty.kd78 Z<|lst (zA 2006 ty.ze78 Z) Z<|laI Z<|lst (zB 2006 ty.co78 ty.inf78 Z) Z<|nA<|lf 0 ty.F78_0 Z<|loI ty.kd3 Z<|lmI Z<|lbB Z<|nG ?_
  refine AW.cond rfl ?_ ?_
  ·intro h2
   refine sL<|lmI Z<|laI Z<|nG<|aR<|rB<|rT<|rT<|rB<|rT ?_
   refine end_ret ?_ trivial
   refine congrArg (fun n => some (int n)) ?_
   exact (atI_at hk hall (by simpa using h2)).symm
  ·intro h2
   refine aK<|gB<|gT<|aL<|lgI Z<|lmI Z<|nG ?_
   refine ⟨k + 1,⟨hk,all_succ (p := (fun c => c.id == ch)) hk hall (by simpa using h2)⟩,by omega,⟨(iq rfl),trivial⟩,trivial,⟨rfl,rfl,rfl,rfl,trivial⟩,⟨rfl,trivial⟩⟩
 ·intro h1
  refine aE<|eT<|eT<|eB<|gA<|laI Z<|nG<|aR ?_
  refine end_ret ?_ trivial
  refine congrArg (fun n => some (int n)) ?_
  exact (atI_no fun j hj => hall j hj (by have h := h1;simp only [length_rowsOf,decide_eq_false_iff_not] at h;omega)).symm
theorem htlcAt_e (x : Book) (key : Int) (hm : x.htlcs.length ≤ 1000000000) : GC Tryz.prog 110 [bookV x,int key] [] (int (atI (fun c => c.key == key) x.htlcs)) [] := by
 refine gi 4 Tryz.func110 rfl Tryz.ntmps110 rfl ?_
 intro L O w0
 refine sL<|lst (zX 2002 Z) Z<|laI Z<|nG<|aS<|sL<|lf 4 ty.F34_4 Z<|loL ty.kd31 Z<|lnI ty.sl31 Z<|lmI Z<|nG<|aB ?_
 refine AW.loopE [(1,vI _ _),(4,vI _ _),(8,vL _ _ _),(9,vI _ _)] [(2002,.box _ _ [vI _ _,vI _ _,vI _ _,vL _ _ _,vL _ _ _,vL _ _ _])] (D := Nat) (fun k => [(10,int (k : Int))]) (fun k => []) (fun k => k ≤ x.htlcs.length ∧ ∀ j (h : j < x.htlcs.length),j < k → (fun c => c.key == key) x.htlcs[j] = false) (fun k => x.htlcs.length - k) (0) (⟨Nat.zero_le _,fun j _ h => absurd h (by omega)⟩) ⟨rfl,trivial⟩ trivial ⟨rfl,rfl,rfl,rfl,trivial⟩ ⟨rfl,trivial⟩ ?_
 intro k hI
 obtain ⟨hkl,hall⟩ := hI
 refine sL<|lbB Z<|nG<|aS ?_
 refine AW.cond rfl ?_ ?_
 ·intro h1
  refine aK<|gT<|aS<|aB<|sL<|lmI Z ?_
  have hk : k < x.htlcs.length := by simpa [length_rowsOf] using h1
  refine li k ty.el31 Z (row_map hk)<|lrX (.agg [vI _ _,vI _ _,vI _ _,vI _ _,vI _ _,vB _,vI _ _]) ty.kd117 Z<|lst (zA 2006 ty.ze117 Z) Z<|laI Z<|lst (zB 2006 ty.co117 ty.inf117 Z) Z<|nA<|lf 0 ty.F117_0 Z<|loI ty.kd3 Z<|lmI Z<|lbB Z<|nG ?_
  refine AW.cond rfl ?_ ?_
  ·intro h2
   refine sL<|lmI Z<|laI Z<|nG<|aR<|rB<|rT<|rT<|rB<|rT ?_
   refine end_ret ?_ trivial
   refine congrArg (fun n => some (int n)) ?_
   exact (atI_at hk hall (by simpa using h2)).symm
  ·intro h2
   refine aK<|gB<|gT<|aL<|lgI Z<|lmI Z<|nG ?_
   refine ⟨k + 1,⟨hk,all_succ (p := (fun c => c.key == key)) hk hall (by simpa using h2)⟩,by omega,⟨(iq rfl),trivial⟩,trivial,⟨rfl,rfl,rfl,rfl,trivial⟩,⟨rfl,trivial⟩⟩
 ·intro h1
  refine aE<|eT<|eT<|eB<|gA<|laI Z<|nG<|aR ?_
  refine end_ret ?_ trivial
  refine congrArg (fun n => some (int n)) ?_
  exact (atI_no fun j hj => hall j hj (by have h := h1;simp only [length_rowsOf,decide_eq_false_iff_not] at h;omega)).symm
theorem circleAt_e (x : Book) (key : Int) (hm : x.circles.length ≤ 1000000000) : GC Tryz.prog 114 [bookV x,int key] [] (int (atI (fun c => c.key == key) x.circles)) [] := by
 refine gi 4 Tryz.func114 rfl Tryz.ntmps114 rfl ?_
 intro L O w0
 refine sL<|lst (zX 2002 Z) Z<|laI Z<|nG<|aS<|sL<|lf 5 ty.F34_5 Z<|loL ty.kd32 Z<|lnI ty.sl32 Z<|lmI Z<|nG<|aB ?_
 refine AW.loopE [(1,vI _ _),(4,vI _ _),(8,vL _ _ _),(9,vI _ _)] [(2002,.box _ _ [vI _ _,vI _ _,vI _ _,vL _ _ _,vL _ _ _,vL _ _ _])] (D := Nat) (fun k => [(10,int (k : Int))]) (fun k => []) (fun k => k ≤ x.circles.length ∧ ∀ j (h : j < x.circles.length),j < k → (fun c => c.key == key) x.circles[j] = false) (fun k => x.circles.length - k) (0) (⟨Nat.zero_le _,fun j _ h => absurd h (by omega)⟩) ⟨rfl,trivial⟩ trivial ⟨rfl,rfl,rfl,rfl,trivial⟩ ⟨rfl,trivial⟩ ?_
 intro k hI
 obtain ⟨hkl,hall⟩ := hI
 refine sL<|lbB Z<|nG<|aS ?_
 refine AW.cond rfl ?_ ?_
 ·intro h1
  refine aK<|gT<|aS<|aB<|sL<|lmI Z ?_
  have hk : k < x.circles.length := by simpa [length_rowsOf] using h1
  refine li k ty.el32 Z (row_map hk)<|lrX (.agg [vI _ _,vI _ _,vI _ _,vI _ _,vI _ _]) ty.kd120 Z<|lst (zA 2006 ty.ze120 Z) Z<|laI Z<|lst (zB 2006 ty.co120 ty.inf120 Z) Z<|nA<|lf 0 ty.F120_0 Z<|loI ty.kd3 Z<|lmI Z<|lbB Z<|nG ?_
  refine AW.cond rfl ?_ ?_
  ·intro h2
   refine sL<|lmI Z<|laI Z<|nG<|aR<|rB<|rT<|rT<|rB<|rT ?_
   refine end_ret ?_ trivial
   refine congrArg (fun n => some (int n)) ?_
   exact (atI_at hk hall (by simpa using h2)).symm
  ·intro h2
   refine aK<|gB<|gT<|aL<|lgI Z<|lmI Z<|nG ?_
   refine ⟨k + 1,⟨hk,all_succ (p := (fun c => c.key == key)) hk hall (by simpa using h2)⟩,by omega,⟨(iq rfl),trivial⟩,trivial,⟨rfl,rfl,rfl,rfl,trivial⟩,⟨rfl,trivial⟩⟩
 ·intro h1
  refine aE<|eT<|eT<|eB<|gA<|laI Z<|nG<|aR ?_
  refine end_ret ?_ trivial
  refine congrArg (fun n => some (int n)) ?_
  exact (atI_no fun j hj => hall j hj (by have h := h1;simp only [length_rowsOf,decide_eq_false_iff_not] at h;omega)).symm
theorem sAt_e (x : Book) (ch : Int) (hm : x.chans.length ≤ 1000000000) : GC Tryz.prog 38 [bookV x,int ch] [] (int (atI (fun c => c.id == ch) x.chans)) [] := by
 refine gi 4 Tryz.func38 rfl Tryz.ntmps38 rfl ?_
 intro L O w0
 refine sL<|lst (zX 2002 Z) Z<|laI Z<|nG<|aS<|sL<|lf 3 ty.F34_3 Z<|loL ty.kd30 Z<|lnI ty.sl30 Z<|lmI Z<|nG<|aB ?_
 refine AW.loopE [(1,vI _ _),(2,.ptr 2002 _ 0),(4,vI _ _),(8,vI _ _)] [(2002,.box _ _ [vI _ _,vI _ _,vI _ _,vL _ _ _,vL _ _ _,vL _ _ _])] (D := Nat) (fun k => [(9,int (k : Int))]) (fun k => []) (fun k => k ≤ x.chans.length ∧ ∀ j (h : j < x.chans.length),j < k → (fun c => c.id == ch) x.chans[j] = false) (fun k => x.chans.length - k) (0) (⟨Nat.zero_le _,fun j _ h => absurd h (by omega)⟩) ⟨rfl,trivial⟩ trivial ⟨rfl,rfl,rfl,rfl,trivial⟩ ⟨rfl,trivial⟩ ?_
 intro k hI
 obtain ⟨hkl,hall⟩ := hI
 refine sL<|lbB Z<|nG<|aS ?_
 refine AW.cond rfl ?_ ?_
 ·intro h1
  refine aK<|gT<|aS<|aB<|sL<|lmI Z<|laI Z<|nA<|lf 3 ty.F34_3 Z<|loL ty.kd30 Z<|lmI Z ?_
  have hk : k < x.chans.length := by simpa [length_rowsOf] using h1
  refine li k ty.el30 Z (row_map hk)<|lq (rd (x := .rp _) (zfr ty.F78_0 Z) Z)<|lrI ty.kd3 Z<|lmI Z<|lbB Z<|nG ?_
  refine AW.cond rfl ?_ ?_
  ·intro h2
   refine sL<|lmI Z<|laI Z<|nG<|aR<|rB<|rT<|rT<|rB<|rT ?_
   refine end_ret ?_ trivial
   refine congrArg (fun n => some (int n)) ?_
   exact (atI_at hk hall (by simpa using h2)).symm
  ·intro h2
   refine aK<|gB<|gT<|aL<|lgI Z<|lmI Z<|nG ?_
   refine ⟨k + 1,⟨hk,all_succ (p := (fun c => c.id == ch)) hk hall (by simpa using h2)⟩,by omega,⟨(iq rfl),trivial⟩,trivial,⟨rfl,rfl,rfl,rfl,trivial⟩,⟨rfl,trivial⟩⟩
 ·intro h1
  refine aE<|eT<|eT<|eB<|gA<|laI Z<|nG<|aR ?_
  refine end_ret ?_ trivial
  refine congrArg (fun n => some (int n)) ?_
  exact (atI_no fun j hj => hall j hj (by have h := h1;simp only [length_rowsOf,decide_eq_false_iff_not] at h;omega)).symm
theorem used_e (x : Book) (ch : Int) (hmh : x.htlcs.length ≤ 1000000000) (hmc : x.circles.length ≤ 1000000000) : GC Tryz.prog 105 [bookV x,int ch] [] (boo (usedB x ch)) [] := by
 refine gi 4 Tryz.func105 rfl Tryz.ntmps105 rfl ?_
 intro L O w0
 refine sL<|lst (zX 2002 Z) Z<|laZ Z<|nG<|aS<|sL<|lf 4 ty.F34_4 Z<|loL ty.kd31 Z<|lnI ty.sl31 Z<|lmI Z<|nG<|aB ?_
 refine AW.loopE [(1,vI _ _),(2,.ptr 2002 _ 0),(4,vB false),(10,vL _ _ _),(11,vI _ _)] [(2002,.box _ _ [vI _ _,vI _ _,vI _ _,vL _ _ _,vL _ _ _,vL _ _ _])] (D := Nat) (fun k => [(12,int (k : Int))]) (fun k => []) (fun k => k ≤ x.htlcs.length ∧ ∀ j (h : j < x.htlcs.length),j < k → hUses ch x.htlcs[j] = false) (fun k => x.htlcs.length - k) (0) (⟨Nat.zero_le _,fun j _ h => absurd h (by omega)⟩) ⟨rfl,trivial⟩ trivial ⟨rfl,rfl,rfl,rfl,rfl,trivial⟩ ⟨rfl,trivial⟩ ?_
 intro k hI
 obtain ⟨hkl,hall⟩ := hI
 refine sL<|lbB Z<|nG<|aS ?_
 refine AW.cond rfl ?_ ?_
 ·intro h1
  refine aK<|gT<|aS<|aB<|sL ?_
  have hk : k < x.htlcs.length := by simpa [length_rowsOf] using h1
  refine li k ty.el31 Z (row_map hk)<|lrX (.agg [vI _ _,vI _ _,vI _ _,vI _ _,vI _ _,vB _,vI _ _]) ty.kd117 Z<|lst (zA 2006 ty.ze117 Z) Z<|lst (zB 2006 ty.co117 ty.inf117 Z) Z<|nA<|lf 1 ty.F117_1 Z<|loI ty.kd3 Z<|lmI Z<|lbB Z<|lmB Z ?_
  refine AL.bool (t := 20) rfl ?_ ?_
  ·intro h2
   refine lno Z<|lno Z<|lno Z<|lno Z<|lkT Z<|nG<|aY Z<|sL<|laT Z<|nG<|aR<|rB<|rT<|rT<|rB<|rT ?_
   refine end_ret ?_ trivial
   refine congrArg (fun b => some (boo b)) ?_
   unfold usedB
   rw [any_yes (p := hUses ch) hk (by unfold hUses;simp_all)];rfl
  ·intro h2
   refine lf 2 ty.F117_2 Z<|loI ty.kd3 Z<|lmI Z<|lbB Z<|lkB Z<|nG ?_
   refine AW.cond rfl ?_ ?_
   ·intro h3
    refine sL<|laT Z<|nG<|aR<|rB<|rT<|rT<|rB<|rT ?_
    refine end_ret ?_ trivial
    refine congrArg (fun b => some (boo b)) ?_
    unfold usedB
    rw [any_yes (p := hUses ch) hk (by unfold hUses;simp_all)];rfl
   ·intro h3
    refine aK<|gB<|gT<|aL<|lgI Z<|lmI Z<|nG ?_
    refine ⟨k + 1,⟨hk,all_succ (p := hUses ch) hk hall (by unfold hUses;simp_all)⟩,by omega,⟨(iq rfl),trivial⟩,trivial,⟨rfl,rfl,rfl,rfl,rfl,trivial⟩,⟨rfl,trivial⟩⟩
 ·intro h1
  refine aE<|eT<|eT<|eB<|gT<|aS<|sL<|lf 5 ty.F34_5 Z<|loL ty.kd32 Z<|lnI ty.sl32 Z<|lmI Z<|lT [1,4,28,29,30] [vI _ _,vB false,vL _ _ _,vI _ _,vI _ _] [2002] [.box _ _ [vI _ _,vI _ _,vI _ _,vL _ _ _,vL _ _ _,vL _ _ _]] Z Z<|nG<|aB ?_
  have hno : x.htlcs.any (hUses ch) = false := any_no fun j hj => hall j hj (by have h := h1;simp only [length_rowsOf,decide_eq_false_iff_not] at h;omega)
  clear hall hkl
  refine AW.loopE [(1,vI _ _),(4,vB false),(28,vL _ _ _),(29,vI _ _)] [(2002,.box _ _ [vI _ _,vI _ _,vI _ _,vL _ _ _,vL _ _ _,vL _ _ _])] (D := Nat) (fun k => [(30,int (k : Int))]) (fun k => []) (fun k => k ≤ x.circles.length ∧ ∀ j (h : j < x.circles.length),j < k → cUses ch x.circles[j] = false) (fun k => x.circles.length - k) (0) (⟨Nat.zero_le _,fun j _ h => absurd h (by omega)⟩) ⟨rfl,trivial⟩ trivial ⟨rfl,rfl,rfl,rfl,trivial⟩ ⟨rfl,trivial⟩ ?_
  intro k hI
  obtain ⟨hkl,hall⟩ := hI
  refine sL<|lbB Z<|nG<|aS ?_
  refine AW.cond rfl ?_ ?_
  ·intro h4
   refine aK<|gT<|aS<|aB<|sL ?_
   have hk : k < x.circles.length := by simpa [length_rowsOf] using h4
   refine li k ty.el32 Z (row_map hk)<|lrX (.agg [vI _ _,vI _ _,vI _ _,vI _ _,vI _ _]) ty.kd120 Z<|lst (zA 2008 ty.ze120 Z) Z<|lst (zB 2008 ty.co120 ty.inf120 Z) Z<|nA<|lf 1 ty.F120_1 Z<|loI ty.kd3 Z<|lmI Z<|lbB Z<|lmB Z ?_
   refine AL.bool (t := 38) rfl ?_ ?_
   ·intro h5
    refine lno Z<|lno Z<|lno Z<|lno Z<|lkT Z<|nG<|aY Z<|sL<|laT Z<|nG<|aR<|rB<|rT<|rT<|rB<|rT ?_
    refine end_ret ?_ trivial
    refine congrArg (fun b => some (boo b)) ?_
    unfold usedB
    rw [any_yes (p := cUses ch) hk (by unfold cUses;simp_all),Bool.or_true]
   ·intro h5
    refine lf 2 ty.F120_2 Z<|loI ty.kd3 Z<|lmI Z<|lbB Z<|lkB Z<|nG ?_
    refine AW.cond rfl ?_ ?_
    ·intro h6
     refine sL<|laT Z<|nG<|aR<|rB<|rT<|rT<|rB<|rT ?_
     refine end_ret ?_ trivial
     refine congrArg (fun b => some (boo b)) ?_
     unfold usedB
     rw [any_yes (p := cUses ch) hk (by unfold cUses;simp_all),Bool.or_true]
    ·intro h6
     refine aK<|gB<|gT<|aL<|lgI Z<|lmI Z<|nG ?_
     refine ⟨k + 1,⟨hk,all_succ (p := cUses ch) hk hall (by unfold cUses;simp_all)⟩,by omega,⟨(iq rfl),trivial⟩,trivial,⟨rfl,rfl,rfl,rfl,trivial⟩,⟨rfl,trivial⟩⟩
  ·intro h4
   refine aE<|eT<|eT<|eB<|gA<|laZ Z<|nG<|aR ?_
   refine end_ret ?_ trivial
   refine congrArg (fun b => some (boo b)) ?_
   unfold usedB
   rw [hno,any_no (p := cUses ch) fun j hj => hall j hj (by have h := h4;simp only [length_rowsOf,decide_eq_false_iff_not] at h;omega)];rfl
theorem sused_e (x : Book) (ch : Int) (hmh : x.htlcs.length ≤ 1000000000) (hmc : x.circles.length ≤ 1000000000) : GC Tryz.prog 82 [bookV x,int ch] [] (boo (usedB x ch)) [] := by
 refine gi 4 Tryz.func82 rfl Tryz.ntmps82 rfl ?_
 intro L O w0
 refine sL<|lst (zX 2002 Z) Z<|laZ Z<|nG<|aS<|sL<|lf 4 ty.F34_4 Z<|loL ty.kd31 Z<|lnI ty.sl31 Z<|lmI Z<|nG<|aB ?_
 refine AW.loopE [(1,vI _ _),(2,.ptr 2002 _ 0),(4,vB false),(10,vL _ _ _),(11,vI _ _)] [(2002,.box _ _ [vI _ _,vI _ _,vI _ _,vL _ _ _,vL _ _ _,vL _ _ _])] (D := Nat) (fun k => [(12,int (k : Int))]) (fun k => []) (fun k => k ≤ x.htlcs.length ∧ ∀ j (h : j < x.htlcs.length),j < k → hUses ch x.htlcs[j] = false) (fun k => x.htlcs.length - k) (0) (⟨Nat.zero_le _,fun j _ h => absurd h (by omega)⟩) ⟨rfl,trivial⟩ trivial ⟨rfl,rfl,rfl,rfl,rfl,trivial⟩ ⟨rfl,trivial⟩ ?_
 intro k hI
 obtain ⟨hkl,hall⟩ := hI
 refine sL<|lbB Z<|nG<|aS ?_
 refine AW.cond rfl ?_ ?_
 ·intro h1
  refine aK<|gT<|aS<|aB<|sL ?_
  have hk : k < x.htlcs.length := by simpa [length_rowsOf] using h1
  refine li k ty.el31 Z (row_map hk)<|lrX (.agg [vI _ _,vI _ _,vI _ _,vI _ _,vI _ _,vB _,vI _ _]) ty.kd117 Z<|lst (zA 2006 ty.ze117 Z) Z<|lst (zB 2006 ty.co117 ty.inf117 Z) Z<|nA<|lf 1 ty.F117_1 Z<|loI ty.kd3 Z<|lmI Z<|lbB Z<|lmB Z ?_
  refine AL.bool (t := 20) rfl ?_ ?_
  ·intro h2
   refine lno Z<|lno Z<|lno Z<|lno Z<|lkT Z<|nG<|aY Z<|sL<|laT Z<|nG<|aR<|rB<|rT<|rT<|rB<|rT ?_
   refine end_ret ?_ trivial
   refine congrArg (fun b => some (boo b)) ?_
   unfold usedB
   rw [any_yes (p := hUses ch) hk (by unfold hUses;simp_all)];rfl
  ·intro h2
   refine lf 2 ty.F117_2 Z<|loI ty.kd3 Z<|lmI Z<|lbB Z<|lkB Z<|nG ?_
   refine AW.cond rfl ?_ ?_
   ·intro h3
    refine sL<|laT Z<|nG<|aR<|rB<|rT<|rT<|rB<|rT ?_
    refine end_ret ?_ trivial
    refine congrArg (fun b => some (boo b)) ?_
    unfold usedB
    rw [any_yes (p := hUses ch) hk (by unfold hUses;simp_all)];rfl
   ·intro h3
    refine aK<|gB<|gT<|aL<|lgI Z<|lmI Z<|nG ?_
    refine ⟨k + 1,⟨hk,all_succ (p := hUses ch) hk hall (by unfold hUses;simp_all)⟩,by omega,⟨(iq rfl),trivial⟩,trivial,⟨rfl,rfl,rfl,rfl,rfl,trivial⟩,⟨rfl,trivial⟩⟩
 ·intro h1
  refine aE<|eT<|eT<|eB<|gT<|aS<|sL<|lf 5 ty.F34_5 Z<|loL ty.kd32 Z<|lnI ty.sl32 Z<|lmI Z<|lT [1,4,28,29,30] [vI _ _,vB false,vL _ _ _,vI _ _,vI _ _] [2002] [.box _ _ [vI _ _,vI _ _,vI _ _,vL _ _ _,vL _ _ _,vL _ _ _]] Z Z<|nG<|aB ?_
  have hno : x.htlcs.any (hUses ch) = false := any_no fun j hj => hall j hj (by have h := h1;simp only [length_rowsOf,decide_eq_false_iff_not] at h;omega)
  clear hall hkl
  refine AW.loopE [(1,vI _ _),(4,vB false),(28,vL _ _ _),(29,vI _ _)] [(2002,.box _ _ [vI _ _,vI _ _,vI _ _,vL _ _ _,vL _ _ _,vL _ _ _])] (D := Nat) (fun k => [(30,int (k : Int))]) (fun k => []) (fun k => k ≤ x.circles.length ∧ ∀ j (h : j < x.circles.length),j < k → cUses ch x.circles[j] = false) (fun k => x.circles.length - k) (0) (⟨Nat.zero_le _,fun j _ h => absurd h (by omega)⟩) ⟨rfl,trivial⟩ trivial ⟨rfl,rfl,rfl,rfl,trivial⟩ ⟨rfl,trivial⟩ ?_
  intro k hI
  obtain ⟨hkl,hall⟩ := hI
  refine sL<|lbB Z<|nG<|aS ?_
  refine AW.cond rfl ?_ ?_
  ·intro h4
   refine aK<|gT<|aS<|aB<|sL ?_
   have hk : k < x.circles.length := by simpa [length_rowsOf] using h4
   refine li k ty.el32 Z (row_map hk)<|lrX (.agg [vI _ _,vI _ _,vI _ _,vI _ _,vI _ _]) ty.kd120 Z<|lst (zA 2008 ty.ze120 Z) Z<|lst (zB 2008 ty.co120 ty.inf120 Z) Z<|nA<|lf 1 ty.F120_1 Z<|loI ty.kd3 Z<|lmI Z<|lbB Z<|lmB Z ?_
   refine AL.bool (t := 38) rfl ?_ ?_
   ·intro h5
    refine lno Z<|lno Z<|lno Z<|lno Z<|lkT Z<|nG<|aY Z<|sL<|laT Z<|nG<|aR<|rB<|rT<|rT<|rB<|rT ?_
    refine end_ret ?_ trivial
    refine congrArg (fun b => some (boo b)) ?_
    unfold usedB
    rw [any_yes (p := cUses ch) hk (by unfold cUses;simp_all),Bool.or_true]
   ·intro h5
    refine lf 2 ty.F120_2 Z<|loI ty.kd3 Z<|lmI Z<|lbB Z<|lkB Z<|nG ?_
    refine AW.cond rfl ?_ ?_
    ·intro h6
     refine sL<|laT Z<|nG<|aR<|rB<|rT<|rT<|rB<|rT ?_
     refine end_ret ?_ trivial
     refine congrArg (fun b => some (boo b)) ?_
     unfold usedB
     rw [any_yes (p := cUses ch) hk (by unfold cUses;simp_all),Bool.or_true]
    ·intro h6
     refine aK<|gB<|gT<|aL<|lgI Z<|lmI Z<|nG ?_
     refine ⟨k + 1,⟨hk,all_succ (p := cUses ch) hk hall (by unfold cUses;simp_all)⟩,by omega,⟨(iq rfl),trivial⟩,trivial,⟨rfl,rfl,rfl,rfl,trivial⟩,⟨rfl,trivial⟩⟩
  ·intro h4
   refine aE<|eT<|eT<|eB<|gA<|laZ Z<|nG<|aR ?_
   refine end_ret ?_ trivial
   refine congrArg (fun b => some (boo b)) ?_
   unfold usedB
   rw [hno,any_no (p := cUses ch) fun j hj => hall j hj (by have h := h4;simp only [length_rowsOf,decide_eq_false_iff_not] at h;omega)];rfl
theorem known_e (x : Book) (key : Int) (hmh : x.htlcs.length ≤ 1000000000) (hmc : x.circles.length ≤ 1000000000) : GC Tryz.prog 106 [bookV x,int key] [] (boo (knownB x key)) [] := by
 refine gi 4 Tryz.func106 rfl Tryz.ntmps106 rfl ?_
 intro L O w0
 refine sL<|lst (zX 2002 Z) Z<|laZ Z<|nA<|loX (.agg [vI _ _,vI _ _,vI _ _,vL _ _ _,vL _ _ _,vL _ _ _]) ty.kd34 Z<|lmI Z<|lst (zL Tryz.func110 (htlcAt_e x _ hmh) Z) Z<|lbB Z<|lmB Z ?_
 refine AL.bool (t := 9) rfl ?_ ?_
 ·intro h1
  refine lno Z<|lno Z<|lno Z<|lno Z<|lkT Z<|laT Z<|nG<|aR ?_
  refine end_ret ?_ trivial
  refine congrArg (fun b => some (boo b)) ?_
  unfold knownB htlcAt circleAt
  first | (simp_all;done) | (simp_all;intros;omega)
 ·intro h1
  refine loX (.agg [vI _ _,vI _ _,vI _ _,vL _ _ _,vL _ _ _,vL _ _ _]) ty.kd34 Z<|lmI Z<|lst (zL Tryz.func114 (circleAt_e x _ hmc) Z) Z<|lbB Z<|lkB Z<|laB Z<|nG<|aR ?_
  refine end_ret ?_ trivial
  refine congrArg (fun b => some (boo b)) ?_
  unfold knownB htlcAt circleAt
  first | (simp_all;done) | (simp_all;intros;omega)
theorem stwo_e (x : Book) (a b : Int) (hm : x.chans.length ≤ 1000000000) : GC Tryz.prog 85 [bookV x,int a,int b] [] (boo (two x.chans a b)) [] := by
 refine gi 6 Tryz.func85 rfl Tryz.ntmps85 rfl ?_
 intro L O w0
 refine sL<|lst (zX 2003 Z) Z<|laZ Z<|nA<|lmI Z<|lmI Z<|lbB Z<|lmB Z ?_
 refine AL.bool (t := 10) rfl ?_ ?_
 ·intro h1
  refine loX (.agg [vI _ _,vI _ _,vI _ _,vL _ _ _,vL _ _ _,vL _ _ _]) ty.kd34 Z<|lmI Z<|lst (zL Tryz.func38 (sAt_e x _ hm) Z) Z<|lbB Z<|lkB Z<|lmB Z ?_
  refine AL.bool (t := 16) rfl ?_ ?_
  ·intro h2
   refine loX (.agg [vI _ _,vI _ _,vI _ _,vL _ _ _,vL _ _ _,vL _ _ _]) ty.kd34 Z<|lmI Z<|lst (zL Tryz.func38 (sAt_e x _ hm) Z) Z<|lT [6,16,19] [vB false,vB true,vI _ _] [2003] [.box _ _ [vI _ _,vI _ _,vI _ _,vL _ _ _,vL _ _ _,vL _ _ _]] Z Z<|lbB Z<|lkB Z<|laB Z<|nG<|aR ?_
   refine end_ret ?_ trivial
   refine congrArg (fun b => some (boo b)) ?_
   unfold two
   rw [chanAt_atI,chanAt_atI]
   first | (simp_all;done) | (simp_all;intros;omega)
  ·intro h2
   refine lno Z<|lno Z<|lno Z<|lno Z<|lkZ Z<|laZ Z<|nG<|aR ?_
   refine end_ret ?_ trivial
   refine congrArg (fun b => some (boo b)) ?_
   unfold two
   rw [chanAt_atI,chanAt_atI]
   first | (simp_all;done) | (simp_all;intros;omega)
 ·intro h1
  refine lno Z<|lno Z<|lno Z<|lno Z<|lkZ Z<|lmZ Z<|lno Z<|lno Z<|lno Z<|lno Z<|lkZ Z<|laZ Z<|nG<|aR ?_
  refine end_ret ?_ trivial
  refine congrArg (fun b => some (boo b)) ?_
  unfold two
  rw [chanAt_atI,chanAt_atI]
  first | (simp_all;done) | (simp_all;intros;omega)
theorem standing_e (n : Int) (g : Bool) : GC Tryz.prog 130 [int n,boo g] [] (boo (standing n g)) [] := GC.of_vals (r := .bool (standing n g)) (RV.v_mk rfl) rfl fun w => (impl_Standing_c n g w).mono fun e w' h => ⟨h.1,h.2 ▸ Grow.refl _⟩
theorem allow_e (a b c d e f : Int) (g : Bool) : GC Tryz.prog 129 [int a,int b,int c,int d,int e,int f,boo g] [] (int (allow a b c d e f g)) [] := GC.of_vals (r := .int .i64 (allow a b c d e f g)) (RV.v_mk rfl) rfl fun w => impl_Allow_c a b c d e f g w
theorem sallow_e (a b c d e f : Int) (g : Bool) : GC Tryz.prog 121 [int a,int b,int c,int d,int e,int f,boo g] [] (int (allow a b c d e f g)) [] := GC.of_vals (r := .int .i64 (allow a b c d e f g)) (RV.v_mk rfl) rfl fun w => spec_Allow_c a b c d e f g w
theorem scUp_e (n : Int) : GC Tryz.prog 111 [int n] [] (int (scoreUp n)) [] := GC.of_vals (r := .int .i64 (scoreUp n)) (RV.v_mk rfl) rfl fun w => (impl_ScoreUp_c n w).mono fun e w' h => ⟨h.1,h.2 ▸ Grow.refl _⟩
theorem scDown_e (n : Int) : GC Tryz.prog 112 [int n] [] (int (scoreDown n)) [] := GC.of_vals (r := .int .i64 (scoreDown n)) (RV.v_mk rfl) rfl fun w => (impl_ScoreDown_c n w).mono fun e w' h => ⟨h.1,h.2 ▸ Grow.refl _⟩
theorem scFade_e (n : Int) : GC Tryz.prog 113 [int n] [] (int (fade n)) [] := GC.of_vals (r := .int .i64 (fade n)) (RV.v_mk rfl) rfl fun w => (impl_ScoreFade_c n w).mono fun e w' h => ⟨h.1,h.2 ▸ Grow.refl _⟩
theorem sscoreOk_e (n : Int) : GC Tryz.prog 76 [int n] [] (boo (scoreOk n)) [] := GC.of_vals (r := .bool (scoreOk n)) (RV.v_mk rfl) rfl fun w => (spec_ScoreOk_c n w).mono fun e w' h => ⟨h.1,h.2 ▸ Grow.refl _⟩
theorem scoreOk_iff {n : Int} : scoreOk n = true ↔ -100 ≤ n ∧ n ≤ 100 := inB_true
theorem sclamp_e (n lo hi : Int) : GC Tryz.prog 123 [int n,int lo,int hi] [] (int (clampV n lo hi)) [] := by
 refine gi 6 Tryz.func123 rfl Tryz.ntmps123 rfl ?_
 intro L O w0
 refine sL<|laI Z<|nG<|aS<|sL<|lmI Z<|lmI Z<|lbB Z<|nG ?_
 refine AW.cond rfl ?_ ?_
 ·intro h1
  refine sL<|lmI Z<|laI Z<|nG<|aR<|rT ?_
  refine end_ret ?_ trivial
  refine congrArg (fun n => some (int n)) ?_
  unfold clampV
  simp only [decide_eq_true_eq,decide_eq_false_iff_not] at *
  (repeat' split) <;> omega
 ·intro h1
  refine aK<|gT<|aS<|sL<|lmI Z<|lmI Z<|lbB Z<|nG ?_
  refine AW.cond rfl ?_ ?_
  ·intro h2
   refine sL<|lmI Z<|laI Z<|nG<|aR<|rT ?_
   refine end_ret ?_ trivial
   refine congrArg (fun n => some (int n)) ?_
   unfold clampV
   simp only [decide_eq_true_eq,decide_eq_false_iff_not] at *
   (repeat' split) <;> omega
  ·intro h2
   refine aK<|gA<|lmI Z<|laI Z<|nG<|aR ?_
   refine end_ret ?_ trivial
   refine congrArg (fun n => some (int n)) ?_
   unfold clampV
   simp only [decide_eq_true_eq,decide_eq_false_iff_not] at *
   (repeat' split) <;> omega
theorem sstanding_e (n : Int) (g : Bool) : GC Tryz.prog 122 [int n,boo g] [] (boo (standing n g)) [] := by
 refine gi 4 Tryz.func122 rfl Tryz.ntmps122 rfl ?_
 intro L O w0
 refine sL<|laZ Z<|nA<|lmI Z<|lst (zL Tryz.func76 (sscoreOk_e _) Z) Z<|lmB Z ?_
 refine AL.bool (t := 7) rfl ?_ ?_
 ·intro h1
  refine lmI Z<|lbB Z<|lkB Z<|lmB Z ?_
  refine AL.bool (t := 11) rfl ?_ ?_
  ·intro h2
   refine lmB Z<|lkB Z<|laB Z<|nG<|aR ?_
   refine end_ret ?_ trivial
   refine congrArg (fun b => some (boo b)) ?_
   unfold standing
   first | (simp_all;done) | (simp_all;intros;omega)
  ·intro h2
   refine lno Z<|lkZ Z<|laZ Z<|nG<|aR ?_
   refine end_ret ?_ trivial
   refine congrArg (fun b => some (boo b)) ?_
   unfold standing
   first | (simp_all;done) | (simp_all;intros;omega)
 ·intro h1
  refine lno Z<|lno Z<|lkZ Z<|lmZ Z<|lno Z<|lkZ Z<|laZ Z<|nG<|aR ?_
  refine end_ret ?_ trivial
  refine congrArg (fun b => some (boo b)) ?_
  unfold standing
  first | (simp_all;done) | (simp_all;intros;omega)
theorem sscUp_e (n : Int) : GC Tryz.prog 89 [int n] [] (int (scoreUp n)) [] := by
 refine gi 2 Tryz.func89 rfl Tryz.ntmps89 rfl ?_
 intro L O w0
 refine sL<|laI Z<|nG<|aS<|sL<|lmI Z<|lst (zL Tryz.func76 (sscoreOk_e _) Z) Z<|luB Z<|nG ?_
 refine AW.cond rfl ?_ ?_
 ·intro h1
  refine sL<|laI Z<|nG<|aR<|rT ?_
  refine end_ret ?_ trivial
  refine congrArg (fun n => some (int n)) ?_
  unfold scoreUp
  have hs : ¬ (-100 ≤ n ∧ n ≤ 100) := fun q => by rw [scoreOk_iff.2 q] at h1;cases h1
  rw [if_neg hs]
 ·intro h1
  refine aK<|gA<|lmI Z ?_
  refine lhI rfl ⟨rfl,fits_i64 (by have hs := scoreOk_iff.1 (by simpa using h1 : scoreOk n = true);unfold i64;omega)⟩<|lst (zL Tryz.func123 (sclamp_e _ _ _) rfl) Z<|laI Z<|nG<|aR ?_
  refine end_ret ?_ trivial
  refine congrArg (fun n => some (int n)) ?_
  unfold scoreUp
  try unfold clampV
  have hs := scoreOk_iff.1 (by simpa using h1 : scoreOk n = true)
  rw [if_pos hs]
  try simp only [decide_eq_true_eq,decide_eq_false_iff_not] at *
  (repeat' split) <;> omega
theorem sscDown_e (n : Int) : GC Tryz.prog 90 [int n] [] (int (scoreDown n)) [] := by
 refine gi 2 Tryz.func90 rfl Tryz.ntmps90 rfl ?_
 intro L O w0
 refine sL<|laI Z<|nG<|aS<|sL<|lmI Z<|lst (zL Tryz.func76 (sscoreOk_e _) Z) Z<|luB Z<|nG ?_
 refine AW.cond rfl ?_ ?_
 ·intro h1
  refine sL<|laI Z<|nG<|aR<|rT ?_
  refine end_ret ?_ trivial
  refine congrArg (fun n => some (int n)) ?_
  unfold scoreDown
  have hs : ¬ (-100 ≤ n ∧ n ≤ 100) := fun q => by rw [scoreOk_iff.2 q] at h1;cases h1
  rw [if_neg hs]
 ·intro h1
  refine aK<|gA<|lmI Z ?_
  refine lhI rfl ⟨rfl,fits_i64 (by have hs := scoreOk_iff.1 (by simpa using h1 : scoreOk n = true);unfold i64;omega)⟩<|lst (zL Tryz.func123 (sclamp_e _ _ _) rfl) Z<|laI Z<|nG<|aR ?_
  refine end_ret ?_ trivial
  refine congrArg (fun n => some (int n)) ?_
  unfold scoreDown
  try unfold clampV
  have hs := scoreOk_iff.1 (by simpa using h1 : scoreOk n = true)
  rw [if_pos hs]
  try simp only [decide_eq_true_eq,decide_eq_false_iff_not] at *
  (repeat' split) <;> omega
theorem sscFade_e (n : Int) : GC Tryz.prog 91 [int n] [] (int (fade n)) [] := by
 refine gi 2 Tryz.func91 rfl Tryz.ntmps91 rfl ?_
 intro L O w0
 refine sL<|laI Z<|nG<|aS<|sL<|lmI Z<|lst (zL Tryz.func76 (sscoreOk_e _) Z) Z<|luB Z<|lmB Z ?_
 refine AL.bool (t := 6) rfl ?_ ?_
 ·intro h1
  refine lno Z<|lno Z<|lkT Z<|nG<|aY Z<|sL<|laI Z<|nG<|aR<|rT ?_
  refine end_ret ?_ trivial
  refine congrArg (fun n => some (int n)) ?_
  unfold fade
  have hs : ¬ (-100 ≤ n ∧ n ≤ 100) := fun q => by rw [scoreOk_iff.2 q] at h1;cases h1
  rw [if_neg hs]
 ·intro h1
  refine lmI Z<|lbB Z<|lkB Z<|nG ?_
  refine AW.cond rfl ?_ ?_
  ·intro h2
   refine sL<|laI Z<|nG<|aR<|rT ?_
   refine end_ret ?_ trivial
   refine congrArg (fun n => some (int n)) ?_
   unfold fade
   try unfold clampV
   have hs := scoreOk_iff.1 (by simpa using h1 : scoreOk n = true)
   rw [if_pos hs]
   try simp only [decide_eq_true_eq,decide_eq_false_iff_not] at *
   (repeat' split) <;> omega
  ·intro h2
   refine aK<|gT<|aS<|sL<|lmI Z<|lbB Z<|nG ?_
   refine AW.cond rfl ?_ ?_
   ·intro h3
    refine sL<|lmI Z ?_
    refine lhI rfl ⟨rfl,fits_i64 (by have hs := scoreOk_iff.1 (by simpa using h1 : scoreOk n = true);unfold i64;omega)⟩<|laI Z<|nG<|aR<|rT ?_
    refine end_ret ?_ trivial
    refine congrArg (fun n => some (int n)) ?_
    unfold fade
    try unfold clampV
    have hs := scoreOk_iff.1 (by simpa using h1 : scoreOk n = true)
    rw [if_pos hs]
    try simp only [decide_eq_true_eq,decide_eq_false_iff_not] at *
    (repeat' split) <;> omega
   ·intro h3
    refine aK<|gA<|lmI Z ?_
    refine lhI rfl ⟨rfl,fits_i64 (by have hs := scoreOk_iff.1 (by simpa using h1 : scoreOk n = true);unfold i64;omega)⟩<|laI Z<|nG<|aR ?_
    refine end_ret ?_ trivial
    refine congrArg (fun n => some (int n)) ?_
    unfold fade
    try unfold clampV
    have hs := scoreOk_iff.1 (by simpa using h1 : scoreOk n = true)
    rw [if_pos hs]
    try simp only [decide_eq_true_eq,decide_eq_false_iff_not] at *
    (repeat' split) <;> omega
theorem sroom_e (x : Book) (frm to : Chan) (amt : Int) (yes : Bool) (sm : SmallH x.htlcs) : GC Tryz.prog 87 [bookV x,.agg [int frm.id,int frm.size,int frm.loc,int frm.remote,int frm.base,int frm.ppm,int frm.score],.agg [int to.id,int to.size,int to.loc,int to.remote,int to.base,int to.ppm,int to.score],int amt,boo yes] [] (int (roomV x.htlcs frm to to.id amt yes)) [] := by
 refine gi 10 Tryz.func87 rfl Tryz.ntmps87 rfl ?_
 intro L O w0
 refine sL<|lst (zX 2005 Z) Z<|lst (zX 2006 Z) Z<|lst (zX 2007 Z) Z<|laI Z<|nA<|laI Z<|nA<|laI Z<|nA<|laI Z<|nA<|laI Z<|nG<|aS<|aS ?_
 refine aL<|lf 4 ty.F34_4 Z<|loL ty.kd31 Z<|lnI ty.sl31 Z<|lmI Z<|nG<|aB ?_
 refine AW.loopE [(3,vI _ _),(4,vB _),(6,.ptr 2006 _ 0),(7,.ptr 2007 _ 0),(10,vI _ _),(18,vL _ _ _),(19,vI _ _)] [(2005,.box _ _ [vI _ _,vI _ _,vI _ _,vL _ _ _,vL _ _ _,vL _ _ _]),(2006,.box _ _ [vI _ _,vI _ _,vI _ _,vI _ _,vI _ _,vI _ _,vI _ _]),(2007,.box _ _ [vI _ _,vI _ _,vI _ _,vI _ _,vI _ _,vI _ _,vI _ _])] (D := Nat) (fun k => [(11,int (tot (hFew to.id) (x.htlcs.take k))),(12,int (tot (hOut to.id) (x.htlcs.take k))),(13,int (tot (hOneF to.id) (x.htlcs.take k))),(14,int (tot (hOne to.id) (x.htlcs.take k))),(20,int (k : Int))]) (fun k => []) (fun k => k ≤ x.htlcs.length) (fun k => x.htlcs.length - k) (0) (Nat.zero_le _) ⟨rfl,rfl,rfl,rfl,rfl,trivial⟩ trivial ⟨rfl,rfl,rfl,rfl,rfl,rfl,rfl,trivial⟩ ⟨rfl,rfl,rfl,trivial⟩ ?_
 intro k hI
 have b0 := sm.1
 have b1 := sm.few to.id k
 have b2 := sm.all to.id k
 have b3 := sm.oneF to.id k
 have b4 := sm.one to.id k
 refine sL<|lbB Z<|nG<|aS ?_
 refine AW.cond rfl ?_ ?_
 ·intro h1
  refine aK<|gT<|aS<|aB<|sL ?_
  have hk : k < x.htlcs.length := by simpa [length_rowsOf] using h1
  have b5 := sm.at hk
  refine li k ty.el31 Z (row_map hk)<|lrX (.agg [vI _ _,vI _ _,vI _ _,vI _ _,vI _ _,vB _,vI _ _]) ty.kd117 Z<|lst (zA 2016 ty.ze117 Z) Z<|lT [3,4,6,7,10,11,12,13,14,16,18,19,20,23] [vI _ _,vB _,.ptr 2006 _ 0,.ptr 2007 _ 0,vI _ _,vI _ _,vI _ _,vI _ _,vI _ _,.ptr 2016 _ 0,vL _ _ _,vI _ _,vI _ _,.agg [vI _ _,vI _ _,vI _ _,vI _ _,vI _ _,vB _,vI _ _]] [2005,2006,2007,2016] [.box _ _ [vI _ _,vI _ _,vI _ _,vL _ _ _,vL _ _ _,vL _ _ _],.box _ _ [vI _ _,vI _ _,vI _ _,vI _ _,vI _ _,vI _ _,vI _ _],.box _ _ [vI _ _,vI _ _,vI _ _,vI _ _,vI _ _,vI _ _,vI _ _],.box _ _ [vI _ _,vI _ _,vI _ _,vI _ _,vI _ _,vB false,vI _ _]] Z Z<|lst (zB 2016 ty.co117 ty.inf117 Z) Z<|nG<|aS<|sL<|lf 2 ty.F117_2 Z<|loI ty.kd3 Z<|lf 0 ty.F78_0 Z<|loI ty.kd3 Z<|lbB Z<|nG ?_
  refine AW.cond rfl ?_ ?_
  ·intro h2
   refine aE<|eT<|eB<|gT<|aL<|lgI Z<|lmI Z<|nG ?_
   refine ⟨k + 1,hk,by omega,⟨(congrArg int (tot_skip hk (by have h := h2;simp only [Bool.not_eq_true',decide_eq_false_iff_not,decide_eq_true_eq] at h;unfold hFew;simp [h])).symm),(congrArg int (tot_skip hk (by have h := h2;simp only [Bool.not_eq_true',decide_eq_false_iff_not,decide_eq_true_eq] at h;unfold hOut;simp [h])).symm),(congrArg int (tot_skip hk (by have h := h2;simp only [Bool.not_eq_true',decide_eq_false_iff_not,decide_eq_true_eq] at h;unfold hOneF;simp [h])).symm),(congrArg int (tot_skip hk (by have h := h2;simp only [Bool.not_eq_true',decide_eq_false_iff_not,decide_eq_true_eq] at h;unfold hOne;simp [h])).symm),(iq rfl),trivial⟩,trivial,⟨rfl,rfl,rfl,rfl,rfl,rfl,rfl,trivial⟩,⟨rfl,rfl,rfl,trivial⟩⟩
  ·intro h2
   refine aK<|gA<|lmI Z<|lf 4 ty.F117_4 Z<|loI ty.kd3 Z<|lgI Z<|laI Z<|nA<|lmI Z<|lgI Z<|laI Z<|nA<|lf 5 ty.F117_5 Z<|loB ty.kd4 Z<|luB Z<|nG ?_
   refine AW.cond rfl ?_ ?_
   ·intro h3
    refine sL<|lmI Z<|lf 4 ty.F117_4 Z<|loI ty.kd3 Z<|lgI Z<|laI Z<|nG<|aL<|lmI Z<|lgI Z<|laI Z<|lN<|gB<|gT<|aL<|lgI Z<|lmI Z<|nG ?_
    have he : x.htlcs[k].out = to.id := by simpa using h2
    have hkp : x.htlcs[k].kept = false := by simpa using h3
    refine ⟨k + 1,hk,by omega,⟨(Eq.trans (b := int _) rfl (congrArg int (tot_add hk (by unfold hFew;simp [he,hkp])))),(Eq.trans (b := int _) rfl (congrArg int (tot_add hk (by unfold hOut;simp [he,hkp])))),(Eq.trans (b := int _) rfl (congrArg int (tot_add hk (by unfold hOneF;simp [he,hkp])))),(Eq.trans (b := int _) rfl (congrArg int (tot_add hk (by unfold hOne;simp [he,hkp])))),(iq rfl),trivial⟩,trivial,⟨rfl,rfl,rfl,rfl,rfl,rfl,rfl,trivial⟩,⟨rfl,rfl,rfl,trivial⟩⟩
   ·intro h3
    refine aK<|gB<|gT<|aL<|lgI Z<|lT [3,4,6,7,10,11,12,13,14,18,19,20,44] [vI _ _,vB _,.ptr 2006 _ 0,.ptr 2007 _ 0,vI _ _,vI _ _,vI _ _,vI _ _,vI _ _,vL _ _ _,vI _ _,vI _ _,vI _ _] [2005,2006,2007,2016] [.box _ _ [vI _ _,vI _ _,vI _ _,vL _ _ _,vL _ _ _,vL _ _ _],.box _ _ [vI _ _,vI _ _,vI _ _,vI _ _,vI _ _,vI _ _,vI _ _],.box _ _ [vI _ _,vI _ _,vI _ _,vI _ _,vI _ _,vI _ _,vI _ _],.box _ _ [vI _ _,vI _ _,vI _ _,vI _ _,vI _ _,vB _,vI _ _]] Z Z<|lmI Z<|nG ?_
    have he : x.htlcs[k].out = to.id := by simpa using h2
    have hkp : x.htlcs[k].kept = true := by simpa using h3
    refine ⟨k + 1,hk,by omega,⟨(congrArg int (tot_skip hk (by unfold hFew;simp [he,hkp])).symm),(Eq.trans (b := int _) rfl (congrArg int (tot_add hk (by unfold hOut;simp [he,hkp])))),(congrArg int (tot_skip hk (by unfold hOneF;simp [he,hkp])).symm),(Eq.trans (b := int _) rfl (congrArg int (tot_add hk (by unfold hOne;simp [he,hkp])))),(iq rfl),trivial⟩,trivial,⟨rfl,rfl,rfl,rfl,rfl,rfl,rfl,trivial⟩,⟨rfl,rfl,rfl,trivial⟩⟩
 ·intro h1
  refine aE<|eT<|eT<|eB<|gT<|aS<|aG 12 []<|tq 0 (rf 1 ty.F78_1 Z)<|tq 1 (roI ty.kd3 Z)<|tq 2 (rmI Z)<|tq 3 (rmI Z)<|tq 4 (rmI Z)<|tq 5 (rmI Z)<|tq 6 (rmI Z)<|tq 7 (rf 6 ty.F78_6 Z)<|tq 8 (roI ty.kd3 Z)<|yq 9 (rmB Z)<|yst 10 Z (zL Tryz.func122 (sstanding_e _ _) Z)<|yst 11 Z (zL Tryz.func121 (sallow_e _ _ _ _ _ _ _) Z)<|yq 12 (raI Z)<|gD<|gT<|aR ?_
  refine end_ret ?_ trivial
  refine congrArg (fun n => some (int n)) ?_
  have hke : k = x.htlcs.length := by have h := h1;simp only [length_rowsOf,decide_eq_false_iff_not] at h;omega
  subst hke
  unfold roomV
  rw [List.take_length]

def insL : List Line → Line → List Line
  | [],x => [x]
  | y :: l,x => if lessA y.acc x.acc then y :: insL l x else x :: y :: l
def addL (l : List Line) (k c n : Int) : List Line := if n = 0 then l else insL l ⟨⟨k,c⟩,n⟩
theorem mem_insL {y x : Line} : ∀ {l : List Line},y ∈ insL l x → y ∈ l ∨ y = x
  | [],h => by simp [insL] at h;exact .inr h
  | z :: l,h => by
    unfold insL at h
    split at h
    · rcases List.mem_cons.1 h with h | h
      · exact .inl (by simp [h])
      · rcases mem_insL h with h | h
        · exact .inl (by simp [h])
        · exact .inr h
    · rcases List.mem_cons.1 h with h | h
      · exact .inr h
      · exact .inl h
theorem insL_length (x : Line) : ∀ (l : List Line),(insL l x).length = l.length + 1
  | [] => rfl
  | z :: l => by unfold insL;split <;> simp [insL_length x l]
theorem mem_addL {y : Line} {l : List Line} {k c n : Int} (h : y ∈ addL l k c n) : y ∈ l ∨ (y.acc.kind = k ∧ y.acc.ch = c ∧ y.amt = n) := by
  unfold addL at h
  split at h
  · exact .inl h
  · rcases mem_insL h with h | rfl
    · exact .inl h
    · exact .inr ⟨rfl,rfl,rfl⟩
structure LG (l : List Line) (m : Nat) : Prop where
  len : l.length ≤ m
  rng : ∀ y ∈ l,rangeA y.amt = true
def Fresh (l : List Line) (k c : Int) : Prop := ∀ y ∈ l,¬ (y.acc.kind = k ∧ y.acc.ch = c)
theorem LG.nil : LG [] 0 := ⟨Nat.le_refl _,by simp⟩
theorem LG.add {l : List Line} {m : Nat} {k c n : Int} (h : LG l m) (hn : rangeA n = true) : LG (addL l k c n) (m + 1) := by
  refine ⟨?_,fun y hy => ?_⟩
  · unfold addL
    split
    · have := h.len;omega
    · rw [insL_length];have := h.len;omega
  · rcases mem_addL hy with q | q
    · exact h.rng y q
    · rw [q.2.2];exact hn
theorem Fresh.nil (k c : Int) : Fresh [] k c := by simp [Fresh]
theorem Fresh.add {l : List Line} {k c k' c' n : Int} (h : Fresh l k c) (hd : k' ≠ k ∨ c' ≠ c) : Fresh (addL l k' c' n) k c := fun y hy q => by
  rcases mem_addL hy with r | r
  · exact h y r q
  · omega
theorem lessA_or {a b : Acc} (h : ¬ (a.kind = b.kind ∧ a.ch = b.ch)) (h2 : lessA a b = false) : lessA b a = true := by
  unfold lessA at *
  simp only [Bool.or_eq_false_iff,Bool.and_eq_false_iff,decide_eq_false_iff_not,beq_eq_false_iff_ne,Bool.or_eq_true,Bool.and_eq_true,decide_eq_true_eq,beq_iff_eq] at *
  omega
theorem merge_one {x : Line} : ∀ {l : List Line},Fresh l x.acc.kind x.acc.ch → mergeL l [x] = some (insL l x)
  | [],_ => by rw [mergeL_nil];rfl
  | y :: l,h => by
    have hy := h y (by simp)
    unfold insL
    by_cases q : lessA y.acc x.acc = true
    · rw [mergeL_lt q,merge_one (fun z hz => h z (by simp [hz])),if_pos q];rfl
    · have q' : lessA y.acc x.acc = false := by simpa using q
      rw [mergeL_gt q' (lessA_or hy q'),mergeL_nil2,if_neg q];rfl
abbrev wBox (g : Value) (t n w c : Int) : AO := .box 87 (some g) [int t,int n,int w,.own 1,.own 2,.own 3,.own 4,int c]
def failC (is : Bool) (c k : Int) : Int := if is && (c == 0) then k else c
theorem failC_old {is : Bool} {c k : Int} (h : c ≠ 0) : failC is c k = c := by unfold failC;simp [h]
abbrev cAr (u : Value) (l : List Chan) : AO := .arr ⟨78,some u⟩ 7 (rowsOf encChan l)
abbrev hAr (l : List Htlc) : AO := .arr 117 7 (rowsOf encHtlc l)
abbrev iAr (l : List Circle) : AO := .arr 120 5 (rowsOf encCircle l)
abbrev lAr (l : List Line) : AO := .arr 109 3 (rowsOf encLine l)
theorem rows_some {α : Type} {enc : α → List Value} {l : List α} {i : Nat} {c : α} (h : l[i]? = some c) : (rowsOf enc l)[i]? = some ((enc c).map PV.v) := by unfold rowsOf;rw [List.getElem?_map,h];rfl
theorem rows_set {α : Type} {enc : α → List Value} {l : List α} {i : Nat} {c : α} : (rowsOf enc l).set i ((enc c).map PV.v) = rowsOf enc (l.set i c) := by unfold rowsOf;rw [List.map_set]
theorem rows_take {α : Type} {enc : α → List Value} {l : List α} {k : Nat} : (rowsOf enc l).take k = rowsOf enc (l.take k) := by unfold rowsOf;rw [List.map_take]
theorem rows_drop {α : Type} {enc : α → List Value} {l : List α} {k : Nat} : (rowsOf enc l).drop k = rowsOf enc (l.drop k) := by unfold rowsOf;rw [List.map_drop]
theorem fail_e (g : Value) (t n w c : Int) (p1 : Pin) (s1 : Nat) (r1 : List (List PV)) (p2 : Pin) (s2 : Nat) (r2 : List (List PV)) (p3 : Pin) (s3 : Nat) (r3 : List (List PV)) (p4 : Pin) (s4 : Nat) (r4 : List (List PV)) (is : Bool) (k : Int) : GC Tryz.prog 104 [.ptr 0 0 0,boo is,int k] [(0,wBox g t n w c),(1,.arr p1 s1 r1),(2,.arr p2 s2 r2),(3,.arr p3 s3 r3),(4,.arr p4 s4 r4)] (.tup []) [(0,wBox g t n w (failC is c k)),(1,.arr p1 s1 r1),(2,.arr p2 s2 r2),(3,.arr p3 s3 r3),(4,.arr p4 s4 r4)] := by
 refine GC.intro (rs := []) Tryz.func104 rfl Tryz.ntmps104 (Nat.le_of_ble_eq_true rfl) trivial ?_
 intro L O w0
 refine sL<|lmB Z<|lmB Z ?_
 refine AL.bool (t := 7) rfl ?_ ?_
 ·intro h1
  refine lmP Z<|lc Z<|lf 7 ty.F87_2 Z<|loI ty.kd3 Z<|lbB Z<|lkB Z<|nG ?_
  refine AW.cond rfl ?_ ?_
  ·intro h2
   refine aL<|lmP Z<|lmI Z<|lc Z<|lf 7 ty.F87_2 Z<|lst (zB 0 ty.co3 ty.inf3 Z) Z<|lN ?_
   refine end_go rfl ⟨?_,rfl,rfl,rfl,rfl,trivial⟩
   exact Eq.trans (b := wBox g t n w _) rfl (congrArg (wBox g t n w) (by unfold failC;simp_all))
  ·intro h2
   refine aK ?_
   refine end_go rfl ⟨?_,rfl,rfl,rfl,rfl,trivial⟩
   exact Eq.trans (b := wBox g t n w _) rfl (congrArg (wBox g t n w) (by unfold failC;simp_all))
 ·intro h1
  refine lno Z<|lno Z<|lno Z<|lno Z<|lno Z<|lkZ Z<|nG<|aN Z<|aK ?_
  refine end_go rfl ⟨?_,rfl,rfl,rfl,rfl,trivial⟩
  exact Eq.trans (b := wBox g t n w _) rfl (congrArg (wBox g t n w) (by unfold failC;simp_all))
theorem merged_one_e (l : List Line) (x : Line) (m : Nat) (hl : LG l m) (hm : m ≤ 1000) (hf : Fresh l x.acc.kind x.acc.ch) (hx : rangeA x.amt = true) : GC Tryz.prog 103 [.p (.lst 109 3 (rowsOf encLine l)),.p (.lst 109 3 (rowsOf encLine [x]))] [] (.tup [.own 50,boo true]) [(50,lAr (insL l x))] :=
 (merged_e l [x] (by have := hl.len;simp;omega) hl.rng (by simpa using hx)).gc fun y o h => by unfold mgR at h;rw [merge_one hf] at h;exact h
theorem addL_zero {l : List Line} {k c n : Int} (h : n = 0) : addL l k c n = l := if_pos h
theorem addL_pos {l : List Line} {k c n : Int} (h : ¬ n = 0) : addL l k c n = insL l ⟨⟨k,c⟩,n⟩ := if_neg h
theorem line_e (g : Value) (t n w c : Int) (p1 : Pin) (s1 : Nat) (r1 : List (List PV)) (p2 : Pin) (s2 : Nat) (r2 : List (List PV)) (p3 : Pin) (s3 : Nat) (r3 : List (List PV)) (l : List Line) (m : Nat) (hl : LG l m) (hm : m ≤ 1000) (k cc nn : Int) (hf : Fresh l k cc) (hn : rangeA nn = true) : GC Tryz.prog 52 [.ptr 0 0 0,int k,int cc,int nn] [(0,wBox g t n w c),(1,.arr p1 s1 r1),(2,.arr p2 s2 r2),(3,.arr p3 s3 r3),(4,lAr l)] (.tup []) [(0,wBox g t n w c),(1,.arr p1 s1 r1),(2,.arr p2 s2 r2),(3,.arr p3 s3 r3),(4,lAr (addL l k cc nn))] := by
 refine GC.intro (rs := []) Tryz.func52 rfl Tryz.ntmps52 (Nat.le_of_ble_eq_true rfl) trivial ?_
 intro L O w0
 refine sL<|lmI Z<|lbB Z<|nG ?_
 refine AW.cond rfl ?_ ?_
 ·intro h1
  refine aL<|lmP Z<|lmP Z<|lc Z<|lf 6 ty.F87_1 Z<|loO ty.kd35 Z<|lmI Z<|lmI Z<|lq (rd (x := .agg [vI _ _,vI _ _]) (rd_build Z ty.sa107 Z Z Z) Z)<|lmI Z<|lq (rd (x := .agg [vI _ _,vI _ _,vI _ _]) (rd_build Z ty.sa109 Z Z Z) Z) ?_
  refine lst (zS 2021 (rowsOf encLine [⟨⟨k,cc⟩,nn⟩]) ty.el35 ty.ze109 rfl) rfl ?_
  refine AL.freeze 4 rfl ?_
  refine AL.freeze 2021 rfl ?_
  refine lst (zC [(50,4)] [4] [] Tryz.func103 (merged_one_e l ⟨⟨k,cc⟩,nn⟩ m hl hm hf hn) (trivial) rfl rfl) Z<|lT [11,22] [.ptr 0 _ 0,.tup [.own _,vB true]] [0,1,2,3,4] [.box _ _ [vI _ _,vI _ _,vI _ _,.own _,.own _,.own _,vL _ _ _,vI _ _],.arr _ _ _,.arr _ _ _,.arr _ _ _,.arr _ _ _] rfl Z<|lmX (.tup [.own _,vB true]) Z<|lxO Z<|lxX (vB true) Z<|lc Z<|lf 6 ty.F87_1 Z<|lst (zB 0 ty.co35 ty.inf35 rfl) Z<|lN ?_
  refine end_go ?_ ⟨rfl,rfl,rfl,rfl,(congrArg lAr (addL_pos (by simpa using h1)).symm),trivial⟩
  rfl
 ·intro h1
  refine aK ?_
  refine end_go ?_ ⟨rfl,rfl,rfl,rfl,(congrArg lAr (addL_zero (by simpa using h1)).symm),trivial⟩
  rfl
abbrev wIn (g u : Value) (x : Book) (l : List Line) (c : Int) : List (Nat × AO) := [(0,wBox g x.tick x.next x.wallet c),(1,cAr u x.chans),(2,hAr x.htlcs),(3,iAr x.circles),(4,lAr l)]
structure WR where
  b : Book
  l : List Line
  c : Int
abbrev wOut (g : Value) (r : WR) : List (Nat × AO) := [(0,wBox g r.b.tick r.b.next r.b.wallet r.c),(1,.arr 78 7 (rowsOf encChan r.b.chans)),(2,hAr r.b.htlcs),(3,iAr r.b.circles),(4,lAr r.l)]
abbrev evV (e : Event) : AV := .agg [int e.kind,int e.key,int e.ch,int e.to,int e.amt,int e.fee,boo e.yes]
abbrev chV (c : Chan) : AV := .agg [int c.id,int c.size,int c.loc,int c.remote,int c.base,int c.ppm,int c.score]
def zeroChan : Chan := ⟨0,0,0,0,0,0,0⟩
def chanOr (l : List Chan) (ch : Int) : Chan := (l.find? fun c => c.id == ch).getD zeroChan
theorem chan_find (l : List Chan) (ch : Int) : (chanAt l ch = -1 ∧ chanOr l ch = zeroChan) ∨ ∃ (i : Nat) (c : Chan),chanAt l ch = (i : Int) ∧ l[i]? = some c ∧ chanOr l ch = c ∧ c.id = ch := by
  unfold chanAt chanOr
  cases h : l.findIdx? (fun c => c.id == ch) with
  | none =>
    refine .inl ⟨rfl,?_⟩
    have : l.find? (fun c => c.id == ch) = none := by
      rw [List.find?_eq_none]
      intro x hx
      have := List.findIdx?_eq_none_iff.1 h x hx
      simpa using this
    rw [this];rfl
  | some i =>
    obtain ⟨h1,h2,h3⟩ := List.findIdx?_eq_some_iff_getElem.1 h
    refine .inr ⟨i,l[i],rfl,List.getElem?_eq_getElem h1,?_,by simpa using h2⟩
    have : l.find? (fun c => c.id == ch) = some l[i] := by
      rw [List.find?_eq_some_iff_getElem]
      exact ⟨h2,i,h1,rfl,fun j hj => by simpa using h3 j hj⟩
    rw [this];rfl
theorem failC_keep {b : Bool} {c k : Int} (h : c ≠ 0) : failC b c k ≠ 0 := by rw [failC_old h];exact h
theorem failC_set {c k : Int} (h : k ≠ 0) : failC true c k ≠ 0 := by
  unfold failC
  by_cases q : c = 0
  · simp [q,h]
  · simp [q]
theorem ch_some (g u : Value) (x : Book) (l : List Line) (c id : Int) (hm : x.chans.length ≤ 1000000000) (i : Nat) (cc : Chan) (hi : chanAt x.chans id = (i : Int)) (hc : x.chans[i]? = some cc) : GC Tryz.prog 55 [.ptr 0 0 0,int id] (wIn g u x l c) (.ptr 1 i 0) (wIn g u x l c) := by
 refine gi 4 Tryz.func55 rfl Tryz.ntmps55 rfl ?_
 intro L O w0
 refine sL<|laV Z<|nA<|lmP Z<|lc Z<|lf 0 ty.F87_0 Z<|loX (.agg [vI _ _,vI _ _,vI _ _,.own _,.own _,.own _]) ty.kd34 Z<|lmI Z<|lst (zL Tryz.func102 (chanAt_e x _ hm) rfl) Z<|laI Z<|nG<|aS<|sL<|lmI Z<|lbB Z<|lsB 13 false rfl (by rw [← chanAt_atI,hi];simp)<|nG<|aN Z<|aK<|gA<|lmP rfl ?_
 refine lc Z<|lf 0 ty.F87_0 Z<|lf 3 ty.F34_3 Z<|loO ty.kd30 Z<|lmI Z<|lq (rd (x := .ptr 1 _ 0) (rd_iaddr_own (i := i) rfl ty.el30 rfl rfl rfl ?hn1 (by rw [length_rowsOf];exact (List.getElem?_eq_some_iff.1 hc).1)) rfl) ?_
 case hn1 => rw [← chanAt_atI];exact hi
 refine laP Z<|nG<|aR ?_
 refine end_ret ?_ ⟨rfl,rfl,rfl,rfl,rfl,trivial⟩
 rfl
theorem ch_none (g u : Value) (x : Book) (l : List Line) (c id : Int) (hm : x.chans.length ≤ 1000000000) (hi : chanAt x.chans id = -1) : GC Tryz.prog 55 [.ptr 0 0 0,int id] (wIn g u x l c) (.ptr 2017 0 0) (wIn g u x l (failC true c 6) ++ [(2017,.box 78 none ((encChan zeroChan).map fun c => .p (.v c)))]) := by
 refine gi 4 Tryz.func55 rfl Tryz.ntmps55 rfl ?_
 intro L O w0
 refine sL<|laV Z<|nA<|lmP Z<|lc Z<|lf 0 ty.F87_0 Z<|loX (.agg [vI _ _,vI _ _,vI _ _,.own _,.own _,.own _]) ty.kd34 Z<|lmI Z<|lst (zL Tryz.func102 (chanAt_e x _ hm) rfl) Z<|laI Z<|nG<|aS<|sL<|lmI Z<|lbB Z<|lsB 13 true rfl (by rw [← chanAt_atI,hi];simp)<|nG<|aY Z<|sL<|lmP rfl ?_
 refine lst (z5b Tryz.func104 (fail_e _ _ _ _ _ _ _ _ _ _ _ _ _ _ _ _ _ _ _ ) (⟨stays.box rfl,stays.arr rfl,trivial⟩) rfl rfl) Z<|nA<|lq (rd (x := .agg [vI _ _,vI _ _,vI _ _,vI _ _,vI _ _,vI _ _,vI _ _]) (rd_build rfl ty.sa78 rfl rfl rfl) rfl)<|lst (zX 2017 rfl) Z<|lT [0,4,5,17] [.ptr 0 _ 0,vV _,vI _ _,.ptr 2017 _ 0] [0,1,2,3,4,2017] [.box _ _ [vI _ _,vI _ _,vI _ _,.own _,.own _,.own _,.own _,vI _ _],.arr _ _ _,.arr _ _ _,.arr _ _ _,.arr _ _ _,.box _ _ [vI _ _,vI _ _,vI _ _,vI _ _,vI _ _,vI _ _,vI _ _]] rfl Z<|laP Z<|nG<|aR<|rT ?_
 refine end_ret ?_ ⟨rfl,rfl,rfl,rfl,rfl,rfl,trivial⟩
 rfl
theorem copyBook_e (x : Book) (hx : x.chans.length ≤ 1000000 ∧ x.htlcs.length ≤ 1000000 ∧ x.circles.length ≤ 1000000) : GC Tryz.prog 51 [bookV x] [] (.agg [int x.tick,int x.next,int x.wallet,.own 2005,.own 2009,.own 2013]) [(2005,.arr 78 7 (rowsOf encChan x.chans)),(2009,hAr x.htlcs),(2013,iAr x.circles)] := by
 refine GC.intro (rs := [.cell 2 34 (some 6)]) Tryz.func51 rfl Tryz.ntmps51 (Nat.le_of_ble_eq_true rfl) ⟨rfl,rfl,ty.kd34,trivial⟩ ?_
 intro L O w0
 refine sL<|lst (zX 2001 rfl) Z<|lst (zA 2002 ty.ze34 rfl) Z<|nA<|lf 3 ty.F34_3 Z<|loL ty.kd30 Z<|lst (St.app0 2005 rfl rfl (by decide) ty.el30 ty.ze78 rfl (by decide) rfl (Src.p rfl) (by simp [rowsOf,maxLen] at *;omega) (Nat.le_trans (Nat.mul_le_mul_left _ ty.by78) (by simp [rowsOf] at *;omega))) Z<|lf 3 ty.F34_3 Z<|lst (zB 2001 ty.co30 ty.inf30 rfl) Z<|nA<|lf 4 ty.F34_4 Z<|loL ty.kd31 Z<|lst (St.app0 2009 rfl rfl (by decide) ty.el31 ty.ze117 rfl (by decide) rfl (Src.p rfl) (by simp [rowsOf,maxLen] at *;omega) (Nat.le_trans (Nat.mul_le_mul_left _ ty.by117) (by simp [rowsOf] at *;omega))) Z<|lf 4 ty.F34_4 Z<|lst (zB 2001 ty.co31 ty.inf31 rfl) Z<|nA<|lf 5 ty.F34_5 Z<|loL ty.kd32 Z<|lst (St.app0 2013 rfl rfl (by decide) ty.el32 ty.ze120 rfl (by decide) rfl (Src.p rfl) (by simp [rowsOf,maxLen] at *;omega) (Nat.le_trans (Nat.mul_le_mul_left _ ty.by120) (by simp [rowsOf] at *;omega))) Z<|lT [1,2,13] [.ptr 2001 _ 0,.ptr 2002 _ 0,.own _] [2001,2002,2005,2009,2013] [.box _ _ [vI _ _,vI _ _,vI _ _,.own _,.own _,vL _ _ _],.box _ _ [vI _ _,vI _ _,vI _ _,vV _,vV _,vV _],.arr _ _ _,.arr _ _ _,.arr _ _ _] rfl rfl ?_
 refine lf 5 ty.F34_5 Z<|lst (zB 2001 ty.co32 ty.inf32 Z) Z<|nA<|loX (.agg [vI _ _,vI _ _,vI _ _,.own _,.own _,.own _]) ty.kd34 Z<|lst (zB 2002 ty.co34 ty.inf34 Z) Z<|nG<|aR ?_
 refine end_ret ?_ ⟨rfl,rfl,rfl,trivial⟩
 rfl

abbrev wRead (x : Book) (l : List Line) (c : Int) : AV := .rp [.v (.int .i64 x.tick),.v (.int .i64 x.next),.v (.int .i64 x.wallet),.lst 78 7 (rowsOf encChan x.chans),.lst 117 7 (rowsOf encHtlc x.htlcs),.lst 120 5 (rowsOf encCircle x.circles),.lst 109 3 (rowsOf encLine l),.v (.int .i64 c)]
def overB (x : Book) (e : Event) : Bool :=
  if x.next = 1125899906842624 then true
  else if e.kind = 1 then decide (1125899906842624 < x.wallet + e.amt)
  else if e.kind = 2 then decide (1125899906842624 < e.amt + e.fee)
  else if e.kind = 3 ∧ 0 ≤ chanAt x.chans e.ch then decide (1125899906842624 < x.wallet + (chanOr x.chans e.ch).loc - e.fee)
  else if e.kind = 8 then decide (x.tick = 1125899906842624)
  else false
def A50 (n : Int) : Prop := -1125899906842624 ≤ n ∧ n ≤ 1125899906842624
structure BookSm (x : Book) : Prop where
  tick : A50 x.tick
  next : A50 x.next
  wallet : A50 x.wallet
  chans : ∀ c ∈ x.chans,A50 c.loc ∧ A50 c.remote ∧ A50 c.score ∧ A50 c.base ∧ A50 c.ppm
  htlcs : ∀ h ∈ x.htlcs,A50 h.amtIn ∧ A50 h.amtOut ∧ 0 ≤ h.age ∧ h.age ≤ 1125899906842624 ∧ 0 ≤ h.amtOut
  circles : ∀ c ∈ x.circles,A50 c.amt ∧ A50 c.fee
  lc : x.chans.length ≤ 20
  lh : x.htlcs.length ≤ 60
  li : x.circles.length ≤ 20
structure EvSm (e : Event) : Prop where
  amt : A50 e.amt
  fee : A50 e.fee
theorem mem_of_get {α : Type} {l : List α} {i : Nat} {c : α} (h : l[i]? = some c) : c ∈ l := List.mem_of_getElem? h
theorem BookSm.hs {x : Book} (h : BookSm x) : SmallH x.htlcs := ⟨h.lh,fun y hy => ⟨(h.htlcs y hy).2.2.2.2,(h.htlcs y hy).2.1.2⟩⟩
def mapTo {α : Type} (f : α → α) (k : Nat) (l : List α) : List α := (l.take k).map f ++ l.drop k
theorem mapTo_zero {α : Type} (f : α → α) (l : List α) : mapTo f 0 l = l := by simp [mapTo]
theorem mapTo_all {α : Type} (f : α → α) (l : List α) : mapTo f l.length l = l.map f := by simp [mapTo]
theorem mapTo_len {α : Type} (f : α → α) (k : Nat) (l : List α) (h : k ≤ l.length) : (mapTo f k l).length = l.length := by simp [mapTo];omega
theorem mapTo_get {α : Type} (f : α → α) {k : Nat} {l : List α} (h : k < l.length) : (mapTo f k l)[k]? = some l[k] := by
  unfold mapTo
  rw [List.getElem?_append_right (by simp;omega)]
  simp only [List.length_map,List.length_take,Nat.min_eq_left (Nat.le_of_lt h),Nat.sub_self,List.getElem?_drop,Nat.add_zero]
  exact List.getElem?_eq_getElem h
theorem mapTo_set {α : Type} (f : α → α) {k : Nat} {l : List α} (h : k < l.length) : (mapTo f k l).set k (f l[k]) = mapTo f (k + 1) l := by
  unfold mapTo
  rw [List.set_append_right _ _ (by simp;omega)]
  simp only [List.length_map,List.length_take,Nat.min_eq_left (Nat.le_of_lt h),Nat.sub_self]
  rw [List.drop_eq_getElem_cons h,List.set_cons_zero,List.take_succ_eq_append_getElem h,List.map_append,List.append_assoc]
  rfl
theorem mapTo_skip {α : Type} (f : α → α) {k : Nat} {l : List α} (h : k < l.length) (hf : f l[k] = l[k]) : mapTo f k l = mapTo f (k + 1) l := by
  rw [← mapTo_set f h,hf]
  obtain ⟨h',e⟩ := List.getElem?_eq_some_iff.1 (mapTo_get f h)
  conv => rhs;rw [← e]
  exact (List.set_getElem_self h').symm
theorem ins_rows {α : Type} {enc : α → List Value} {l : List α} {c : α} {k : Nat} : ((((rowsOf enc l).drop 0).take (k - 0)) ++ rowsOf enc [c]) ++ (((rowsOf enc l).drop k).take ((rowsOf enc l).length - k)) = rowsOf enc (l.take k ++ [c] ++ l.drop k) := by
  rw [List.drop_zero,Nat.sub_zero,List.take_of_length_le (l := (rowsOf enc l).drop k) (by rw [List.length_drop];exact Nat.le_refl _),rows_take,rows_drop,rowsOf_app,rowsOf_app]
theorem del_rows {α : Type} {enc : α → List Value} {l : List α} {k : Nat} : (((rowsOf enc l).drop 0).take (k - 0)) ++ (((rowsOf enc l).drop (k + 1)).take ((rowsOf enc l).length - (k + 1))) = rowsOf enc (l.take k ++ l.drop (k + 1)) := by
  rw [List.drop_zero,Nat.sub_zero,List.take_of_length_le (l := (rowsOf enc l).drop (k + 1)) (by rw [List.length_drop];exact Nat.le_refl _),rows_take,rows_drop,rowsOf_app]
def ageH (h : Htlc) : Htlc := { h with age := min (h.age + 1) 1125899906842624 }
def fadeC (t : Int) (c : Chan) : Chan := if (t + 1).tmod 5 = 0 then { c with score := fade c.score } else c
def tickR (x : Book) : WR := ⟨{ x with tick := x.tick + 1,htlcs := x.htlcs.map ageH,chans := x.chans.map (fadeC x.tick) },[],0⟩
def posC (l : List Chan) (ch : Int) : Nat := l.findIdx fun d => !decide (d.id < ch)
def insC (l : List Chan) (c : Chan) : List Chan := l.take (posC l c.id) ++ [c] ++ l.drop (posC l c.id)
theorem posC_at {l : List Chan} {ch : Int} {k : Nat} (hk : k ≤ l.length) (h : ∀ j (h : j < l.length),j < k → l[j].id < ch) (h2 : ∀ h : k < l.length,¬ l[k].id < ch) : posC l ch = k := by
  unfold posC
  rcases Nat.lt_or_ge k l.length with q | q
  · rw [List.findIdx_eq q]
    refine ⟨by simpa using h2 q,fun j hj => by have := h j (by omega) hj;simpa using this⟩
  · have e : k = l.length := by omega
    subst e
    rw [List.findIdx_eq_length]
    intro x hx
    obtain ⟨j,hj,rfl⟩ := List.getElem_of_mem hx
    simpa using h j hj hj
theorem id_succ {l : List Chan} {ch : Int} {k : Nat} (hk : k < l.length) (hall : ∀ j (h : j < l.length),j < k → l[j].id < ch) (h2 : l[k].id < ch) : ∀ j (h : j < l.length),j < k + 1 → l[j].id < ch := fun j hj hlt => by
  rcases Nat.lt_or_ge j k with q | q
  · exact hall j hj q
  · have e1 : j = k := by omega
    subst e1;exact h2
def openC (x : Book) (e : Event) : Int := failC (decide (x.wallet < e.amt)) (failC (decide (0 ≤ chanAt x.chans e.ch) || decide ((20 : Int) ≤ (x.chans.length : Int))) 0 3) 4
def openR (x : Book) (e : Event) : WR := if openC x e = 0 then ⟨{ x with chans := insC x.chans ⟨e.ch,e.amt + e.fee,e.amt,e.fee,0,0,0⟩,wallet := x.wallet - e.amt },addL (addL [] 6 e.ch e.amt) 1 0 (-e.amt),0⟩ else ⟨x,[],openC x e⟩
theorem openR_no {x : Book} {e : Event} (h : openC x e ≠ 0) : openR x e = ⟨x,[],openC x e⟩ := if_neg h
theorem openR_yes {x : Book} {e : Event} (h : openC x e = 0) : openR x e = ⟨{ x with chans := insC x.chans ⟨e.ch,e.amt + e.fee,e.amt,e.fee,0,0,0⟩,wallet := x.wallet - e.amt },addL (addL [] 6 e.ch e.amt) 1 0 (-e.amt),0⟩ := if_pos h
theorem rangeA_of {n : Int} (h : A50 n) : rangeA n = true := inB_true.2 h
theorem rangeA_neg {n : Int} (h : A50 n) : rangeA (-n) = true := inB_true.2 (by unfold A50 at h;omega)
theorem over_e (x : Book) (e : Event) (sm : BookSm x) (es : EvSm e) : GC Tryz.prog 50 [bookV x,evV e] [] (boo (overB x e)) [] := by
 have hm : x.chans.length ≤ 1000000000 := by have := sm.lc;omega
 have hmh : x.htlcs.length ≤ 1000000000 := by have := sm.lh;omega
 have hmc : x.circles.length ≤ 1000000000 := by have := sm.li;omega
 refine gi 4 Tryz.func50 rfl Tryz.ntmps50 rfl ?_
 intro L O w0
 refine sL<|lst (zX 2002 Z) Z<|lst (zX 2003 Z) Z<|laZ Z<|nA<|loX (.agg [vI _ _,vI _ _,vI _ _,vL _ _ _,vL _ _ _,vL _ _ _]) ty.kd34 Z<|lf 2 ty.F41_2 Z<|loI ty.kd3 Z ?_
 rcases chan_find x.chans e.ch with ⟨hi,ho⟩ | ⟨i,c,hi,hc,ho,hid⟩
 ·skip
  refine lst (zL Tryz.func102 (chanAt_e x _ hm) Z) Z<|laI Z<|nG<|aS<|aB<|sL<|lf 1 ty.F34_1 Z<|loI ty.kd3 Z<|lbB Z<|laB Z<|nG ?_
  refine AW.cond rfl ?_ ?_
  ·intro h1
   refine sL<|laT Z<|nG<|aR<|rB<|rT ?_
   refine end_ret ?_ trivial
   refine congrArg (fun b => some (boo b)) ?_
   unfold overB
   first
   | (simp_all [← chanAt_atI];done)
   | (simp_all [← chanAt_atI];intros;omega)
  ·intro h1
   refine sL<|lf 0 ty.F41_0 Z<|loI ty.kd3 Z<|lbB Z<|laB Z<|nG ?_
   refine AW.cond rfl ?_ ?_
   ·intro h2
    refine sL<|lf 2 ty.F34_2 Z<|loI ty.kd3 Z<|lf 4 ty.F41_4 Z<|loI ty.kd3 Z ?_
    refine lhI rfl ⟨rfl,fits_i64 (by have := sm.wallet;have := es.amt;have := es.fee;unfold A50 at *;unfold i64;omega)⟩<|lbB Z<|laB Z<|nG<|aR<|rB<|rT ?_
    refine end_ret ?_ trivial
    refine congrArg (fun b => some (boo b)) ?_
    unfold overB
    first
    | (simp_all [← chanAt_atI];done)
    | (simp_all [← chanAt_atI];intros;omega)
   ·intro h2
    refine sL<|lf 0 ty.F41_0 Z<|loI ty.kd3 Z<|lbB Z<|laB Z<|nG ?_
    refine AW.cond rfl ?_ ?_
    ·intro h3
     refine sL<|lf 4 ty.F41_4 Z<|loI ty.kd3 Z<|lT [3,4,29] [.ptr 2003 _ 0,vB false,vI _ _] [2002,2003] [.box _ _ [vI _ _,vI _ _,vI _ _,vL _ _ _,vL _ _ _,vL _ _ _],.box _ _ [vI _ _,vI _ _,vI _ _,vI _ _,vI _ _,vI _ _,vB _]] Z Z<|lf 5 ty.F41_5 Z<|loI ty.kd3 Z ?_
     refine lhI rfl ⟨rfl,fits_i64 (by have := sm.wallet;have := es.amt;have := es.fee;unfold A50 at *;unfold i64;omega)⟩<|lbB Z<|laB Z<|nG<|aR<|rB<|rT ?_
     refine end_ret ?_ trivial
     refine congrArg (fun b => some (boo b)) ?_
     unfold overB
     first
     | (simp_all [← chanAt_atI];done)
     | (simp_all [← chanAt_atI];intros;omega)
    ·intro h3
     refine sL<|lf 0 ty.F41_0 Z<|loI ty.kd3 Z<|lbB Z<|lmB Z ?_
     refine AL.bool (t := 38) rfl ?_ ?_
     ·intro h4
      refine lmI Z<|lbB Z<|lsB 40 false rfl (by rw [← chanAt_atI,hi];simp)<|lkZ Z<|laZ Z<|nG<|aN Z<|sL<|lf 0 ty.F41_0 Z<|loI ty.kd3 Z<|lbB Z<|laB Z<|nG ?_
      refine AW.cond rfl ?_ ?_
      ·intro h5
       refine sL<|lf 0 ty.F34_0 Z<|loI ty.kd3 Z<|lbB Z<|laB Z<|nG<|aR<|rB<|rT ?_
       refine end_ret ?_ trivial
       refine congrArg (fun b => some (boo b)) ?_
       unfold overB
       first
       | (simp_all [← chanAt_atI];done)
       | (simp_all [← chanAt_atI];intros;omega)
      ·intro h5
       refine aK<|gB<|gA<|laZ Z<|nG<|aR ?_
       refine end_ret ?_ trivial
       refine congrArg (fun b => some (boo b)) ?_
       unfold overB
       first
       | (simp_all [← chanAt_atI];done)
       | (simp_all [← chanAt_atI];intros;omega)
     ·intro h4
      refine lno Z<|lno Z<|lkZ Z<|laZ Z<|nG<|aN Z<|sL<|lf 0 ty.F41_0 Z<|loI ty.kd3 Z<|lbB Z<|laB Z<|nG ?_
      refine AW.cond rfl ?_ ?_
      ·intro h6
       refine sL<|lf 0 ty.F34_0 Z<|loI ty.kd3 Z<|lT [4,60] [vB false,vI _ _] [2002,2003] [.box _ _ [vI _ _,vI _ _,vI _ _,vL _ _ _,vL _ _ _,vL _ _ _],.box _ _ [vI _ _,vI _ _,vI _ _,vI _ _,vI _ _,vI _ _,vB _]] Z Z<|lbB Z<|laB Z<|nG<|aR<|rB<|rT ?_
       refine end_ret ?_ trivial
       refine congrArg (fun b => some (boo b)) ?_
       unfold overB
       first
       | (simp_all [← chanAt_atI];done)
       | (simp_all [← chanAt_atI];intros;omega)
      ·intro h6
       refine aK<|gB<|gA<|laZ Z<|nG<|aR ?_
       refine end_ret ?_ trivial
       refine congrArg (fun b => some (boo b)) ?_
       unfold overB
       first
       | (simp_all [← chanAt_atI];done)
       | (simp_all [← chanAt_atI];intros;omega)
 ·have hcm := sm.chans c (mem_of_get hc)
  refine lst (zL Tryz.func102 (chanAt_e x _ hm) Z) Z<|laI Z<|nG<|aS<|aB<|sL<|lf 1 ty.F34_1 Z<|loI ty.kd3 Z<|lbB Z<|laB Z<|nG ?_
  refine AW.cond rfl ?_ ?_
  ·intro h7
   refine sL<|laT Z<|nG<|aR<|rB<|rT ?_
   refine end_ret ?_ trivial
   refine congrArg (fun b => some (boo b)) ?_
   unfold overB
   first
   | (simp_all [← chanAt_atI];done)
   | (simp_all [← chanAt_atI];intros;omega)
  ·intro h7
   refine sL<|lf 0 ty.F41_0 Z<|loI ty.kd3 Z<|lbB Z<|laB Z<|nG ?_
   refine AW.cond rfl ?_ ?_
   ·intro h8
    refine sL<|lf 2 ty.F34_2 Z<|loI ty.kd3 Z<|lf 4 ty.F41_4 Z<|loI ty.kd3 Z ?_
    refine lhI rfl ⟨rfl,fits_i64 (by have := sm.wallet;have := es.amt;have := es.fee;unfold A50 at *;unfold i64;omega)⟩<|lbB Z<|laB Z<|nG<|aR<|rB<|rT ?_
    refine end_ret ?_ trivial
    refine congrArg (fun b => some (boo b)) ?_
    unfold overB
    first
    | (simp_all [← chanAt_atI];done)
    | (simp_all [← chanAt_atI];intros;omega)
   ·intro h8
    refine sL<|lf 0 ty.F41_0 Z<|loI ty.kd3 Z<|lbB Z<|laB Z<|nG ?_
    refine AW.cond rfl ?_ ?_
    ·intro h9
     refine sL<|lf 4 ty.F41_4 Z<|loI ty.kd3 Z<|lf 5 ty.F41_5 Z<|loI ty.kd3 Z ?_
     refine lhI rfl ⟨rfl,fits_i64 (by have := sm.wallet;have := es.amt;have := es.fee;unfold A50 at *;unfold i64;omega)⟩<|lT [4,32] [vB false,vI _ _] [2002,2003] [.box _ _ [vI _ _,vI _ _,vI _ _,vL _ _ _,vL _ _ _,vL _ _ _],.box _ _ [vI _ _,vI _ _,vI _ _,vI _ _,vI _ _,vI _ _,vB _]] rfl Z<|lbB Z<|laB Z<|nG<|aR<|rB<|rT ?_
     refine end_ret ?_ trivial
     refine congrArg (fun b => some (boo b)) ?_
     unfold overB
     first
     | (simp_all [← chanAt_atI];done)
     | (simp_all [← chanAt_atI];intros;omega)
    ·intro h9
     refine sL<|lf 0 ty.F41_0 Z<|loI ty.kd3 Z<|lbB Z<|lmB Z ?_
     refine AL.bool (t := 38) rfl ?_ ?_
     ·intro h10
      refine lmI Z<|lbB Z<|lsB 40 true rfl (by rw [← chanAt_atI,hi];simp)<|lkT Z<|laT Z<|nG<|aY Z<|aS<|aG 13 []<|tq 0 (rf 2 ty.F34_2 rfl)<|tq 1 (roI ty.kd3 rfl)<|tq 2 (rf 3 ty.F34_3 rfl)<|tq 3 (roL ty.kd30 rfl)<|tq 4 (rmI rfl)<|tq 5 (rd (x := .rp _) (rd_iaddr_p (i := i) rfl ty.el30 rfl rfl ?hn1 (rows_some hc)) rfl) ?_
      case hn1 => rw [← chanAt_atI];exact hi
      refine tq 6 (rd (x := .rp _) (zfr ty.F78_2 Z) Z)<|tq 7 (rrI ty.kd3 Z) ?_
      refine tq 8 (rhI rfl ⟨rfl,fits_i64 (by have := hcm.1;have := sm.wallet;have := es.amt;have := es.fee;unfold A50 at *;unfold i64;omega)⟩)<|yq 9 (rf 5 ty.F41_5 rfl)<|yq 10 (roI ty.kd3 rfl) ?_
      refine yq 11 (rhI rfl ⟨rfl,fits_i64 (by have := hcm.1;have := sm.wallet;have := es.amt;have := es.fee;unfold A50 at *;unfold i64;omega)⟩)<|yq 12 (rbB rfl)<|yq 13 (raB rfl)<|gD<|gT<|aR<|rB<|rT ?_
      refine end_ret ?_ trivial
      refine congrArg (fun b => some (boo b)) ?_
      unfold overB
      first
      | (simp_all [← chanAt_atI];done)
      | (simp_all [← chanAt_atI];intros;omega)
     ·intro h10
      refine lno Z<|lno Z<|lkZ Z<|laZ Z<|nG<|aN Z<|sL<|lf 0 ty.F41_0 Z<|loI ty.kd3 Z<|lbB Z<|laB Z<|lT [2,4,55] [.ptr 2002 _ 0,vB false,vB _] [2002,2003] [.box _ _ [vI _ _,vI _ _,vI _ _,vL _ _ _,vL _ _ _,vL _ _ _],.box _ _ [vI _ _,vI _ _,vI _ _,vI _ _,vI _ _,vI _ _,vB _]] Z Z<|nG ?_
      refine AW.cond rfl ?_ ?_
      ·intro h11
       refine sL<|lf 0 ty.F34_0 Z<|loI ty.kd3 Z<|lbB Z<|laB Z<|nG<|aR<|rB<|rT ?_
       refine end_ret ?_ trivial
       refine congrArg (fun b => some (boo b)) ?_
       unfold overB
       first
       | (simp_all [← chanAt_atI];done)
       | (simp_all [← chanAt_atI];intros;omega)
      ·intro h11
       refine aK<|gB<|gA<|laZ Z<|nG<|aR ?_
       refine end_ret ?_ trivial
       refine congrArg (fun b => some (boo b)) ?_
       unfold overB
       first
       | (simp_all [← chanAt_atI];done)
       | (simp_all [← chanAt_atI];intros;omega)
theorem allowed_e (x : Book) (l : List Line) (c : Int) (frm to : Chan) (e : Event) (sm : SmallH x.htlcs) : GC Tryz.prog 109 [wRead x l c,chV frm,chV to,evV e] [] (int (roomV x.htlcs frm to e.to e.amt e.yes)) [] := by
 refine gi 8 Tryz.func109 rfl Tryz.ntmps109 rfl ?_
 intro L O w0
 refine sL<|lst (zX 2005 Z) Z<|lst (zX 2006 Z) Z<|lst (zX 2007 Z) Z<|laI Z<|nA<|laI Z<|laI Z<|laI Z<|laI Z<|nG<|aS<|sL<|lmX (.rp _) Z<|lq (rd (x := .rp _) (rd_nilc_rp Z Z) Z)<|lq (rd (x := .rp _) (zfr ty.F87_0 Z) Z)<|lq (rd (x := .rp _) (zfr ty.F34_4 Z) Z)<|lrL ty.kd31 Z<|lnI ty.sl31 Z<|lmI Z<|nG<|aB ?_
 refine AW.loopE [(5,.ptr 2005 _ 0),(6,.ptr 2006 _ 0),(7,.ptr 2007 _ 0),(8,vI _ _),(19,vL _ _ _),(20,vI _ _)] [(2005,.box _ _ [vI _ _,vI _ _,vI _ _,vI _ _,vI _ _,vI _ _,vI _ _]),(2006,.box _ _ [vI _ _,vI _ _,vI _ _,vI _ _,vI _ _,vI _ _,vI _ _]),(2007,.box _ _ [vI _ _,vI _ _,vI _ _,vI _ _,vI _ _,vI _ _,vB _])] (D := Nat) (fun k => [(9,int (tot (hFew e.to) (x.htlcs.take k))),(10,int (tot (hOut e.to) (x.htlcs.take k))),(11,int (tot (hOneF e.to) (x.htlcs.take k))),(12,int (tot (hOne e.to) (x.htlcs.take k))),(21,int (k : Int))]) (fun k => []) (fun k => k ≤ x.htlcs.length) (fun k => x.htlcs.length - k) (0) (Nat.zero_le _) ⟨rfl,rfl,rfl,rfl,rfl,trivial⟩ trivial ⟨rfl,rfl,rfl,rfl,rfl,rfl,trivial⟩ ⟨rfl,rfl,rfl,trivial⟩ ?_
 intro k hI
 have b0 := sm.1
 have b1 := sm.few e.to k
 have b2 := sm.all e.to k
 have b3 := sm.oneF e.to k
 have b4 := sm.one e.to k
 refine sL<|lbB Z<|nG<|aS ?_
 refine AW.cond rfl ?_ ?_
 ·intro h1
  refine aK<|gT<|aS<|aB<|sL ?_
  have hk : k < x.htlcs.length := by simpa [length_rowsOf] using h1
  have b5 := sm.at hk
  refine li k ty.el31 Z (row_map hk)<|lrX (.agg [vI _ _,vI _ _,vI _ _,vI _ _,vI _ _,vB _,vI _ _]) ty.kd117 Z<|lst (zA 2014 ty.ze117 Z) Z<|lT [5,6,7,8,9,10,11,12,14,19,20,21,24] [.ptr 2005 _ 0,.ptr 2006 _ 0,.ptr 2007 _ 0,vI _ _,vI _ _,vI _ _,vI _ _,vI _ _,.ptr 2014 _ 0,vL _ _ _,vI _ _,vI _ _,.agg [vI _ _,vI _ _,vI _ _,vI _ _,vI _ _,vB _,vI _ _]] [2005,2006,2007,2014] [.box _ _ [vI _ _,vI _ _,vI _ _,vI _ _,vI _ _,vI _ _,vI _ _],.box _ _ [vI _ _,vI _ _,vI _ _,vI _ _,vI _ _,vI _ _,vI _ _],.box _ _ [vI _ _,vI _ _,vI _ _,vI _ _,vI _ _,vI _ _,vB _],.box _ _ [vI _ _,vI _ _,vI _ _,vI _ _,vI _ _,vB false,vI _ _]] Z Z<|lst (zB 2014 ty.co117 ty.inf117 Z) Z<|nG<|aS<|sL<|lf 2 ty.F117_2 Z<|loI ty.kd3 Z<|lf 3 ty.F41_3 Z<|loI ty.kd3 Z<|lbB Z<|nG ?_
  refine AW.cond rfl ?_ ?_
  ·intro h2
   refine aE<|eT<|eB<|gT<|aL<|lgI Z<|lmI Z<|nG ?_
   refine ⟨k + 1,hk,by omega,⟨(congrArg int (tot_skip hk (by have h := h2;simp only [Bool.not_eq_true',decide_eq_false_iff_not,decide_eq_true_eq] at h;unfold hFew;simp [h])).symm),(congrArg int (tot_skip hk (by have h := h2;simp only [Bool.not_eq_true',decide_eq_false_iff_not,decide_eq_true_eq] at h;unfold hOut;simp [h])).symm),(congrArg int (tot_skip hk (by have h := h2;simp only [Bool.not_eq_true',decide_eq_false_iff_not,decide_eq_true_eq] at h;unfold hOneF;simp [h])).symm),(congrArg int (tot_skip hk (by have h := h2;simp only [Bool.not_eq_true',decide_eq_false_iff_not,decide_eq_true_eq] at h;unfold hOne;simp [h])).symm),(iq rfl),trivial⟩,trivial,⟨rfl,rfl,rfl,rfl,rfl,rfl,trivial⟩,⟨rfl,rfl,rfl,trivial⟩⟩
  ·intro h2
   refine aK<|gA<|lmI Z<|lf 4 ty.F117_4 Z<|loI ty.kd3 Z<|lgI Z<|laI Z<|nA<|lmI Z<|lgI Z<|laI Z<|nA<|lf 5 ty.F117_5 Z<|loB ty.kd4 Z<|luB Z<|nG ?_
   refine AW.cond rfl ?_ ?_
   ·intro h3
    refine sL<|lmI Z<|lf 4 ty.F117_4 Z<|loI ty.kd3 Z<|lgI Z<|laI Z<|nG<|aL<|lmI Z<|lgI Z<|laI Z<|lN<|gB<|gT<|aL<|lgI Z<|lmI Z<|nG ?_
    have he : x.htlcs[k].out = e.to := by simpa using h2
    have hkp : x.htlcs[k].kept = false := by simpa using h3
    refine ⟨k + 1,hk,by omega,⟨(Eq.trans (b := int _) rfl (congrArg int (tot_add hk (by unfold hFew;simp [he,hkp])))),(Eq.trans (b := int _) rfl (congrArg int (tot_add hk (by unfold hOut;simp [he,hkp])))),(Eq.trans (b := int _) rfl (congrArg int (tot_add hk (by unfold hOneF;simp [he,hkp])))),(Eq.trans (b := int _) rfl (congrArg int (tot_add hk (by unfold hOne;simp [he,hkp])))),(iq rfl),trivial⟩,trivial,⟨rfl,rfl,rfl,rfl,rfl,rfl,trivial⟩,⟨rfl,rfl,rfl,trivial⟩⟩
   ·intro h3
    refine aK<|gB<|gT<|aL<|lgI Z<|lT [5,6,7,8,9,10,11,12,19,20,21,45] [.ptr 2005 _ 0,.ptr 2006 _ 0,.ptr 2007 _ 0,vI _ _,vI _ _,vI _ _,vI _ _,vI _ _,vL _ _ _,vI _ _,vI _ _,vI _ _] [2005,2006,2007,2014] [.box _ _ [vI _ _,vI _ _,vI _ _,vI _ _,vI _ _,vI _ _,vI _ _],.box _ _ [vI _ _,vI _ _,vI _ _,vI _ _,vI _ _,vI _ _,vI _ _],.box _ _ [vI _ _,vI _ _,vI _ _,vI _ _,vI _ _,vI _ _,vB _],.box _ _ [vI _ _,vI _ _,vI _ _,vI _ _,vI _ _,vB _,vI _ _]] Z Z<|lmI Z<|nG ?_
    have he : x.htlcs[k].out = e.to := by simpa using h2
    have hkp : x.htlcs[k].kept = true := by simpa using h3
    refine ⟨k + 1,hk,by omega,⟨(congrArg int (tot_skip hk (by unfold hFew;simp [he,hkp])).symm),(Eq.trans (b := int _) rfl (congrArg int (tot_add hk (by unfold hOut;simp [he,hkp])))),(congrArg int (tot_skip hk (by unfold hOneF;simp [he,hkp])).symm),(Eq.trans (b := int _) rfl (congrArg int (tot_add hk (by unfold hOne;simp [he,hkp])))),(iq rfl),trivial⟩,trivial,⟨rfl,rfl,rfl,rfl,rfl,rfl,trivial⟩,⟨rfl,rfl,rfl,trivial⟩⟩
 ·intro h1
  refine aE<|eT<|eT<|eB<|gT<|aS<|aG 14 []<|tq 0 (rf 1 ty.F78_1 Z)<|tq 1 (roI ty.kd3 Z)<|tq 2 (rmI Z)<|tq 3 (rmI Z)<|tq 4 (rmI Z)<|tq 5 (rmI Z)<|tq 6 (rf 4 ty.F41_4 Z)<|tq 7 (roI ty.kd3 Z)<|tq 8 (rf 6 ty.F78_6 Z)<|tq 9 (roI ty.kd3 Z)<|yq 10 (rf 6 ty.F41_6 Z)<|yq 11 (roB ty.kd4 Z)<|yst 12 Z (zL Tryz.func130 (standing_e _ _) Z)<|gX [8,47,48,49,50,51,53,58] [vI _ _,vI _ _,vI _ _,vI _ _,vI _ _,vI _ _,vI _ _,vB _] [2005,2006,2007] [.box _ _ [vI _ _,vI _ _,vI _ _,vI _ _,vI _ _,vI _ _,vI _ _],.box _ _ [vI _ _,vI _ _,vI _ _,vI _ _,vI _ _,vI _ _,vI _ _],.box _ _ [vI _ _,vI _ _,vI _ _,vI _ _,vI _ _,vI _ _,vB _]] Z Z trivial<|yst 13 Z (zL Tryz.func129 (allow_e _ _ _ _ _ _ _) Z)<|yq 14 (raI Z)<|gD<|gT<|aR ?_
  have hke : k = x.htlcs.length := by have h := h1;simp only [length_rowsOf,decide_eq_false_iff_not] at h;omega
  subst hke
  refine end_ret ?_ trivial
  refine congrArg (fun n => some (int n)) ?_
  unfold roomV
  rw [List.take_length]
theorem tick_e (g u : Value) (x : Book) (sm : BookSm x) : GC Tryz.prog 58 [.ptr 0 0 0] (wIn g u x [] 0) (.tup []) (wOut g (tickR x)) := by
 have bh := sm.lh
 have bc := sm.lc
 refine GC.intro (rs := []) Tryz.func58 rfl Tryz.ntmps58 (Nat.le_of_ble_eq_true rfl) trivial ?_
 intro L O w0
 refine AW.unpin 1 rfl ?_
 refine sL<|lmP Z<|lc Z<|lf 0 ty.F87_0 Z<|lf 0 ty.F34_0 Z<|loI ty.kd3 Z ?_
 refine lhI rfl ⟨rfl,fits_i64 (by have := sm.tick;unfold A50 at this;unfold i64;omega)⟩<|lc Z<|lf 0 ty.F87_0 Z<|lf 0 ty.F34_0 Z<|lst (zB 0 ty.co3 ty.inf3 rfl) Z<|nG<|aS<|sL<|lmP Z<|lc Z<|lf 0 ty.F87_0 Z<|lf 4 ty.F34_4 Z<|loO ty.kd31 Z<|lnI ty.sl31 Z<|lmI Z<|nG<|aB ?_
 refine AW.loopE [(0,.ptr 0 _ 0),(20,vI _ _)] [(0,.box _ _ [vI _ _,vI _ _,vI _ _,.own _,.own _,.own _,.own _,vI _ _]),(1,.arr _ _ _),(3,.arr _ _ _),(4,.arr _ _ _)] (D := Nat) (fun k => [(21,int (k : Int))]) (fun k => [(2,hAr (mapTo ageH k x.htlcs))]) (fun k => k ≤ x.htlcs.length) (fun k => x.htlcs.length - k) (0) (Nat.zero_le _) ⟨rfl,trivial⟩ ⟨(congrArg hAr (mapTo_zero ageH x.htlcs).symm),trivial⟩ ⟨rfl,rfl,trivial⟩ ⟨rfl,rfl,rfl,rfl,trivial⟩ ?_
 intro k hI
 refine sL<|lbB Z<|nG<|aS ?_
 refine AW.cond rfl ?_ ?_
 ·intro h1
  refine aK<|gT<|aS<|aB<|sL<|lmI Z<|laI Z<|nA<|lmP Z<|lc Z<|lf 0 ty.F87_0 Z<|lf 4 ty.F34_4 Z<|loO ty.kd31 Z<|lmI Z ?_
  have hk : k < x.htlcs.length := by simpa [length_rowsOf] using h1
  have hhm := sm.htlcs _ (List.getElem_mem hk)
  refine lq (rj k ty.el31 rfl (by rw [length_rowsOf,mapTo_len _ _ _ (Nat.le_of_lt hk)];exact hk))<|laP Z<|nG<|aL<|lmP Z<|lmP Z<|lT [0,20,21,31,32] [.ptr 0 _ 0,vI _ _,vI _ _,.ptr 2 _ 0,.ptr 2 _ 0] [0,1,2,3,4] [.box _ _ [vI _ _,vI _ _,vI _ _,.own _,.own _,.own _,.own _,vI _ _],.arr _ _ _,.arr _ _ _,.arr _ _ _,.arr _ _ _] rfl Z<|lc Z<|lf 6 ty.F117_6 Z<|lq (rd (x := vI _ _) (rd_load_arr rfl ty.kd3 rfl rfl rfl (rows_some (mapTo_get ageH hk)) rfl) rfl) ?_
  refine lhI rfl ⟨rfl,fits_i64 (by have := hhm.2.2.1;have := hhm.2.2.2.1;unfold i64;omega)⟩<|lq (rd (x := vI _ _) (rd_min rfl rfl) rfl)<|lc Z<|lf 6 ty.F117_6 Z<|lst (zQ 2 [.v (.int .i64 (min (x.htlcs[k].age + 1) 1125899906842624))] ty.co3 ty.inf3 rfl (rows_some (mapTo_get ageH hk))) Z<|lN<|gB<|gT ?_
  refine AW.obj 2 (hAr (mapTo ageH (k + 1) x.htlcs)) (Eq.trans (b := AO.arr 117 7 ((rowsOf encHtlc (mapTo ageH k x.htlcs)).set k ((encHtlc (ageH x.htlcs[k])).map PV.v))) rfl (congrArg (AO.arr 117 7) (rows_set.trans (congrArg (rowsOf encHtlc) (mapTo_set ageH hk))))) ?_
  refine aL<|lgI Z<|lmI Z<|nG ?_
  refine ⟨k + 1,hk,by omega,⟨(iq rfl),trivial⟩,⟨rfl,trivial⟩,⟨rfl,rfl,trivial⟩,⟨rfl,rfl,rfl,rfl,trivial⟩⟩
 ·intro h1
  refine aE<|eT<|eT<|eB<|gA<|lmP Z<|lc Z<|lf 0 ty.F87_0 Z<|lf 3 ty.F34_3 Z<|loO ty.kd30 Z<|lnI ty.sl30 Z<|lmI Z<|nG<|aB ?_
  have hkeh : k = x.htlcs.length := by have h := h1;simp only [length_rowsOf,decide_eq_false_iff_not] at h;omega
  refine AW.obj 2 (hAr (x.htlcs.map ageH)) (congrArg hAr (by rw [hkeh,mapTo_all])) ?_
  refine AW.loopE [(0,.ptr 0 _ 0),(46,vI _ _)] [(0,.box _ _ [vI _ _,vI _ _,vI _ _,.own _,.own _,.own _,.own _,vI _ _]),(2,.arr _ _ _),(3,.arr _ _ _),(4,.arr _ _ _)] (D := Nat) (fun j => [(47,int (j : Int))]) (fun j => [(1,.arr 78 7 (rowsOf encChan (mapTo (fadeC x.tick) j x.chans)))]) (fun j => j ≤ x.chans.length) (fun j => x.chans.length - j) (0) (Nat.zero_le _) ⟨rfl,trivial⟩ ⟨(congrArg (fun l => AO.arr 78 7 (rowsOf encChan l)) (mapTo_zero (fadeC x.tick) x.chans).symm),trivial⟩ ⟨rfl,rfl,trivial⟩ ⟨rfl,rfl,rfl,rfl,trivial⟩ ?_
  intro j hI
  refine sL<|lbB Z<|nG<|aS ?_
  refine AW.cond rfl ?_ ?_
  ·intro h2
   refine aK<|gT<|aS<|aB<|sL<|lmI Z<|laI Z<|nA<|lmP Z<|lc Z<|lf 0 ty.F87_0 Z<|lf 3 ty.F34_3 Z<|loO ty.kd30 Z<|lmI Z ?_
   have hj : j < x.chans.length := by simpa [length_rowsOf] using h2
   have hcm := sm.chans _ (List.getElem_mem hj)
   refine lq (rj j ty.el30 rfl (by rw [length_rowsOf,mapTo_len _ _ _ (Nat.le_of_lt hj)];exact hj))<|laP Z<|nA<|lmP Z<|lc Z<|lT [0,5,46,47,58] [.ptr 0 _ 0,.ptr 1 _ 0,vI _ _,vI _ _,.ptr 0 _ 0] [0,1,2,3,4] [.box _ _ [vI _ _,vI _ _,vI _ _,.own _,.own _,.own _,.own _,vI _ _],.arr _ _ _,.arr _ _ _,.arr _ _ _,.arr _ _ _] rfl Z<|lf 0 ty.F87_0 Z<|lf 0 ty.F34_0 Z<|loI ty.kd3 rfl ?_
   refine lhI rfl ⟨rfl,by decide⟩<|lbB Z<|nG ?_
   refine AW.cond rfl ?_ ?_
   ·intro h3
    refine aL<|lmP Z<|lmP Z<|lc Z<|lf 6 ty.F78_6 Z<|lq (rd (x := vI _ _) (rd_load_arr Z ty.kd3 Z Z Z (rows_some (mapTo_get _ hj)) Z) Z)<|lst (zL Tryz.func113 (scFade_e _) Z) Z<|lc Z<|lf 6 ty.F78_6 Z<|lst (zQ 1 [.v (.int .i64 (fade x.chans[j].score))] ty.co3 ty.inf3 Z (rows_some (mapTo_get _ hj))) Z<|lT [0,46,47] [.ptr 0 _ 0,vI _ _,vI _ _] [0,1,2,3,4] [.box _ _ [vI _ _,vI _ _,vI _ _,.own _,.own _,.own _,.own _,vI _ _],.arr _ _ _,.arr _ _ _,.arr _ _ _,.arr _ _ _] Z Z<|lN<|gB<|gT ?_
    refine AW.obj 1 (.arr 78 7 (rowsOf encChan (mapTo (fadeC x.tick) (j + 1) x.chans))) (Eq.trans (b := AO.arr 78 7 ((rowsOf encChan (mapTo (fadeC x.tick) j x.chans)).set j ((encChan { x.chans[j] with score := fade x.chans[j].score }).map PV.v))) rfl (congrArg (AO.arr 78 7) (rows_set.trans (congrArg (rowsOf encChan) (by rw [← mapTo_set _ hj];unfold fadeC;rw [if_pos (by simpa using h3)]))))) ?_
    refine aL<|lgI Z<|lmI Z<|nG ?_
    refine ⟨j + 1,hj,by omega,⟨(iq rfl),trivial⟩,⟨rfl,trivial⟩,⟨rfl,rfl,trivial⟩,⟨rfl,rfl,rfl,rfl,trivial⟩⟩
   ·intro h3
    refine aK<|gB<|gT<|aL<|lgI Z<|lmI Z<|nG ?_
    refine ⟨j + 1,hj,by omega,⟨(iq rfl),trivial⟩,⟨(congrArg (fun l => AO.arr 78 7 (rowsOf encChan l)) (mapTo_skip (fadeC x.tick) hj (if_neg (by simpa using h3)))),trivial⟩,⟨rfl,rfl,trivial⟩,⟨rfl,rfl,rfl,rfl,trivial⟩⟩
  ·intro h2
   refine aE<|eT<|eT<|eB ?_
   refine end_go ?_ ⟨rfl,(congrArg (fun l => AO.arr 78 7 (rowsOf encChan l)) (by rw [show j = x.chans.length by have h := h2;simp only [length_rowsOf,decide_eq_false_iff_not] at h;omega,mapTo_all];rfl)),rfl,rfl,rfl,trivial⟩
   rfl
theorem open_e (g u : Value) (x : Book) (e : Event) (sm : BookSm x) (es : EvSm e) : GC Tryz.prog 53 [.ptr 0 0 0,evV e] (wIn g u x [] 0) (.tup []) (wOut g (openR x e)) := by
 have hm : x.chans.length ≤ 1000000000 := by have := sm.lc;omega
 have hmh : x.htlcs.length ≤ 1000000000 := by have := sm.lh;omega
 have hmc : x.circles.length ≤ 1000000000 := by have := sm.li;omega
 refine GC.intro (rs := []) Tryz.func53 rfl Tryz.ntmps53 (Nat.le_of_ble_eq_true rfl) trivial ?_
 intro L O w0
 refine AW.unpin 1 rfl ?_
 refine sL<|lst (zX 2003 Z) Z<|nG ?_
 refine AW.seqE [(0,.ptr 0 _ 0),(3,.ptr 2003 _ 0)] [(1,.arr _ _ _),(2,.arr _ _ _),(3,.arr _ _ _),(4,.arr _ _ _),(2003,.box _ _ [vI _ _,vI _ _,vI _ _,vI _ _,vI _ _,vI _ _,vB _])] (D := Unit) (fun jd => []) (fun jd => [(0,wBox g x.tick x.next x.wallet (failC (decide (0 ≤ chanAt x.chans e.ch) || decide ((20 : Int) ≤ (x.chans.length : Int))) 0 3))]) (fun jd => True) ⟨rfl,rfl,trivial⟩ ⟨rfl,rfl,rfl,rfl,rfl,trivial⟩ ?_ ?_
 ·refine aG 18 []<|tq 0 (rmP Z)<|tq 1 (rmP Z)<|tq 2 (rc Z)<|tq 3 (rf 0 ty.F87_0 Z)<|tq 4 (roX (.agg [vI _ _,vI _ _,vI _ _,.own _,.own _,.own _]) ty.kd34 Z)<|yq 5 (rf 2 ty.F41_2 Z)<|yq 6 (roI ty.kd3 Z)<|yst 7 Z (zL Tryz.func102 (chanAt_e x _ hm) Z)<|yq 8 (rbB Z)<|yq 9 (rmB Z) ?_
  refine AG.bool (t := 15) rfl ?_ ?_
  ·intro h1
   refine yno 10 Z<|yno 11 Z<|yno 12 Z<|yno 13 Z<|yno 14 Z<|yno 15 Z<|yno 16 Z<|yq 17 (rkT Z) ?_
   refine yl rfl (z5a Tryz.func104 (fail_e _ _ _ _ _ _ _ _ _ _ _ _ _ _ _ _ _ _ _ ) (⟨stays.box rfl,trivial⟩) rfl rfl)<|gT ?_
   refine ⟨(),trivial,trivial,⟨(Eq.trans (b := wBox g x.tick x.next x.wallet _) rfl (congrArg (wBox g x.tick x.next x.wallet) (by rw [show decide (0 ≤ chanAt x.chans e.ch) = true from h1];simp [length_rowsOf]))),trivial⟩,⟨rfl,rfl,trivial⟩,⟨rfl,rfl,rfl,rfl,rfl,trivial⟩⟩
  ·intro h1
   refine yq 10 (rmP Z)<|yq 11 (rc Z)<|yq 12 (rf 0 ty.F87_0 Z)<|yq 13 (rf 3 ty.F34_3 Z)<|yq 14 (roO ty.kd30 Z)<|yq 15 (rnI ty.sl30 Z)<|yq 16 (rbB Z)<|yq 17 (rkB Z) ?_
   refine yl rfl (z5a Tryz.func104 (fail_e _ _ _ _ _ _ _ _ _ _ _ _ _ _ _ _ _ _ _ ) (⟨stays.box rfl,trivial⟩) rfl rfl)<|gT ?_
   refine ⟨(),trivial,trivial,⟨(Eq.trans (b := wBox g x.tick x.next x.wallet _) rfl (congrArg (wBox g x.tick x.next x.wallet) (by rw [show decide (0 ≤ chanAt x.chans e.ch) = false from h1];simp [length_rowsOf]))),trivial⟩,⟨rfl,rfl,trivial⟩,⟨rfl,rfl,rfl,rfl,rfl,trivial⟩⟩
 ·intro jd hJ
  refine aS<|aG 9 []<|tq 0 (rmP Z)<|tq 1 (rmP Z)<|tq 2 (rc Z)<|tq 3 (rf 0 ty.F87_0 Z)<|tq 4 (rf 2 ty.F34_2 Z)<|tq 5 (roI ty.kd3 Z)<|yq 6 (rf 4 ty.F41_4 Z)<|yq 7 (roI ty.kd3 Z)<|yq 8 (rbB Z) ?_
  refine yl rfl (z5a Tryz.func104 (fail_e _ _ _ _ _ _ _ _ _ _ _ _ _ _ _ _ _ _ _ ) (⟨stays.box rfl,trivial⟩) rfl rfl)<|gT<|aS<|sL<|lmP Z<|lc Z<|lf 7 ty.F87_2 Z<|loI ty.kd3 Z<|lbB Z<|nG ?_
  refine AW.cond rfl ?_ ?_
  ·intro h2
   refine aR<|rT ?_
   have hc0 : openC x e ≠ 0 := by
     unfold openC
     simpa [length_rowsOf,← chanAt_atI] using h2
   rw [openR_no hc0]
   refine end_ret ?_ ⟨rfl,rfl,rfl,rfl,rfl,trivial⟩
   rfl
  ·intro h2
   refine aK<|gT<|aS ?_
   have hc0 : openC x e = 0 := by
     unfold openC
     simpa [length_rowsOf,← chanAt_atI] using h2
   refine aL<|laI Z<|nG<|aS<|aB ?_
   refine AW.loopE [(0,.ptr 0 _ 0),(3,.ptr 2003 _ 0)] [(0,.box _ _ [vI _ _,vI _ _,vI _ _,.own _,.own _,.own _,.own _,vI _ _]),(1,.arr _ _ _),(2,.arr _ _ _),(3,.arr _ _ _),(4,.arr _ _ _),(2003,.box _ _ [vI _ _,vI _ _,vI _ _,vI _ _,vI _ _,vI _ _,vB _])] (D := Nat) (fun k => [(4,int (k : Int))]) (fun k => []) (fun k => k ≤ x.chans.length ∧ ∀ j (h : j < x.chans.length),j < k → x.chans[j].id < e.ch) (fun k => x.chans.length - k) (0) (⟨Nat.zero_le _,fun j _ h => absurd h (by omega)⟩) ⟨rfl,trivial⟩ trivial ⟨rfl,rfl,trivial⟩ ⟨rfl,rfl,rfl,rfl,rfl,rfl,trivial⟩ ?_
   intro k hI
   obtain ⟨hkl,hall⟩ := hI
   refine aS<|aS<|aG 21 []<|tq 0 (rmI Z)<|yq 1 (rmP Z)<|yq 2 (rc Z)<|yq 3 (rf 0 ty.F87_0 Z)<|yq 4 (rf 3 ty.F34_3 Z)<|yq 5 (roO ty.kd30 Z)<|yq 6 (rnI ty.sl30 Z)<|yq 7 (rbB Z)<|yq 8 (rmB Z) ?_
   refine AG.bool (t := 48) rfl ?_ ?_
   ·intro h3
    refine tq 9 (rmP Z)<|tq 10 (rc Z)<|tq 11 (rf 0 ty.F87_0 Z)<|tq 12 (rf 3 ty.F34_3 Z)<|tq 13 (roO ty.kd30 Z)<|gX [0,3,4,48,53] [.ptr 0 _ 0,.ptr 2003 _ 0,vI _ _,vB true,.own _] [0,1,2,3,4,2003] [.box _ _ [vI _ _,vI _ _,vI _ _,.own _,.own _,.own _,.own _,vI _ _],.arr _ _ _,.arr _ _ _,.arr _ _ _,.arr _ _ _,.box _ _ [vI _ _,vI _ _,vI _ _,vI _ _,vI _ _,vI _ _,vB _]] Z Z trivial<|tq 14 (rmI Z) ?_
    have hk : k < x.chans.length := by simpa [length_rowsOf] using h3
    refine tq 15 (rj k ty.el30 rfl (by rw [length_rowsOf];exact hk))<|tq 16 (rf 0 ty.F78_0 rfl)<|tq 17 (rd (x := vI _ _) (rd_load_arr rfl ty.kd3 rfl rfl rfl (row_map hk) rfl) rfl)<|yq 18 (rf 2 ty.F41_2 rfl)<|yq 19 (roI ty.kd3 rfl)<|yq 20 (rbB rfl)<|yq 21 (rkB rfl)<|gD<|gT ?_
    refine AW.cond rfl ?_ ?_
    ·intro h4
     refine aK<|gT<|aB<|aL<|lmI Z<|lgI Z<|laI Z<|lN<|gB<|gT ?_
     refine ⟨k + 1,⟨hk,id_succ hk hall (by simpa using h4)⟩,by omega,⟨(iq rfl),trivial⟩,trivial,⟨rfl,rfl,trivial⟩,⟨rfl,rfl,rfl,rfl,rfl,rfl,trivial⟩⟩
    ·intro h4
     refine aE<|eT<|eT<|eB<|gT<|aS ?_
     have hpos : posC x.chans e.ch = k := posC_at hkl hall (fun hlt => by first | (simp_all [length_rowsOf];done) | (simp_all [length_rowsOf];omega))
     refine aL<|lf 2 ty.F41_2 Z<|loI ty.kd3 Z<|lf 4 ty.F41_4 Z<|loI ty.kd3 Z<|lf 5 ty.F41_5 Z<|loI ty.kd3 Z ?_
     refine lhI rfl ⟨rfl,fits_i64 (by have := es.amt;have := es.fee;have := sm.wallet;unfold A50 at *;unfold i64;omega)⟩<|lf 4 ty.F41_4 Z<|loI ty.kd3 Z<|lf 5 ty.F41_5 Z<|loI ty.kd3 Z<|lq (rd (x := .agg [vI _ _,vI _ _,vI _ _,vI _ _,vI _ _,vI _ _,vI _ _]) (rd_build rfl ty.sa78 rfl rfl rfl) rfl)<|lst (zA 2005 ty.ze78 rfl) Z<|lT [0,3,4,5,75] [.ptr 0 _ 0,.ptr 2003 _ 0,vI _ _,.ptr 2005 _ 0,.agg [vI _ _,vI _ _,vI _ _,vI _ _,vI _ _,vI _ _,vI _ _]] [0,1,2,3,4,2003,2005] [.box _ _ [vI _ _,vI _ _,vI _ _,.own _,.own _,.own _,.own _,vI _ _],.arr _ _ _,.arr _ _ _,.arr _ _ _,.arr _ _ _,.box _ _ [vI _ _,vI _ _,vI _ _,vI _ _,vI _ _,vI _ _,vB _],.box _ _ [vI _ _,vI _ _,vI _ _,vI _ _,vI _ _,vI _ _,vI _ _]] rfl Z<|lst (zB 2005 ty.co78 ty.inf78 rfl) Z<|nG ?_
     refine AW.seqE [(0,.ptr 0 _ 0),(3,.ptr 2003 _ 0)] [(2,.arr _ _ _),(3,.arr _ _ _),(4,.arr _ _ _),(2003,.box _ _ [vI _ _,vI _ _,vI _ _,vI _ _,vI _ _,vI _ _,vB _]),(2005,.box _ _ [vI _ _,vI _ _,vI _ _,vI _ _,vI _ _,vI _ _,vI _ _])] (D := Unit) (fun jd => []) (fun jd => [(2084,.arr 78 7 (rowsOf encChan (insC x.chans ⟨e.ch,e.amt + e.fee,e.amt,e.fee,0,0,0⟩))),(0,.box 87 (some g) [int x.tick,int x.next,int x.wallet,.own 2084,.own 2,.own 3,.own 4,int (openC x e)])]) (fun jd => True) ⟨rfl,rfl,trivial⟩ ⟨rfl,rfl,rfl,rfl,rfl,trivial⟩ ?_ ?_
     ·refine aG 23 [2084]<|tq 0 (rmP Z)<|tq 1 (rmP Z)<|tq 2 (rc Z)<|tq 3 (rf 0 ty.F87_0 Z)<|tq 4 (rf 3 ty.F34_3 Z)<|tq 5 (roO ty.kd30 Z)<|tq 6 (rmI Z) ?_
      refine tq 7 (rd (x := .sub _ _ _) (rd_slc_own (l := 0) (h := k) rfl ty.el30 rfl rfl rfl ⟨_,rfl⟩ (by omega) (by rw [length_rowsOf];exact hkl)) rfl)<|tq 9 (roX (.agg [vI _ _,vI _ _,vI _ _,vI _ _,vI _ _,vI _ _,vI _ _]) ty.kd78 rfl)<|tq 12 (rmP rfl)<|tq 13 (rc rfl)<|tq 14 (rf 0 ty.F87_0 rfl)<|tq 15 (rf 3 ty.F34_3 rfl)<|tq 16 (roO ty.kd30 rfl)<|tq 17 (rmI rfl) ?_
      refine tq 18 (rd (x := .sub _ _ _) (rd_slc_own (l := k) (h := _) rfl ty.el30 rfl rfl ⟨_,rfl⟩ rfl (by rw [length_rowsOf];exact hkl) (Nat.le_refl _)) rfl) ?_
      refine AG.two (i := 8) (j := 10) (by kernel_rfl) ?_ ?_
      ·refine AG1.st (i := 8) rfl (St.app0 2084 rfl rfl (by decide) ty.el30 ty.ze78 rfl (by decide) rfl (Src.sub rfl rfl) (by simp [rowsOf,maxLen] at *;omega) (Nat.le_trans (Nat.mul_le_mul_left _ ty.by78) (by simp [rowsOf] at *;omega))) (by decide) rfl ?_
       refine gX [0,3,76,84,85,94] [.ptr 0 _ 0,.ptr 2003 _ 0,.ptr 0 _ 0,.own _,.agg [vI _ _,vI _ _,vI _ _,vI _ _,vI _ _,vI _ _,vI _ _],.sub _ _ _] [0,1,2,3,4,2003,2005,2084] [.box _ _ [vI _ _,vI _ _,vI _ _,.own _,.own _,.own _,.own _,vI _ _],.arr _ _ _,.arr _ _ _,.arr _ _ _,.arr _ _ _,.box _ _ [vI _ _,vI _ _,vI _ _,vI _ _,vI _ _,vI _ _,vB _],.box _ _ [vI _ _,vI _ _,vI _ _,vI _ _,vI _ _,vI _ _,vI _ _],.arr _ _ _] rfl rfl ⟨rfl,trivial⟩ ?_
       refine yst 10 rfl (zS 2086 (rowsOf encChan [⟨e.ch,e.amt + e.fee,e.amt,e.fee,0,0,0⟩]) ty.el30 ty.ze78 rfl)<|yst 11 rfl (zP 2084 ty.el30 ty.ze78 ty.by78 rfl (Src.own rfl rfl))<|yst 19 rfl (zP 2084 ty.el30 ty.ze78 ty.by78 rfl (Src.sub rfl rfl))<|yq 20 (rc rfl)<|yq 21 (rf 0 ty.F87_0 rfl)<|yq 22 (rf 3 ty.F34_3 rfl)<|yl rfl (zB 0 ty.co30 ty.inf30 rfl)<|gT ?_
       refine ⟨(),trivial,trivial,⟨(congrArg (AO.arr 78 7) (ins_rows.trans (congrArg (rowsOf encChan) (by unfold insC;rw [hpos])))),rfl,trivial⟩,⟨rfl,rfl,trivial⟩,⟨rfl,rfl,rfl,rfl,rfl,trivial⟩⟩
      ·refine AG1.st (i := 10) rfl (St.bslice 2086 (rows := rowsOf encChan [⟨e.ch,e.amt + e.fee,e.amt,e.fee,0,0,0⟩]) rfl rfl (by decide) ty.el30 ty.ze78 rfl rfl rfl rfl (by intro r hr;simp [rowsOf] at hr;subst hr;rfl) rfl (by decide) (by decide)) (by decide) rfl ?_
       refine yst 8 rfl (St.app0 2084 rfl rfl (by decide) ty.el30 ty.ze78 rfl (by decide) rfl (Src.sub rfl rfl) (by simp [rowsOf,maxLen] at *;omega) (Nat.le_trans (Nat.mul_le_mul_left _ ty.by78) (by simp [rowsOf] at *;omega)))<|yst 11 rfl (zP 2084 ty.el30 ty.ze78 ty.by78 rfl (Src.own rfl rfl))<|yst 19 rfl (zP 2084 ty.el30 ty.ze78 ty.by78 rfl (Src.sub rfl rfl))<|yq 20 (rc rfl)<|yq 21 (rf 0 ty.F87_0 rfl)<|yq 22 (rf 3 ty.F34_3 rfl)<|yl rfl (zB 0 ty.co30 ty.inf30 rfl)<|gT ?_
       refine ⟨(),trivial,trivial,⟨(congrArg (AO.arr 78 7) (ins_rows.trans (congrArg (rowsOf encChan) (by unfold insC;rw [hpos])))),rfl,trivial⟩,⟨rfl,rfl,trivial⟩,⟨rfl,rfl,rfl,rfl,rfl,trivial⟩⟩
     ·intro jd hJ
      refine aS ?_
      refine AW.swap 2084 1 ?_
      refine aT [0,3] [.ptr 0 _ 0,.ptr 2003 _ 0] [0,1,2,3,4,2003,2005] [.box _ _ [vI _ _,vI _ _,vI _ _,.own _,.own _,.own _,.own _,vI _ _],.arr _ _ _,.arr _ _ _,.arr _ _ _,.arr _ _ _,.box _ _ [vI _ _,vI _ _,vI _ _,vI _ _,vI _ _,vI _ _,vB _],.box _ _ [vI _ _,vI _ _,vI _ _,vI _ _,vI _ _,vI _ _,vI _ _]] Z Z<|aG 11 []<|tq 0 (rmP Z)<|tq 1 (rc Z)<|tq 2 (rf 0 ty.F87_0 Z)<|tq 3 (rf 2 ty.F34_2 Z)<|tq 4 (roI ty.kd3 Z)<|yq 5 (rf 4 ty.F41_4 Z)<|yq 6 (roI ty.kd3 Z) ?_
      refine yq 7 (rhI rfl ⟨rfl,fits_i64 (by have := es.amt;have := es.fee;have := sm.wallet;unfold A50 at *;unfold i64;omega)⟩)<|yq 8 (rc rfl)<|yq 9 (rf 0 ty.F87_0 rfl)<|yq 10 (rf 2 ty.F34_2 rfl)<|yl rfl (zB 0 ty.co3 ty.inf3 rfl)<|gA<|lmP Z<|lf 2 ty.F41_2 Z<|loI ty.kd3 Z<|lf 4 ty.F41_4 Z<|loI ty.kd3 rfl ?_
      refine lst (z5a Tryz.func52 (line_e _ _ _ _ _ _ _ _ _ _ _ _ _ _ ([]) 0 (LG.nil) (by decide) _ _ _ (Fresh.nil _ _) (rangeA_of es.amt)) (⟨stays.box rfl,trivial⟩) rfl rfl) Z<|lT [0,3] [.ptr 0 _ 0,.ptr 2003 _ 0] [0,1,2,3,4,2003,2005] [.box _ _ [vI _ _,vI _ _,vI _ _,.own _,.own _,.own _,.own _,vI _ _],.arr _ _ _,.arr _ _ _,.arr _ _ _,.arr _ _ _,.box _ _ [vI _ _,vI _ _,vI _ _,vI _ _,vI _ _,vI _ _,vB _],.box _ _ [vI _ _,vI _ _,vI _ _,vI _ _,vI _ _,vI _ _,vI _ _]] rfl Z<|nG<|aL<|lmP Z<|lf 4 ty.F41_4 Z<|loI ty.kd3 Z<|lq (rd (x := vI _ _) (rd_un rfl rfl (fits_i64 (by have := es.amt;have := es.fee;have := sm.wallet;unfold A50 at *;unfold i64;omega))) rfl) ?_
      refine lst (z5a Tryz.func52 (line_e _ _ _ _ _ _ _ _ _ _ _ _ _ _ (addL [] 6 e.ch e.amt) 1 (LG.nil.add (rangeA_of es.amt)) (by decide) _ _ _ ((Fresh.nil _ _).add (.inl (by decide))) (rangeA_neg es.amt)) (⟨stays.box rfl,trivial⟩) rfl rfl) Z<|lN ?_
      rw [openR_yes hc0]
      refine end_go ?_ ⟨(Eq.trans (b := wBox g x.tick x.next (x.wallet - e.amt) _) rfl (congrArg (wBox g x.tick x.next (x.wallet - e.amt)) hc0)),rfl,rfl,rfl,rfl,trivial⟩
      rfl
   ·intro h3
    refine tno 9 Z<|tno 10 Z<|tno 11 Z<|tno 12 Z<|tno 13 Z<|tno 14 Z<|tno 15 Z<|tno 16 Z<|tno 17 Z<|yno 18 Z<|yno 19 Z<|yno 20 Z<|yq 21 (rkZ Z)<|gD<|gT<|aN Z<|aE<|eT<|eT<|eB<|gT<|aS ?_
    have hpos : posC x.chans e.ch = k := posC_at hkl hall (fun hlt => by first | (simp_all [length_rowsOf];done) | (simp_all [length_rowsOf];omega))
    refine aL<|lf 2 ty.F41_2 Z<|loI ty.kd3 Z<|lf 4 ty.F41_4 Z<|loI ty.kd3 Z<|lf 5 ty.F41_5 Z<|loI ty.kd3 Z ?_
    refine lhI rfl ⟨rfl,fits_i64 (by have := es.amt;have := es.fee;have := sm.wallet;unfold A50 at *;unfold i64;omega)⟩<|lf 4 ty.F41_4 Z<|loI ty.kd3 Z<|lf 5 ty.F41_5 Z<|loI ty.kd3 Z<|lq (rd (x := .agg [vI _ _,vI _ _,vI _ _,vI _ _,vI _ _,vI _ _,vI _ _]) (rd_build rfl ty.sa78 rfl rfl rfl) rfl)<|lst (zA 2005 ty.ze78 rfl) Z<|lT [0,3,4,5,75] [.ptr 0 _ 0,.ptr 2003 _ 0,vI _ _,.ptr 2005 _ 0,.agg [vI _ _,vI _ _,vI _ _,vI _ _,vI _ _,vI _ _,vI _ _]] [0,1,2,3,4,2003,2005] [.box _ _ [vI _ _,vI _ _,vI _ _,.own _,.own _,.own _,.own _,vI _ _],.arr _ _ _,.arr _ _ _,.arr _ _ _,.arr _ _ _,.box _ _ [vI _ _,vI _ _,vI _ _,vI _ _,vI _ _,vI _ _,vB _],.box _ _ [vI _ _,vI _ _,vI _ _,vI _ _,vI _ _,vI _ _,vI _ _]] rfl Z<|lst (zB 2005 ty.co78 ty.inf78 rfl) Z<|nG ?_
    refine AW.seqE [(0,.ptr 0 _ 0),(3,.ptr 2003 _ 0)] [(2,.arr _ _ _),(3,.arr _ _ _),(4,.arr _ _ _),(2003,.box _ _ [vI _ _,vI _ _,vI _ _,vI _ _,vI _ _,vI _ _,vB _]),(2005,.box _ _ [vI _ _,vI _ _,vI _ _,vI _ _,vI _ _,vI _ _,vI _ _])] (D := Unit) (fun jd => []) (fun jd => [(2084,.arr 78 7 (rowsOf encChan (insC x.chans ⟨e.ch,e.amt + e.fee,e.amt,e.fee,0,0,0⟩))),(0,.box 87 (some g) [int x.tick,int x.next,int x.wallet,.own 2084,.own 2,.own 3,.own 4,int (openC x e)])]) (fun jd => True) ⟨rfl,rfl,trivial⟩ ⟨rfl,rfl,rfl,rfl,rfl,trivial⟩ ?_ ?_
    ·refine aG 23 [2084]<|tq 0 (rmP Z)<|tq 1 (rmP Z)<|tq 2 (rc Z)<|tq 3 (rf 0 ty.F87_0 Z)<|tq 4 (rf 3 ty.F34_3 Z)<|tq 5 (roO ty.kd30 Z)<|tq 6 (rmI Z) ?_
     refine tq 7 (rd (x := .sub _ _ _) (rd_slc_own (l := 0) (h := k) rfl ty.el30 rfl rfl rfl ⟨_,rfl⟩ (by omega) (by rw [length_rowsOf];exact hkl)) rfl)<|tq 9 (roX (.agg [vI _ _,vI _ _,vI _ _,vI _ _,vI _ _,vI _ _,vI _ _]) ty.kd78 rfl)<|tq 12 (rmP rfl)<|tq 13 (rc rfl)<|tq 14 (rf 0 ty.F87_0 rfl)<|tq 15 (rf 3 ty.F34_3 rfl)<|tq 16 (roO ty.kd30 rfl)<|tq 17 (rmI rfl) ?_
     refine tq 18 (rd (x := .sub _ _ _) (rd_slc_own (l := k) (h := _) rfl ty.el30 rfl rfl ⟨_,rfl⟩ rfl (by rw [length_rowsOf];exact hkl) (Nat.le_refl _)) rfl) ?_
     refine AG.two (i := 8) (j := 10) (by kernel_rfl) ?_ ?_
     ·refine AG1.st (i := 8) rfl (St.app0 2084 rfl rfl (by decide) ty.el30 ty.ze78 rfl (by decide) rfl (Src.sub rfl rfl) (by simp [rowsOf,maxLen] at *;omega) (Nat.le_trans (Nat.mul_le_mul_left _ ty.by78) (by simp [rowsOf] at *;omega))) (by decide) rfl ?_
      refine gX [0,3,76,84,85,94] [.ptr 0 _ 0,.ptr 2003 _ 0,.ptr 0 _ 0,.own _,.agg [vI _ _,vI _ _,vI _ _,vI _ _,vI _ _,vI _ _,vI _ _],.sub _ _ _] [0,1,2,3,4,2003,2005,2084] [.box _ _ [vI _ _,vI _ _,vI _ _,.own _,.own _,.own _,.own _,vI _ _],.arr _ _ _,.arr _ _ _,.arr _ _ _,.arr _ _ _,.box _ _ [vI _ _,vI _ _,vI _ _,vI _ _,vI _ _,vI _ _,vB _],.box _ _ [vI _ _,vI _ _,vI _ _,vI _ _,vI _ _,vI _ _,vI _ _],.arr _ _ _] rfl rfl ⟨rfl,trivial⟩ ?_
      refine yst 10 rfl (zS 2086 (rowsOf encChan [⟨e.ch,e.amt + e.fee,e.amt,e.fee,0,0,0⟩]) ty.el30 ty.ze78 rfl)<|yst 11 rfl (zP 2084 ty.el30 ty.ze78 ty.by78 rfl (Src.own rfl rfl))<|yst 19 rfl (zP 2084 ty.el30 ty.ze78 ty.by78 rfl (Src.sub rfl rfl))<|yq 20 (rc rfl)<|yq 21 (rf 0 ty.F87_0 rfl)<|yq 22 (rf 3 ty.F34_3 rfl)<|yl rfl (zB 0 ty.co30 ty.inf30 rfl)<|gT ?_
      refine ⟨(),trivial,trivial,⟨(congrArg (AO.arr 78 7) (ins_rows.trans (congrArg (rowsOf encChan) (by unfold insC;rw [hpos])))),rfl,trivial⟩,⟨rfl,rfl,trivial⟩,⟨rfl,rfl,rfl,rfl,rfl,trivial⟩⟩
     ·refine AG1.st (i := 10) rfl (St.bslice 2086 (rows := rowsOf encChan [⟨e.ch,e.amt + e.fee,e.amt,e.fee,0,0,0⟩]) rfl rfl (by decide) ty.el30 ty.ze78 rfl rfl rfl rfl (by intro r hr;simp [rowsOf] at hr;subst hr;rfl) rfl (by decide) (by decide)) (by decide) rfl ?_
      refine yst 8 rfl (St.app0 2084 rfl rfl (by decide) ty.el30 ty.ze78 rfl (by decide) rfl (Src.sub rfl rfl) (by simp [rowsOf,maxLen] at *;omega) (Nat.le_trans (Nat.mul_le_mul_left _ ty.by78) (by simp [rowsOf] at *;omega)))<|yst 11 rfl (zP 2084 ty.el30 ty.ze78 ty.by78 rfl (Src.own rfl rfl))<|yst 19 rfl (zP 2084 ty.el30 ty.ze78 ty.by78 rfl (Src.sub rfl rfl))<|yq 20 (rc rfl)<|yq 21 (rf 0 ty.F87_0 rfl)<|yq 22 (rf 3 ty.F34_3 rfl)<|yl rfl (zB 0 ty.co30 ty.inf30 rfl)<|gT ?_
      refine ⟨(),trivial,trivial,⟨(congrArg (AO.arr 78 7) (ins_rows.trans (congrArg (rowsOf encChan) (by unfold insC;rw [hpos])))),rfl,trivial⟩,⟨rfl,rfl,trivial⟩,⟨rfl,rfl,rfl,rfl,rfl,trivial⟩⟩
    ·intro jd hJ
     refine aS ?_
     refine AW.swap 2084 1 ?_
     refine aT [0,3] [.ptr 0 _ 0,.ptr 2003 _ 0] [0,1,2,3,4,2003,2005] [.box _ _ [vI _ _,vI _ _,vI _ _,.own _,.own _,.own _,.own _,vI _ _],.arr _ _ _,.arr _ _ _,.arr _ _ _,.arr _ _ _,.box _ _ [vI _ _,vI _ _,vI _ _,vI _ _,vI _ _,vI _ _,vB _],.box _ _ [vI _ _,vI _ _,vI _ _,vI _ _,vI _ _,vI _ _,vI _ _]] Z Z<|aG 11 []<|tq 0 (rmP Z)<|tq 1 (rc Z)<|tq 2 (rf 0 ty.F87_0 Z)<|tq 3 (rf 2 ty.F34_2 Z)<|tq 4 (roI ty.kd3 Z)<|yq 5 (rf 4 ty.F41_4 Z)<|yq 6 (roI ty.kd3 Z) ?_
     refine yq 7 (rhI rfl ⟨rfl,fits_i64 (by have := es.amt;have := es.fee;have := sm.wallet;unfold A50 at *;unfold i64;omega)⟩)<|yq 8 (rc rfl)<|yq 9 (rf 0 ty.F87_0 rfl)<|yq 10 (rf 2 ty.F34_2 rfl)<|yl rfl (zB 0 ty.co3 ty.inf3 rfl)<|gA<|lmP Z<|lf 2 ty.F41_2 Z<|loI ty.kd3 Z<|lf 4 ty.F41_4 Z<|loI ty.kd3 rfl ?_
     refine lst (z5a Tryz.func52 (line_e _ _ _ _ _ _ _ _ _ _ _ _ _ _ ([]) 0 (LG.nil) (by decide) _ _ _ (Fresh.nil _ _) (rangeA_of es.amt)) (⟨stays.box rfl,trivial⟩) rfl rfl) Z<|lT [0,3] [.ptr 0 _ 0,.ptr 2003 _ 0] [0,1,2,3,4,2003,2005] [.box _ _ [vI _ _,vI _ _,vI _ _,.own _,.own _,.own _,.own _,vI _ _],.arr _ _ _,.arr _ _ _,.arr _ _ _,.arr _ _ _,.box _ _ [vI _ _,vI _ _,vI _ _,vI _ _,vI _ _,vI _ _,vB _],.box _ _ [vI _ _,vI _ _,vI _ _,vI _ _,vI _ _,vI _ _,vI _ _]] rfl Z<|nG<|aL<|lmP Z<|lf 4 ty.F41_4 Z<|loI ty.kd3 Z<|lq (rd (x := vI _ _) (rd_un rfl rfl (fits_i64 (by have := es.amt;have := es.fee;have := sm.wallet;unfold A50 at *;unfold i64;omega))) rfl) ?_
     refine lst (z5a Tryz.func52 (line_e _ _ _ _ _ _ _ _ _ _ _ _ _ _ (addL [] 6 e.ch e.amt) 1 (LG.nil.add (rangeA_of es.amt)) (by decide) _ _ _ ((Fresh.nil _ _).add (.inl (by decide))) (rangeA_neg es.amt)) (⟨stays.box rfl,trivial⟩) rfl rfl) Z<|lN ?_
     rw [openR_yes hc0]
     refine end_go ?_ ⟨(Eq.trans (b := wBox g x.tick x.next (x.wallet - e.amt) _) rfl (congrArg (wBox g x.tick x.next (x.wallet - e.amt)) hc0)),rfl,rfl,rfl,rfl,trivial⟩
     rfl

structure BookFi (x : Book) : Prop where
  sm : BookSm x
  ids : x.chans.Pairwise fun a b => a.id ≠ b.id
  hks : x.htlcs.Pairwise fun a b => a.key ≠ b.key
  iks : x.circles.Pairwise fun a b => a.key ≠ b.key
  hch : ∀ h ∈ x.htlcs,0 ≤ chanAt x.chans h.inn ∧ 0 ≤ chanAt x.chans h.out ∧ h.inn ≠ h.out
  ich : ∀ h ∈ x.circles,0 ≤ chanAt x.chans h.frm ∧ 0 ≤ chanAt x.chans h.to ∧ h.frm ≠ h.to
def updC (l : List Chan) (ch : Int) (f : Chan → Chan) : List Chan := l.map fun c => if c.id = ch then f c else c
def delC (l : List Chan) (ch : Int) : List Chan := l.filter fun c => !(c.id == ch)
def delH (l : List Htlc) (key : Int) : List Htlc := l.filter fun c => !(c.key == key)
def delI (l : List Circle) (key : Int) : List Circle := l.filter fun c => !(c.key == key)
theorem pair_at {α : Type} {g : α → Int} {l : List α} (hnd : l.Pairwise fun a b => g a ≠ g b) {i j : Nat} {c d : α} (hc : l[i]? = some c) (hd : l[j]? = some d) (h : g c = g d) : i = j := by
  obtain ⟨h1,rfl⟩ := List.getElem?_eq_some_iff.1 hc
  obtain ⟨h2,rfl⟩ := List.getElem?_eq_some_iff.1 hd
  rcases Nat.lt_trichotomy i j with q | q | q
  · exact absurd h (List.pairwise_iff_getElem.1 hnd i j h1 h2 q)
  · exact q
  · exact absurd h.symm (List.pairwise_iff_getElem.1 hnd j i h2 h1 q)
theorem set_upd {l : List Chan} (hnd : l.Pairwise fun a b => a.id ≠ b.id) {i : Nat} {c : Chan} (hc : l[i]? = some c) (f : Chan → Chan) : l.set i (f c) = updC l c.id f := by
  apply List.ext_getElem?
  intro j
  unfold updC
  rw [List.getElem?_map,List.getElem?_set]
  have hi := (List.getElem?_eq_some_iff.1 hc).1
  by_cases e : i = j
  · subst e
    rw [if_pos rfl,if_pos hi,hc]
    simp
  · rw [if_neg e]
    cases hj : l[j]? with
    | none => rfl
    | some d =>
      have : d.id ≠ c.id := fun q => e (pair_at (g := fun c => c.id) hnd hc hj q.symm)
      simp [this]
theorem upd_ids {l : List Chan} (hnd : l.Pairwise fun a b => a.id ≠ b.id) {ch : Int} {f : Chan → Chan} (hf : ∀ c,(f c).id = c.id) : (updC l ch f).Pairwise fun a b => a.id ≠ b.id := by
  unfold updC
  rw [List.pairwise_map]
  refine hnd.imp fun {a b} h => ?_
  have e : ∀ c : Chan,(if c.id = ch then f c else c).id = c.id := fun c => by split <;> simp [hf]
  rw [e,e];exact h
theorem upd_get {l : List Chan} {ch : Int} {f : Chan → Chan} {j : Nat} {d : Chan} (hd : l[j]? = some d) (hne : d.id ≠ ch) : (updC l ch f)[j]? = some d := by
  unfold updC
  rw [List.getElem?_map,hd]
  simp [hne]
theorem set_two {l : List Chan} (hnd : l.Pairwise fun a b => a.id ≠ b.id) {i j : Nat} {c d : Chan} (hc : l[i]? = some c) (hd : l[j]? = some d) (hne : c.id ≠ d.id) (f g : Chan → Chan) (hf : ∀ c,(f c).id = c.id) : (l.set i (f c)).set j (g d) = updC (updC l c.id f) d.id g := by
  rw [set_upd hnd hc f]
  exact set_upd (upd_ids hnd hf) (upd_get hd (Ne.symm hne)) g
theorem set_get {α : Type} {l : List α} {i j : Nat} {d : α} (hd : l[j]? = some d) (hne : i ≠ j) (x : α) : (l.set i x)[j]? = some d := by rw [List.getElem?_set_ne hne];exact hd
theorem set_get_eq {α : Type} {l : List α} {i : Nat} {d : α} (hd : l[i]? = some d) (x : α) : (l.set i x)[i]? = some x := List.getElem?_set_self (List.getElem?_eq_some_iff.1 hd).1
theorem set_two' {l : List Chan} (hnd : l.Pairwise fun a b => a.id ≠ b.id) {i j : Nat} {c d : Chan} {a b : Int} (hc : l[i]? = some c) (hd : l[j]? = some d) (hid : c.id = a) (hjd : d.id = b) (hne : a ≠ b) (f g : Chan → Chan) (hf : ∀ c,(f c).id = c.id) : (l.set i (f c)).set j (g d) = updC (updC l a f) b g := by
  subst hid hjd
  exact set_two hnd hc hd hne f g hf
theorem idx_ne {l : List Chan} {i j : Nat} {c d : Chan} (hc : l[i]? = some c) (hd : l[j]? = some d) (hne : c.id ≠ d.id) : i ≠ j := fun e => by
  subst e
  rw [hc] at hd
  injection hd with hd
  exact hne (by rw [hd])
theorem erase_filter {α : Type} {g : α → Int} {l : List α} (hnd : l.Pairwise fun a b => g a ≠ g b) : ∀ {i : Nat} {c : α},l[i]? = some c → l.take i ++ l.drop (i + 1) = l.filter fun d => !(g d == g c) := by
  induction l with
  | nil => intro i c h;simp at h
  | cons a l ih =>
    intro i c h
    rw [List.pairwise_cons] at hnd
    cases i with
    | zero =>
      simp at h
      subst h
      have : l.filter (fun d => !(g d == g a)) = l := List.filter_eq_self.2 fun d hd => by have := hnd.1 d hd;simp;exact fun q => this q.symm
      simp [this]
    | succ i =>
      simp at h
      have hne : g a ≠ g c := hnd.1 c (mem_of_get h)
      rw [List.take_succ_cons,List.drop_succ_cons,List.filter_cons_of_pos (by simp [hne]),← ih hnd.2 h]
      rfl
def missC (l : List Chan) (ch : Int) (c : Int) : Int := if chanAt l ch = -1 then failC true c 6 else c
theorem missC_none {l : List Chan} {ch c : Int} (h : chanAt l ch = -1) : missC l ch c = failC true c 6 := if_pos h
theorem missC_some {l : List Chan} {ch c : Int} {i : Nat} (h : chanAt l ch = (i : Int)) : missC l ch c = c := if_neg (by omega)
def shutC (x : Book) (e : Event) : Int := failC (decide ((chanOr x.chans e.ch).loc < e.fee)) (failC (usedB x e.ch) (missC x.chans e.ch 0) 7) 8
def shutY (x : Book) (e : Event) : WR := ⟨{ x with chans := delC x.chans e.ch,wallet := x.wallet + ((chanOr x.chans e.ch).loc - e.fee) },addL (addL (addL [] 1 0 ((chanOr x.chans e.ch).loc - e.fee)) 5 0 e.fee) 6 e.ch (-(chanOr x.chans e.ch).loc),0⟩
def shutR (x : Book) (e : Event) : WR := if shutC x e = 0 then shutY x e else ⟨x,[],shutC x e⟩
theorem shutR_no {x : Book} {e : Event} (h : shutC x e ≠ 0) : shutR x e = ⟨x,[],shutC x e⟩ := if_neg h
theorem shutR_yes {x : Book} {e : Event} (h : shutC x e = 0) : shutR x e = shutY x e := if_pos h
def admSum (x : Book) (e : Event) : Int := addV e.amt (feeV (chanOr x.chans e.to).base (chanOr x.chans e.to).ppm e.amt)
def admBad (x : Book) (e : Event) : Bool := !feeOk (chanOr x.chans e.to).base (chanOr x.chans e.to).ppm e.amt || !addOk e.amt (feeV (chanOr x.chans e.to).base (chanOr x.chans e.to).ppm e.amt)
def admC0 (x : Book) (e : Event) : Int := failC (decide ((60 : Int) ≤ (x.htlcs.length : Int))) (missC x.chans e.to (missC x.chans e.ch (failC (knownB x e.key) 0 9))) 14
def admC1 (x : Book) (e : Event) : Int := failC (decide ((chanOr x.chans e.to).loc < e.amt)) (failC (decide ((chanOr x.chans e.ch).remote < admSum x e)) (failC (admBad x e) (admC0 x e) 10) 11) 12
def admRoom (x : Book) (e : Event) : Int := roomV x.htlcs (chanOr x.chans e.ch) (chanOr x.chans e.to) e.to e.amt e.yes
def admC (x : Book) (e : Event) : Int := if admC1 x e = 0 then failC (decide (admRoom x e = 0)) (admC1 x e) 13 else admC1 x e
def admY (x : Book) (e : Event) : WR := ⟨{ x with htlcs := x.htlcs ++ [⟨e.key,e.ch,e.to,admSum x e,e.amt,decide (admRoom x e = 2),0⟩],chans := updC (updC x.chans e.ch fun c => { c with remote := c.remote - admSum x e }) e.to fun c => { c with loc := c.loc - e.amt } },addL (addL [] 6 e.to (-e.amt)) 8 e.to e.amt,0⟩
def admR (x : Book) (e : Event) : WR := if admC x e = 0 then admY x e else ⟨x,[],admC x e⟩
theorem admR_no {x : Book} {e : Event} (h : admC x e ≠ 0) : admR x e = ⟨x,[],admC x e⟩ := if_neg h
theorem admR_yes {x : Book} {e : Event} (h : admC x e = 0) : admR x e = admY x e := if_pos h
theorem addV_A50 (a b : Int) : A50 (addV a b) := by
  rcases h : addOk a b with _ | _
  · rw [addV_no h];unfold A50;omega
  · rw [addV_yes h]
    unfold addOk at h
    rw [Bool.and_eq_true,amtOk_true] at h
    unfold A50;omega
theorem shut_e (g u : Value) (x : Book) (e : Event) (fi : BookFi x) (es : EvSm e) (fn0 : 0 ≤ e.fee) : GC Tryz.prog 54 [.ptr 0 0 0,evV e] (wIn g u x [] 0) (.tup []) (wOut g (shutR x e)) := by
 have sm := fi.sm
 have hm : x.chans.length ≤ 1000000000 := by have := sm.lc;omega
 have hmh : x.htlcs.length ≤ 1000000000 := by have := sm.lh;omega
 have hmc : x.circles.length ≤ 1000000000 := by have := sm.li;omega
 refine GC.intro (rs := []) Tryz.func54 rfl Tryz.ntmps54 (Nat.le_of_ble_eq_true rfl) trivial ?_
 intro L O w0
 refine sL<|lst (zX 2003 Z) Z<|nA<|lmP Z<|lf 2 ty.F41_2 Z<|loI ty.kd3 Z ?_
 rcases chan_find x.chans e.ch with ⟨hi,ho⟩ | ⟨i,c,hi,hc,ho,hid⟩
 ·skip
  refine lst (zC [(0,0),(1,1),(2,2),(3,3),(4,4),(2017,2017)] [2,3,4,2017] [0,1] Tryz.func55 (ch_none _ _ x _ _ _ hm hi) (⟨stays.box rfl,stays.arr rfl,trivial⟩) rfl rfl) Z<|lc Z<|loX (.agg [vI _ _,vI _ _,vI _ _,vI _ _,vI _ _,vI _ _,vI _ _]) ty.kd78 Z<|lst (zA 2004 ty.ze78 rfl) Z<|lst (zB 2004 ty.co78 ty.inf78 rfl) Z<|nG<|aS<|aG 8 []<|tq 0 (rmP rfl)<|tq 1 (rmP rfl)<|tq 2 (rc rfl)<|tq 3 (rf 0 ty.F87_0 rfl)<|tq 4 (roX (.agg [vI _ _,vI _ _,vI _ _,.own _,.own _,.own _]) ty.kd34 rfl)<|yq 5 (rf 2 ty.F41_2 rfl)<|yq 6 (roI ty.kd3 rfl)<|yst 7 rfl (zL Tryz.func105 (used_e x _ hmh hmc) rfl)<|gX [0,3,4,12,19] [.ptr 0 _ 0,.ptr 2003 _ 0,.ptr 2004 _ 0,.ptr 0 _ 0,vB _] [0,1,2,3,4,2003,2004,2017] [.box _ _ [vI _ _,vI _ _,vI _ _,.own _,.own _,.own _,.own _,vI _ _],.arr _ _ _,.arr _ _ _,.arr _ _ _,.arr _ _ _,.box _ _ [vI _ _,vI _ _,vI _ _,vI _ _,vI _ _,vI _ _,vB _],.box _ _ [vI _ _,vI _ _,vI _ _,vI _ _,vI _ _,vI _ _,vI _ _],.box _ _ [vI _ _,vI _ _,vI _ _,vI _ _,vI _ _,vI _ _,vI _ _]] rfl rfl trivial ?_
  refine yl rfl (z5b Tryz.func104 (fail_e _ _ _ _ _ _ _ _ _ _ _ _ _ _ _ _ _ _ _ ) (⟨stays.box rfl,stays.arr rfl,trivial⟩) rfl rfl)<|gA<|lmP Z<|lf 5 ty.F41_5 Z<|loI ty.kd3 Z<|lf 2 ty.F78_2 Z<|loI ty.kd3 Z<|lbB rfl ?_
  refine lst (z5b Tryz.func104 (fail_e _ _ _ _ _ _ _ _ _ _ _ _ _ _ _ _ _ _ _ ) (⟨stays.box rfl,stays.arr rfl,trivial⟩) rfl rfl) Z<|nG<|aS<|sL<|lmP Z<|lc Z<|lf 7 ty.F87_2 Z<|loI ty.kd3 Z<|lbB Z<|lsB 32 true rfl (by rw [decide_eq_false (failC_keep (failC_keep (failC_set (by decide))))];rfl)<|nG ?_
  refine AW.unpin 1 rfl ?_
  refine aY Z<|aR<|rT ?_
  have hc0 : shutC x e ≠ 0 := by unfold shutC;rw [missC_none hi];exact failC_keep (failC_keep (failC_set (by decide)))
  rw [shutR_no hc0]
  refine end_ret ?_ ⟨(Eq.trans (b := wBox g x.tick x.next x.wallet _) rfl (congrArg (wBox g x.tick x.next x.wallet) (by unfold shutC;rw [missC_none hi,ho]))),rfl,rfl,rfl,rfl,trivial⟩
  rfl
 ·have hcm := sm.chans c (mem_of_get hc)
  refine lst (z5b Tryz.func55 (ch_some _ _ x _ _ _ hm _ _ hi hc) (⟨stays.box rfl,stays.arr rfl,trivial⟩) rfl rfl) Z<|lT [0,3,9] [.ptr 0 _ 0,.ptr 2003 _ 0,.ptr 1 _ 0] [0,1,2,3,4,2003] [.box _ _ [vI _ _,vI _ _,vI _ _,.own _,.own _,.own _,.own _,vI _ _],.arr _ _ _,.arr _ _ _,.arr _ _ _,.arr _ _ _,.box _ _ [vI _ _,vI _ _,vI _ _,vI _ _,vI _ _,vI _ _,vB _]] rfl Z<|lc Z<|lq (rd (x := .agg [vI _ _,vI _ _,vI _ _,vI _ _,vI _ _,vI _ _,vI _ _]) (rd_load_arr rfl ty.kd78 rfl rfl rfl (rows_some hc) rfl) rfl)<|lst (zA 2004 ty.ze78 rfl) Z<|lst (zB 2004 ty.co78 ty.inf78 rfl) Z<|nG<|aS<|aG 8 []<|tq 0 (rmP rfl)<|tq 1 (rmP rfl)<|tq 2 (rc rfl)<|tq 3 (rf 0 ty.F87_0 rfl)<|tq 4 (roX (.agg [vI _ _,vI _ _,vI _ _,.own _,.own _,.own _]) ty.kd34 rfl)<|yq 5 (rf 2 ty.F41_2 rfl)<|yq 6 (roI ty.kd3 rfl)<|yst 7 rfl (zL Tryz.func105 (used_e x _ hmh hmc) rfl) ?_
  refine yl rfl (z5b Tryz.func104 (fail_e _ _ _ _ _ _ _ _ _ _ _ _ _ _ _ _ _ _ _ ) (⟨stays.box rfl,stays.arr rfl,trivial⟩) rfl rfl)<|gA<|lmP Z<|lf 5 ty.F41_5 Z<|loI ty.kd3 Z<|lf 2 ty.F78_2 Z<|loI ty.kd3 Z<|lbB rfl ?_
  refine lst (z5b Tryz.func104 (fail_e _ _ _ _ _ _ _ _ _ _ _ _ _ _ _ _ _ _ _ ) (⟨stays.box rfl,stays.arr rfl,trivial⟩) rfl rfl) Z<|lT [0,3,4] [.ptr 0 _ 0,.ptr 2003 _ 0,.ptr 2004 _ 0] [0,1,2,3,4,2003,2004] [.box _ _ [vI _ _,vI _ _,vI _ _,.own _,.own _,.own _,.own _,vI _ _],.arr _ _ _,.arr _ _ _,.arr _ _ _,.arr _ _ _,.box _ _ [vI _ _,vI _ _,vI _ _,vI _ _,vI _ _,vI _ _,vB _],.box _ _ [vI _ _,vI _ _,vI _ _,vI _ _,vI _ _,vI _ _,vI _ _]] rfl Z<|nG<|aS<|sL<|lmP Z<|lc Z<|lf 7 ty.F87_2 Z<|loI ty.kd3 Z<|lbB Z<|nG ?_
  refine AW.unpin 1 rfl ?_
  refine AW.cond rfl ?_ ?_
  ·intro h1
   refine aR<|rT ?_
   have hc0 : shutC x e ≠ 0 := by unfold shutC;rw [missC_some hi,ho];simpa using h1
   rw [shutR_no hc0]
   refine end_ret ?_ ⟨(Eq.trans (b := wBox g x.tick x.next x.wallet _) rfl (congrArg (wBox g x.tick x.next x.wallet) (by unfold shutC;rw [missC_some hi,ho]))),rfl,rfl,rfl,rfl,trivial⟩
   rfl
  ·intro h1
   refine aK<|gT<|aS ?_
   have hc0 : shutC x e = 0 := by
     unfold shutC
     rw [missC_some hi,ho]
     simpa using h1
   refine aG 7 []<|tq 0 (rmP Z)<|tq 1 (rc Z)<|tq 2 (rf 0 ty.F87_0 Z)<|tq 3 (roX (.agg [vI _ _,vI _ _,vI _ _,.own _,.own _,.own _]) ty.kd34 Z)<|yq 4 (rf 2 ty.F41_2 Z)<|yq 5 (roI ty.kd3 Z)<|yst 6 Z (zL Tryz.func102 (chanAt_e x _ hm) Z)<|gsN 39 (i : Int) Z hi<|yq 7 (raI Z)<|gD<|gT<|aS<|aG 21 [2048]<|tq 0 (rmP Z)<|tq 1 (rmP Z)<|tq 2 (rc Z)<|tq 3 (rf 0 ty.F87_0 Z)<|tq 4 (rf 3 ty.F34_3 Z)<|tq 5 (roO ty.kd30 Z)<|tq 6 (rmI Z) ?_
   have hil := (List.getElem?_eq_some_iff.1 hc).1
   refine tq 7 (rd (x := .sub _ _ _) (rd_slc_own (l := 0) (h := i) rfl ty.el30 rfl rfl rfl ⟨_,rfl⟩ (by omega) (by rw [length_rowsOf];omega)) rfl)<|tq 9 (rmP rfl)<|tq 10 (rc rfl)<|tq 11 (rf 0 ty.F87_0 rfl)<|tq 12 (rf 3 ty.F34_3 rfl)<|tq 13 (roO ty.kd30 rfl)<|tq 14 (rmI rfl) ?_
   refine tq 15 (rhI rfl ⟨rfl,fits_i64 (by have := sm.lc;have hil := (List.getElem?_eq_some_iff.1 hc).1;unfold i64;omega)⟩)<|gsN 55 ((i + 1 : Nat) : Int) rfl (by omega) ?_
   refine tq 16 (rd (x := .sub _ _ _) (rd_slc_own (l := i + 1) (h := _) rfl ty.el30 rfl rfl ⟨_,rfl⟩ rfl (by rw [length_rowsOf];omega) (Nat.le_refl _)) rfl)<|yst 8 rfl (St.app0 2048 rfl rfl (by decide) ty.el30 ty.ze78 rfl (by decide) rfl (Src.sub rfl rfl) (by simp [rowsOf,maxLen] at *;omega) (Nat.le_trans (Nat.mul_le_mul_left _ ty.by78) (by simp [rowsOf] at *;omega))) ?_
   refine gX [0,3,4,40,48,56] [.ptr 0 _ 0,.ptr 2003 _ 0,.ptr 2004 _ 0,.ptr 0 _ 0,.own _,.sub _ _ _] [0,1,2,3,4,2003,2004,2048] [.box _ _ [vI _ _,vI _ _,vI _ _,.own _,.own _,.own _,.own _,vI _ _],.arr _ _ _,.arr _ _ _,.arr _ _ _,.arr _ _ _,.box _ _ [vI _ _,vI _ _,vI _ _,vI _ _,vI _ _,vI _ _,vB _],.box _ _ [vI _ _,vI _ _,vI _ _,vI _ _,vI _ _,vI _ _,vI _ _],.arr _ _ _] rfl rfl ⟨rfl,trivial⟩<|yst 17 rfl (zP 2048 ty.el30 ty.ze78 ty.by78 rfl (Src.sub rfl rfl))<|yq 18 (rc rfl)<|yq 19 (rf 0 ty.F87_0 rfl)<|yq 20 (rf 3 ty.F34_3 rfl)<|yl rfl (zB 0 ty.co30 ty.inf30 rfl)<|gT ?_
   refine AW.obj 2048 (.arr 78 7 (rowsOf encChan (delC x.chans e.ch))) ((congrArg (AO.arr 78 7) (del_rows.trans (congrArg (rowsOf encChan) (by rw [erase_filter (g := fun c => c.id) fi.ids hc,hid];rfl))))) ?_
   refine aS ?_
   refine AW.swap 2048 1 ?_
   refine aT [0,3,4] [.ptr 0 _ 0,.ptr 2003 _ 0,.ptr 2004 _ 0] [0,1,2,3,4,2003,2004] [.box _ _ [vI _ _,vI _ _,vI _ _,.own _,.own _,.own _,.own _,vI _ _],.arr _ _ _,.arr _ _ _,.arr _ _ _,.arr _ _ _,.box _ _ [vI _ _,vI _ _,vI _ _,vI _ _,vI _ _,vI _ _,vB _],.box _ _ [vI _ _,vI _ _,vI _ _,vI _ _,vI _ _,vI _ _,vI _ _]] Z Z<|aG 14 []<|tq 0 (rmP Z)<|tq 1 (rc Z)<|tq 2 (rf 0 ty.F87_0 Z)<|tq 3 (rf 2 ty.F34_2 Z)<|tq 4 (roI ty.kd3 Z)<|tq 5 (rf 2 ty.F78_2 Z)<|tq 6 (roI ty.kd3 Z)<|yq 7 (rf 5 ty.F41_5 Z)<|yq 8 (roI ty.kd3 Z) ?_
   refine yq 9 (rhI rfl ⟨rfl,fits_i64 (by have := hcm.1;have := es.amt;have := es.fee;have := sm.wallet;unfold A50 at *;unfold i64;omega)⟩) ?_
   refine yq 10 (rhI rfl ⟨rfl,fits_i64 (by have := hcm.1;have := es.amt;have := es.fee;have := sm.wallet;unfold A50 at *;unfold i64;omega)⟩)<|yq 11 (rc rfl)<|yq 12 (rf 0 ty.F87_0 rfl)<|yq 13 (rf 2 ty.F34_2 rfl)<|yl rfl (zB 0 ty.co3 ty.inf3 rfl)<|gA<|lmP Z<|lf 2 ty.F78_2 Z<|loI ty.kd3 Z<|lf 5 ty.F41_5 Z<|loI ty.kd3 rfl ?_
   refine lhI rfl ⟨rfl,fits_i64 (by have := hcm.1;have := es.amt;have := es.fee;have := sm.wallet;unfold A50 at *;unfold i64;omega)⟩ ?_
   have hnl : ¬ c.loc < e.fee ∧ 0 ≤ e.fee := ⟨fun q => by
     have h := hc0;unfold shutC at h;rw [missC_some hi,ho] at h;exact absurd h (by rw [decide_eq_true q];exact failC_set (by decide)),fn0⟩
   refine lst (z5a Tryz.func52 (line_e _ _ _ _ _ _ _ _ _ _ _ _ _ _ ([]) 0 (LG.nil) (by decide) _ _ _ (Fresh.nil _ _) (rangeA_of (by have := hcm.1;have := es.fee;have := hnl;unfold A50 at *;omega))) (⟨stays.box rfl,trivial⟩) rfl rfl) Z<|lT [0,3,4] [.ptr 0 _ 0,.ptr 2003 _ 0,.ptr 2004 _ 0] [0,1,2,3,4,2003,2004] [.box _ _ [vI _ _,vI _ _,vI _ _,.own _,.own _,.own _,.own _,vI _ _],.arr _ _ _,.arr _ _ _,.arr _ _ _,.arr _ _ _,.box _ _ [vI _ _,vI _ _,vI _ _,vI _ _,vI _ _,vI _ _,vB _],.box _ _ [vI _ _,vI _ _,vI _ _,vI _ _,vI _ _,vI _ _,vI _ _]] rfl Z<|nA<|lmP Z<|lf 5 ty.F41_5 Z<|loI ty.kd3 rfl ?_
   refine lst (z5a Tryz.func52 (line_e _ _ _ _ _ _ _ _ _ _ _ _ _ _ (addL [] 1 0 (c.loc - e.fee)) 1 (LG.nil.add (rangeA_of (by have := hcm.1;have := es.fee;have := hnl;unfold A50 at *;omega))) (by decide) _ _ _ ((Fresh.nil _ _).add (.inl (by decide))) (rangeA_of es.fee)) (⟨stays.box rfl,trivial⟩) rfl rfl) Z<|nG<|aL<|lmP Z<|lf 2 ty.F41_2 Z<|loI ty.kd3 Z<|lf 2 ty.F78_2 Z<|loI ty.kd3 Z<|lq (rd (x := vI _ _) (rd_un rfl rfl (fits_i64 (by have := hcm.1;have := es.amt;have := es.fee;have := sm.wallet;unfold A50 at *;unfold i64;omega))) rfl) ?_
   refine lst (z5a Tryz.func52 (line_e _ _ _ _ _ _ _ _ _ _ _ _ _ _ (addL (addL [] 1 0 (c.loc - e.fee)) 5 0 e.fee) 2 ((LG.nil.add (rangeA_of (by have := hcm.1;have := es.fee;have := hnl;unfold A50 at *;omega))).add (rangeA_of es.fee)) (by decide) _ _ _ (((Fresh.nil _ _).add (.inl (by decide))).add (.inl (by decide))) (rangeA_neg hcm.1)) (⟨stays.box rfl,trivial⟩) rfl rfl) Z<|lN ?_
   rw [shutR_yes hc0]
   unfold shutY
   rw [ho]
   refine end_go ?_ ⟨(Eq.trans (b := wBox g x.tick x.next (x.wallet + (c.loc - e.fee)) _) rfl (congrArg (wBox g x.tick x.next (x.wallet + (c.loc - e.fee))) (by have h := hc0;unfold shutC at h;rw [missC_some hi,ho] at h;exact h))),rfl,rfl,rfl,rfl,trivial⟩
   rfl
theorem admit_e (g u : Value) (x : Book) (e : Event) (fi : BookFi x) (es : EvSm e) (hne : e.ch ≠ e.to) : GC Tryz.prog 56 [.ptr 0 0 0,evV e] (wIn g u x [] 0) (.tup []) (wOut g (admR x e)) := by
 have sm := fi.sm
 have hm : x.chans.length ≤ 1000000000 := by have := sm.lc;omega
 have hmh : x.htlcs.length ≤ 1000000000 := by have := sm.lh;omega
 have hmc : x.circles.length ≤ 1000000000 := by have := sm.li;omega
 refine GC.intro (rs := []) Tryz.func56 rfl Tryz.ntmps56 (Nat.le_of_ble_eq_true rfl) trivial ?_
 intro L O w0
 refine sL<|lst (zX 2003 Z) Z<|nG<|aS<|aG 8 []<|tq 0 (rmP Z)<|tq 1 (rmP Z)<|tq 2 (rc Z)<|tq 3 (rf 0 ty.F87_0 Z)<|tq 4 (roX (.agg [vI _ _,vI _ _,vI _ _,.own _,.own _,.own _]) ty.kd34 Z)<|yq 5 (rf 1 ty.F41_1 Z)<|yq 6 (roI ty.kd3 Z)<|yst 7 Z (zL Tryz.func106 (known_e x _ hmh hmc) Z) ?_
 refine yl rfl (z5b Tryz.func104 (fail_e _ _ _ _ _ _ _ _ _ _ _ _ _ _ _ _ _ _ _ ) (⟨stays.box rfl,stays.arr rfl,trivial⟩) rfl rfl)<|gA<|lmP Z<|lf 2 ty.F41_2 Z<|loI ty.kd3 rfl ?_
 rcases chan_find x.chans e.ch with ⟨hi,ho⟩ | ⟨i,c,hi,hc,ho,hid⟩
 ·skip
  refine lst (zC [(0,0),(1,1),(2,2),(3,3),(4,4),(2017,2017)] [2,3,4,2017] [0,1] Tryz.func55 (ch_none _ _ x _ _ _ hm hi) (⟨stays.box rfl,stays.arr rfl,trivial⟩) rfl rfl) Z<|lT [0,3,23] [.ptr 0 _ 0,.ptr 2003 _ 0,.ptr 2017 _ 0] [0,1,2,3,4,2003,2017] [.box _ _ [vI _ _,vI _ _,vI _ _,.own _,.own _,.own _,.own _,vI _ _],.arr _ _ _,.arr _ _ _,.arr _ _ _,.arr _ _ _,.box _ _ [vI _ _,vI _ _,vI _ _,vI _ _,vI _ _,vI _ _,vB _],.box _ _ [vI _ _,vI _ _,vI _ _,vI _ _,vI _ _,vI _ _,vI _ _]] rfl Z<|laP Z<|nA<|lmP Z<|lf 3 ty.F41_3 Z<|loI ty.kd3 rfl ?_
  rcases chan_find x.chans e.to with ⟨hj,hp⟩ | ⟨j,d,hj,hd,hp,hjd⟩
  ·skip
   refine lst (zC [(0,0),(1,1),(2,2),(3,3),(4,4),(2017,2018)] [2,3,4,2018] [0,1] Tryz.func55 (ch_none _ _ x _ _ _ hm hj) (⟨stays.box rfl,stays.arr rfl,trivial⟩) rfl rfl) Z<|laP Z<|nA<|lmP Z<|lmP Z<|lc Z<|lf 0 ty.F87_0 Z<|lf 4 ty.F34_4 Z<|loO ty.kd31 Z<|lnI ty.sl31 Z<|lbB rfl ?_
   refine lst (z5b Tryz.func104 (fail_e _ _ _ _ _ _ _ _ _ _ _ _ _ _ _ _ _ _ _ ) (⟨stays.box rfl,stays.arr rfl,trivial⟩) rfl rfl) Z<|lT [0,3,4,5] [.ptr 0 _ 0,.ptr 2003 _ 0,.ptr 2017 _ 0,.ptr 2018 _ 0] [0,1,2,3,4,2003,2017,2018] [.box _ _ [vI _ _,vI _ _,vI _ _,.own _,.own _,.own _,.own _,vI _ _],.arr _ _ _,.arr _ _ _,.arr _ _ _,.arr _ _ _,.box _ _ [vI _ _,vI _ _,vI _ _,vI _ _,vI _ _,vI _ _,vB _],.box _ _ [vI _ _,vI _ _,vI _ _,vI _ _,vI _ _,vI _ _,vI _ _],.box _ _ [vI _ _,vI _ _,vI _ _,vI _ _,vI _ _,vI _ _,vI _ _]] rfl Z<|nG<|aS<|aG 15 []<|tq 0 (rmP rfl)<|tq 1 (rc rfl)<|tq 2 (rf 4 ty.F78_4 rfl)<|tq 3 (roI ty.kd3 rfl)<|tq 4 (rmP rfl)<|tq 5 (rc rfl)<|tq 6 (rf 5 ty.F78_5 rfl)<|tq 7 (roI ty.kd3 rfl)<|yq 8 (rf 4 ty.F41_4 rfl)<|yq 9 (roI ty.kd3 rfl)<|yst 10 rfl (zL Tryz.func107 (feeUp_e _ _ _) rfl)<|yq 11 (rmX (.tup [vI _ _,vB _]) rfl)<|tq 12 (rxI rfl)<|tq 13 (rxB rfl)<|yq 14 (raI rfl)<|yq 15 (raB rfl)<|gD<|gA<|lf 4 ty.F41_4 Z<|loI ty.kd3 Z<|lmI Z<|lst (zL Tryz.func108 (addAmt_e _ _) rfl) rfl ?_
   refine lT [0,3,4,5,7,55] [.ptr 0 _ 0,.ptr 2003 _ 0,.ptr 2017 _ 0,.ptr 2018 _ 0,vB _,.tup [vI _ _,vB _]] [0,1,2,3,4,2003,2017,2018] [.box _ _ [vI _ _,vI _ _,vI _ _,.own _,.own _,.own _,.own _,vI _ _],.arr _ _ _,.arr _ _ _,.arr _ _ _,.arr _ _ _,.box _ _ [vI _ _,vI _ _,vI _ _,vI _ _,vI _ _,vI _ _,vB _],.box _ _ [vI _ _,vI _ _,vI _ _,vI _ _,vI _ _,vI _ _,vI _ _],.box _ _ [vI _ _,vI _ _,vI _ _,vI _ _,vI _ _,vI _ _,vI _ _]] Z Z<|lmX (.tup [vI _ _,vB _]) Z<|lxI Z<|lxB Z<|laI Z<|laB Z<|nG ?_
   refine AW.seqE [(0,.ptr 0 _ 0),(3,.ptr 2003 _ 0),(4,.ptr 2017 _ 0),(5,.ptr 2018 _ 0)] [(1,.arr _ _ _),(2,.arr _ _ _),(3,.arr _ _ _),(4,.arr _ _ _),(2003,.box _ _ [vI _ _,vI _ _,vI _ _,vI _ _,vI _ _,vI _ _,vB _]),(2017,.box _ _ [vI _ _,vI _ _,vI _ _,vI _ _,vI _ _,vI _ _,vI _ _]),(2018,.box _ _ [vI _ _,vI _ _,vI _ _,vI _ _,vI _ _,vI _ _,vI _ _])] (D := Unit) (fun jd => [(8,int (admSum x e))]) (fun jd => [(0,wBox g x.tick x.next x.wallet (failC (admBad x e) (admC0 x e) 10))]) (fun jd => True) ⟨rfl,rfl,rfl,rfl,trivial⟩ ⟨rfl,rfl,rfl,rfl,rfl,rfl,rfl,trivial⟩ ?_ ?_
   ·refine aL<|lmP Z<|lmB Z<|luB Z<|lmB Z ?_
    refine AL.bool (t := 61) rfl ?_ ?_
    ·intro h1
     refine lno Z<|lno Z<|lkT Z ?_
     refine lst (z5b Tryz.func104 (fail_e _ _ _ _ _ _ _ _ _ _ _ _ _ _ _ _ _ _ _ ) (⟨stays.box rfl,stays.arr rfl,trivial⟩) rfl rfl) Z<|nG ?_
     refine ⟨(),trivial,⟨(Eq.trans (b := int _) rfl (congrArg int (by unfold admSum;rw [hp]))),trivial⟩,⟨(Eq.trans (b := wBox g x.tick x.next x.wallet _) rfl (congrArg (wBox g x.tick x.next x.wallet) (by unfold admBad admC0;rw [missC_none hi,missC_none hj,hp];rw [h1,length_rowsOf];try simp))),trivial⟩,⟨rfl,rfl,rfl,rfl,trivial⟩,⟨rfl,rfl,rfl,rfl,rfl,rfl,rfl,trivial⟩⟩
    ·intro h1
     refine lmB Z<|luB Z<|lkB Z ?_
     refine lst (z5b Tryz.func104 (fail_e _ _ _ _ _ _ _ _ _ _ _ _ _ _ _ _ _ _ _ ) (⟨stays.box rfl,stays.arr rfl,trivial⟩) rfl rfl) Z<|lT [0,3,4,5,8] [.ptr 0 _ 0,.ptr 2003 _ 0,.ptr 2017 _ 0,.ptr 2018 _ 0,vI _ _] [0,1,2,3,4,2003,2017,2018] [.box _ _ [vI _ _,vI _ _,vI _ _,.own _,.own _,.own _,.own _,vI _ _],.arr _ _ _,.arr _ _ _,.arr _ _ _,.arr _ _ _,.box _ _ [vI _ _,vI _ _,vI _ _,vI _ _,vI _ _,vI _ _,vB _],.box _ _ [vI _ _,vI _ _,vI _ _,vI _ _,vI _ _,vI _ _,vI _ _],.box _ _ [vI _ _,vI _ _,vI _ _,vI _ _,vI _ _,vI _ _,vI _ _]] rfl Z<|nG ?_
     refine ⟨(),trivial,⟨(Eq.trans (b := int _) rfl (congrArg int (by unfold admSum;rw [hp]))),trivial⟩,⟨(Eq.trans (b := wBox g x.tick x.next x.wallet _) rfl (congrArg (wBox g x.tick x.next x.wallet) (by unfold admBad admC0;rw [missC_none hi,missC_none hj,hp];rw [h1,length_rowsOf];try simp))),trivial⟩,⟨rfl,rfl,rfl,rfl,trivial⟩,⟨rfl,rfl,rfl,rfl,rfl,rfl,rfl,trivial⟩⟩
   ·intro jd hJ
    have hz : admC0 x e ≠ 0 := by
      unfold admC0
      rw [missC_none hj,missC_none hi]
      exact failC_keep (failC_set (by decide))
    have hz1 : admC1 x e ≠ 0 := failC_keep (failC_keep (failC_keep hz))
    refine sL<|lmP Z<|lmP Z<|lc Z<|lf 3 ty.F78_3 Z<|loI ty.kd3 Z<|lmI Z<|lbB Z ?_
    refine lst (z5b Tryz.func104 (fail_e _ _ _ _ _ _ _ _ _ _ _ _ _ _ _ _ _ _ _ ) (⟨stays.box rfl,stays.arr rfl,trivial⟩) rfl rfl) Z<|nG<|aS<|aG 8 []<|tq 0 (rmP rfl)<|tq 1 (rmP rfl)<|tq 2 (rc rfl)<|tq 3 (rf 2 ty.F78_2 rfl)<|tq 4 (roI ty.kd3 rfl)<|yq 5 (rf 4 ty.F41_4 rfl)<|yq 6 (roI ty.kd3 rfl)<|yq 7 (rbB rfl) ?_
    refine yl rfl (z5b Tryz.func104 (fail_e _ _ _ _ _ _ _ _ _ _ _ _ _ _ _ _ _ _ _ ) (⟨stays.box rfl,stays.arr rfl,trivial⟩) rfl rfl)<|gT ?_
    refine AW.obj 0 (wBox g x.tick x.next x.wallet (admC1 x e)) ((Eq.trans (b := wBox g x.tick x.next x.wallet _) rfl (congrArg (wBox g x.tick x.next x.wallet) (by unfold admC1;rw [ho,hp])))) ?_
    refine sL<|laI Z<|nG<|aS<|sL<|lmP Z<|lc Z<|lf 7 ty.F87_2 Z<|loI ty.kd3 Z<|lbB Z<|lsB 87 false rfl (decide_eq_false hz1)<|nG<|aN Z<|aK<|gT<|aS<|sL<|lmP Z<|lc Z<|lf 7 ty.F87_2 Z<|loI ty.kd3 Z<|lbB Z<|lsB 105 true rfl (by rw [decide_eq_false hz1];rfl)<|nG ?_
    refine aY rfl ?_
    refine AW.unpin 1 rfl ?_
    refine aR<|rT ?_
    have hc0 : admC x e = admC1 x e := if_neg hz1
    have hn0 : admC x e ≠ 0 := by rw [hc0];exact hz1
    rw [admR_no hn0,hc0]
    refine end_ret ?_ ⟨rfl,rfl,rfl,rfl,rfl,trivial⟩
    rfl
  ·have hdm := sm.chans d (mem_of_get hd)
   refine lst (z5b Tryz.func55 (ch_some _ _ x _ _ _ hm _ _ hj hd) (⟨stays.box rfl,stays.arr rfl,trivial⟩) rfl rfl) Z<|lT [0,3,4,27] [.ptr 0 _ 0,.ptr 2003 _ 0,.ptr 2017 _ 0,.ptr 1 _ 0] [0,1,2,3,4,2003,2017] [.box _ _ [vI _ _,vI _ _,vI _ _,.own _,.own _,.own _,.own _,vI _ _],.arr _ _ _,.arr _ _ _,.arr _ _ _,.arr _ _ _,.box _ _ [vI _ _,vI _ _,vI _ _,vI _ _,vI _ _,vI _ _,vB _],.box _ _ [vI _ _,vI _ _,vI _ _,vI _ _,vI _ _,vI _ _,vI _ _]] rfl Z<|laP Z<|nA<|lmP Z<|lmP Z<|lc Z<|lf 0 ty.F87_0 Z<|lf 4 ty.F34_4 Z<|loO ty.kd31 Z<|lnI ty.sl31 Z<|lbB rfl ?_
   refine lst (z5b Tryz.func104 (fail_e _ _ _ _ _ _ _ _ _ _ _ _ _ _ _ _ _ _ _ ) (⟨stays.box rfl,stays.arr rfl,trivial⟩) rfl rfl) Z<|nG<|aS<|aG 15 []<|tq 0 (rmP rfl)<|tq 1 (rc rfl)<|tq 2 (rf 4 ty.F78_4 rfl)<|tq 3 (rd (x := vI _ _) (rd_load_arr rfl ty.kd3 rfl rfl rfl (rows_some hd) rfl) rfl)<|tq 4 (rmP rfl)<|tq 5 (rc rfl)<|tq 6 (rf 5 ty.F78_5 rfl)<|tq 7 (rd (x := vI _ _) (rd_load_arr rfl ty.kd3 rfl rfl rfl (rows_some hd) rfl) rfl)<|yq 8 (rf 4 ty.F41_4 rfl)<|yq 9 (roI ty.kd3 rfl)<|yst 10 rfl (zL Tryz.func107 (feeUp_e _ _ _) rfl)<|gX [0,3,4,5,48] [.ptr 0 _ 0,.ptr 2003 _ 0,.ptr 2017 _ 0,.ptr 1 _ 0,.tup [vI _ _,vB _]] [0,1,2,3,4,2003,2017] [.box _ _ [vI _ _,vI _ _,vI _ _,.own _,.own _,.own _,.own _,vI _ _],.arr _ _ _,.arr _ _ _,.arr _ _ _,.arr _ _ _,.box _ _ [vI _ _,vI _ _,vI _ _,vI _ _,vI _ _,vI _ _,vB _],.box _ _ [vI _ _,vI _ _,vI _ _,vI _ _,vI _ _,vI _ _,vI _ _]] rfl rfl trivial<|yq 11 (rmX (.tup [vI _ _,vB _]) rfl)<|tq 12 (rxI rfl)<|tq 13 (rxB rfl)<|yq 14 (raI rfl)<|yq 15 (raB rfl)<|gD<|gA<|lf 4 ty.F41_4 Z<|loI ty.kd3 Z<|lmI Z<|lst (zL Tryz.func108 (addAmt_e _ _) rfl) rfl ?_
   refine lmX (.tup [vI _ _,vB _]) Z<|lxI Z<|lxB Z<|laI Z<|laB Z<|nG ?_
   refine AW.seqE [(0,.ptr 0 _ 0),(3,.ptr 2003 _ 0),(4,.ptr 2017 _ 0),(5,.ptr 1 _ 0)] [(1,.arr _ _ _),(2,.arr _ _ _),(3,.arr _ _ _),(4,.arr _ _ _),(2003,.box _ _ [vI _ _,vI _ _,vI _ _,vI _ _,vI _ _,vI _ _,vB _]),(2017,.box _ _ [vI _ _,vI _ _,vI _ _,vI _ _,vI _ _,vI _ _,vI _ _])] (D := Unit) (fun jd => [(8,int (admSum x e))]) (fun jd => [(0,wBox g x.tick x.next x.wallet (failC (admBad x e) (admC0 x e) 10))]) (fun jd => True) ⟨rfl,rfl,rfl,rfl,trivial⟩ ⟨rfl,rfl,rfl,rfl,rfl,rfl,trivial⟩ ?_ ?_
   ·refine aL<|lmP Z<|lmB Z<|luB Z<|lmB Z ?_
    refine AL.bool (t := 61) rfl ?_ ?_
    ·intro h2
     refine lno Z<|lno Z<|lkT Z ?_
     refine lst (z5b Tryz.func104 (fail_e _ _ _ _ _ _ _ _ _ _ _ _ _ _ _ _ _ _ _ ) (⟨stays.box rfl,stays.arr rfl,trivial⟩) rfl rfl) Z<|lT [0,3,4,5,8] [.ptr 0 _ 0,.ptr 2003 _ 0,.ptr 2017 _ 0,.ptr 1 _ 0,vI _ _] [0,1,2,3,4,2003,2017] [.box _ _ [vI _ _,vI _ _,vI _ _,.own _,.own _,.own _,.own _,vI _ _],.arr _ _ _,.arr _ _ _,.arr _ _ _,.arr _ _ _,.box _ _ [vI _ _,vI _ _,vI _ _,vI _ _,vI _ _,vI _ _,vB _],.box _ _ [vI _ _,vI _ _,vI _ _,vI _ _,vI _ _,vI _ _,vI _ _]] rfl Z<|nG ?_
     refine ⟨(),trivial,⟨(Eq.trans (b := int _) rfl (congrArg int (by unfold admSum;rw [hp]))),trivial⟩,⟨(Eq.trans (b := wBox g x.tick x.next x.wallet _) rfl (congrArg (wBox g x.tick x.next x.wallet) (by unfold admBad admC0;rw [missC_none hi,missC_some hj,hp];rw [h2,length_rowsOf];try simp))),trivial⟩,⟨rfl,rfl,rfl,rfl,trivial⟩,⟨rfl,rfl,rfl,rfl,rfl,rfl,trivial⟩⟩
    ·intro h2
     refine lmB Z<|luB Z<|lkB Z ?_
     refine lst (z5b Tryz.func104 (fail_e _ _ _ _ _ _ _ _ _ _ _ _ _ _ _ _ _ _ _ ) (⟨stays.box rfl,stays.arr rfl,trivial⟩) rfl rfl) Z<|nG ?_
     refine ⟨(),trivial,⟨(Eq.trans (b := int _) rfl (congrArg int (by unfold admSum;rw [hp]))),trivial⟩,⟨(Eq.trans (b := wBox g x.tick x.next x.wallet _) rfl (congrArg (wBox g x.tick x.next x.wallet) (by unfold admBad admC0;rw [missC_none hi,missC_some hj,hp];rw [h2,length_rowsOf];try simp))),trivial⟩,⟨rfl,rfl,rfl,rfl,trivial⟩,⟨rfl,rfl,rfl,rfl,rfl,rfl,trivial⟩⟩
   ·intro jd hJ
    have hz : admC0 x e ≠ 0 := by
      unfold admC0
      rw [missC_some hj,missC_none hi]
      exact failC_keep (failC_set (by decide))
    have hz1 : admC1 x e ≠ 0 := failC_keep (failC_keep (failC_keep hz))
    refine sL<|lmP Z<|lmP Z<|lc Z<|lf 3 ty.F78_3 Z<|loI ty.kd3 Z<|lmI Z<|lbB Z ?_
    refine lst (z5b Tryz.func104 (fail_e _ _ _ _ _ _ _ _ _ _ _ _ _ _ _ _ _ _ _ ) (⟨stays.box rfl,stays.arr rfl,trivial⟩) rfl rfl) Z<|nG<|aS<|aG 8 []<|tq 0 (rmP rfl)<|tq 1 (rmP rfl)<|tq 2 (rc rfl)<|tq 3 (rf 2 ty.F78_2 rfl)<|tq 4 (rd (x := vI _ _) (rd_load_arr rfl ty.kd3 rfl rfl rfl (rows_some hd) rfl) rfl)<|yq 5 (rf 4 ty.F41_4 rfl)<|yq 6 (roI ty.kd3 rfl)<|yq 7 (rbB rfl) ?_
    refine yl rfl (z5b Tryz.func104 (fail_e _ _ _ _ _ _ _ _ _ _ _ _ _ _ _ _ _ _ _ ) (⟨stays.box rfl,stays.arr rfl,trivial⟩) rfl rfl)<|gT ?_
    refine AW.obj 0 (wBox g x.tick x.next x.wallet (admC1 x e)) ((Eq.trans (b := wBox g x.tick x.next x.wallet _) rfl (congrArg (wBox g x.tick x.next x.wallet) (by unfold admC1;rw [ho,hp])))) ?_
    refine sL<|laI Z<|nG<|aS<|sL<|lmP Z<|lc Z<|lf 7 ty.F87_2 Z<|loI ty.kd3 Z<|lbB Z<|lsB 87 false rfl (decide_eq_false hz1)<|nG<|aN Z<|aK<|gT<|aS<|sL<|lmP Z<|lc Z<|lf 7 ty.F87_2 Z<|loI ty.kd3 Z<|lbB Z<|lsB 105 true rfl (by rw [decide_eq_false hz1];rfl)<|nG ?_
    refine aY rfl ?_
    refine AW.unpin 1 rfl ?_
    refine aR<|rT ?_
    have hc0 : admC x e = admC1 x e := if_neg hz1
    have hn0 : admC x e ≠ 0 := by rw [hc0];exact hz1
    rw [admR_no hn0,hc0]
    refine end_ret ?_ ⟨rfl,rfl,rfl,rfl,rfl,trivial⟩
    rfl
 ·have hcm := sm.chans c (mem_of_get hc)
  refine lst (z5b Tryz.func55 (ch_some _ _ x _ _ _ hm _ _ hi hc) (⟨stays.box rfl,stays.arr rfl,trivial⟩) rfl rfl) Z<|lT [0,3,23] [.ptr 0 _ 0,.ptr 2003 _ 0,.ptr 1 _ 0] [0,1,2,3,4,2003] [.box _ _ [vI _ _,vI _ _,vI _ _,.own _,.own _,.own _,.own _,vI _ _],.arr _ _ _,.arr _ _ _,.arr _ _ _,.arr _ _ _,.box _ _ [vI _ _,vI _ _,vI _ _,vI _ _,vI _ _,vI _ _,vB _]] rfl Z<|laP Z<|nA<|lmP Z<|lf 3 ty.F41_3 Z<|loI ty.kd3 rfl ?_
  rcases chan_find x.chans e.to with ⟨hj,hp⟩ | ⟨j,d,hj,hd,hp,hjd⟩
  ·skip
   refine lst (zC [(0,0),(1,1),(2,2),(3,3),(4,4),(2017,2018)] [2,3,4,2018] [0,1] Tryz.func55 (ch_none _ _ x _ _ _ hm hj) (⟨stays.box rfl,stays.arr rfl,trivial⟩) rfl rfl) Z<|laP Z<|nA<|lmP Z<|lmP Z<|lc Z<|lf 0 ty.F87_0 Z<|lf 4 ty.F34_4 Z<|loO ty.kd31 Z<|lnI ty.sl31 Z<|lbB rfl ?_
   refine lst (z5b Tryz.func104 (fail_e _ _ _ _ _ _ _ _ _ _ _ _ _ _ _ _ _ _ _ ) (⟨stays.box rfl,stays.arr rfl,trivial⟩) rfl rfl) Z<|lT [0,3,4,5] [.ptr 0 _ 0,.ptr 2003 _ 0,.ptr 1 _ 0,.ptr 2018 _ 0] [0,1,2,3,4,2003,2018] [.box _ _ [vI _ _,vI _ _,vI _ _,.own _,.own _,.own _,.own _,vI _ _],.arr _ _ _,.arr _ _ _,.arr _ _ _,.arr _ _ _,.box _ _ [vI _ _,vI _ _,vI _ _,vI _ _,vI _ _,vI _ _,vB _],.box _ _ [vI _ _,vI _ _,vI _ _,vI _ _,vI _ _,vI _ _,vI _ _]] rfl Z<|nG<|aS<|aG 15 []<|tq 0 (rmP rfl)<|tq 1 (rc rfl)<|tq 2 (rf 4 ty.F78_4 rfl)<|tq 3 (roI ty.kd3 rfl)<|tq 4 (rmP rfl)<|tq 5 (rc rfl)<|tq 6 (rf 5 ty.F78_5 rfl)<|tq 7 (roI ty.kd3 rfl)<|yq 8 (rf 4 ty.F41_4 rfl)<|yq 9 (roI ty.kd3 rfl)<|yst 10 rfl (zL Tryz.func107 (feeUp_e _ _ _) rfl)<|yq 11 (rmX (.tup [vI _ _,vB _]) rfl)<|tq 12 (rxI rfl)<|tq 13 (rxB rfl)<|yq 14 (raI rfl)<|yq 15 (raB rfl)<|gD<|gA<|lf 4 ty.F41_4 Z<|loI ty.kd3 Z<|lmI Z<|lst (zL Tryz.func108 (addAmt_e _ _) rfl) rfl ?_
   refine lT [0,3,4,5,7,55] [.ptr 0 _ 0,.ptr 2003 _ 0,.ptr 1 _ 0,.ptr 2018 _ 0,vB _,.tup [vI _ _,vB _]] [0,1,2,3,4,2003,2018] [.box _ _ [vI _ _,vI _ _,vI _ _,.own _,.own _,.own _,.own _,vI _ _],.arr _ _ _,.arr _ _ _,.arr _ _ _,.arr _ _ _,.box _ _ [vI _ _,vI _ _,vI _ _,vI _ _,vI _ _,vI _ _,vB _],.box _ _ [vI _ _,vI _ _,vI _ _,vI _ _,vI _ _,vI _ _,vI _ _]] Z Z<|lmX (.tup [vI _ _,vB _]) Z<|lxI Z<|lxB Z<|laI Z<|laB Z<|nG ?_
   refine AW.seqE [(0,.ptr 0 _ 0),(3,.ptr 2003 _ 0),(4,.ptr 1 _ 0),(5,.ptr 2018 _ 0)] [(1,.arr _ _ _),(2,.arr _ _ _),(3,.arr _ _ _),(4,.arr _ _ _),(2003,.box _ _ [vI _ _,vI _ _,vI _ _,vI _ _,vI _ _,vI _ _,vB _]),(2018,.box _ _ [vI _ _,vI _ _,vI _ _,vI _ _,vI _ _,vI _ _,vI _ _])] (D := Unit) (fun jd => [(8,int (admSum x e))]) (fun jd => [(0,wBox g x.tick x.next x.wallet (failC (admBad x e) (admC0 x e) 10))]) (fun jd => True) ⟨rfl,rfl,rfl,rfl,trivial⟩ ⟨rfl,rfl,rfl,rfl,rfl,rfl,trivial⟩ ?_ ?_
   ·refine aL<|lmP Z<|lmB Z<|luB Z<|lmB Z ?_
    refine AL.bool (t := 61) rfl ?_ ?_
    ·intro h3
     refine lno Z<|lno Z<|lkT Z ?_
     refine lst (z5b Tryz.func104 (fail_e _ _ _ _ _ _ _ _ _ _ _ _ _ _ _ _ _ _ _ ) (⟨stays.box rfl,stays.arr rfl,trivial⟩) rfl rfl) Z<|nG ?_
     refine ⟨(),trivial,⟨(Eq.trans (b := int _) rfl (congrArg int (by unfold admSum;rw [hp]))),trivial⟩,⟨(Eq.trans (b := wBox g x.tick x.next x.wallet _) rfl (congrArg (wBox g x.tick x.next x.wallet) (by unfold admBad admC0;rw [missC_some hi,missC_none hj,hp];rw [h3,length_rowsOf];try simp))),trivial⟩,⟨rfl,rfl,rfl,rfl,trivial⟩,⟨rfl,rfl,rfl,rfl,rfl,rfl,trivial⟩⟩
    ·intro h3
     refine lmB Z<|luB Z<|lkB Z ?_
     refine lst (z5b Tryz.func104 (fail_e _ _ _ _ _ _ _ _ _ _ _ _ _ _ _ _ _ _ _ ) (⟨stays.box rfl,stays.arr rfl,trivial⟩) rfl rfl) Z<|lT [0,3,4,5,8] [.ptr 0 _ 0,.ptr 2003 _ 0,.ptr 1 _ 0,.ptr 2018 _ 0,vI _ _] [0,1,2,3,4,2003,2018] [.box _ _ [vI _ _,vI _ _,vI _ _,.own _,.own _,.own _,.own _,vI _ _],.arr _ _ _,.arr _ _ _,.arr _ _ _,.arr _ _ _,.box _ _ [vI _ _,vI _ _,vI _ _,vI _ _,vI _ _,vI _ _,vB _],.box _ _ [vI _ _,vI _ _,vI _ _,vI _ _,vI _ _,vI _ _,vI _ _]] rfl Z<|nG ?_
     refine ⟨(),trivial,⟨(Eq.trans (b := int _) rfl (congrArg int (by unfold admSum;rw [hp]))),trivial⟩,⟨(Eq.trans (b := wBox g x.tick x.next x.wallet _) rfl (congrArg (wBox g x.tick x.next x.wallet) (by unfold admBad admC0;rw [missC_some hi,missC_none hj,hp];rw [h3,length_rowsOf];try simp))),trivial⟩,⟨rfl,rfl,rfl,rfl,trivial⟩,⟨rfl,rfl,rfl,rfl,rfl,rfl,trivial⟩⟩
   ·intro jd hJ
    have hz : admC0 x e ≠ 0 := by
      unfold admC0
      rw [missC_none hj,missC_some hi]
      exact failC_keep (failC_set (by decide))
    have hz1 : admC1 x e ≠ 0 := failC_keep (failC_keep (failC_keep hz))
    refine sL<|lmP Z<|lmP Z<|lc Z<|lf 3 ty.F78_3 Z<|lq (rd (x := vI _ _) (rd_load_arr Z ty.kd3 Z Z Z (rows_some hc) Z) Z)<|lmI Z<|lbB Z ?_
    refine lst (z5b Tryz.func104 (fail_e _ _ _ _ _ _ _ _ _ _ _ _ _ _ _ _ _ _ _ ) (⟨stays.box rfl,stays.arr rfl,trivial⟩) rfl rfl) Z<|nG<|aS<|aG 8 []<|tq 0 (rmP rfl)<|tq 1 (rmP rfl)<|tq 2 (rc rfl)<|tq 3 (rf 2 ty.F78_2 rfl)<|tq 4 (roI ty.kd3 rfl)<|yq 5 (rf 4 ty.F41_4 rfl)<|yq 6 (roI ty.kd3 rfl)<|yq 7 (rbB rfl) ?_
    refine yl rfl (z5b Tryz.func104 (fail_e _ _ _ _ _ _ _ _ _ _ _ _ _ _ _ _ _ _ _ ) (⟨stays.box rfl,stays.arr rfl,trivial⟩) rfl rfl)<|gT ?_
    refine AW.obj 0 (wBox g x.tick x.next x.wallet (admC1 x e)) ((Eq.trans (b := wBox g x.tick x.next x.wallet _) rfl (congrArg (wBox g x.tick x.next x.wallet) (by unfold admC1;rw [ho,hp])))) ?_
    refine sL<|laI Z<|nG<|aS<|sL<|lmP Z<|lc Z<|lf 7 ty.F87_2 Z<|loI ty.kd3 Z<|lbB Z<|lsB 87 false rfl (decide_eq_false hz1)<|nG<|aN Z<|aK<|gT<|aS<|sL<|lmP Z<|lc Z<|lf 7 ty.F87_2 Z<|loI ty.kd3 Z<|lbB Z<|lsB 105 true rfl (by rw [decide_eq_false hz1];rfl)<|nG ?_
    refine aY rfl ?_
    refine AW.unpin 1 rfl ?_
    refine aR<|rT ?_
    have hc0 : admC x e = admC1 x e := if_neg hz1
    have hn0 : admC x e ≠ 0 := by rw [hc0];exact hz1
    rw [admR_no hn0,hc0]
    refine end_ret ?_ ⟨rfl,rfl,rfl,rfl,rfl,trivial⟩
    rfl
  ·have hdm := sm.chans d (mem_of_get hd)
   refine lst (z5b Tryz.func55 (ch_some _ _ x _ _ _ hm _ _ hj hd) (⟨stays.box rfl,stays.arr rfl,trivial⟩) rfl rfl) Z<|lT [0,3,4,27] [.ptr 0 _ 0,.ptr 2003 _ 0,.ptr 1 _ 0,.ptr 1 _ 0] [0,1,2,3,4,2003] [.box _ _ [vI _ _,vI _ _,vI _ _,.own _,.own _,.own _,.own _,vI _ _],.arr _ _ _,.arr _ _ _,.arr _ _ _,.arr _ _ _,.box _ _ [vI _ _,vI _ _,vI _ _,vI _ _,vI _ _,vI _ _,vB _]] rfl Z<|laP Z<|nA<|lmP Z<|lmP Z<|lc Z<|lf 0 ty.F87_0 Z<|lf 4 ty.F34_4 Z<|loO ty.kd31 Z<|lnI ty.sl31 Z<|lbB rfl ?_
   refine lst (z5b Tryz.func104 (fail_e _ _ _ _ _ _ _ _ _ _ _ _ _ _ _ _ _ _ _ ) (⟨stays.box rfl,stays.arr rfl,trivial⟩) rfl rfl) Z<|nG<|aS<|aG 15 []<|tq 0 (rmP rfl)<|tq 1 (rc rfl)<|tq 2 (rf 4 ty.F78_4 rfl)<|tq 3 (rd (x := vI _ _) (rd_load_arr rfl ty.kd3 rfl rfl rfl (rows_some hd) rfl) rfl)<|tq 4 (rmP rfl)<|tq 5 (rc rfl)<|tq 6 (rf 5 ty.F78_5 rfl)<|tq 7 (rd (x := vI _ _) (rd_load_arr rfl ty.kd3 rfl rfl rfl (rows_some hd) rfl) rfl)<|yq 8 (rf 4 ty.F41_4 rfl)<|yq 9 (roI ty.kd3 rfl)<|yst 10 rfl (zL Tryz.func107 (feeUp_e _ _ _) rfl)<|gX [0,3,4,5,48] [.ptr 0 _ 0,.ptr 2003 _ 0,.ptr 1 _ 0,.ptr 1 _ 0,.tup [vI _ _,vB _]] [0,1,2,3,4,2003] [.box _ _ [vI _ _,vI _ _,vI _ _,.own _,.own _,.own _,.own _,vI _ _],.arr _ _ _,.arr _ _ _,.arr _ _ _,.arr _ _ _,.box _ _ [vI _ _,vI _ _,vI _ _,vI _ _,vI _ _,vI _ _,vB _]] rfl rfl trivial<|yq 11 (rmX (.tup [vI _ _,vB _]) rfl)<|tq 12 (rxI rfl)<|tq 13 (rxB rfl)<|yq 14 (raI rfl)<|yq 15 (raB rfl)<|gD<|gA<|lf 4 ty.F41_4 Z<|loI ty.kd3 Z<|lmI Z<|lst (zL Tryz.func108 (addAmt_e _ _) rfl) rfl ?_
   refine lmX (.tup [vI _ _,vB _]) Z<|lxI Z<|lxB Z<|laI Z<|laB Z<|nG ?_
   refine AW.seqE [(0,.ptr 0 _ 0),(3,.ptr 2003 _ 0),(4,.ptr 1 _ 0),(5,.ptr 1 _ 0)] [(1,.arr _ _ _),(2,.arr _ _ _),(3,.arr _ _ _),(4,.arr _ _ _),(2003,.box _ _ [vI _ _,vI _ _,vI _ _,vI _ _,vI _ _,vI _ _,vB _])] (D := Unit) (fun jd => [(8,int (admSum x e))]) (fun jd => [(0,wBox g x.tick x.next x.wallet (failC (admBad x e) (admC0 x e) 10))]) (fun jd => True) ⟨rfl,rfl,rfl,rfl,trivial⟩ ⟨rfl,rfl,rfl,rfl,rfl,trivial⟩ ?_ ?_
   ·refine aL<|lmP Z<|lmB Z<|luB Z<|lmB Z ?_
    refine AL.bool (t := 61) rfl ?_ ?_
    ·intro h4
     refine lno Z<|lno Z<|lkT Z ?_
     refine lst (z5b Tryz.func104 (fail_e _ _ _ _ _ _ _ _ _ _ _ _ _ _ _ _ _ _ _ ) (⟨stays.box rfl,stays.arr rfl,trivial⟩) rfl rfl) Z<|lT [0,3,4,5,8] [.ptr 0 _ 0,.ptr 2003 _ 0,.ptr 1 _ 0,.ptr 1 _ 0,vI _ _] [0,1,2,3,4,2003] [.box _ _ [vI _ _,vI _ _,vI _ _,.own _,.own _,.own _,.own _,vI _ _],.arr _ _ _,.arr _ _ _,.arr _ _ _,.arr _ _ _,.box _ _ [vI _ _,vI _ _,vI _ _,vI _ _,vI _ _,vI _ _,vB _]] rfl Z<|nG ?_
     refine ⟨(),trivial,⟨(Eq.trans (b := int _) rfl (congrArg int (by unfold admSum;rw [hp]))),trivial⟩,⟨(Eq.trans (b := wBox g x.tick x.next x.wallet _) rfl (congrArg (wBox g x.tick x.next x.wallet) (by unfold admBad admC0;rw [missC_some hi,missC_some hj,hp];rw [h4,length_rowsOf];try simp))),trivial⟩,⟨rfl,rfl,rfl,rfl,trivial⟩,⟨rfl,rfl,rfl,rfl,rfl,trivial⟩⟩
    ·intro h4
     refine lmB Z<|luB Z<|lkB Z ?_
     refine lst (z5b Tryz.func104 (fail_e _ _ _ _ _ _ _ _ _ _ _ _ _ _ _ _ _ _ _ ) (⟨stays.box rfl,stays.arr rfl,trivial⟩) rfl rfl) Z<|nG ?_
     refine ⟨(),trivial,⟨(Eq.trans (b := int _) rfl (congrArg int (by unfold admSum;rw [hp]))),trivial⟩,⟨(Eq.trans (b := wBox g x.tick x.next x.wallet _) rfl (congrArg (wBox g x.tick x.next x.wallet) (by unfold admBad admC0;rw [missC_some hi,missC_some hj,hp];rw [h4,length_rowsOf];try simp))),trivial⟩,⟨rfl,rfl,rfl,rfl,trivial⟩,⟨rfl,rfl,rfl,rfl,rfl,trivial⟩⟩
   ·intro jd hJ
    refine sL<|lmP Z<|lmP Z<|lc Z<|lf 3 ty.F78_3 Z<|lq (rd (x := vI _ _) (rd_load_arr Z ty.kd3 Z Z Z (rows_some hc) Z) Z)<|lmI Z<|lbB Z ?_
    refine lst (z5b Tryz.func104 (fail_e _ _ _ _ _ _ _ _ _ _ _ _ _ _ _ _ _ _ _ ) (⟨stays.box rfl,stays.arr rfl,trivial⟩) rfl rfl) Z<|nG<|aS<|aG 8 []<|tq 0 (rmP rfl)<|tq 1 (rmP rfl)<|tq 2 (rc rfl)<|tq 3 (rf 2 ty.F78_2 rfl)<|tq 4 (rd (x := vI _ _) (rd_load_arr rfl ty.kd3 rfl rfl rfl (rows_some hd) rfl) rfl)<|yq 5 (rf 4 ty.F41_4 rfl)<|yq 6 (roI ty.kd3 rfl)<|yq 7 (rbB rfl) ?_
    refine yl rfl (z5b Tryz.func104 (fail_e _ _ _ _ _ _ _ _ _ _ _ _ _ _ _ _ _ _ _ ) (⟨stays.box rfl,stays.arr rfl,trivial⟩) rfl rfl)<|gT ?_
    refine AW.obj 0 (wBox g x.tick x.next x.wallet (admC1 x e)) ((Eq.trans (b := wBox g x.tick x.next x.wallet _) rfl (congrArg (wBox g x.tick x.next x.wallet) (by unfold admC1;rw [ho,hp])))) ?_
    refine sL<|laI Z<|nG<|aS<|sL<|lmP Z<|lc Z<|lf 7 ty.F87_2 Z<|loI ty.kd3 Z<|lbB Z<|nG ?_
    refine AW.cond rfl ?_ ?_
    ·intro h5
     refine aS<|aG 9 []<|tq 0 (rmP rfl)<|tq 1 (rmP rfl)<|tq 2 (rc rfl)<|tq 3 (rd (x := .agg [vI _ _,vI _ _,vI _ _,vI _ _,vI _ _,vI _ _,vI _ _]) (rd_load_arr rfl ty.kd78 rfl rfl rfl (rows_some hc) rfl) rfl)<|tq 4 (rmP rfl)<|tq 5 (rc rfl)<|tq 6 (rd (x := .agg [vI _ _,vI _ _,vI _ _,vI _ _,vI _ _,vI _ _,vI _ _]) (rd_load_arr rfl ty.kd78 rfl rfl rfl (rows_some hd) rfl) rfl)<|gX [0,3,4,5,8,10,88,91,94] [.ptr 0 _ 0,.ptr 2003 _ 0,.ptr 1 _ 0,.ptr 1 _ 0,vI _ _,vI _ _,.ptr 0 _ 0,.agg [vI _ _,vI _ _,vI _ _,vI _ _,vI _ _,vI _ _,vI _ _],.agg [vI _ _,vI _ _,vI _ _,vI _ _,vI _ _,vI _ _,vI _ _]] [0,1,2,3,4,2003] [.box _ _ [vI _ _,vI _ _,vI _ _,.own _,.own _,.own _,.own _,vI _ _],.arr _ _ _,.arr _ _ _,.arr _ _ _,.arr _ _ _,.box _ _ [vI _ _,vI _ _,vI _ _,vI _ _,vI _ _,vI _ _,vB _]] rfl rfl trivial<|yq 7 (roX (.agg [vI _ _,vI _ _,vI _ _,vI _ _,vI _ _,vI _ _,vB _]) ty.kd41 rfl)<|yst 8 rfl (zL Tryz.func109 (allowed_e x _ _ c d e sm.hs) rfl)<|gsN 96 (admRoom x e) rfl (by unfold admRoom;rw [ho,hp])<|yq 9 (raI rfl)<|gD<|gT<|aL<|lmP Z<|lmI Z<|lbB rfl ?_
     refine lst (z5b Tryz.func104 (fail_e _ _ _ _ _ _ _ _ _ _ _ _ _ _ _ _ _ _ _ ) (⟨stays.box rfl,stays.arr rfl,trivial⟩) rfl rfl) Z<|nG<|aS<|sL<|lmP Z<|lc Z<|lf 7 ty.F87_2 Z<|loI ty.kd3 Z<|lbB Z<|nG ?_
     refine AW.cond rfl ?_ ?_
     ·intro h6
      refine AW.unpin 1 rfl ?_
      refine aR<|rT ?_
      have hz1 : admC1 x e = 0 := of_decide_eq_true h5
      have hc0 : admC x e = failC (decide (admRoom x e = 0)) (admC1 x e) 13 := if_pos hz1
      have hn0 : admC x e ≠ 0 := by rw [hc0];simpa using h6
      rw [admR_no hn0,hc0]
      refine end_ret ?_ ⟨rfl,rfl,rfl,rfl,rfl,trivial⟩
      rfl
     ·intro h6
      refine aK<|gT<|aS<|aG 23 [2]<|tq 0 (rmP Z)<|tq 1 (rmP Z)<|tq 2 (rc Z)<|tq 3 (rf 0 ty.F87_0 Z)<|tq 4 (rf 4 ty.F34_4 Z)<|tq 5 (roO ty.kd31 Z)<|tq 6 (rf 1 ty.F41_1 Z)<|tq 7 (roI ty.kd3 Z)<|tq 8 (rf 2 ty.F41_2 Z)<|tq 9 (roI ty.kd3 Z)<|tq 10 (rf 3 ty.F41_3 Z)<|tq 11 (roI ty.kd3 Z)<|tq 12 (rmI Z)<|tq 13 (rf 4 ty.F41_4 Z)<|tq 14 (roI ty.kd3 Z)<|yq 15 (rmI Z)<|yq 16 (rbB Z)<|yq 17 (rd (x := .agg [vI _ _,vI _ _,vI _ _,vI _ _,vI _ _,vB _,vI _ _]) (rd_build Z ty.sa117 Z Z Z) Z) ?_
      refine gX [0,3,4,5,8,106,111,123] [.ptr 0 _ 0,.ptr 2003 _ 0,.ptr 1 _ 0,.ptr 1 _ 0,vI _ _,.ptr 0 _ 0,.own _,.agg [vI _ _,vI _ _,vI _ _,vI _ _,vI _ _,vB _,vI _ _]] [0,1,2,3,4,2003] [.box _ _ [vI _ _,vI _ _,vI _ _,.own _,.own _,.own _,.own _,vI _ _],.arr _ _ _,.arr _ _ _,.arr _ _ _,.arr _ _ _,.box _ _ [vI _ _,vI _ _,vI _ _,vI _ _,vI _ _,vI _ _,vB _]] rfl rfl ⟨rfl,trivial⟩ ?_
      refine yst 18 rfl (zS 2124 (rowsOf encHtlc [⟨e.key,e.ch,e.to,admSum x e,e.amt,decide (admRoom x e = 2),0⟩]) ty.el31 ty.ze117 rfl)<|yst 19 rfl (zP 2 ty.el31 ty.ze117 ty.by117 rfl (Src.own rfl rfl) (by have := sm.lh;simp [rowsOf];omega))<|yq 20 (rc rfl)<|yq 21 (rf 0 ty.F87_0 rfl)<|yq 22 (rf 4 ty.F34_4 rfl)<|yl rfl (zB 0 ty.co31 ty.inf31 rfl)<|gT ?_
      refine AW.obj 2 (hAr (x.htlcs ++ [⟨e.key,e.ch,e.to,admSum x e,e.amt,decide (admRoom x e = 2),0⟩])) ((congrArg (AO.arr 117 7) (rowsOf_app encHtlc _ [_]).symm)) ?_
      refine sL<|lmP Z<|lc Z<|lf 3 ty.F78_3 Z<|lq (rd (x := vI _ _) (rd_load_arr Z ty.kd3 Z Z Z (rows_some hc) Z) Z)<|lmI Z ?_
      refine lhI rfl ⟨rfl,fits_i64 (by have h1 := hcm.2.1;have h2 : A50 (admSum x e) := addV_A50 _ _;unfold A50 at *;unfold i64;omega)⟩<|lc Z<|lf 3 ty.F78_3 Z<|lst (zQ 1 [.v (.int .i64 (c.remote - admSum x e))] ty.co3 ty.inf3 rfl (rows_some hc)) Z<|lT [0,3,5] [.ptr 0 _ 0,.ptr 2003 _ 0,.ptr 1 _ 0] [0,1,2,3,4,2003,2124] [.box _ _ [vI _ _,vI _ _,vI _ _,.own _,.own _,.own _,.own _,vI _ _],.arr _ _ _,.arr _ _ _,.arr _ _ _,.arr _ _ _,.box _ _ [vI _ _,vI _ _,vI _ _,vI _ _,vI _ _,vI _ _,vB _],.arr _ _ _] rfl Z<|nG ?_
      refine AW.obj 1 (cAr u (x.chans.set i { c with remote := c.remote - admSum x e })) (Eq.trans (b := AO.arr ⟨78,some u⟩ 7 ((rowsOf encChan (x.chans)).set i ((encChan { c with remote := c.remote - admSum x e }).map PV.v))) rfl (congrArg (AO.arr ⟨78,some u⟩ 7) rows_set)) ?_
      refine aS<|aG 9 []<|tq 0 (rmP rfl)<|tq 1 (rc rfl)<|tq 2 (rf 2 ty.F78_2 rfl)<|tq 3 (rd (x := vI _ _) (rd_load_arr rfl ty.kd3 rfl rfl rfl (rows_some (set_get hd (idx_ne hc hd (by rw [hid,hjd];exact hne)) _)) rfl) rfl)<|yq 4 (rf 4 ty.F41_4 rfl)<|yq 5 (roI ty.kd3 rfl) ?_
      refine yq 6 (rhI rfl ⟨rfl,fits_i64 (by have h1 := hdm.1;have h2 := es.amt;unfold A50 at *;unfold i64;omega)⟩)<|yq 7 (rc rfl)<|yq 8 (rf 2 ty.F78_2 rfl)<|yl rfl (zQ 1 [.v (.int .i64 (d.loc - e.amt))] ty.co3 ty.inf3 rfl (rows_some (set_get hd (idx_ne hc hd (by rw [hid,hjd];exact hne)) _)))<|gT ?_
      refine AW.obj 1 (cAr u (updC (updC x.chans e.ch fun c => { c with remote := c.remote - admSum x e }) e.to fun c => { c with loc := c.loc - e.amt })) (Eq.trans (b := AO.arr ⟨78,some u⟩ 7 ((rowsOf encChan (x.chans.set i { c with remote := c.remote - admSum x e })).set j ((encChan { d with loc := d.loc - e.amt }).map PV.v))) rfl (congrArg (AO.arr ⟨78,some u⟩ 7) (rows_set.trans (congrArg (rowsOf encChan) (set_two' fi.ids hc hd hid hjd hne (fun c => { c with remote := c.remote - admSum x e }) (fun d => { d with loc := d.loc - e.amt }) (fun _ => rfl)))))) ?_
      refine AW.unpin 1 rfl ?_
      refine sL<|lmP Z<|lf 3 ty.F41_3 Z<|loI ty.kd3 Z<|lf 4 ty.F41_4 Z<|loI ty.kd3 Z<|lq (rd (x := vI _ _) (rd_un rfl rfl (fits_i64 (by have h2 := es.amt;unfold A50 at *;unfold i64;omega))) rfl) ?_
      refine lst (z5a Tryz.func52 (line_e _ _ _ _ _ _ _ _ _ _ _ _ _ _ ([]) 0 (LG.nil) (by decide) _ _ _ (Fresh.nil _ _) (rangeA_neg es.amt)) (⟨stays.box rfl,trivial⟩) rfl rfl) Z<|lT [0,3] [.ptr 0 _ 0,.ptr 2003 _ 0] [0,1,2,3,4,2003,2124] [.box _ _ [vI _ _,vI _ _,vI _ _,.own _,.own _,.own _,.own _,vI _ _],.arr _ _ _,.arr _ _ _,.arr _ _ _,.arr _ _ _,.box _ _ [vI _ _,vI _ _,vI _ _,vI _ _,vI _ _,vI _ _,vB _],.arr _ _ _] rfl Z<|nG<|aL<|lmP Z<|lf 3 ty.F41_3 Z<|loI ty.kd3 Z<|lf 4 ty.F41_4 Z<|loI ty.kd3 rfl ?_
      refine lst (z5a Tryz.func52 (line_e _ _ _ _ _ _ _ _ _ _ _ _ _ _ (addL [] 6 e.to (-e.amt)) 1 (LG.nil.add (rangeA_neg es.amt)) (by decide) _ _ _ ((Fresh.nil _ _).add (.inl (by decide))) (rangeA_of es.amt)) (⟨stays.box rfl,trivial⟩) rfl rfl) Z<|lN ?_
      have hz1 : admC1 x e = 0 := of_decide_eq_true h5
      have hc0 : admC x e = failC (decide (admRoom x e = 0)) (admC1 x e) 13 := if_pos hz1
      have hy0 : admC x e = 0 := by rw [hc0];simpa using h6
      rw [admR_yes hy0]
      unfold admY
      refine end_go ?_ ⟨(Eq.trans (b := wBox g x.tick x.next x.wallet _) rfl (congrArg (wBox g x.tick x.next x.wallet) (by rw [← hc0];exact hy0))),rfl,rfl,rfl,rfl,trivial⟩
      rfl
    ·intro h5
     refine aK<|gT<|aS<|sL<|lmP Z<|lc Z<|lf 7 ty.F87_2 Z<|loI ty.kd3 Z<|lbB Z<|lsB 105 true rfl (by rw [h5];rfl)<|nG<|aY rfl ?_
     refine AW.unpin 1 rfl ?_
     refine aR<|rT ?_
     have hz1 : admC1 x e ≠ 0 := of_decide_eq_false h5
     have hc0 : admC x e = admC1 x e := if_neg hz1
     have hn0 : admC x e ≠ 0 := by rw [hc0];exact hz1
     rw [admR_no hn0,hc0]
     refine end_ret ?_ ⟨rfl,rfl,rfl,rfl,rfl,trivial⟩
     rfl

theorem at_find {α : Type} (p : α → Bool) (l : List α) : (atI p l = -1 ∧ l.find? p = none) ∨ ∃ (i : Nat) (c : α),atI p l = (i : Int) ∧ l[i]? = some c ∧ l.find? p = some c ∧ p c = true := by
  unfold atI
  cases h : l.findIdx? p with
  | none =>
    refine .inl ⟨rfl,?_⟩
    rw [List.find?_eq_none]
    intro x hx
    have := List.findIdx?_eq_none_iff.1 h x hx
    simpa using this
  | some i =>
    obtain ⟨h1,h2,h3⟩ := List.findIdx?_eq_some_iff_getElem.1 h
    refine .inr ⟨i,l[i],rfl,List.getElem?_eq_getElem h1,?_,h2⟩
    rw [List.find?_eq_some_iff_getElem]
    exact ⟨h2,i,h1,rfl,fun j hj => by simpa using h3 j hj⟩
theorem chan_there {l : List Chan} {ch : Int} (h : 0 ≤ chanAt l ch) : ∃ (i : Nat) (c : Chan),chanAt l ch = (i : Int) ∧ l[i]? = some c ∧ chanOr l ch = c ∧ c.id = ch := by
  rcases chan_find l ch with q | q
  · omega
  · exact q
def setY (x : Book) (good : Bool) (h : Htlc) : WR :=
  if good then ⟨{ x with htlcs := delH x.htlcs h.key,chans := updC (updC x.chans h.inn fun c => { c with loc := c.loc + h.amtIn,score := scoreUp c.score }) h.out fun c => { c with remote := c.remote + h.amtOut } },
    addL (addL (addL [] 3 0 (h.amtOut - h.amtIn)) 6 h.inn h.amtIn) 8 h.out (-h.amtOut),0⟩
  else ⟨{ x with htlcs := delH x.htlcs h.key,chans := updC (updC x.chans h.inn fun c => { c with remote := c.remote + h.amtIn,score := scoreDown c.score }) h.out fun c => { c with loc := c.loc + h.amtOut } },
    addL (addL [] 6 h.out h.amtOut) 8 h.out (-h.amtOut),0⟩
def setR (x : Book) (e : Event) : WR := match x.htlcs.find? (fun c => c.key == e.key) with
  | some h => setY x (decide (e.kind = 6)) h
  | none => ⟨x,[],15⟩
theorem setR_none {x : Book} {e : Event} (h : x.htlcs.find? (fun c => c.key == e.key) = none) : setR x e = ⟨x,[],15⟩ := by unfold setR;rw [h]
theorem setR_some {x : Book} {e : Event} {c : Htlc} (h : x.htlcs.find? (fun c => c.key == e.key) = some c) : setR x e = setY x (decide (e.kind = 6)) c := by unfold setR;rw [h]
def landY (x : Book) (good : Bool) (h : Circle) : WR :=
  if good then ⟨{ x with circles := delI x.circles h.key,chans := updC (updC x.chans h.frm fun c => { c with remote := c.remote + (h.amt + h.fee) }) h.to fun c => { c with loc := c.loc + h.amt } },
    addL (addL (addL [] 4 0 h.fee) 6 h.to h.amt) 8 h.frm (-h.amt - h.fee),0⟩
  else ⟨{ x with circles := delI x.circles h.key,chans := updC (updC x.chans h.frm fun c => { c with loc := c.loc + (h.amt + h.fee) }) h.to fun c => { c with remote := c.remote + h.amt } },
    addL (addL [] 6 h.frm (h.amt + h.fee)) 8 h.frm (-h.amt - h.fee),0⟩
def landR (x : Book) (e : Event) : WR := match x.circles.find? (fun c => c.key == e.key) with
  | some h => landY x (decide (e.kind = 10)) h
  | none => ⟨x,[],15⟩
theorem landR_none {x : Book} {e : Event} (h : x.circles.find? (fun c => c.key == e.key) = none) : landR x e = ⟨x,[],15⟩ := by unfold landR;rw [h]
theorem landR_some {x : Book} {e : Event} {c : Circle} (h : x.circles.find? (fun c => c.key == e.key) = some c) : landR x e = landY x (decide (e.kind = 10)) c := by unfold landR;rw [h]
theorem set_three {α : Type} {l : List α} {a b : Nat} {c1 c2 d1 : α} (hne : a ≠ b) : ((l.set a c1).set b d1).set a c2 = (l.set a c2).set b d1 := by
  rw [List.set_comm _ _ (Ne.symm hne),List.set_set]
def lauC0 (x : Book) (e : Event) : Int := failC (decide ((20 : Int) ≤ (x.circles.length : Int))) (missC x.chans e.to (missC x.chans e.ch (failC (knownB x e.key) 0 9))) 14
def lauC (x : Book) (e : Event) : Int := failC (decide ((chanOr x.chans e.to).remote < e.amt)) (failC (decide ((chanOr x.chans e.ch).loc < addV e.amt e.fee)) (failC (!addOk e.amt e.fee) (lauC0 x e) 10) 12) 11
def lauY (x : Book) (e : Event) : WR := ⟨{ x with circles := x.circles ++ [⟨e.key,e.ch,e.to,e.amt,e.fee⟩],chans := updC (updC x.chans e.ch fun c => { c with loc := c.loc - addV e.amt e.fee }) e.to fun c => { c with remote := c.remote - e.amt } },addL (addL [] 6 e.ch (-addV e.amt e.fee)) 8 e.ch (addV e.amt e.fee),0⟩
def lauR (x : Book) (e : Event) : WR := if lauC x e = 0 then lauY x e else ⟨x,[],lauC x e⟩
theorem lauR_no {x : Book} {e : Event} (h : lauC x e ≠ 0) : lauR x e = ⟨x,[],lauC x e⟩ := if_neg h
theorem lauR_yes {x : Book} {e : Event} (h : lauC x e = 0) : lauR x e = lauY x e := if_pos h
theorem settle_e (g u : Value) (x : Book) (e : Event) (fi : BookFi x) (es : EvSm e) (hle : ∀ h ∈ x.htlcs,h.amtOut ≤ h.amtIn) : GC Tryz.prog 57 [.ptr 0 0 0,evV e] (wIn g u x [] 0) (.tup []) (wOut g (setR x e)) := by
 have sm := fi.sm
 have hm : x.chans.length ≤ 1000000000 := by have := sm.lc;omega
 have hmh : x.htlcs.length ≤ 1000000000 := by have := sm.lh;omega
 have hmc : x.circles.length ≤ 1000000000 := by have := sm.li;omega
 refine GC.intro (rs := []) Tryz.func57 rfl Tryz.ntmps57 (Nat.le_of_ble_eq_true rfl) trivial ?_
 intro L O w0
 refine sL<|lst (zX 2003 Z) Z<|nG<|aS<|aG 7 []<|tq 0 (rmP Z)<|tq 1 (rc Z)<|tq 2 (rf 0 ty.F87_0 Z)<|tq 3 (roX (.agg [vI _ _,vI _ _,vI _ _,.own _,.own _,.own _]) ty.kd34 Z)<|yq 4 (rf 1 ty.F41_1 Z)<|yq 5 (roI ty.kd3 Z) ?_
 rcases at_find (fun c => c.key == e.key) x.htlcs with ⟨hi,hf⟩ | ⟨i,h,hi,hh,hf,hk⟩
 ·skip
  refine yst 6 rfl (zL Tryz.func110 (htlcAt_e x _ hmh) rfl)<|yq 7 (raI rfl)<|gD<|gT<|aS<|sL<|lmI Z<|lbB Z<|lsB 16 true rfl (by rw [show atI (fun c => c.key == e.key) x.htlcs = _ from hi];simp)<|nG<|aY Z<|sL<|lmP rfl ?_
  refine lst (z5b Tryz.func104 (fail_e _ _ _ _ _ _ _ _ _ _ _ _ _ _ _ _ _ _ _ ) (⟨stays.box rfl,stays.arr rfl,trivial⟩) rfl rfl) Z<|nG ?_
  refine AW.unpin 1 rfl ?_
  refine aR<|rT ?_
  rw [setR_none hf]
  refine end_ret ?_ ⟨rfl,rfl,rfl,rfl,rfl,trivial⟩
  rfl
 ·have hk : h.key = e.key := by simpa using hk
  have hhm := sm.htlcs h (mem_of_get hh)
  have hil := (List.getElem?_eq_some_iff.1 hh).1
  obtain ⟨ha,hb,hab⟩ := fi.hch h (mem_of_get hh)
  obtain ⟨a,c,hac,hc,hao,hcid⟩ := chan_there ha
  obtain ⟨b,d,hbd,hd,hbo,hdid⟩ := chan_there hb
  have hcm := sm.chans c (mem_of_get hc)
  have hdm := sm.chans d (mem_of_get hd)
  have hne : a ≠ b := idx_ne hc hd (by rw [hcid,hdid];exact hab)
  refine yst 6 rfl (zL Tryz.func110 (htlcAt_e x _ hmh) rfl)<|gX [0,3,14] [.ptr 0 _ 0,.ptr 2003 _ 0,vI _ _] [0,1,2,3,4,2003] [.box _ _ [vI _ _,vI _ _,vI _ _,.own _,.own _,.own _,.own _,vI _ _],.arr _ _ _,.arr _ _ _,.arr _ _ _,.arr _ _ _,.box _ _ [vI _ _,vI _ _,vI _ _,vI _ _,vI _ _,vI _ _,vB _]] rfl rfl trivial<|yq 7 (raI rfl)<|gD<|gT<|aS<|sL<|lmI Z<|lbB Z<|lsB 16 false rfl (by rw [show atI (fun c => c.key == e.key) x.htlcs = _ from hi];simp)<|nG<|aN Z<|aK<|gA<|lmP Z<|lc Z<|lf 0 ty.F87_0 Z<|lf 4 ty.F34_4 Z<|loO ty.kd31 Z<|lmI Z<|lsN 24 (i : Int) rfl hi<|lq (rj i ty.el31 rfl (by rw [length_rowsOf];exact hil))<|lq (rd (x := .agg [vI _ _,vI _ _,vI _ _,vI _ _,vI _ _,vB _,vI _ _]) (rd_load_arr rfl ty.kd117 rfl rfl rfl (rows_some hh) rfl) rfl)<|lst (zA 2005 ty.ze117 rfl) Z<|lst (zB 2005 ty.co117 ty.inf117 rfl) Z<|lN ?_
  refine gT<|aS<|aG 21 [2035]<|tq 0 (rmP Z)<|tq 1 (rmP Z)<|tq 2 (rc Z)<|tq 3 (rf 0 ty.F87_0 Z)<|tq 4 (rf 4 ty.F34_4 Z)<|tq 5 (roO ty.kd31 Z)<|tq 6 (rmI Z)<|gsN 33 (i : Int) Z hi ?_
  refine tq 7 (rd (x := .sub _ _ _) (rd_slc_own (l := 0) (h := i) rfl ty.el31 rfl rfl rfl ⟨_,rfl⟩ (by omega) (by rw [length_rowsOf];omega)) rfl)<|tq 9 (rmP rfl)<|tq 10 (rc rfl)<|tq 11 (rf 0 ty.F87_0 rfl)<|tq 12 (rf 4 ty.F34_4 rfl)<|tq 13 (roO ty.kd31 rfl)<|tq 14 (rmI rfl)<|gsN 41 (i : Int) rfl hi ?_
  refine tq 15 (rhI rfl ⟨rfl,fits_i64 (by have := sm.lh;unfold i64;omega)⟩)<|gsN 42 ((i + 1 : Nat) : Int) rfl (by omega) ?_
  refine tq 16 (rd (x := .sub _ _ _) (rd_slc_own (l := i + 1) (h := _) rfl ty.el31 rfl rfl ⟨_,rfl⟩ rfl (by rw [length_rowsOf];omega) (Nat.le_refl _)) rfl)<|yst 8 rfl (St.app0 2035 rfl rfl (by decide) ty.el31 ty.ze117 rfl (by decide) rfl (Src.sub rfl rfl) (by have := sm.lh;simp [rowsOf,maxLen];omega) (Nat.le_trans (Nat.mul_le_mul_left _ ty.by117) (by have := sm.lh;simp [rowsOf];omega))) ?_
  refine gX [0,3,5,27,35,43] [.ptr 0 _ 0,.ptr 2003 _ 0,.ptr 2005 _ 0,.ptr 0 _ 0,.own _,.sub _ _ _] [0,1,2,3,4,2003,2005,2035] [.box _ _ [vI _ _,vI _ _,vI _ _,.own _,.own _,.own _,.own _,vI _ _],.arr _ _ _,.arr _ _ _,.arr _ _ _,.arr _ _ _,.box _ _ [vI _ _,vI _ _,vI _ _,vI _ _,vI _ _,vI _ _,vB _],.box _ _ [vI _ _,vI _ _,vI _ _,vI _ _,vI _ _,vB _,vI _ _],.arr _ _ _] rfl rfl ⟨rfl,trivial⟩<|yst 17 rfl (zP 2035 ty.el31 ty.ze117 ty.by117 rfl (Src.sub rfl rfl) (by have := sm.lh;simp [rowsOf];omega))<|yq 18 (rc rfl)<|yq 19 (rf 0 ty.F87_0 rfl)<|yq 20 (rf 4 ty.F34_4 rfl)<|yl rfl (zB 0 ty.co31 ty.inf31 rfl)<|gT ?_
  refine AW.obj 2035 (hAr (delH x.htlcs h.key)) ((congrArg (AO.arr 117 7) (del_rows.trans (congrArg (rowsOf encHtlc) (by rw [erase_filter (g := fun c => c.key) fi.hks hh];rfl))))) ?_
  refine aS ?_
  refine AW.swap 2035 2 ?_
  refine aT [0,3,5] [.ptr 0 _ 0,.ptr 2003 _ 0,.ptr 2005 _ 0] [0,1,2,3,4,2003,2005] [.box _ _ [vI _ _,vI _ _,vI _ _,.own _,.own _,.own _,.own _,vI _ _],.arr _ _ _,.arr _ _ _,.arr _ _ _,.arr _ _ _,.box _ _ [vI _ _,vI _ _,vI _ _,vI _ _,vI _ _,vI _ _,vB _],.box _ _ [vI _ _,vI _ _,vI _ _,vI _ _,vI _ _,vB _,vI _ _]] Z Z<|aL<|lmP Z<|lf 1 ty.F117_1 Z<|loI ty.kd3 Z ?_
  refine lst (z5b Tryz.func55 (ch_some _ _ ({ x with htlcs := delH x.htlcs h.key }) _ _ _ hm _ _ hac hc) (⟨stays.box rfl,stays.arr rfl,trivial⟩) rfl rfl) Z<|laP Z<|nA<|lmP Z<|lf 2 ty.F117_2 Z<|loI ty.kd3 rfl ?_
  refine lst (z5b Tryz.func55 (ch_some _ _ ({ x with htlcs := delH x.htlcs h.key }) _ _ _ hm _ _ hbd hd) (⟨stays.box rfl,stays.arr rfl,trivial⟩) rfl rfl) Z<|laP Z<|nG<|aS<|sL<|lf 0 ty.F41_0 Z<|loI ty.kd3 Z<|lbB Z<|nG ?_
  refine AW.cond rfl ?_ ?_
  ·intro h1
   refine aS<|aG 9 []<|tq 0 (rmP Z)<|tq 1 (rc Z)<|tq 2 (rf 2 ty.F78_2 Z)<|tq 3 (rd (x := vI _ _) (rd_load_arr Z ty.kd3 Z Z Z (rows_some hc) Z) Z)<|yq 4 (rf 3 ty.F117_3 Z)<|yq 5 (roI ty.kd3 Z) ?_
   refine yq 6 (rhI rfl ⟨rfl,fits_i64 (by have h1 := hcm.1;have h2 := hcm.2.1;have h3 := hdm.1;have h4 := hdm.2.1;have h5 := hhm.1;have h6 := hhm.2.1;unfold A50 at *;unfold i64;omega)⟩)<|yq 7 (rc rfl)<|yq 8 (rf 2 ty.F78_2 rfl)<|yl rfl (zQ 1 [.v (.int .i64 (c.loc + h.amtIn))] ty.co3 ty.inf3 rfl (rows_some hc))<|gT ?_
   refine AW.obj 1 (cAr u (x.chans.set a { c with loc := c.loc + h.amtIn })) (Eq.trans (b := AO.arr ⟨78,some u⟩ 7 ((rowsOf encChan (x.chans)).set a ((encChan { c with loc := c.loc + h.amtIn }).map PV.v))) rfl (congrArg (AO.arr ⟨78,some u⟩ 7) rows_set)) ?_
   refine aS<|aG 9 []<|tq 0 (rmP Z)<|tq 1 (rc Z)<|tq 2 (rf 3 ty.F78_3 Z)<|tq 3 (rd (x := vI _ _) (rd_load_arr Z ty.kd3 Z Z Z (rows_some (set_get hd hne _)) Z) Z)<|yq 4 (rf 4 ty.F117_4 Z)<|yq 5 (roI ty.kd3 Z) ?_
   refine yq 6 (rhI rfl ⟨rfl,fits_i64 (by have h1 := hcm.1;have h2 := hcm.2.1;have h3 := hdm.1;have h4 := hdm.2.1;have h5 := hhm.1;have h6 := hhm.2.1;unfold A50 at *;unfold i64;omega)⟩)<|gX [0,5,6,68,74] [.ptr 0 _ 0,.ptr 2005 _ 0,.ptr 1 _ 0,.ptr 1 _ 0,vI _ _] [0,1,2,3,4,2003,2005] [.box _ _ [vI _ _,vI _ _,vI _ _,.own _,.own _,.own _,.own _,vI _ _],.arr _ _ _,.arr _ _ _,.arr _ _ _,.arr _ _ _,.box _ _ [vI _ _,vI _ _,vI _ _,vI _ _,vI _ _,vI _ _,vB _],.box _ _ [vI _ _,vI _ _,vI _ _,vI _ _,vI _ _,vB _,vI _ _]] rfl rfl trivial<|yq 7 (rc rfl)<|yq 8 (rf 3 ty.F78_3 rfl)<|yl rfl (zQ 1 [.v (.int .i64 (d.remote + h.amtOut))] ty.co3 ty.inf3 rfl (rows_some (set_get hd hne _)))<|gT ?_
   refine AW.obj 1 (cAr u ((x.chans.set a { c with loc := c.loc + h.amtIn }).set b { d with remote := d.remote + h.amtOut })) (Eq.trans (b := AO.arr ⟨78,some u⟩ 7 ((rowsOf encChan (x.chans.set a { c with loc := c.loc + h.amtIn })).set b ((encChan { d with remote := d.remote + h.amtOut }).map PV.v))) rfl (congrArg (AO.arr ⟨78,some u⟩ 7) rows_set)) ?_
   refine sL<|lmP Z<|lmP Z<|lc Z<|lf 6 ty.F78_6 Z<|lq (rd (x := vI _ _) (rd_load_arr Z ty.kd3 Z Z Z (rows_some (set_get (set_get_eq hc { c with loc := c.loc + h.amtIn }) (Ne.symm hne) { d with remote := d.remote + h.amtOut })) Z) Z)<|lst (zL Tryz.func111 (scUp_e _) Z) Z<|lc Z<|lf 6 ty.F78_6 Z<|lst (zQ 1 [.v (.int .i64 (scoreUp c.score))] ty.co3 ty.inf3 Z (rows_some (set_get (set_get_eq hc { c with loc := c.loc + h.amtIn }) (Ne.symm hne) { d with remote := d.remote + h.amtOut }))) Z<|nG ?_
   refine AW.obj 1 (cAr u (updC (updC x.chans h.inn fun c => { c with loc := c.loc + h.amtIn,score := scoreUp c.score }) h.out fun c => { c with remote := c.remote + h.amtOut })) (Eq.trans (b := AO.arr ⟨78,some u⟩ 7 ((rowsOf encChan ((x.chans.set a { c with loc := c.loc + h.amtIn }).set b { d with remote := d.remote + h.amtOut })).set a ((encChan { c with loc := c.loc + h.amtIn,score := scoreUp c.score }).map PV.v))) rfl (congrArg (AO.arr ⟨78,some u⟩ 7) (rows_set.trans (congrArg (rowsOf encChan) ((set_three hne).trans (set_two' fi.ids hc hd hcid hdid hab (fun c => { c with loc := c.loc + h.amtIn,score := scoreUp c.score }) (fun d => { d with remote := d.remote + h.amtOut }) (fun _ => rfl))))))) ?_
   refine sL<|lmP Z<|lf 4 ty.F117_4 Z<|loI ty.kd3 Z<|lf 3 ty.F117_3 Z<|loI ty.kd3 Z ?_
   refine lhI rfl ⟨rfl,fits_i64 (by have h1 := hcm.1;have h2 := hcm.2.1;have h3 := hdm.1;have h4 := hdm.2.1;have h5 := hhm.1;have h6 := hhm.2.1;unfold A50 at *;unfold i64;omega)⟩ ?_
   refine lst (z5a Tryz.func52 (line_e _ _ _ _ _ _ _ _ _ _ _ _ _ _ ([]) 0 (LG.nil) (by decide) _ _ _ (Fresh.nil _ _) (inB_true.2 (by have h5 := hhm.1;have h6 := hhm.2.1;have h7 := hhm.2.2.2.2;have h8 := hle h (mem_of_get hh);unfold A50 at *;omega))) (⟨stays.box rfl,trivial⟩) rfl rfl) Z<|lT [0,5] [.ptr 0 _ 0,.ptr 2005 _ 0] [0,1,2,3,4,2003,2005] [.box _ _ [vI _ _,vI _ _,vI _ _,.own _,.own _,.own _,.own _,vI _ _],.arr _ _ _,.arr _ _ _,.arr _ _ _,.arr _ _ _,.box _ _ [vI _ _,vI _ _,vI _ _,vI _ _,vI _ _,vI _ _,vB _],.box _ _ [vI _ _,vI _ _,vI _ _,vI _ _,vI _ _,vB _,vI _ _]] rfl Z<|nG<|aL<|lmP Z<|lf 1 ty.F117_1 Z<|loI ty.kd3 Z<|lf 3 ty.F117_3 Z<|loI ty.kd3 rfl ?_
   refine lst (z5a Tryz.func52 (line_e _ _ _ _ _ _ _ _ _ _ _ _ _ _ (addL [] 3 0 (h.amtOut - h.amtIn)) 1 (LG.nil.add (inB_true.2 (by have h5 := hhm.1;have h6 := hhm.2.1;have h7 := hhm.2.2.2.2;have h8 := hle h (mem_of_get hh);unfold A50 at *;omega))) (by decide) _ _ _ ((Fresh.nil _ _).add (.inl (by decide))) (rangeA_of hhm.1)) (⟨stays.box rfl,trivial⟩) rfl rfl) Z<|nG ?_
   refine AW.unpin 1 rfl ?_
   refine aL<|lmP Z<|lf 2 ty.F117_2 Z<|loI ty.kd3 Z<|lf 4 ty.F117_4 Z<|loI ty.kd3 Z<|lq (rd (x := vI _ _) (rd_un rfl rfl (fits_i64 (by have h1 := hcm.1;have h2 := hcm.2.1;have h3 := hdm.1;have h4 := hdm.2.1;have h5 := hhm.1;have h6 := hhm.2.1;unfold A50 at *;unfold i64;omega))) rfl) ?_
   refine lst (z5a Tryz.func52 (line_e _ _ _ _ _ _ _ _ _ _ _ _ _ _ (addL (addL [] 3 0 (h.amtOut - h.amtIn)) 6 h.inn h.amtIn) 2 ((LG.nil.add (inB_true.2 (by have h5 := hhm.1;have h6 := hhm.2.1;have h7 := hhm.2.2.2.2;have h8 := hle h (mem_of_get hh);unfold A50 at *;omega))).add (rangeA_of hhm.1)) (by decide) _ _ _ (((Fresh.nil _ _).add (.inl (by decide))).add (.inl (by decide))) (rangeA_neg hhm.2.1)) (⟨stays.box rfl,trivial⟩) rfl rfl) Z<|lN ?_
   rw [setR_some hf,h1]
   unfold setY
   refine end_go ?_ ⟨rfl,rfl,rfl,rfl,rfl,trivial⟩
   rfl
  ·intro h1
   refine aS<|aG 9 []<|tq 0 (rmP Z)<|tq 1 (rc Z)<|tq 2 (rf 3 ty.F78_3 Z)<|tq 3 (rd (x := vI _ _) (rd_load_arr Z ty.kd3 Z Z Z (rows_some hc) Z) Z)<|yq 4 (rf 3 ty.F117_3 Z)<|yq 5 (roI ty.kd3 Z) ?_
   refine yq 6 (rhI rfl ⟨rfl,fits_i64 (by have h1 := hcm.1;have h2 := hcm.2.1;have h3 := hdm.1;have h4 := hdm.2.1;have h5 := hhm.1;have h6 := hhm.2.1;unfold A50 at *;unfold i64;omega)⟩)<|yq 7 (rc rfl)<|yq 8 (rf 3 ty.F78_3 rfl)<|yl rfl (zQ 1 [.v (.int .i64 (c.remote + h.amtIn))] ty.co3 ty.inf3 rfl (rows_some hc))<|gT ?_
   refine AW.obj 1 (cAr u (x.chans.set a { c with remote := c.remote + h.amtIn })) (Eq.trans (b := AO.arr ⟨78,some u⟩ 7 ((rowsOf encChan (x.chans)).set a ((encChan { c with remote := c.remote + h.amtIn }).map PV.v))) rfl (congrArg (AO.arr ⟨78,some u⟩ 7) rows_set)) ?_
   refine aS<|aG 9 []<|tq 0 (rmP Z)<|tq 1 (rc Z)<|tq 2 (rf 2 ty.F78_2 Z)<|tq 3 (rd (x := vI _ _) (rd_load_arr Z ty.kd3 Z Z Z (rows_some (set_get hd hne _)) Z) Z)<|yq 4 (rf 4 ty.F117_4 Z)<|yq 5 (roI ty.kd3 Z) ?_
   refine yq 6 (rhI rfl ⟨rfl,fits_i64 (by have h1 := hcm.1;have h2 := hcm.2.1;have h3 := hdm.1;have h4 := hdm.2.1;have h5 := hhm.1;have h6 := hhm.2.1;unfold A50 at *;unfold i64;omega)⟩)<|gX [0,5,6,107,113] [.ptr 0 _ 0,.ptr 2005 _ 0,.ptr 1 _ 0,.ptr 1 _ 0,vI _ _] [0,1,2,3,4,2003,2005] [.box _ _ [vI _ _,vI _ _,vI _ _,.own _,.own _,.own _,.own _,vI _ _],.arr _ _ _,.arr _ _ _,.arr _ _ _,.arr _ _ _,.box _ _ [vI _ _,vI _ _,vI _ _,vI _ _,vI _ _,vI _ _,vB _],.box _ _ [vI _ _,vI _ _,vI _ _,vI _ _,vI _ _,vB _,vI _ _]] rfl rfl trivial<|yq 7 (rc rfl)<|yq 8 (rf 2 ty.F78_2 rfl)<|yl rfl (zQ 1 [.v (.int .i64 (d.loc + h.amtOut))] ty.co3 ty.inf3 rfl (rows_some (set_get hd hne _)))<|gT ?_
   refine AW.obj 1 (cAr u ((x.chans.set a { c with remote := c.remote + h.amtIn }).set b { d with loc := d.loc + h.amtOut })) (Eq.trans (b := AO.arr ⟨78,some u⟩ 7 ((rowsOf encChan (x.chans.set a { c with remote := c.remote + h.amtIn })).set b ((encChan { d with loc := d.loc + h.amtOut }).map PV.v))) rfl (congrArg (AO.arr ⟨78,some u⟩ 7) rows_set)) ?_
   refine sL<|lmP Z<|lmP Z<|lc Z<|lf 6 ty.F78_6 Z<|lq (rd (x := vI _ _) (rd_load_arr Z ty.kd3 Z Z Z (rows_some (set_get (set_get_eq hc { c with remote := c.remote + h.amtIn }) (Ne.symm hne) { d with loc := d.loc + h.amtOut })) Z) Z)<|lst (zL Tryz.func112 (scDown_e _) Z) Z<|lc Z<|lf 6 ty.F78_6 Z<|lst (zQ 1 [.v (.int .i64 (scoreDown c.score))] ty.co3 ty.inf3 Z (rows_some (set_get (set_get_eq hc { c with remote := c.remote + h.amtIn }) (Ne.symm hne) { d with loc := d.loc + h.amtOut }))) Z<|nG ?_
   refine AW.obj 1 (cAr u (updC (updC x.chans h.inn fun c => { c with remote := c.remote + h.amtIn,score := scoreDown c.score }) h.out fun c => { c with loc := c.loc + h.amtOut })) (Eq.trans (b := AO.arr ⟨78,some u⟩ 7 ((rowsOf encChan ((x.chans.set a { c with remote := c.remote + h.amtIn }).set b { d with loc := d.loc + h.amtOut })).set a ((encChan { c with remote := c.remote + h.amtIn,score := scoreDown c.score }).map PV.v))) rfl (congrArg (AO.arr ⟨78,some u⟩ 7) (rows_set.trans (congrArg (rowsOf encChan) ((set_three hne).trans (set_two' fi.ids hc hd hcid hdid hab (fun c => { c with remote := c.remote + h.amtIn,score := scoreDown c.score }) (fun d => { d with loc := d.loc + h.amtOut }) (fun _ => rfl))))))) ?_
   refine aL<|lmP Z<|lf 2 ty.F117_2 Z<|loI ty.kd3 Z<|lf 4 ty.F117_4 Z<|loI ty.kd3 Z ?_
   refine lst (z5a Tryz.func52 (line_e _ _ _ _ _ _ _ _ _ _ _ _ _ _ ([]) 0 (LG.nil) (by decide) _ _ _ (Fresh.nil _ _) (rangeA_of hhm.2.1)) (⟨stays.box rfl,trivial⟩) rfl rfl) Z<|lT [0,5] [.ptr 0 _ 0,.ptr 2005 _ 0] [0,1,2,3,4,2003,2005] [.box _ _ [vI _ _,vI _ _,vI _ _,.own _,.own _,.own _,.own _,vI _ _],.arr _ _ _,.arr _ _ _,.arr _ _ _,.arr _ _ _,.box _ _ [vI _ _,vI _ _,vI _ _,vI _ _,vI _ _,vI _ _,vB _],.box _ _ [vI _ _,vI _ _,vI _ _,vI _ _,vI _ _,vB _,vI _ _]] rfl Z<|nG ?_
   refine AW.unpin 1 rfl ?_
   refine aL<|lmP Z<|lf 2 ty.F117_2 Z<|loI ty.kd3 Z<|lf 4 ty.F117_4 Z<|loI ty.kd3 Z<|lq (rd (x := vI _ _) (rd_un rfl rfl (fits_i64 (by have h1 := hcm.1;have h2 := hcm.2.1;have h3 := hdm.1;have h4 := hdm.2.1;have h5 := hhm.1;have h6 := hhm.2.1;unfold A50 at *;unfold i64;omega))) rfl) ?_
   refine lst (z5a Tryz.func52 (line_e _ _ _ _ _ _ _ _ _ _ _ _ _ _ (addL [] 6 h.out h.amtOut) 1 (LG.nil.add (rangeA_of hhm.2.1)) (by decide) _ _ _ ((Fresh.nil _ _).add (.inl (by decide))) (rangeA_neg hhm.2.1)) (⟨stays.box rfl,trivial⟩) rfl rfl) Z<|lN ?_
   rw [setR_some hf,h1]
   unfold setY
   refine end_go ?_ ⟨rfl,rfl,rfl,rfl,rfl,trivial⟩
   rfl
theorem land_e (g u : Value) (x : Book) (e : Event) (fi : BookFi x) (es : EvSm e) (hle : ∀ h ∈ x.circles,0 ≤ h.amt ∧ 0 ≤ h.fee ∧ h.amt + h.fee ≤ 1125899906842624) : GC Tryz.prog 60 [.ptr 0 0 0,evV e] (wIn g u x [] 0) (.tup []) (wOut g (landR x e)) := by
 have sm := fi.sm
 have hm : x.chans.length ≤ 1000000000 := by have := sm.lc;omega
 have hmh : x.htlcs.length ≤ 1000000000 := by have := sm.lh;omega
 have hmc : x.circles.length ≤ 1000000000 := by have := sm.li;omega
 refine GC.intro (rs := []) Tryz.func60 rfl Tryz.ntmps60 (Nat.le_of_ble_eq_true rfl) trivial ?_
 intro L O w0
 refine sL<|lst (zX 2003 Z) Z<|nG<|aS<|aG 7 []<|tq 0 (rmP Z)<|tq 1 (rc Z)<|tq 2 (rf 0 ty.F87_0 Z)<|tq 3 (roX (.agg [vI _ _,vI _ _,vI _ _,.own _,.own _,.own _]) ty.kd34 Z)<|yq 4 (rf 1 ty.F41_1 Z)<|yq 5 (roI ty.kd3 Z) ?_
 rcases at_find (fun c => c.key == e.key) x.circles with ⟨hi,hf⟩ | ⟨i,h,hi,hh,hf,hk⟩
 ·skip
  refine yst 6 rfl (zL Tryz.func114 (circleAt_e x _ hmc) rfl)<|yq 7 (raI rfl)<|gD<|gT<|aS<|sL<|lmI Z<|lbB Z<|lsB 16 true rfl (by rw [show atI (fun c => c.key == e.key) x.circles = _ from hi];simp)<|nG<|aY Z<|sL<|lmP rfl ?_
  refine lst (z5b Tryz.func104 (fail_e _ _ _ _ _ _ _ _ _ _ _ _ _ _ _ _ _ _ _ ) (⟨stays.box rfl,stays.arr rfl,trivial⟩) rfl rfl) Z<|nG ?_
  refine AW.unpin 1 rfl ?_
  refine aR<|rT ?_
  rw [landR_none hf]
  refine end_ret ?_ ⟨rfl,rfl,rfl,rfl,rfl,trivial⟩
  rfl
 ·have hk : h.key = e.key := by simpa using hk
  have hhm := sm.circles h (mem_of_get hh)
  have hil := (List.getElem?_eq_some_iff.1 hh).1
  obtain ⟨ha,hb,hab⟩ := fi.ich h (mem_of_get hh)
  obtain ⟨a,c,hac,hc,hao,hcid⟩ := chan_there ha
  obtain ⟨b,d,hbd,hd,hbo,hdid⟩ := chan_there hb
  have hcm := sm.chans c (mem_of_get hc)
  have hdm := sm.chans d (mem_of_get hd)
  have hne : a ≠ b := idx_ne hc hd (by rw [hcid,hdid];exact hab)
  refine yst 6 rfl (zL Tryz.func114 (circleAt_e x _ hmc) rfl)<|gX [0,3,14] [.ptr 0 _ 0,.ptr 2003 _ 0,vI _ _] [0,1,2,3,4,2003] [.box _ _ [vI _ _,vI _ _,vI _ _,.own _,.own _,.own _,.own _,vI _ _],.arr _ _ _,.arr _ _ _,.arr _ _ _,.arr _ _ _,.box _ _ [vI _ _,vI _ _,vI _ _,vI _ _,vI _ _,vI _ _,vB _]] rfl rfl trivial<|yq 7 (raI rfl)<|gD<|gT<|aS<|sL<|lmI Z<|lbB Z<|lsB 16 false rfl (by rw [show atI (fun c => c.key == e.key) x.circles = _ from hi];simp)<|nG<|aN Z<|aK<|gA<|lmP Z<|lc Z<|lf 0 ty.F87_0 Z<|lf 5 ty.F34_5 Z<|loO ty.kd32 Z<|lmI Z<|lsN 24 (i : Int) rfl hi<|lq (rj i ty.el32 rfl (by rw [length_rowsOf];exact hil))<|lq (rd (x := .agg [vI _ _,vI _ _,vI _ _,vI _ _,vI _ _]) (rd_load_arr rfl ty.kd120 rfl rfl rfl (rows_some hh) rfl) rfl)<|lst (zA 2005 ty.ze120 rfl) Z<|lst (zB 2005 ty.co120 ty.inf120 rfl) Z<|lN ?_
  refine gT<|aS<|aG 21 [2035]<|tq 0 (rmP Z)<|tq 1 (rmP Z)<|tq 2 (rc Z)<|tq 3 (rf 0 ty.F87_0 Z)<|tq 4 (rf 5 ty.F34_5 Z)<|tq 5 (roO ty.kd32 Z)<|tq 6 (rmI Z)<|gsN 33 (i : Int) Z hi ?_
  refine tq 7 (rd (x := .sub _ _ _) (rd_slc_own (l := 0) (h := i) rfl ty.el32 rfl rfl rfl ⟨_,rfl⟩ (by omega) (by rw [length_rowsOf];omega)) rfl)<|tq 9 (rmP rfl)<|tq 10 (rc rfl)<|tq 11 (rf 0 ty.F87_0 rfl)<|tq 12 (rf 5 ty.F34_5 rfl)<|tq 13 (roO ty.kd32 rfl)<|tq 14 (rmI rfl)<|gsN 41 (i : Int) rfl hi ?_
  refine tq 15 (rhI rfl ⟨rfl,fits_i64 (by have := sm.li;unfold i64;omega)⟩)<|gsN 42 ((i + 1 : Nat) : Int) rfl (by omega) ?_
  refine tq 16 (rd (x := .sub _ _ _) (rd_slc_own (l := i + 1) (h := _) rfl ty.el32 rfl rfl ⟨_,rfl⟩ rfl (by rw [length_rowsOf];omega) (Nat.le_refl _)) rfl)<|yst 8 rfl (St.app0 2035 rfl rfl (by decide) ty.el32 ty.ze120 rfl (by decide) rfl (Src.sub rfl rfl) (by have := sm.li;simp [rowsOf,maxLen];omega) (Nat.le_trans (Nat.mul_le_mul_left _ ty.by120) (by have := sm.li;simp [rowsOf];omega))) ?_
  refine gX [0,3,5,27,35,43] [.ptr 0 _ 0,.ptr 2003 _ 0,.ptr 2005 _ 0,.ptr 0 _ 0,.own _,.sub _ _ _] [0,1,2,3,4,2003,2005,2035] [.box _ _ [vI _ _,vI _ _,vI _ _,.own _,.own _,.own _,.own _,vI _ _],.arr _ _ _,.arr _ _ _,.arr _ _ _,.arr _ _ _,.box _ _ [vI _ _,vI _ _,vI _ _,vI _ _,vI _ _,vI _ _,vB _],.box _ _ [vI _ _,vI _ _,vI _ _,vI _ _,vI _ _],.arr _ _ _] rfl rfl ⟨rfl,trivial⟩<|yst 17 rfl (zP 2035 ty.el32 ty.ze120 ty.by120 rfl (Src.sub rfl rfl) (by have := sm.li;simp [rowsOf];omega))<|yq 18 (rc rfl)<|yq 19 (rf 0 ty.F87_0 rfl)<|yq 20 (rf 5 ty.F34_5 rfl)<|yl rfl (zB 0 ty.co32 ty.inf32 rfl)<|gT ?_
  refine AW.obj 2035 (iAr (delI x.circles h.key)) ((congrArg (AO.arr 120 5) (del_rows.trans (congrArg (rowsOf encCircle) (by rw [erase_filter (g := fun c => c.key) fi.iks hh];rfl))))) ?_
  refine aS ?_
  refine AW.swap 2035 3 ?_
  refine aT [0,3,5] [.ptr 0 _ 0,.ptr 2003 _ 0,.ptr 2005 _ 0] [0,1,2,3,4,2003,2005] [.box _ _ [vI _ _,vI _ _,vI _ _,.own _,.own _,.own _,.own _,vI _ _],.arr _ _ _,.arr _ _ _,.arr _ _ _,.arr _ _ _,.box _ _ [vI _ _,vI _ _,vI _ _,vI _ _,vI _ _,vI _ _,vB _],.box _ _ [vI _ _,vI _ _,vI _ _,vI _ _,vI _ _]] Z Z<|aL<|lmP Z<|lf 1 ty.F120_1 Z<|loI ty.kd3 Z ?_
  refine lst (z5b Tryz.func55 (ch_some _ _ ({ x with circles := delI x.circles h.key }) _ _ _ hm _ _ hac hc) (⟨stays.box rfl,stays.arr rfl,trivial⟩) rfl rfl) Z<|laP Z<|nA<|lmP Z<|lf 2 ty.F120_2 Z<|loI ty.kd3 rfl ?_
  refine lst (z5b Tryz.func55 (ch_some _ _ ({ x with circles := delI x.circles h.key }) _ _ _ hm _ _ hbd hd) (⟨stays.box rfl,stays.arr rfl,trivial⟩) rfl rfl) Z<|laP Z<|nG<|aS<|sL<|lf 0 ty.F41_0 Z<|loI ty.kd3 Z<|lbB Z<|nG ?_
  refine AW.cond rfl ?_ ?_
  ·intro h1
   refine aS<|aG 12 []<|tq 0 (rmP Z)<|tq 1 (rc Z)<|tq 2 (rf 3 ty.F78_3 Z)<|tq 3 (rd (x := vI _ _) (rd_load_arr Z ty.kd3 Z Z Z (rows_some hc) Z) Z)<|tq 4 (rf 3 ty.F120_3 Z)<|tq 5 (roI ty.kd3 Z)<|yq 6 (rf 4 ty.F120_4 Z)<|yq 7 (roI ty.kd3 Z) ?_
   refine yq 8 (rhI rfl ⟨rfl,fits_i64 (by have h1 := hcm.1;have h2 := hcm.2.1;have h3 := hdm.1;have h4 := hdm.2.1;have h5 := hhm.1;have h6 := hhm.2;unfold A50 at *;unfold i64;omega)⟩) ?_
   refine yq 9 (rhI rfl ⟨rfl,fits_i64 (by have h1 := hcm.1;have h2 := hcm.2.1;have h3 := hdm.1;have h4 := hdm.2.1;have h5 := hhm.1;have h6 := hhm.2;unfold A50 at *;unfold i64;omega)⟩)<|yq 10 (rc rfl)<|yq 11 (rf 3 ty.F78_3 rfl)<|yl rfl (zQ 1 [.v (.int .i64 (c.remote + (h.amt + h.fee)))] ty.co3 ty.inf3 rfl (rows_some hc))<|gT ?_
   refine AW.obj 1 (cAr u (x.chans.set a { c with remote := c.remote + (h.amt + h.fee) })) (Eq.trans (b := AO.arr ⟨78,some u⟩ 7 ((rowsOf encChan (x.chans)).set a ((encChan { c with remote := c.remote + (h.amt + h.fee) }).map PV.v))) rfl (congrArg (AO.arr ⟨78,some u⟩ 7) rows_set)) ?_
   refine aS<|aG 9 []<|tq 0 (rmP Z)<|tq 1 (rc Z)<|tq 2 (rf 2 ty.F78_2 Z)<|tq 3 (rd (x := vI _ _) (rd_load_arr Z ty.kd3 Z Z Z (rows_some (set_get hd hne _)) Z) Z)<|gX [0,5,71,74] [.ptr 0 _ 0,.ptr 2005 _ 0,.ptr 1 _ 0,vI _ _] [0,1,2,3,4,2003,2005] [.box _ _ [vI _ _,vI _ _,vI _ _,.own _,.own _,.own _,.own _,vI _ _],.arr _ _ _,.arr _ _ _,.arr _ _ _,.arr _ _ _,.box _ _ [vI _ _,vI _ _,vI _ _,vI _ _,vI _ _,vI _ _,vB _],.box _ _ [vI _ _,vI _ _,vI _ _,vI _ _,vI _ _]] Z Z trivial<|yq 4 (rf 3 ty.F120_3 Z)<|yq 5 (roI ty.kd3 Z) ?_
   refine yq 6 (rhI rfl ⟨rfl,fits_i64 (by have h1 := hcm.1;have h2 := hcm.2.1;have h3 := hdm.1;have h4 := hdm.2.1;have h5 := hhm.1;have h6 := hhm.2;unfold A50 at *;unfold i64;omega)⟩)<|yq 7 (rc rfl)<|yq 8 (rf 2 ty.F78_2 rfl)<|yl rfl (zQ 1 [.v (.int .i64 (d.loc + h.amt))] ty.co3 ty.inf3 rfl (rows_some (set_get hd hne _)))<|gT ?_
   refine AW.obj 1 (cAr u (updC (updC x.chans h.frm fun c => { c with remote := c.remote + (h.amt + h.fee) }) h.to fun c => { c with loc := c.loc + h.amt })) (Eq.trans (b := AO.arr ⟨78,some u⟩ 7 ((rowsOf encChan (x.chans.set a { c with remote := c.remote + (h.amt + h.fee) })).set b ((encChan { d with loc := d.loc + h.amt }).map PV.v))) rfl (congrArg (AO.arr ⟨78,some u⟩ 7) (rows_set.trans (congrArg (rowsOf encChan) (set_two' fi.ids hc hd hcid hdid hab (fun c => { c with remote := c.remote + (h.amt + h.fee) }) (fun d => { d with loc := d.loc + h.amt }) (fun _ => rfl)))))) ?_
   refine sL<|lmP Z<|lf 4 ty.F120_4 Z<|loI ty.kd3 Z ?_
   refine lst (z5a Tryz.func52 (line_e _ _ _ _ _ _ _ _ _ _ _ _ _ _ ([]) 0 (LG.nil) (by decide) _ _ _ (Fresh.nil _ _) (rangeA_of hhm.2)) (⟨stays.box rfl,trivial⟩) rfl rfl) Z<|nG<|aL<|lmP Z<|lf 2 ty.F120_2 Z<|loI ty.kd3 Z<|lf 3 ty.F120_3 Z<|loI ty.kd3 rfl ?_
   refine lst (z5a Tryz.func52 (line_e _ _ _ _ _ _ _ _ _ _ _ _ _ _ (addL [] 4 0 h.fee) 1 (LG.nil.add (rangeA_of hhm.2)) (by decide) _ _ _ ((Fresh.nil _ _).add (.inl (by decide))) (rangeA_of hhm.1)) (⟨stays.box rfl,trivial⟩) rfl rfl) Z<|lT [0,5] [.ptr 0 _ 0,.ptr 2005 _ 0] [0,1,2,3,4,2003,2005] [.box _ _ [vI _ _,vI _ _,vI _ _,.own _,.own _,.own _,.own _,vI _ _],.arr _ _ _,.arr _ _ _,.arr _ _ _,.arr _ _ _,.box _ _ [vI _ _,vI _ _,vI _ _,vI _ _,vI _ _,vI _ _,vB _],.box _ _ [vI _ _,vI _ _,vI _ _,vI _ _,vI _ _]] rfl Z<|nG ?_
   refine AW.unpin 1 rfl ?_
   refine aL<|lmP Z<|lf 1 ty.F120_1 Z<|loI ty.kd3 Z<|lf 3 ty.F120_3 Z<|loI ty.kd3 Z<|lq (rd (x := vI _ _) (rd_un rfl rfl (fits_i64 (by have h1 := hcm.1;have h2 := hcm.2.1;have h3 := hdm.1;have h4 := hdm.2.1;have h5 := hhm.1;have h6 := hhm.2;unfold A50 at *;unfold i64;omega))) rfl)<|lf 4 ty.F120_4 Z<|loI ty.kd3 rfl ?_
   refine lhI rfl ⟨rfl,fits_i64 (by have h1 := hcm.1;have h2 := hcm.2.1;have h3 := hdm.1;have h4 := hdm.2.1;have h5 := hhm.1;have h6 := hhm.2;unfold A50 at *;unfold i64;omega)⟩ ?_
   refine lst (z5a Tryz.func52 (line_e _ _ _ _ _ _ _ _ _ _ _ _ _ _ (addL (addL [] 4 0 h.fee) 6 h.to h.amt) 2 ((LG.nil.add (rangeA_of hhm.2)).add (rangeA_of hhm.1)) (by decide) _ _ _ (((Fresh.nil _ _).add (.inl (by decide))).add (.inl (by decide))) (inB_true.2 (by have h9 := hle h (mem_of_get hh);omega))) (⟨stays.box rfl,trivial⟩) rfl rfl) Z<|lN ?_
   rw [landR_some hf,h1]
   unfold landY
   refine end_go ?_ ⟨rfl,rfl,rfl,rfl,rfl,trivial⟩
   rfl
  ·intro h1
   refine aS<|aG 12 []<|tq 0 (rmP Z)<|tq 1 (rc Z)<|tq 2 (rf 2 ty.F78_2 Z)<|tq 3 (rd (x := vI _ _) (rd_load_arr Z ty.kd3 Z Z Z (rows_some hc) Z) Z)<|tq 4 (rf 3 ty.F120_3 Z)<|tq 5 (roI ty.kd3 Z)<|yq 6 (rf 4 ty.F120_4 Z)<|yq 7 (roI ty.kd3 Z) ?_
   refine yq 8 (rhI rfl ⟨rfl,fits_i64 (by have h1 := hcm.1;have h2 := hcm.2.1;have h3 := hdm.1;have h4 := hdm.2.1;have h5 := hhm.1;have h6 := hhm.2;unfold A50 at *;unfold i64;omega)⟩) ?_
   refine yq 9 (rhI rfl ⟨rfl,fits_i64 (by have h1 := hcm.1;have h2 := hcm.2.1;have h3 := hdm.1;have h4 := hdm.2.1;have h5 := hhm.1;have h6 := hhm.2;unfold A50 at *;unfold i64;omega)⟩)<|yq 10 (rc rfl)<|yq 11 (rf 2 ty.F78_2 rfl)<|yl rfl (zQ 1 [.v (.int .i64 (c.loc + (h.amt + h.fee)))] ty.co3 ty.inf3 rfl (rows_some hc))<|gT ?_
   refine AW.obj 1 (cAr u (x.chans.set a { c with loc := c.loc + (h.amt + h.fee) })) (Eq.trans (b := AO.arr ⟨78,some u⟩ 7 ((rowsOf encChan (x.chans)).set a ((encChan { c with loc := c.loc + (h.amt + h.fee) }).map PV.v))) rfl (congrArg (AO.arr ⟨78,some u⟩ 7) rows_set)) ?_
   refine aS<|aG 9 []<|tq 0 (rmP Z)<|tq 1 (rc Z)<|tq 2 (rf 3 ty.F78_3 Z)<|tq 3 (rd (x := vI _ _) (rd_load_arr Z ty.kd3 Z Z Z (rows_some (set_get hd hne _)) Z) Z)<|yq 4 (rf 3 ty.F120_3 Z)<|yq 5 (roI ty.kd3 Z) ?_
   refine yq 6 (rhI rfl ⟨rfl,fits_i64 (by have h1 := hcm.1;have h2 := hcm.2.1;have h3 := hdm.1;have h4 := hdm.2.1;have h5 := hhm.1;have h6 := hhm.2;unfold A50 at *;unfold i64;omega)⟩)<|gX [0,5,102,108] [.ptr 0 _ 0,.ptr 2005 _ 0,.ptr 1 _ 0,vI _ _] [0,1,2,3,4,2003,2005] [.box _ _ [vI _ _,vI _ _,vI _ _,.own _,.own _,.own _,.own _,vI _ _],.arr _ _ _,.arr _ _ _,.arr _ _ _,.arr _ _ _,.box _ _ [vI _ _,vI _ _,vI _ _,vI _ _,vI _ _,vI _ _,vB _],.box _ _ [vI _ _,vI _ _,vI _ _,vI _ _,vI _ _]] rfl rfl trivial<|yq 7 (rc rfl)<|yq 8 (rf 3 ty.F78_3 rfl)<|yl rfl (zQ 1 [.v (.int .i64 (d.remote + h.amt))] ty.co3 ty.inf3 rfl (rows_some (set_get hd hne _)))<|gT ?_
   refine AW.obj 1 (cAr u (updC (updC x.chans h.frm fun c => { c with loc := c.loc + (h.amt + h.fee) }) h.to fun c => { c with remote := c.remote + h.amt })) (Eq.trans (b := AO.arr ⟨78,some u⟩ 7 ((rowsOf encChan (x.chans.set a { c with loc := c.loc + (h.amt + h.fee) })).set b ((encChan { d with remote := d.remote + h.amt }).map PV.v))) rfl (congrArg (AO.arr ⟨78,some u⟩ 7) (rows_set.trans (congrArg (rowsOf encChan) (set_two' fi.ids hc hd hcid hdid hab (fun c => { c with loc := c.loc + (h.amt + h.fee) }) (fun d => { d with remote := d.remote + h.amt }) (fun _ => rfl)))))) ?_
   refine aL<|lmP Z<|lf 1 ty.F120_1 Z<|loI ty.kd3 Z<|lf 3 ty.F120_3 Z<|loI ty.kd3 Z<|lf 4 ty.F120_4 Z<|loI ty.kd3 Z ?_
   refine lhI rfl ⟨rfl,fits_i64 (by have h1 := hcm.1;have h2 := hcm.2.1;have h3 := hdm.1;have h4 := hdm.2.1;have h5 := hhm.1;have h6 := hhm.2;unfold A50 at *;unfold i64;omega)⟩ ?_
   refine lst (z5a Tryz.func52 (line_e _ _ _ _ _ _ _ _ _ _ _ _ _ _ ([]) 0 (LG.nil) (by decide) _ _ _ (Fresh.nil _ _) (inB_true.2 (by have h9 := hle h (mem_of_get hh);omega))) (⟨stays.box rfl,trivial⟩) rfl rfl) Z<|nG ?_
   refine AW.unpin 1 rfl ?_
   refine aL<|lmP Z<|lf 1 ty.F120_1 Z<|loI ty.kd3 Z<|lf 3 ty.F120_3 Z<|loI ty.kd3 Z<|lq (rd (x := vI _ _) (rd_un rfl rfl (fits_i64 (by have h1 := hcm.1;have h2 := hcm.2.1;have h3 := hdm.1;have h4 := hdm.2.1;have h5 := hhm.1;have h6 := hhm.2;unfold A50 at *;unfold i64;omega))) rfl)<|lf 4 ty.F120_4 Z<|loI ty.kd3 rfl ?_
   refine lhI rfl ⟨rfl,fits_i64 (by have h1 := hcm.1;have h2 := hcm.2.1;have h3 := hdm.1;have h4 := hdm.2.1;have h5 := hhm.1;have h6 := hhm.2;unfold A50 at *;unfold i64;omega)⟩ ?_
   refine lst (z5a Tryz.func52 (line_e _ _ _ _ _ _ _ _ _ _ _ _ _ _ (addL [] 6 h.frm (h.amt + h.fee)) 1 (LG.nil.add (inB_true.2 (by have h9 := hle h (mem_of_get hh);omega))) (by decide) _ _ _ ((Fresh.nil _ _).add (.inl (by decide))) (inB_true.2 (by have h9 := hle h (mem_of_get hh);omega))) (⟨stays.box rfl,trivial⟩) rfl rfl) Z<|lT [] [] [0,1,2,3,4,2003,2005] [.box _ _ [vI _ _,vI _ _,vI _ _,.own _,.own _,.own _,.own _,vI _ _],.arr _ _ _,.arr _ _ _,.arr _ _ _,.arr _ _ _,.box _ _ [vI _ _,vI _ _,vI _ _,vI _ _,vI _ _,vI _ _,vB _],.box _ _ [vI _ _,vI _ _,vI _ _,vI _ _,vI _ _]] rfl Z<|lN ?_
   rw [landR_some hf,h1]
   unfold landY
   refine end_go ?_ ⟨rfl,rfl,rfl,rfl,rfl,trivial⟩
   rfl
theorem launch_e (g u : Value) (x : Book) (e : Event) (fi : BookFi x) (es : EvSm e) (hne : e.ch ≠ e.to) : GC Tryz.prog 59 [.ptr 0 0 0,evV e] (wIn g u x [] 0) (.tup []) (wOut g (lauR x e)) := by
 have sm := fi.sm
 have hm : x.chans.length ≤ 1000000000 := by have := sm.lc;omega
 have hmh : x.htlcs.length ≤ 1000000000 := by have := sm.lh;omega
 have hmc : x.circles.length ≤ 1000000000 := by have := sm.li;omega
 refine GC.intro (rs := []) Tryz.func59 rfl Tryz.ntmps59 (Nat.le_of_ble_eq_true rfl) trivial ?_
 intro L O w0
 refine sL<|lst (zX 2003 Z) Z<|nG<|aS<|aG 8 []<|tq 0 (rmP Z)<|tq 1 (rmP Z)<|tq 2 (rc Z)<|tq 3 (rf 0 ty.F87_0 Z)<|tq 4 (roX (.agg [vI _ _,vI _ _,vI _ _,.own _,.own _,.own _]) ty.kd34 Z)<|yq 5 (rf 1 ty.F41_1 Z)<|yq 6 (roI ty.kd3 Z)<|yst 7 Z (zL Tryz.func106 (known_e x _ hmh hmc) Z) ?_
 refine yl rfl (z5b Tryz.func104 (fail_e _ _ _ _ _ _ _ _ _ _ _ _ _ _ _ _ _ _ _ ) (⟨stays.box rfl,stays.arr rfl,trivial⟩) rfl rfl)<|gA<|lmP Z<|lf 2 ty.F41_2 Z<|loI ty.kd3 rfl ?_
 rcases chan_find x.chans e.ch with ⟨hi,ho⟩ | ⟨i,c,hi,hc,ho,hid⟩
 ·skip
  refine lst (zC [(0,0),(1,1),(2,2),(3,3),(4,4),(2017,2017)] [2,3,4,2017] [0,1] Tryz.func55 (ch_none _ _ x _ _ _ hm hi) (⟨stays.box rfl,stays.arr rfl,trivial⟩) rfl rfl) Z<|lT [0,3,20] [.ptr 0 _ 0,.ptr 2003 _ 0,.ptr 2017 _ 0] [0,1,2,3,4,2003,2017] [.box _ _ [vI _ _,vI _ _,vI _ _,.own _,.own _,.own _,.own _,vI _ _],.arr _ _ _,.arr _ _ _,.arr _ _ _,.arr _ _ _,.box _ _ [vI _ _,vI _ _,vI _ _,vI _ _,vI _ _,vI _ _,vB _],.box _ _ [vI _ _,vI _ _,vI _ _,vI _ _,vI _ _,vI _ _,vI _ _]] rfl Z<|laP Z<|nA<|lmP Z<|lf 3 ty.F41_3 Z<|loI ty.kd3 rfl ?_
  rcases chan_find x.chans e.to with ⟨hj,hp⟩ | ⟨j,d,hj,hd,hp,hjd⟩
  ·skip
   refine lst (zC [(0,0),(1,1),(2,2),(3,3),(4,4),(2017,2018)] [2,3,4,2018] [0,1] Tryz.func55 (ch_none _ _ x _ _ _ hm hj) (⟨stays.box rfl,stays.arr rfl,trivial⟩) rfl rfl) Z<|laP Z<|nA<|lmP Z<|lmP Z<|lc Z<|lf 0 ty.F87_0 Z<|lf 5 ty.F34_5 Z<|loO ty.kd32 Z<|lnI ty.sl32 Z<|lbB rfl ?_
   refine lst (z5b Tryz.func104 (fail_e _ _ _ _ _ _ _ _ _ _ _ _ _ _ _ _ _ _ _ ) (⟨stays.box rfl,stays.arr rfl,trivial⟩) rfl rfl) Z<|lT [0,3,4,5] [.ptr 0 _ 0,.ptr 2003 _ 0,.ptr 2017 _ 0,.ptr 2018 _ 0] [0,1,2,3,4,2003,2017,2018] [.box _ _ [vI _ _,vI _ _,vI _ _,.own _,.own _,.own _,.own _,vI _ _],.arr _ _ _,.arr _ _ _,.arr _ _ _,.arr _ _ _,.box _ _ [vI _ _,vI _ _,vI _ _,vI _ _,vI _ _,vI _ _,vB _],.box _ _ [vI _ _,vI _ _,vI _ _,vI _ _,vI _ _,vI _ _,vI _ _],.box _ _ [vI _ _,vI _ _,vI _ _,vI _ _,vI _ _,vI _ _,vI _ _]] rfl Z<|nA<|lf 4 ty.F41_4 Z<|loI ty.kd3 Z<|lf 5 ty.F41_5 Z<|loI ty.kd3 Z<|lst (zL Tryz.func108 (addAmt_e _ _) rfl) Z<|lmX (.tup [vI _ _,vB _]) Z<|lxI Z<|lxB Z<|laI Z<|laB Z<|nA<|lmP Z<|lmB Z<|luB rfl ?_
   refine lst (z5b Tryz.func104 (fail_e _ _ _ _ _ _ _ _ _ _ _ _ _ _ _ _ _ _ _ ) (⟨stays.box rfl,stays.arr rfl,trivial⟩) rfl rfl) Z<|lT [0,3,4,5,6] [.ptr 0 _ 0,.ptr 2003 _ 0,.ptr 2017 _ 0,.ptr 2018 _ 0,vI _ _] [0,1,2,3,4,2003,2017,2018] [.box _ _ [vI _ _,vI _ _,vI _ _,.own _,.own _,.own _,.own _,vI _ _],.arr _ _ _,.arr _ _ _,.arr _ _ _,.arr _ _ _,.box _ _ [vI _ _,vI _ _,vI _ _,vI _ _,vI _ _,vI _ _,vB _],.box _ _ [vI _ _,vI _ _,vI _ _,vI _ _,vI _ _,vI _ _,vI _ _],.box _ _ [vI _ _,vI _ _,vI _ _,vI _ _,vI _ _,vI _ _,vI _ _]] rfl Z<|nA<|lmP Z<|lmP Z<|lc Z<|lf 2 ty.F78_2 Z<|loI ty.kd3 Z<|lmI Z<|lbB rfl ?_
   refine lst (z5b Tryz.func104 (fail_e _ _ _ _ _ _ _ _ _ _ _ _ _ _ _ _ _ _ _ ) (⟨stays.box rfl,stays.arr rfl,trivial⟩) rfl rfl) Z<|nG<|aS<|aG 8 []<|tq 0 (rmP rfl)<|tq 1 (rmP rfl)<|tq 2 (rc rfl)<|tq 3 (rf 3 ty.F78_3 rfl)<|tq 4 (roI ty.kd3 rfl)<|yq 5 (rf 4 ty.F41_4 rfl)<|yq 6 (roI ty.kd3 rfl)<|yq 7 (rbB rfl) ?_
   refine yl rfl (z5b Tryz.func104 (fail_e _ _ _ _ _ _ _ _ _ _ _ _ _ _ _ _ _ _ _ ) (⟨stays.box rfl,stays.arr rfl,trivial⟩) rfl rfl)<|gT ?_
   refine AW.obj 0 (wBox g x.tick x.next x.wallet (lauC x e)) ((Eq.trans (b := wBox g x.tick x.next x.wallet _) rfl (congrArg (wBox g x.tick x.next x.wallet) (by unfold lauC lauC0;rw [missC_none hj,missC_none hi,ho,hp,length_rowsOf])))) ?_
   refine aS<|aS ?_
   have hz : lauC x e ≠ 0 := by
     unfold lauC lauC0
     rw [missC_none hj,missC_none hi]
     exact failC_keep (failC_keep (failC_keep (failC_keep (failC_set (by decide)))))
   refine aL<|lmP Z<|lc Z<|lf 7 ty.F87_2 Z<|loI ty.kd3 Z<|lbB Z<|lsB 67 true rfl (by rw [decide_eq_false hz];rfl)<|nG<|aY rfl ?_
   refine AW.unpin 1 rfl ?_
   refine aR<|rT ?_
   rw [lauR_no hz]
   refine end_ret ?_ ⟨rfl,rfl,rfl,rfl,rfl,trivial⟩
   rfl
  ·have hdm := sm.chans d (mem_of_get hd)
   refine lst (z5b Tryz.func55 (ch_some _ _ x _ _ _ hm _ _ hj hd) (⟨stays.box rfl,stays.arr rfl,trivial⟩) rfl rfl) Z<|lT [0,3,4,24] [.ptr 0 _ 0,.ptr 2003 _ 0,.ptr 2017 _ 0,.ptr 1 _ 0] [0,1,2,3,4,2003,2017] [.box _ _ [vI _ _,vI _ _,vI _ _,.own _,.own _,.own _,.own _,vI _ _],.arr _ _ _,.arr _ _ _,.arr _ _ _,.arr _ _ _,.box _ _ [vI _ _,vI _ _,vI _ _,vI _ _,vI _ _,vI _ _,vB _],.box _ _ [vI _ _,vI _ _,vI _ _,vI _ _,vI _ _,vI _ _,vI _ _]] rfl Z<|laP Z<|nA<|lmP Z<|lmP Z<|lc Z<|lf 0 ty.F87_0 Z<|lf 5 ty.F34_5 Z<|loO ty.kd32 Z<|lnI ty.sl32 Z<|lbB rfl ?_
   refine lst (z5b Tryz.func104 (fail_e _ _ _ _ _ _ _ _ _ _ _ _ _ _ _ _ _ _ _ ) (⟨stays.box rfl,stays.arr rfl,trivial⟩) rfl rfl) Z<|nA<|lf 4 ty.F41_4 Z<|loI ty.kd3 Z<|lf 5 ty.F41_5 Z<|loI ty.kd3 Z<|lst (zL Tryz.func108 (addAmt_e _ _) rfl) Z<|lT [0,3,4,5,39] [.ptr 0 _ 0,.ptr 2003 _ 0,.ptr 2017 _ 0,.ptr 1 _ 0,.tup [vI _ _,vB _]] [0,1,2,3,4,2003,2017] [.box _ _ [vI _ _,vI _ _,vI _ _,.own _,.own _,.own _,.own _,vI _ _],.arr _ _ _,.arr _ _ _,.arr _ _ _,.arr _ _ _,.box _ _ [vI _ _,vI _ _,vI _ _,vI _ _,vI _ _,vI _ _,vB _],.box _ _ [vI _ _,vI _ _,vI _ _,vI _ _,vI _ _,vI _ _,vI _ _]] rfl Z<|lmX (.tup [vI _ _,vB _]) Z<|lxI Z<|lxB Z<|laI Z<|laB Z<|nA<|lmP Z<|lmB Z<|luB rfl ?_
   refine lst (z5b Tryz.func104 (fail_e _ _ _ _ _ _ _ _ _ _ _ _ _ _ _ _ _ _ _ ) (⟨stays.box rfl,stays.arr rfl,trivial⟩) rfl rfl) Z<|nA<|lmP Z<|lmP Z<|lc Z<|lf 2 ty.F78_2 Z<|loI ty.kd3 Z<|lmI Z<|lbB rfl ?_
   refine lst (z5b Tryz.func104 (fail_e _ _ _ _ _ _ _ _ _ _ _ _ _ _ _ _ _ _ _ ) (⟨stays.box rfl,stays.arr rfl,trivial⟩) rfl rfl) Z<|lT [0,3,4,5,6] [.ptr 0 _ 0,.ptr 2003 _ 0,.ptr 2017 _ 0,.ptr 1 _ 0,vI _ _] [0,1,2,3,4,2003,2017] [.box _ _ [vI _ _,vI _ _,vI _ _,.own _,.own _,.own _,.own _,vI _ _],.arr _ _ _,.arr _ _ _,.arr _ _ _,.arr _ _ _,.box _ _ [vI _ _,vI _ _,vI _ _,vI _ _,vI _ _,vI _ _,vB _],.box _ _ [vI _ _,vI _ _,vI _ _,vI _ _,vI _ _,vI _ _,vI _ _]] rfl Z<|nG<|aS<|aG 8 []<|tq 0 (rmP rfl)<|tq 1 (rmP rfl)<|tq 2 (rc rfl)<|tq 3 (rf 3 ty.F78_3 rfl)<|tq 4 (rd (x := vI _ _) (rd_load_arr rfl ty.kd3 rfl rfl rfl (rows_some hd) rfl) rfl)<|yq 5 (rf 4 ty.F41_4 rfl)<|yq 6 (roI ty.kd3 rfl)<|yq 7 (rbB rfl) ?_
   refine yl rfl (z5b Tryz.func104 (fail_e _ _ _ _ _ _ _ _ _ _ _ _ _ _ _ _ _ _ _ ) (⟨stays.box rfl,stays.arr rfl,trivial⟩) rfl rfl)<|gT ?_
   refine AW.obj 0 (wBox g x.tick x.next x.wallet (lauC x e)) ((Eq.trans (b := wBox g x.tick x.next x.wallet _) rfl (congrArg (wBox g x.tick x.next x.wallet) (by unfold lauC lauC0;rw [missC_some hj,missC_none hi,ho,hp,length_rowsOf])))) ?_
   refine aS<|aS ?_
   have hz : lauC x e ≠ 0 := by
     unfold lauC lauC0
     rw [missC_some hj,missC_none hi]
     exact failC_keep (failC_keep (failC_keep (failC_keep (failC_set (by decide)))))
   refine aL<|lmP Z<|lc Z<|lf 7 ty.F87_2 Z<|loI ty.kd3 Z<|lbB Z<|lsB 67 true rfl (by rw [decide_eq_false hz];rfl)<|nG<|aY rfl ?_
   refine AW.unpin 1 rfl ?_
   refine aR<|rT ?_
   rw [lauR_no hz]
   refine end_ret ?_ ⟨rfl,rfl,rfl,rfl,rfl,trivial⟩
   rfl
 ·have hcm := sm.chans c (mem_of_get hc)
  refine lst (z5b Tryz.func55 (ch_some _ _ x _ _ _ hm _ _ hi hc) (⟨stays.box rfl,stays.arr rfl,trivial⟩) rfl rfl) Z<|lT [0,3,20] [.ptr 0 _ 0,.ptr 2003 _ 0,.ptr 1 _ 0] [0,1,2,3,4,2003] [.box _ _ [vI _ _,vI _ _,vI _ _,.own _,.own _,.own _,.own _,vI _ _],.arr _ _ _,.arr _ _ _,.arr _ _ _,.arr _ _ _,.box _ _ [vI _ _,vI _ _,vI _ _,vI _ _,vI _ _,vI _ _,vB _]] rfl Z<|laP Z<|nA<|lmP Z<|lf 3 ty.F41_3 Z<|loI ty.kd3 rfl ?_
  rcases chan_find x.chans e.to with ⟨hj,hp⟩ | ⟨j,d,hj,hd,hp,hjd⟩
  ·skip
   refine lst (zC [(0,0),(1,1),(2,2),(3,3),(4,4),(2017,2018)] [2,3,4,2018] [0,1] Tryz.func55 (ch_none _ _ x _ _ _ hm hj) (⟨stays.box rfl,stays.arr rfl,trivial⟩) rfl rfl) Z<|laP Z<|nA<|lmP Z<|lmP Z<|lc Z<|lf 0 ty.F87_0 Z<|lf 5 ty.F34_5 Z<|loO ty.kd32 Z<|lnI ty.sl32 Z<|lbB rfl ?_
   refine lst (z5b Tryz.func104 (fail_e _ _ _ _ _ _ _ _ _ _ _ _ _ _ _ _ _ _ _ ) (⟨stays.box rfl,stays.arr rfl,trivial⟩) rfl rfl) Z<|lT [0,3,4,5] [.ptr 0 _ 0,.ptr 2003 _ 0,.ptr 1 _ 0,.ptr 2018 _ 0] [0,1,2,3,4,2003,2018] [.box _ _ [vI _ _,vI _ _,vI _ _,.own _,.own _,.own _,.own _,vI _ _],.arr _ _ _,.arr _ _ _,.arr _ _ _,.arr _ _ _,.box _ _ [vI _ _,vI _ _,vI _ _,vI _ _,vI _ _,vI _ _,vB _],.box _ _ [vI _ _,vI _ _,vI _ _,vI _ _,vI _ _,vI _ _,vI _ _]] rfl Z<|nA<|lf 4 ty.F41_4 Z<|loI ty.kd3 Z<|lf 5 ty.F41_5 Z<|loI ty.kd3 Z<|lst (zL Tryz.func108 (addAmt_e _ _) rfl) Z<|lmX (.tup [vI _ _,vB _]) Z<|lxI Z<|lxB Z<|laI Z<|laB Z<|nA<|lmP Z<|lmB Z<|luB rfl ?_
   refine lst (z5b Tryz.func104 (fail_e _ _ _ _ _ _ _ _ _ _ _ _ _ _ _ _ _ _ _ ) (⟨stays.box rfl,stays.arr rfl,trivial⟩) rfl rfl) Z<|lT [0,3,4,5,6] [.ptr 0 _ 0,.ptr 2003 _ 0,.ptr 1 _ 0,.ptr 2018 _ 0,vI _ _] [0,1,2,3,4,2003,2018] [.box _ _ [vI _ _,vI _ _,vI _ _,.own _,.own _,.own _,.own _,vI _ _],.arr _ _ _,.arr _ _ _,.arr _ _ _,.arr _ _ _,.box _ _ [vI _ _,vI _ _,vI _ _,vI _ _,vI _ _,vI _ _,vB _],.box _ _ [vI _ _,vI _ _,vI _ _,vI _ _,vI _ _,vI _ _,vI _ _]] rfl Z<|nA<|lmP Z<|lmP Z<|lc Z<|lf 2 ty.F78_2 Z<|lq (rd (x := vI _ _) (rd_load_arr rfl ty.kd3 rfl rfl rfl (rows_some hc) rfl) rfl)<|lmI Z<|lbB rfl ?_
   refine lst (z5b Tryz.func104 (fail_e _ _ _ _ _ _ _ _ _ _ _ _ _ _ _ _ _ _ _ ) (⟨stays.box rfl,stays.arr rfl,trivial⟩) rfl rfl) Z<|nG<|aS<|aG 8 []<|tq 0 (rmP rfl)<|tq 1 (rmP rfl)<|tq 2 (rc rfl)<|tq 3 (rf 3 ty.F78_3 rfl)<|tq 4 (roI ty.kd3 rfl)<|yq 5 (rf 4 ty.F41_4 rfl)<|yq 6 (roI ty.kd3 rfl)<|yq 7 (rbB rfl) ?_
   refine yl rfl (z5b Tryz.func104 (fail_e _ _ _ _ _ _ _ _ _ _ _ _ _ _ _ _ _ _ _ ) (⟨stays.box rfl,stays.arr rfl,trivial⟩) rfl rfl)<|gT ?_
   refine AW.obj 0 (wBox g x.tick x.next x.wallet (lauC x e)) ((Eq.trans (b := wBox g x.tick x.next x.wallet _) rfl (congrArg (wBox g x.tick x.next x.wallet) (by unfold lauC lauC0;rw [missC_none hj,missC_some hi,ho,hp,length_rowsOf])))) ?_
   refine aS<|aS ?_
   have hz : lauC x e ≠ 0 := by
     unfold lauC lauC0
     rw [missC_none hj,missC_some hi]
     exact failC_keep (failC_keep (failC_keep (failC_keep (failC_set (by decide)))))
   refine aL<|lmP Z<|lc Z<|lf 7 ty.F87_2 Z<|loI ty.kd3 Z<|lbB Z<|lsB 67 true rfl (by rw [decide_eq_false hz];rfl)<|nG<|aY rfl ?_
   refine AW.unpin 1 rfl ?_
   refine aR<|rT ?_
   rw [lauR_no hz]
   refine end_ret ?_ ⟨rfl,rfl,rfl,rfl,rfl,trivial⟩
   rfl
  ·have hdm := sm.chans d (mem_of_get hd)
   refine lst (z5b Tryz.func55 (ch_some _ _ x _ _ _ hm _ _ hj hd) (⟨stays.box rfl,stays.arr rfl,trivial⟩) rfl rfl) Z<|lT [0,3,4,24] [.ptr 0 _ 0,.ptr 2003 _ 0,.ptr 1 _ 0,.ptr 1 _ 0] [0,1,2,3,4,2003] [.box _ _ [vI _ _,vI _ _,vI _ _,.own _,.own _,.own _,.own _,vI _ _],.arr _ _ _,.arr _ _ _,.arr _ _ _,.arr _ _ _,.box _ _ [vI _ _,vI _ _,vI _ _,vI _ _,vI _ _,vI _ _,vB _]] rfl Z<|laP Z<|nA<|lmP Z<|lmP Z<|lc Z<|lf 0 ty.F87_0 Z<|lf 5 ty.F34_5 Z<|loO ty.kd32 Z<|lnI ty.sl32 Z<|lbB rfl ?_
   refine lst (z5b Tryz.func104 (fail_e _ _ _ _ _ _ _ _ _ _ _ _ _ _ _ _ _ _ _ ) (⟨stays.box rfl,stays.arr rfl,trivial⟩) rfl rfl) Z<|nA<|lf 4 ty.F41_4 Z<|loI ty.kd3 Z<|lf 5 ty.F41_5 Z<|loI ty.kd3 Z<|lst (zL Tryz.func108 (addAmt_e _ _) rfl) Z<|lT [0,3,4,5,39] [.ptr 0 _ 0,.ptr 2003 _ 0,.ptr 1 _ 0,.ptr 1 _ 0,.tup [vI _ _,vB _]] [0,1,2,3,4,2003] [.box _ _ [vI _ _,vI _ _,vI _ _,.own _,.own _,.own _,.own _,vI _ _],.arr _ _ _,.arr _ _ _,.arr _ _ _,.arr _ _ _,.box _ _ [vI _ _,vI _ _,vI _ _,vI _ _,vI _ _,vI _ _,vB _]] rfl Z<|lmX (.tup [vI _ _,vB _]) Z<|lxI Z<|lxB Z<|laI Z<|laB Z<|nA<|lmP Z<|lmB Z<|luB rfl ?_
   refine lst (z5b Tryz.func104 (fail_e _ _ _ _ _ _ _ _ _ _ _ _ _ _ _ _ _ _ _ ) (⟨stays.box rfl,stays.arr rfl,trivial⟩) rfl rfl) Z<|nA<|lmP Z<|lmP Z<|lc Z<|lf 2 ty.F78_2 Z<|lq (rd (x := vI _ _) (rd_load_arr rfl ty.kd3 rfl rfl rfl (rows_some hc) rfl) rfl)<|lmI Z<|lbB rfl ?_
   refine lst (z5b Tryz.func104 (fail_e _ _ _ _ _ _ _ _ _ _ _ _ _ _ _ _ _ _ _ ) (⟨stays.box rfl,stays.arr rfl,trivial⟩) rfl rfl) Z<|lT [0,3,4,5,6] [.ptr 0 _ 0,.ptr 2003 _ 0,.ptr 1 _ 0,.ptr 1 _ 0,vI _ _] [0,1,2,3,4,2003] [.box _ _ [vI _ _,vI _ _,vI _ _,.own _,.own _,.own _,.own _,vI _ _],.arr _ _ _,.arr _ _ _,.arr _ _ _,.arr _ _ _,.box _ _ [vI _ _,vI _ _,vI _ _,vI _ _,vI _ _,vI _ _,vB _]] rfl Z<|nG<|aS<|aG 8 []<|tq 0 (rmP rfl)<|tq 1 (rmP rfl)<|tq 2 (rc rfl)<|tq 3 (rf 3 ty.F78_3 rfl)<|tq 4 (rd (x := vI _ _) (rd_load_arr rfl ty.kd3 rfl rfl rfl (rows_some hd) rfl) rfl)<|yq 5 (rf 4 ty.F41_4 rfl)<|yq 6 (roI ty.kd3 rfl)<|yq 7 (rbB rfl) ?_
   refine yl rfl (z5b Tryz.func104 (fail_e _ _ _ _ _ _ _ _ _ _ _ _ _ _ _ _ _ _ _ ) (⟨stays.box rfl,stays.arr rfl,trivial⟩) rfl rfl)<|gT ?_
   refine AW.obj 0 (wBox g x.tick x.next x.wallet (lauC x e)) ((Eq.trans (b := wBox g x.tick x.next x.wallet _) rfl (congrArg (wBox g x.tick x.next x.wallet) (by unfold lauC lauC0;rw [missC_some hj,missC_some hi,ho,hp,length_rowsOf])))) ?_
   refine aS<|sL<|lmP Z<|lc Z<|lf 7 ty.F87_2 Z<|loI ty.kd3 Z<|lbB Z<|nG ?_
   refine AW.cond rfl ?_ ?_
   ·intro h1
    refine AW.unpin 1 rfl ?_
    refine aR<|rT ?_
    have hz : lauC x e ≠ 0 := by simpa using h1
    rw [lauR_no hz]
    refine end_ret ?_ ⟨rfl,rfl,rfl,rfl,rfl,trivial⟩
    rfl
   ·intro h1
    refine aK<|gT<|aS<|aG 22 [3]<|tq 0 (rmP Z)<|tq 1 (rmP Z)<|tq 2 (rc Z)<|tq 3 (rf 0 ty.F87_0 Z)<|tq 4 (rf 5 ty.F34_5 Z)<|tq 5 (roO ty.kd32 Z)<|tq 6 (rf 1 ty.F41_1 Z)<|tq 7 (roI ty.kd3 Z)<|tq 8 (rf 2 ty.F41_2 Z)<|tq 9 (roI ty.kd3 Z)<|tq 10 (rf 3 ty.F41_3 Z)<|tq 11 (roI ty.kd3 Z)<|tq 12 (rf 4 ty.F41_4 Z)<|tq 13 (roI ty.kd3 Z)<|yq 14 (rf 5 ty.F41_5 Z)<|yq 15 (roI ty.kd3 Z) ?_
    refine gX [0,3,4,5,6,68,73,75,77,79,81,83] [.ptr 0 _ 0,.ptr 2003 _ 0,.ptr 1 _ 0,.ptr 1 _ 0,vI _ _,.ptr 0 _ 0,.own _,vI _ _,vI _ _,vI _ _,vI _ _,vI _ _] [0,1,2,3,4,2003] [.box _ _ [vI _ _,vI _ _,vI _ _,.own _,.own _,.own _,.own _,vI _ _],.arr _ _ _,.arr _ _ _,.arr _ _ _,.arr _ _ _,.box _ _ [vI _ _,vI _ _,vI _ _,vI _ _,vI _ _,vI _ _,vB _]] rfl rfl ⟨rfl,trivial⟩<|yq 16 (rd (x := .agg [vI _ _,vI _ _,vI _ _,vI _ _,vI _ _]) (rd_build rfl ty.sa120 rfl rfl rfl) rfl) ?_
    refine yst 17 rfl (zS 2085 (rowsOf encCircle [⟨e.key,e.ch,e.to,e.amt,e.fee⟩]) ty.el32 ty.ze120 rfl)<|yst 18 rfl (zP 3 ty.el32 ty.ze120 ty.by120 rfl (Src.own rfl rfl) (by have := sm.li;simp [rowsOf];omega))<|yq 19 (rc rfl)<|yq 20 (rf 0 ty.F87_0 rfl)<|yq 21 (rf 5 ty.F34_5 rfl)<|yl rfl (zB 0 ty.co32 ty.inf32 rfl)<|gT ?_
    refine AW.obj 3 (iAr (x.circles ++ [⟨e.key,e.ch,e.to,e.amt,e.fee⟩])) ((congrArg (AO.arr 120 5) (rowsOf_app encCircle _ [_]).symm)) ?_
    refine sL<|lmP Z<|lc Z<|lf 2 ty.F78_2 Z<|lq (rd (x := vI _ _) (rd_load_arr Z ty.kd3 Z Z Z (rows_some hc) Z) Z)<|lmI Z ?_
    refine lhI rfl ⟨rfl,fits_i64 (by have h1 := hcm.1;have h2 := addV_A50 e.amt e.fee;unfold A50 at *;unfold i64;omega)⟩<|lc Z<|lf 2 ty.F78_2 Z<|lst (zQ 1 [.v (.int .i64 (c.loc - addV e.amt e.fee))] ty.co3 ty.inf3 rfl (rows_some hc)) Z<|lT [0,3,5,6] [.ptr 0 _ 0,.ptr 2003 _ 0,.ptr 1 _ 0,vI _ _] [0,1,2,3,4,2003,2085] [.box _ _ [vI _ _,vI _ _,vI _ _,.own _,.own _,.own _,.own _,vI _ _],.arr _ _ _,.arr _ _ _,.arr _ _ _,.arr _ _ _,.box _ _ [vI _ _,vI _ _,vI _ _,vI _ _,vI _ _,vI _ _,vB _],.arr _ _ _] rfl Z<|nG ?_
    refine AW.obj 1 (cAr u (x.chans.set i { c with loc := c.loc - addV e.amt e.fee })) (Eq.trans (b := AO.arr ⟨78,some u⟩ 7 ((rowsOf encChan (x.chans)).set i ((encChan { c with loc := c.loc - addV e.amt e.fee }).map PV.v))) rfl (congrArg (AO.arr ⟨78,some u⟩ 7) rows_set)) ?_
    refine aS<|aG 9 []<|tq 0 (rmP rfl)<|tq 1 (rc rfl)<|tq 2 (rf 3 ty.F78_3 rfl)<|tq 3 (rd (x := vI _ _) (rd_load_arr rfl ty.kd3 rfl rfl rfl (rows_some (set_get hd (idx_ne hc hd (by rw [hid,hjd];exact hne)) _)) rfl) rfl)<|yq 4 (rf 4 ty.F41_4 rfl)<|yq 5 (roI ty.kd3 rfl) ?_
    refine yq 6 (rhI rfl ⟨rfl,fits_i64 (by have h1 := hdm.2.1;have h2 := es.amt;unfold A50 at *;unfold i64;omega)⟩)<|yq 7 (rc rfl)<|yq 8 (rf 3 ty.F78_3 rfl)<|yl rfl (zQ 1 [.v (.int .i64 (d.remote - e.amt))] ty.co3 ty.inf3 rfl (rows_some (set_get hd (idx_ne hc hd (by rw [hid,hjd];exact hne)) _)))<|gT ?_
    refine AW.obj 1 (cAr u (updC (updC x.chans e.ch fun c => { c with loc := c.loc - addV e.amt e.fee }) e.to fun c => { c with remote := c.remote - e.amt })) (Eq.trans (b := AO.arr ⟨78,some u⟩ 7 ((rowsOf encChan (x.chans.set i { c with loc := c.loc - addV e.amt e.fee })).set j ((encChan { d with remote := d.remote - e.amt }).map PV.v))) rfl (congrArg (AO.arr ⟨78,some u⟩ 7) (rows_set.trans (congrArg (rowsOf encChan) (set_two' fi.ids hc hd hid hjd hne (fun c => { c with loc := c.loc - addV e.amt e.fee }) (fun d => { d with remote := d.remote - e.amt }) (fun _ => rfl)))))) ?_
    refine AW.unpin 1 rfl ?_
    refine sL<|lmP Z<|lf 2 ty.F41_2 Z<|loI ty.kd3 Z<|lmI Z<|lq (rd (x := vI _ _) (rd_un rfl rfl (fits_i64 (by have h2 := addV_A50 e.amt e.fee;unfold A50 at *;unfold i64;omega))) rfl) ?_
    refine lst (z5a Tryz.func52 (line_e _ _ _ _ _ _ _ _ _ _ _ _ _ _ ([]) 0 (LG.nil) (by decide) _ _ _ (Fresh.nil _ _) (rangeA_neg (addV_A50 _ _))) (⟨stays.box rfl,trivial⟩) rfl rfl) Z<|lT [0,3,6] [.ptr 0 _ 0,.ptr 2003 _ 0,vI _ _] [0,1,2,3,4,2003,2085] [.box _ _ [vI _ _,vI _ _,vI _ _,.own _,.own _,.own _,.own _,vI _ _],.arr _ _ _,.arr _ _ _,.arr _ _ _,.arr _ _ _,.box _ _ [vI _ _,vI _ _,vI _ _,vI _ _,vI _ _,vI _ _,vB _],.arr _ _ _] rfl Z<|nG<|aL<|lmP Z<|lf 2 ty.F41_2 Z<|loI ty.kd3 Z<|lmI rfl ?_
    refine lst (z5a Tryz.func52 (line_e _ _ _ _ _ _ _ _ _ _ _ _ _ _ (addL [] 6 e.ch (-addV e.amt e.fee)) 1 (LG.nil.add (rangeA_neg (addV_A50 _ _))) (by decide) _ _ _ ((Fresh.nil _ _).add (.inl (by decide))) (rangeA_of (addV_A50 _ _))) (⟨stays.box rfl,trivial⟩) rfl rfl) Z<|lN ?_
    have hy0 : lauC x e = 0 := by simpa using h1
    rw [lauR_yes hy0]
    unfold lauY
    refine end_go ?_ ⟨(Eq.trans (b := wBox g x.tick x.next x.wallet _) rfl (congrArg (wBox g x.tick x.next x.wallet) (hy0))),rfl,rfl,rfl,rfl,trivial⟩
    rfl
end Go.Proofs.YtohobndkbmpfcaaGreat

