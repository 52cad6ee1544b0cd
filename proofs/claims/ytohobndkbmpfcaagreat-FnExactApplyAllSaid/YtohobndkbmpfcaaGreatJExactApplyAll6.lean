/- FnExactApplyAll is proved: the given statement holds with no condition. Texts joined: E21, E22, E23, AllN, EN1, MkP, EN2, E24, ENA, LFnExactApplyAll, CFnExactApplyAll. -/
import Derived.Test.YtohobndkbmpfcaaGreatJExactApplyAll2
import Derived.Test.YtohobndkbmpfcaaGreatJExactApplyAll5
import Derived.Test.YtohobndkbmpfcaaGreatRows
import Derived.Test.YtohobndkbmpfcaaGreatKOpn
namespace Go.Proofs.YtohobndkbmpfcaaGreat
open Go.RowKit
set_option linter.unusedSimpArgs false
set_option linter.unusedVariables false
def rowO : AO → Bool
  | .arr _ _ _ => true
  | .gone => true
  | _ => false
def rowF (F : List AO) : Prop := ∀ o ∈ F,rowO o = true
def tl (h : Nat → AO) (F : List AO) : Nat → AO := fun i => bif Nat.blt i 1000000 then h i else (F[i - 1000000]?).getD .gone
def Tl (H : Nat → AO) (F : List AO) : Prop := (∀ i,H (1000000 + i) = (F[i]?).getD .gone) ∧ rowF F
theorem rowO.kil {k : Nat → Bool} {o : AO} (h : rowO o = true) : o.kil k = o := by cases o <;> first | rfl | cases h
theorem rowO.ren {r : List (Nat × Nat)} {o : AO} (h : rowO o = true) : o.ren r = o := by cases o <;> first | rfl | cases h
theorem rowO.frz {id : Nat} {y : PV} {o : AO} (h : rowO o = true) : o.frz id y = o := by cases o <;> first | rfl | cases h
theorem rowF.nil : rowF [] := fun _ h => by cases h
theorem rowF.at {F : List AO} (h : rowF F) (i : Nat) : rowO ((F[i]?).getD .gone) = true := by
  cases e : F[i]? with
  | none => rfl
  | some o => exact h o (List.mem_of_getElem? e)
theorem tl_lo {h : Nat → AO} {F : List AO} {i : Nat} (hi : i < 1000000) : tl h F i = h i := by
  unfold tl
  rw [show Nat.blt i 1000000 = true from Nat.ble_eq_true_of_le hi]
  rfl
theorem tl_hi {h : Nat → AO} {F : List AO} {i : Nat} : tl h F (1000000 + i) = (F[i]?).getD .gone := by
  unfold tl
  rw [show Nat.blt (1000000 + i) 1000000 = false from by
    cases e : Nat.blt (1000000 + i) 1000000 with
    | false => rfl
    | true => have : 1000000 + i < 1000000 := Nat.le_of_ble_eq_true e;omega]
  simp
theorem lo_or_hi (j : Nat) : j < 1000000 ∨ ∃ i,j = 1000000 + i := by
  rcases Nat.lt_or_ge j 1000000 with h | h
  · exact .inl h
  · exact .inr ⟨j - 1000000,by omega⟩
theorem Tl.tl {h : Nat → AO} {F : List AO} (hF : rowF F) : Tl (tl h F) F := ⟨fun _ => tl_hi,hF⟩
theorem Tl.upd {H : Nat → AO} {F : List AO} {i : Nat} {o : AO} (hi : Nat.blt i 1000000 = true) (h : Tl H F) : Tl (upd H i o) F := ⟨fun j => by
  have : i < 1000000 := Nat.le_of_ble_eq_true hi
  rw [upd_ne _ _ (by omega)];exact h.1 j,h.2⟩
theorem Tl.kil {H : Nat → AO} {F : List AO} {k : Nat → Bool} (h : Tl H F) : Tl (fun j => (H j).kil k) F := ⟨fun j => by
  show (H (1000000 + j)).kil k = _
  rw [h.1 j];exact rowO.kil (rowF.at h.2 j),h.2⟩
theorem Tl.frz {H : Nat → AO} {F : List AO} {id : Nat} {y : PV} (hi : Nat.blt id 1000000 = true) (h : Tl H F) : Tl (frzH id y H) F := Tl.upd hi ⟨fun j => by
  show (H (1000000 + j)).frz id y = _
  rw [h.1 j];exact rowO.frz (rowF.at h.2 j),h.2⟩
theorem Tl.swap {H : Nat → AO} {F : List AO} {a b : Nat} (hi : (Nat.blt a 1000000 && Nat.blt b 1000000) = true) (h : Tl H F) : Tl (fun j => (H (swp a b j)).per a b) F := ⟨fun j => by
  rw [Bool.and_eq_true] at hi
  have h1 : a < 1000000 := Nat.le_of_ble_eq_true hi.1
  have h2 : b < 1000000 := Nat.le_of_ble_eq_true hi.2
  have e : swp a b (1000000 + j) = 1000000 + j := by unfold swp;rw [if_neg (by omega),if_neg (by omega)]
  show (H (swp a b (1000000 + j))).per a b = _
  rw [e,h.1 j]
  have := rowF.at h.2 j
  cases hq : (F[j]?).getD .gone with
  | box T p cells => rw [hq] at this;cases this
  | _ => rfl,h.2⟩
theorem Tl.eq {H : Nat → AO} {F : List AO} (h : Tl H F) : H = Proofs.YtohobndkbmpfcaaGreat.tl H F := funext fun j => by
  rcases lo_or_hi j with q | ⟨i,rfl⟩
  · rw [tl_lo q]
  · rw [tl_hi];exact h.1 i
theorem rn_none {r : List (Nat × Nat)} {i : Nat} (h : ∀ p ∈ r,p.1 ≠ i) : rn r i = none := by
  induction r with
  | nil => rfl
  | cons p r ih =>
    obtain ⟨a,b⟩ := p
    unfold rn
    rw [if_neg (fun q => h (a,b) (by simp) q.symm)]
    exact ih (fun p hp => h p (by simp [hp]))
def smallR (r : List (Nat × Nat)) : Bool := r.all fun p => Nat.blt p.1 1000000 && Nat.blt p.2 1000000
theorem smallR.at {r : List (Nat × Nat)} (h : smallR r = true) : ∀ p ∈ r,p.1 < 1000000 ∧ p.2 < 1000000 := fun p hp => by
  have := List.all_eq_true.1 h p hp
  rw [Bool.and_eq_true] at this
  exact ⟨Nat.le_of_ble_eq_true this.1,Nat.le_of_ble_eq_true this.2⟩
theorem smallR.hi {r : List (Nat × Nat)} (h : smallR r = true) (i : Nat) : rn (sw r) (1000000 + i) = none := rn_none fun p hp => by
  unfold sw at hp
  obtain ⟨q,hq,rfl⟩ := List.mem_map.1 hp
  have := (smallR.at h q hq).2
  show q.2 ≠ _
  omega
theorem smallR.hi' {r : List (Nat × Nat)} (h : smallR r = true) (i : Nat) : rn r (1000000 + i) = none := rn_none fun p hp => by
  have := (smallR.at h p hp).1
  omega
theorem Tl.call {H : Nat → AO} {F : List AO} {r : List (Nat × Nat)} {k : Nat → Bool} {ob1 : List (Nat × AO)} (hr : smallR r = true) (h : Tl H F) : Tl (callH r k ob1 H) F := ⟨fun j => by
  unfold callH
  rw [smallR.hi hr j]
  show (H (1000000 + j)).kil k = _
  rw [h.1 j];exact rowO.kil (rowF.at h.2 j),h.2⟩
def famL (n : Nat) : List AO → List (Nat × AO)
  | [] => []
  | o :: l => (n,o) :: famL (n + 1) l
theorem famL_at : ∀ (F : List AO) (n i : Nat),ofO (famL n F) i = if n ≤ i then (F[i - n]?).getD .gone else .gone
  | [],n,i => by simp [famL,ofO]
  | o :: F,n,i => by
    show (if i = n then o else ofO (famL (n + 1) F) i) = _
    rw [famL_at F]
    by_cases e : i = n
    · subst e;simp
    · rw [if_neg e]
      by_cases h : n ≤ i
      · rw [if_pos (by omega),if_pos h,show i - n = (i - (n + 1)) + 1 by omega]
        simp
      · rw [if_neg (by omega),if_neg h]
def smallO (l : List (Nat × AO)) : Bool := l.all fun p => Nat.blt p.1 1000000
theorem ofO_hi : ∀ {l : List (Nat × AO)} {m : List (Nat × AO)} {i : Nat},smallO l = true → ofO (l ++ m) (1000000 + i) = ofO m (1000000 + i)
  | [],m,i,_ => rfl
  | (a,o) :: l,m,i,h => by
    have h1 := List.all_eq_true.1 h (a,o) (by simp)
    have h2 : a < 1000000 := Nat.le_of_ble_eq_true h1
    show (if 1000000 + i = a then o else ofO (l ++ m) (1000000 + i)) = _
    rw [if_neg (by omega)]
    exact ofO_hi (by unfold smallO at *;rw [List.all_cons,Bool.and_eq_true] at h;exact h.2)
theorem ofO_lo : ∀ {l : List (Nat × AO)} {F : List AO} {i : Nat},i < 1000000 → ofO (l ++ famL 1000000 F) i = ofO l i
  | [],F,i,h => by
    show ofO (famL 1000000 F) i = _
    rw [famL_at,if_neg (by omega)]
    rfl
  | (a,o) :: l,F,i,h => by
    show (if i = a then o else ofO (l ++ famL 1000000 F) i) = if i = a then o else ofO l i
    rw [ofO_lo h]
theorem ofO_fam {l : List (Nat × AO)} {F : List AO} (h : smallO l = true) : ofO (l ++ famL 1000000 F) = tl (ofO l) F := funext fun j => by
  rcases lo_or_hi j with q | ⟨i,rfl⟩
  · rw [tl_lo q,ofO_lo q]
  · rw [tl_hi,ofO_hi h,famL_at,if_pos (by omega)]
    simp
theorem allO_app : ∀ {l m : List (Nat × AO)} {H : Nat → AO},allO l H → allO m H → allO (l ++ m) H
  | [],m,H,_,h => h
  | (a,o) :: l,m,H,h1,h => ⟨h1.1,allO_app h1.2 h⟩
theorem allO_fam : ∀ {F : List AO} {n : Nat} {H : Nat → AO},(∀ i,i < F.length → H (n + i) = (F[i]?).getD .gone) → allO (famL n F) H
  | [],n,H,_ => trivial
  | o :: F,n,H,h => ⟨by have := h 0 (by simp);simpa using this,allO_fam fun i hi => by
    have := h (i + 1) (by simp;omega)
    rw [show n + 1 + i = n + (i + 1) by omega];simpa using this⟩
theorem Tl.all {H : Nat → AO} {F : List AO} (h : Tl H F) : allO (famL 1000000 F) H := allO_fam fun i _ => h.1 i
theorem Tl.list {l : List (Nat × AO)} (h : smallO l = true) : Tl (ofO l) [] := ⟨fun i => by have := ofO_hi (m := []) (i := i) h;rw [List.append_nil] at this;rw [this];rfl,rowF.nil⟩
section
variable {P : Program} {L O : Nat → Prop} {w0 : World} {N : Nat} {τ τ' : Nat → AV} {H H' : Nat → AO} {Q : AQ} {c : Code} {ops : Array Oper} {l : List Oper} {F : List AO}
theorem tl_weak {h : Nat → AO} (hT : Tl H F) (hh : ∀ id,h id = .gone ∨ h id = H id) : ∀ id,tl h F id = .gone ∨ tl h F id = H id := fun id => by
  rcases lo_or_hi id with q | ⟨i,rfl⟩
  · rw [tl_lo q];exact hh id
  · rw [tl_hi];exact .inr (hT.1 i).symm
theorem aTt (F : List AO) (k : List Nat) (v : List AV) (i : List Nat) (b : List AO) (h1 : at2 τ k = v) (h2 : at2 H i = b) (h : AW P L O w0 N c (of2 .bad k v) (tl (of2 .gone i b) F) Q) (hT : Tl H F := by repeat (first | exact Tl.list rfl | exact Tl.tl (by first | assumption | exact rowF.nil) | refine Tl.frz rfl ?_ | refine Tl.upd rfl ?_ | refine Tl.kil ?_ | refine Tl.call rfl ?_ | refine Tl.swap rfl ?_)) : AW P L O w0 N c τ H Q := AW.weak (at2.weak h1) (tl_weak hT (at2.weak h2)) h
theorem lTt (F : List AO) (k : List Nat) (v : List AV) (i : List Nat) (b : List AO) (h1 : at2 τ k = v) (h2 : at2 H i = b) (h : AL P L O w0 N ops l (of2 .bad k v) (tl (of2 .gone i b) F) Q) (hT : Tl H F := by repeat (first | exact Tl.list rfl | exact Tl.tl (by first | assumption | exact rowF.nil) | refine Tl.frz rfl ?_ | refine Tl.upd rfl ?_ | refine Tl.kil ?_ | refine Tl.call rfl ?_ | refine Tl.swap rfl ?_)) : AL P L O w0 N ops l τ H Q := AL.weak (at2.weak h1) (tl_weak hT (at2.weak h2)) h
theorem fTt (F : List AO) (k : List Nat) (v : List AV) (i : List Nat) (b : List AO) {G : List Nat} {n : Nat} {listed : Array Bool} (h1 : at2 τ k = v) (h2 : at2 H i = b) (h : AF P L O w0 N ops G n listed (of2 .bad k v) (tl (of2 .gone i b) F) Q) (hT : Tl H F := by repeat (first | exact Tl.list rfl | exact Tl.tl (by first | assumption | exact rowF.nil) | refine Tl.frz rfl ?_ | refine Tl.upd rfl ?_ | refine Tl.kil ?_ | refine Tl.call rfl ?_ | refine Tl.swap rfl ?_)) : AF P L O w0 N ops G n listed τ H Q := fun ρ fp a w hr => by
  obtain ⟨fp',hr',_⟩ := hr.weak (at2.weak (z := AV.bad) h1) (tl_weak hT (at2.weak (z := AO.gone) h2))
  exact h ρ fp' a w hr'
theorem AW.loopT {D : Type} (K : List (Nat × AV)) (KO : List (Nat × AO)) (T : D → List (Nat × AV)) (B : D → List (Nat × AO)) (F : D → List AO) (I : D → Prop) (μ : D → Nat) (d : D) (h0 : I d) (h1 : allT (T d) τ) (h2 : allO (B d) H) (h3 : allT K τ) (h4 : allO KO H) (h5 : Tl H (F d))
    (round : ∀ d,I d → AW P L O w0 N c (ofT (T d ++ K)) (tl (ofO (B d ++ KO)) (F d)) (Q.andThen fun τ H => ∃ d',I d' ∧ μ d' < μ d ∧ allT (T d') τ ∧ allO (B d') H ∧ allT K τ ∧ allO KO H ∧ Tl H (F d'))) : AW P L O w0 N (.loop c) τ H Q := fun ρ fp a w hr => by
  obtain ⟨fp',hr',_⟩ := hr.weak (allT.app h1 h3).weak (tl_weak h5 (allO.app h2 h4).weak)
  have key : ∀ n (d : D),μ d = n → I d → ∀ ρ fp a w,RR L O w0 N (ofT (T d ++ K)) (tl (ofO (B d ++ KO)) (F d)) ρ fp a w → ∀ b k cs,∃ e a' w',QQ L O w0 N Q e a' w' ∧ Arrives P (lone (b.at a (.code c :: .inLoop c :: k)) cs w) b k cs e a' w' := by
    intro n
    induction n using Nat.strongRecOn with
    | _ n ih =>
      intro d hn hI ρ fp a w hr b k cs
      obtain ⟨e,a₁,w₁,hq,harr⟩ := round d hI ρ fp a w hr b (.inLoop c :: k) cs
      obtain ⟨τ₁,H₁,ρ₁,fp₁,hr₁,hq⟩ := hq
      cases e with
      | normal =>
        obtain ⟨d',i1,i2,i3,i4,i5,i6,i7⟩ := hq
        obtain ⟨fp₂,hr₂,_⟩ := hr₁.weak (allT.app i3 i5).weak (tl_weak i7 (allO.app i4 i6).weak)
        obtain ⟨e₂,a₂,w₂,hq₂,harr₂⟩ := ih (μ d') (hn ▸ i2) d' rfl i1 ρ₁ fp₂ a₁ w₁ hr₂ b k cs
        exact ⟨e₂,a₂,w₂,hq₂,.of_steps (Steps.trans harr (.one step_inLoop)) harr₂⟩
      | exit id => exact ⟨_,a₁,w₁,⟨τ₁,H₁,ρ₁,fp₁,hr₁,hq⟩,.pass (x := .inLoop c) rfl (fun _ _ => .inl (by simp)) harr⟩
      | goto l => exact ⟨_,a₁,w₁,⟨τ₁,H₁,ρ₁,fp₁,hr₁,hq⟩,.pass (x := .inLoop c) rfl (fun _ _ => .inl (by simp)) harr⟩
      | ret => exact ⟨_,a₁,w₁,⟨τ₁,H₁,ρ₁,fp₁,hr₁,hq⟩,.pass (x := .inLoop c) rfl (fun _ _ => .inl (by simp)) harr⟩
      | panic ch => exact ⟨_,a₁,w₁,⟨τ₁,H₁,ρ₁,fp₁,hr₁,hq⟩,.pass (x := .inLoop c) rfl (fun _ _ => .inl (by simp)) harr⟩
      | outgrown => exact ⟨_,a₁,w₁,⟨τ₁,H₁,ρ₁,fp₁,hr₁,hq⟩,.pass (x := .inLoop c) rfl (fun _ _ => .inl (by simp)) harr⟩
  intro b k cs
  obtain ⟨e,a',w',hq,harr⟩ := key (μ d) d rfl h0 ρ fp' a w hr' b k cs
  exact ⟨e,a',w',hq,.of_steps (.one step_loop) harr⟩
theorem RR.rename {ρ : Nat → Value} {fp : Nat → List Nat} {a : Act} {w : World} (h : RR L O w0 N τ H ρ fp a w) {i j : Nat} (hij : i ≠ j) (hj : H j = .gone) (hi : rowO (H i) = true) (k : Nat → Bool) (hk : k j = true) :
    RR L O w0 N (fun t => kil k (τ t)) (upd (upd (fun x => (H x).kil k) i .gone) j (H i)) (upd ρ j (ρ i)) (upd (upd fp i []) j (fp i)) a w := by
  have hfj : fp j = [] := by have := h.ob j;rw [hj] at this;exact this
  have e1 : ∀ x,x ≠ i → x ≠ j → upd (upd (fun x => (H x).kil k) i .gone) j (H i) x = (H x).kil k := fun x q1 q2 => by rw [upd_ne _ _ q2,upd_ne _ _ q1]
  have ei : upd (upd (fun x => (H x).kil k) i .gone) j (H i) i = .gone := by rw [upd_ne _ _ hij,upd_same]
  have ej : upd (upd (fun x => (H x).kil k) i .gone) j (H i) j = H i := upd_same _ _ _
  generalize hH' : upd (upd (fun x => (H x).kil k) i .gone) j (H i) = H' at *
  have hlive : ∀ b,live L (upd ρ j (ρ i)) H' b → live L ρ H b := by
    rintro b (hl | ⟨x,q1,q2⟩)
    · exact .inl hl
    · by_cases xj : x = j
      · subst xj;rw [ej] at q1;rw [upd_same] at q2;exact .inr ⟨i,q1,q2⟩
      · rw [upd_ne _ _ xj] at q2
        by_cases xi : x = i
        · subst xi;rw [ei] at q1;cases q1
        · rw [e1 x xi xj,AO.kil_here] at q1;exact .inr ⟨x,q1,q2⟩
  have E : Env L ρ (upd ρ j (ρ i)) H H' w w k := ⟨Nat.le_refl _,fun b _ hn => ⟨rfl,fun hl => hn (hlive b hl)⟩,fun x hx hh => by
    have xj : x ≠ j := fun q => by subst q;rw [hk] at hx;cases hx
    by_cases xi : x = i
    · subst xi;rw [ei] at hh;cases hh
    · rw [e1 x xi xj] at hh ⊢
      rw [AO.kil_here] at hh
      exact ⟨hh,upd_ne _ _ xj,AO.kil_len _ _,AO.kil_sz _ _⟩⟩
  refine ⟨h.chg,h.size,h.defers,fun t => RV.env E _ (h.tm t),fun x => ?_,fun x y hxy b hb hb' => ?_,fun x b hb => ?_,h.lo⟩
  · by_cases xj : x = j
    · subst xj
      rw [ej,upd_same,upd_same]
      have := (h.ob i).env E (fun b _ => rfl)
      rwa [rowO.kil hi] at this
    · rw [upd_ne _ _ xj,upd_ne _ _ xj]
      by_cases xi : x = i
      · subst xi;rw [ei,upd_same];rfl
      · rw [e1 x xi xj,upd_ne _ _ xi]
        exact (h.ob x).env E (fun b _ => rfl)
  · have f : ∀ x,x ≠ j → x ≠ i → upd (upd fp i []) j (fp i) x = fp x := fun x q1 q2 => by rw [upd_ne _ _ q1,upd_ne _ _ q2]
    have fj : upd (upd fp i []) j (fp i) j = fp i := upd_same _ _ _
    have fi : upd (upd fp i []) j (fp i) i = [] := by rw [upd_ne _ _ hij,upd_same]
    by_cases xi : x = i
    · subst xi;rw [fi] at hb;cases hb
    by_cases yi : y = i
    · subst yi;rw [fi] at hb';cases hb'
    by_cases xj : x = j
    · subst xj
      rw [fj] at hb;rw [f y (Ne.symm hxy) yi] at hb'
      exact h.dj i y (Ne.symm yi) b hb hb'
    · rw [f x xj xi] at hb
      by_cases yj : y = j
      · subst yj;rw [fj] at hb';exact h.dj x i xi b hb hb'
      · rw [f y yj yi] at hb';exact h.dj x y hxy b hb hb'
  · by_cases xj : x = j
    · subst xj;rw [upd_same] at hb;exact h.own i b hb
    · rw [upd_ne _ _ xj] at hb
      by_cases xi : x = i
      · subst xi;rw [upd_same] at hb;cases hb
      · rw [upd_ne _ _ xi] at hb;exact h.own x b hb
theorem RR.borrow {h : Nat → AO} {ρ : Nat → Value} {fp : Nat → List Nat} {a : Act} {w : World} (hr : RR L O w0 N τ (tl h F) ρ fp a w) (j m t : Nat) {e : TypeId} {sz : Nat} {rows : List (List PV)} {v : Value} (hj : (h j,Nat.blt j 1000000) = (.gone,true)) (hm : F[m]? = some (.arr ⟨e,some v⟩ sz rows)) (hf : rowF F) (ht : τ t = .p (.v v)) :
    ∃ ρ fp,RR L O w0 N (upd (fun s => kil (one? j) (τ s)) t (.own j)) (tl (upd (fun x => (h x).kil (one? j)) j (.arr ⟨e,some v⟩ sz rows)) (F.set m .gone)) ρ fp a w := by
  have hj1 : h j = .gone := congrArg (·.1) hj
  have hj2 : j < 1000000 := Nat.le_of_ble_eq_true (congrArg (·.2) hj)
  have hml : m < F.length := (List.getElem?_eq_some_iff.1 hm).1
  have hHi : tl h F (1000000 + m) = .arr ⟨e,some v⟩ sz rows := by rw [tl_hi,hm];rfl
  have hn : 1000000 + m ≠ j := by omega
  have r := hr.rename hn (by rw [tl_lo hj2];exact hj1) (by rw [hHi];rfl) (one? j) (by simp [one?])
  have eH : upd (upd (fun x => (tl h F x).kil (one? j)) (1000000 + m) .gone) j (tl h F (1000000 + m)) = tl (upd (fun x => (h x).kil (one? j)) j (.arr ⟨e,some v⟩ sz rows)) (F.set m .gone) := funext fun x => by
    rw [hHi]
    rcases lo_or_hi x with q | ⟨i,rfl⟩
    · rw [tl_lo q]
      by_cases xj : x = j
      · subst xj;rw [upd_same,upd_same]
      · rw [upd_ne _ _ xj,upd_ne _ _ xj,upd_ne _ _ (by omega),tl_lo q]
    · rw [tl_hi,upd_ne _ _ (by omega)]
      by_cases im : i = m
      · subst im;rw [upd_same,List.getElem?_set_self hml];rfl
      · rw [upd_ne _ _ (by omega),List.getElem?_set_ne (Ne.symm im)]
        show (tl h F (1000000 + i)).kil (one? j) = _
        rw [tl_hi];exact rowO.kil (rowF.at hf i)
  rw [eH] at r
  have hv : ρ (1000000 + m) = v := by
    have := hr.ob (1000000 + m)
    rw [hHi] at this
    obtain ⟨_,_,_,_,_,_,k⟩ := this
    exact k v rfl
  refine ⟨_,_,r.chg,r.size,r.defers,fun s => ?_,r.ob,r.dj,r.own,r.lo⟩
  by_cases st : s = t
  · subst st
    rw [upd_same,RV,upd_same]
    have h1 := hr.tm s
    rw [ht] at h1
    have h2 := h1.v_eq
    rw [h2,hv]
    refine ⟨?_,fun _ => rfl⟩
    have h3 := h1.one rfl
    rwa [h2] at h3
  · rw [upd_ne _ _ st];exact r.tm s
theorem AL.borrow (j m t : Nat) {e : TypeId} {sz : Nat} {rows : List (List PV)} {v : Value} (hj : (H j,Nat.blt j 1000000) = (.gone,true)) (ht : τ t = .p (.v v)) (hm : F[m]? = some (.arr ⟨e,some v⟩ sz rows)) (hT : Tl H F)
    (hK : AL P L O w0 N ops l (upd (fun s => kil (one? j) (τ s)) t (.own j)) (tl (upd (fun x => (H x).kil (one? j)) j (.arr ⟨e,some v⟩ sz rows)) (F.set m .gone)) Q) : AL P L O w0 N ops l τ H Q := fun ρ fp a w hr => by
  rw [hT.eq] at hr
  obtain ⟨ρ',fp',h⟩ := RR.borrow hr j m t hj hm hT.2 ht
  exact hK ρ' fp' a w h
end

mutual
def lowA : AV → Bool
  | .own id => Nat.blt id 1000000
  | .sub id _ _ => Nat.blt id 1000000
  | .ptr id _ _ => Nat.blt id 1000000
  | .agg cs => lowL cs
  | .tup cs => lowL cs
  | .clo _ f cs => lowL f && lowL cs
  | _ => true
def lowL : List AV → Bool
  | [] => true
  | x :: xs => lowA x && lowL xs
end
def lowO : AO → Bool
  | .box _ _ cells => lowL cells
  | _ => true
def lowEq {α : Type} (k k' : Nat → α) : Prop := ∀ i,i < 1000000 → k i = k' i
mutual
theorem kil_low {k k' : Nat → Bool} (h : lowEq k k') : ∀ x,lowA x = true → kil k x = kil k' x
  | .own id,q => by rw [kil,kil,h id (Nat.le_of_ble_eq_true q)]
  | .sub id off len,q => by rw [kil,kil,h id (Nat.le_of_ble_eq_true q)]
  | .ptr id r c,q => by rw [kil,kil,h id (Nat.le_of_ble_eq_true q)]
  | .agg cs,q => by rw [kil,kil,kilL_low h cs q]
  | .tup cs,q => by rw [kil,kil,kilL_low h cs q]
  | .clo fn f cs,q => by
    have q' : lowL f = true ∧ lowL cs = true := by rw [← Bool.and_eq_true];exact q
    rw [kil,kil,kilL_low h f q'.1,kilL_low h cs q'.2]
  | .p _,_ => by simp [kil]
  | .rp _,_ => by simp [kil]
  | .dead,_ => by simp [kil]
  | .bad,_ => by simp [kil]
theorem kilL_low {k k' : Nat → Bool} (h : lowEq k k') : ∀ l,lowL l = true → kilL k l = kilL k' l
  | [],_ => rfl
  | x :: xs,q => by
    have q' : lowA x = true ∧ lowL xs = true := by rw [← Bool.and_eq_true];exact q
    rw [kilL,kilL,kil_low h x q'.1,kilL_low h xs q'.2]
end
theorem lowO.kil {k k' : Nat → Bool} (h : lowEq k k') {o : AO} (q : lowO o = true) : o.kil k = o.kil k' := by
  cases o with
  | box T p cells => show AO.box T p _ = AO.box T p _;rw [kilL_low h cells q]
  | _ => rfl
mutual
theorem ren_low {r r' : List (Nat × Nat)} (h : lowEq (rn r) (rn r')) : ∀ x,lowA x = true → ren r x = ren r' x
  | .own id,q => by rw [ren,ren,h id (Nat.le_of_ble_eq_true q)]
  | .sub id off len,q => by rw [ren,ren,h id (Nat.le_of_ble_eq_true q)]
  | .ptr id i c,q => by rw [ren,ren,h id (Nat.le_of_ble_eq_true q)]
  | .agg cs,q => by rw [ren,ren,renL_low h cs q]
  | .tup cs,q => by rw [ren,ren,renL_low h cs q]
  | .clo fn f cs,q => by
    have q' : lowL f = true ∧ lowL cs = true := by rw [← Bool.and_eq_true];exact q
    rw [ren,ren,renL_low h f q'.1,renL_low h cs q'.2]
  | .p _,_ => by simp [ren]
  | .rp _,_ => by simp [ren]
  | .dead,_ => by simp [ren]
  | .bad,_ => by simp [ren]
theorem renL_low {r r' : List (Nat × Nat)} (h : lowEq (rn r) (rn r')) : ∀ l,lowL l = true → renL r l = renL r' l
  | [],_ => rfl
  | x :: xs,q => by
    have q' : lowA x = true ∧ lowL xs = true := by rw [← Bool.and_eq_true];exact q
    rw [renL,renL,ren_low h x q'.1,renL_low h xs q'.2]
end
theorem lowO.ren {r r' : List (Nat × Nat)} (h : lowEq (rn r) (rn r')) {o : AO} (q : lowO o = true) : o.ren r = o.ren r' := by
  cases o with
  | box T p cells => show AO.box T p _ = AO.box T p _;rw [renL_low h cells q]
  | _ => rfl
section
variable {P : Program} {L O : Nat → Prop} {w0 : World} {N : Nat} {τ τ' : Nat → AV} {H H' : Nat → AO} {Q : AQ} {c : Code} {F : List AO}
theorem RR.plain {ρ : Nat → Value} {fp : Nat → List Nat} {a : Act} {w : World} (h : RR L O w0 N τ H ρ fp a w) (id : Nat) {e : TypeId} {u : Value} {sz : Nat} {rows : List (List PV)} (hH : H id = .arr ⟨e,some u⟩ sz rows) :
    RR L O w0 N (fun t => frz id (.v u) (τ t)) (fun j => (H j).frz id (.v u)) ρ fp a w := by
  have hob := h.ob id
  rw [hH] at hob
  obtain ⟨xs,fr,b1,b2,b3,b4,b5⟩ := hob
  have hu : ρ id = u := b5 u rfl
  have h1 : (ρ id).oneCell' = true := by rcases b3.2 with ⟨q,_⟩ | ⟨g,cap,cur,q,_⟩ <;> rw [q] <;> rfl
  have hlive : ∀ b,live L ρ (fun j => (H j).frz id (.v u)) b → live L ρ H b := by
    rintro b (hl | ⟨j,q1,q2⟩)
    · exact .inl hl
    · exact .inr ⟨j,by rw [AO.frz_here] at q1;exact q1,q2⟩
  have R : Frz id (.v u) L ρ H (fun j => (H j).frz id (.v u)) w := ⟨fun b hn hl => hn (hlive b hl),fun j _ hh => by
    rw [AO.frz_here] at hh;exact ⟨hh,AO.frz_len _ _ _,AO.frz_sz _ _ _⟩,by rw [hH];rfl,by rw [hu] at h1 ⊢;exact RV.v_mk h1⟩
  refine ⟨h.chg,h.size,h.defers,fun t => RV.frz R _ (h.tm t),fun j => ?_,h.dj,h.own,h.lo⟩
  have := h.ob j
  show OB _ _ _ _ _ _ ((H j).frz id (.v u))
  cases hj : H j with
  | box T p cells =>
    rw [hj] at this
    obtain ⟨ys,h1,h2,h3,h4,h5⟩ := this
    exact ⟨ys,RVL.frz R cells h1,frzL_cell _ _ cells h2,by rw [frzL_length];exact h3,h4,h5⟩
  | arr e' s' r' =>
    rw [hj] at this
    obtain ⟨ys,fr',h1,h2,h3,h4⟩ := this
    exact ⟨ys,fr',h1,fun b hb => R.live b (h2 b hb),h3,h4⟩
  | gone => rw [hj] at this;exact this
theorem of2_low {k : List Nat} {v : List AV} (h : lowL v = true) : ∀ t,lowA (of2 .bad k v t) = true := by
  induction k generalizing v with
  | nil => intro t;rfl
  | cons s k ih =>
    cases v with
    | nil => intro t;rfl
    | cons x v =>
      intro t
      have q' : lowA x = true ∧ lowL v = true := by rw [← Bool.and_eq_true];exact h
      show lowA (if t = s then x else of2 .bad k v t) = true
      split
      · exact q'.1
      · exact ih q'.2 t
theorem of2_lowO {k : List Nat} {v : List AO} (h : v.all lowO = true) : ∀ t,lowO (of2 .gone k v t) = true := by
  induction k generalizing v with
  | nil => intro t;rfl
  | cons s k ih =>
    cases v with
    | nil => intro t;rfl
    | cons x v =>
      intro t
      rw [List.all_cons,Bool.and_eq_true] at h
      show lowO (if t = s then x else of2 .gone k v t) = true
      split
      · exact h.1
      · exact ih h.2 t
mutual
theorem frz_low (id : Nat) (y : PV) : ∀ x,lowA x = true → lowA (frz id y x) = true
  | .own j,q => by rw [frz];split <;> first | rfl | exact q
  | .sub j _ _,q => by rw [frz];split <;> first | rfl | exact q
  | .ptr j _ _,q => by rw [frz];split <;> first | rfl | exact q
  | .agg cs,q => by rw [frz];exact frzL_low id y cs q
  | .tup cs,q => by rw [frz];exact frzL_low id y cs q
  | .clo fn f cs,q => by
    have q' : lowL f = true ∧ lowL cs = true := by rw [← Bool.and_eq_true];exact q
    rw [frz]
    show (lowL _ && lowL _) = true
    rw [frzL_low id y f q'.1,frzL_low id y cs q'.2];rfl
  | .p _,_ => by simp [frz,lowA]
  | .rp _,_ => by simp [frz,lowA]
  | .dead,_ => by simp [frz,lowA]
  | .bad,_ => by simp [frz,lowA]
theorem frzL_low (id : Nat) (y : PV) : ∀ l,lowL l = true → lowL (frzL id y l) = true
  | [],_ => rfl
  | x :: xs,q => by
    have q' : lowA x = true ∧ lowL xs = true := by rw [← Bool.and_eq_true];exact q
    show (lowA _ && lowL _) = true
    rw [frz_low id y x q'.1,frzL_low id y xs q'.2];rfl
end
theorem frzO_low (id : Nat) (y : PV) {o : AO} (q : lowO o = true) : lowO (o.frz id y) = true := by
  cases o with
  | box T p cells => exact frzL_low id y cells q
  | _ => rfl
theorem RR.putIn (j m : Nat) {k i : List Nat} {v : List AV} {b : List AO} {e : TypeId} {u : Value} {sz : Nat} {rows : List (List PV)} {F' : List AO} {ρ : Nat → Value} {fp : Nat → List Nat} {a : Act} {w : World} (hr : RR L O w0 N (of2 .bad k v) (tl (of2 .gone i b) F) ρ fp a w) (hj : (of2 .gone i b j,Nat.blt j 1000000) = (.arr ⟨e,some u⟩ sz rows,true)) (hl : (lowL v && b.all lowO) = true) (hF : rowF F)
    (hm : (F[m]?).getD .gone = .gone) (hF' : ∀ x,(F'[x]?).getD .gone = if x = m then .arr ⟨e,some u⟩ sz rows else (F[x]?).getD .gone) :
    ∃ ρ fp,RR L O w0 N (fun t => frz j (.v u) (of2 .bad k v t)) (tl (upd (fun x => (of2 .gone i b x).frz j (.v u)) j .gone) F') ρ fp a w := by
  rw [Bool.and_eq_true] at hl
  have hj1 : of2 .gone i b j = .arr ⟨e,some u⟩ sz rows := congrArg (·.1) hj
  have hj2 : j < 1000000 := Nat.le_of_ble_eq_true (congrArg (·.2) hj)
  have h1 := hr.plain j (e := e) (u := u) (sz := sz) (rows := rows) (by rw [tl_lo hj2];exact hj1)
  have e0 : (fun x => (tl (of2 .gone i b) F x).frz j (.v u)) = tl (fun x => (of2 .gone i b x).frz j (.v u)) F := funext fun x => by
    rcases lo_or_hi x with q | ⟨m,rfl⟩
    · rw [tl_lo q,tl_lo q]
    · rw [tl_hi,tl_hi];exact rowO.frz (rowF.at hF m)
  rw [e0] at h1
  have hbig : tl (fun x => (of2 .gone i b x).frz j (.v u)) F (1000000 + m) = .gone := by rw [tl_hi];exact hm
  have hjj : tl (fun x => (of2 .gone i b x).frz j (.v u)) F j = .arr ⟨e,some u⟩ sz rows := by rw [tl_lo hj2,hj1];rfl
  have h2 := h1.rename (i := j) (j := 1000000 + m) (by omega) hbig (by rw [hjj];rfl) (one? (1000000 + m)) (by simp [one?])
  have lowK : lowEq (one? (1000000 + m)) noK := fun x hx => by unfold one? noK;simp;omega
  have e1 : (fun t => kil (one? (1000000 + m)) (frz j (.v u) (of2 .bad k v t))) = fun t => frz j (.v u) (of2 .bad k v t) := funext fun t => by
    rw [kil_low lowK _ (frz_low _ _ _ (of2_low hl.1 t)),kil_no]
  have e2 : upd (upd (fun x => (tl (fun x => (of2 .gone i b x).frz j (.v u)) F x).kil (one? (1000000 + m))) j .gone) (1000000 + m) (tl (fun x => (of2 .gone i b x).frz j (.v u)) F j) = tl (upd (fun x => (of2 .gone i b x).frz j (.v u)) j .gone) F' := funext fun x => by
    rw [hjj]
    rcases lo_or_hi x with q | ⟨y,rfl⟩
    · rw [upd_ne _ _ (by omega),tl_lo q]
      by_cases xj : x = j
      · subst xj;rw [upd_same,upd_same]
      · rw [upd_ne _ _ xj,upd_ne _ _ xj]
        show (tl _ F x).kil _ = _
        rw [tl_lo q,lowO.kil lowK (frzO_low _ _ (of2_lowO hl.2 x)),AO.kil_no]
    · rw [tl_hi,hF' y]
      by_cases hy : y = m
      · subst hy;rw [upd_same,if_pos rfl]
      · rw [upd_ne _ _ (by omega),upd_ne _ _ (by omega),if_neg hy]
        show (tl _ F (1000000 + y)).kil _ = _
        rw [tl_hi,rowO.kil (rowF.at hF y)]
  rw [e1,e2] at h2
  exact ⟨_,_,h2⟩
theorem AW.absorb (j : Nat) {k i : List Nat} {v : List AV} {b : List AO} {e : TypeId} {u : Value} {sz : Nat} {rows : List (List PV)} (hj : (of2 .gone i b j,Nat.blt j 1000000) = (.arr ⟨e,some u⟩ sz rows,true)) (hl : (lowL v && b.all lowO) = true) (hF : rowF F)
    (hK : AW P L O w0 N c (fun t => frz j (.v u) (of2 .bad k v t)) (tl (upd (fun x => (of2 .gone i b x).frz j (.v u)) j .gone) (F ++ [.arr ⟨e,some u⟩ sz rows])) Q) : AW P L O w0 N c (of2 .bad k v) (tl (of2 .gone i b) F) Q := fun ρ fp a w hr => by
  obtain ⟨ρ',fp',h⟩ := hr.putIn j F.length (F' := F ++ [.arr ⟨e,some u⟩ sz rows]) hj hl hF (by simp) (fun x => by
    by_cases q : x = F.length
    · subst q;simp
    · rw [if_neg q]
      rcases Nat.lt_or_ge x F.length with z | z
      · rw [List.getElem?_append_left z]
      · rw [List.getElem?_eq_none z,List.getElem?_eq_none (by simp;omega)])
  exact hK ρ' fp' a w h
theorem AW.putBack (j m : Nat) {k i : List Nat} {v : List AV} {b : List AO} {e : TypeId} {u : Value} {sz : Nat} {rows : List (List PV)} (hj : (of2 .gone i b j,Nat.blt j 1000000) = (.arr ⟨e,some u⟩ sz rows,true)) (hl : (lowL v && b.all lowO) = true) (hF : rowF F) (hm : F[m]? = some .gone)
    (hK : AW P L O w0 N c (fun t => frz j (.v u) (of2 .bad k v t)) (tl (upd (fun x => (of2 .gone i b x).frz j (.v u)) j .gone) (F.set m (.arr ⟨e,some u⟩ sz rows))) Q) : AW P L O w0 N c (of2 .bad k v) (tl (of2 .gone i b) F) Q := fun ρ fp a w hr => by
  have hml : m < F.length := (List.getElem?_eq_some_iff.1 hm).1
  obtain ⟨ρ',fp',h⟩ := hr.putIn j m (F' := F.set m (.arr ⟨e,some u⟩ sz rows)) hj hl hF (by rw [hm];rfl) (fun x => by
    by_cases q : x = m
    · subst q;rw [if_pos rfl,List.getElem?_set_self hml];rfl
    · rw [if_neg q,List.getElem?_set_ne (Ne.symm q)])
  exact hK ρ' fp' a w h
end
def prs (s M : Nat) : List (Nat × Nat) := (List.range M).map fun i => (1000000 + i,1000000 + s + i)
theorem rn_app {r r' : List (Nat × Nat)} {i : Nat} : rn (r ++ r') i = match rn r i with | some j => some j | none => rn r' i := by
  induction r with
  | nil => rfl
  | cons p r ih =>
    obtain ⟨a,b⟩ := p
    show (if i = a then some b else rn (r ++ r') i) = match (if i = a then some b else rn r i) with | some j => some j | none => rn r' i
    by_cases q : i = a
    · rw [if_pos q,if_pos q]
    · rw [if_neg q,if_neg q];exact ih
theorem sw_app {r r' : List (Nat × Nat)} : sw (r ++ r') = sw r ++ sw r' := List.map_append
theorem prs_fst {s M : Nat} : ((prs s M).map Prod.fst).Nodup := by
  unfold prs
  rw [List.map_map]
  exact List.pairwise_map.2 (List.Pairwise.imp (fun {a b} (h : a ≠ b) => fun q => h (by simp at q;omega)) List.nodup_range)
theorem prs_snd {s M : Nat} : ((prs s M).map Prod.snd).Nodup := by
  unfold prs
  rw [List.map_map]
  exact List.pairwise_map.2 (List.Pairwise.imp (fun {a b} (h : a ≠ b) => fun q => h (by simp at q;omega)) List.nodup_range)
theorem rn_prs {s M i : Nat} (h : i < M) : rn (prs s M) (1000000 + i) = some (1000000 + s + i) := mem_rn prs_fst (List.mem_map.2 ⟨i,by simpa using h,rfl⟩)
theorem prs_lo {s M i : Nat} (h : i < 1000000) : rn (prs s M) i = none := rn_none fun p hp => by
  obtain ⟨j,_,rfl⟩ := List.mem_map.1 hp
  show 1000000 + j ≠ i
  omega
theorem sw_prs_lo {s M i : Nat} (h : i < 1000000) : rn (sw (prs s M)) i = none := rn_none fun p hp => by
  unfold sw at hp
  obtain ⟨q,hq,rfl⟩ := List.mem_map.1 hp
  obtain ⟨j,_,rfl⟩ := List.mem_map.1 hq
  show 1000000 + s + j ≠ i
  omega
theorem lowR {r : List (Nat × Nat)} {s M : Nat} : lowEq (rn (r ++ prs s M)) (rn r) := fun i hi => by
  rw [rn_app,prs_lo hi]
  cases rn r i <;> rfl
theorem lowS {r : List (Nat × Nat)} {s M : Nat} : lowEq (rn (sw (r ++ prs s M))) (rn (sw r)) := fun i hi => by
  rw [sw_app,rn_app,sw_prs_lo hi]
  cases rn (sw r) i <;> rfl
theorem app_fst {r : List (Nat × Nat)} {s M : Nat} (hr : smallR r = true) (h : (r.map Prod.fst).Nodup) : ((r ++ prs s M).map Prod.fst).Nodup := by
  rw [List.map_append]
  refine List.nodup_append.2 ⟨h,prs_fst,fun a ha b hb hab => ?_⟩
  obtain ⟨p,hp,rfl⟩ := List.mem_map.1 ha
  obtain ⟨q,hq,rfl⟩ := List.mem_map.1 hb
  obtain ⟨j,_,rfl⟩ := List.mem_map.1 hq
  have := (smallR.at hr p hp).1
  simp at hab
  omega
theorem app_snd {r : List (Nat × Nat)} {s M : Nat} (hr : smallR r = true) (h : (r.map Prod.snd).Nodup) : ((r ++ prs s M).map Prod.snd).Nodup := by
  rw [List.map_append]
  refine List.nodup_append.2 ⟨h,prs_snd,fun a ha b hb hab => ?_⟩
  obtain ⟨p,hp,rfl⟩ := List.mem_map.1 ha
  obtain ⟨q,hq,rfl⟩ := List.mem_map.1 hb
  obtain ⟨j,_,rfl⟩ := List.mem_map.1 hq
  have := (smallR.at hr p hp).2
  simp at hab
  omega
theorem sw_hi {r : List (Nat × Nat)} {s M m : Nat} (hr : smallR r = true) : rn (sw (r ++ prs s M)) (1000000 + m) = if s ≤ m ∧ m - s < M then some (1000000 + (m - s)) else none := by
  rw [sw_app,rn_app,smallR.hi hr m]
  dsimp only
  split
  · rename_i q
    have h1 := rn_prs (s := s) q.2
    rw [rn_sw prs_fst prs_snd] at h1
    rw [show 1000000 + s + (m - s) = 1000000 + m by omega] at h1
    exact h1
  · rename_i q
    refine rn_none fun p hp => ?_
    unfold sw at hp
    obtain ⟨x,hx,rfl⟩ := List.mem_map.1 hp
    obtain ⟨j,hj,rfl⟩ := List.mem_map.1 hx
    have : j < M := by simpa using hj
    show 1000000 + s + j ≠ 1000000 + m
    omega
def GN (P : Program) (f : FuncId) (args : List AV) (ob0 : List (Nat × AO)) (F0 : List AO) (R : AV → List (Nat × AO) → List AO → Prop) : Prop :=
  GX P f args (ob0 ++ famL 1000000 F0) fun x ob1 => ∃ l1 F1,(smallO l1 && (l1.all (fun p => lowO p.2) && lowA x)) = true ∧ rowF F1 ∧ F1.length ≤ 10000000 ∧ ob1 = l1 ++ famL 1000000 F1 ∧ R x l1 F1
def kbig (kl : List Nat) : Nat → Bool := fun j => inK kl j || Nat.ble 1000000 j
theorem ofO_all {l : List (Nat × AO)} (h : (l.all fun p => lowO p.2) = true) (i : Nat) : lowO (ofO l i) = true := by
  induction l with
  | nil => rfl
  | cons p l ih =>
    obtain ⟨a,o⟩ := p
    rw [List.all_cons,Bool.and_eq_true] at h
    show lowO (if i = a then o else ofO l i) = true
    split
    · exact h.1
    · exact ih h.2
theorem kbig_lo {kl : List Nat} : lowEq (kbig kl) (inK kl) := fun i hi => by
  unfold kbig
  have : Nat.ble 1000000 i = false := by
    cases e : Nat.ble 1000000 i with
    | false => rfl
    | true => have := Nat.le_of_ble_eq_true e;omega
  rw [this,Bool.or_false]
theorem pins_fam {ob0 l1 : List (Nat × AO)} {F0 F1 : List AO} : ∀ {pl : List Nat},pl.all (fun i => Nat.blt i 1000000) = true → pins ob0 l1 pl → pins (ob0 ++ famL 1000000 F0) (l1 ++ famL 1000000 F1) pl
  | [],_,_ => trivial
  | i :: pl,hs,h => by
    rw [List.all_cons,Bool.and_eq_true] at hs
    refine ⟨?_,pins_fam hs.2 h.2⟩
    rw [ofO_lo (Nat.le_of_ble_eq_true hs.1),ofO_lo (Nat.le_of_ble_eq_true hs.1)]
    exact h.1
theorem all0_app {r : List (Nat × Nat)} {H : Nat → AO} : ∀ {l m : List (Nat × AO)},all0 r H l → all0 r H m → all0 r H (l ++ m)
  | [],m,_,h => h
  | (i,o) :: l,m,h1,h => ⟨h1.1,all0_app h1.2 h⟩
theorem all0_fam {r : List (Nat × Nat)} {H : Nat → AO} : ∀ {F : List AO} {n : Nat},(∀ i,i < F.length → ∃ j,rn r (n + i) = some j ∧ (H j).ren (sw r) = (F[i]?).getD .gone) → all0 r H (famL n F)
  | [],n,_ => trivial
  | o :: F,n,h => ⟨by have := h 0 (by simp);simpa using this,all0_fam fun i hi => by
    have := h (i + 1) (by simp;omega)
    rw [show n + 1 + i = n + (i + 1) by omega];simpa using this⟩
theorem all0_low {r r' : List (Nat × Nat)} {H : Nat → AO} (h1 : ∀ i j,rn r i = some j → rn r' i = some j) (h2 : lowEq (rn (sw r)) (rn (sw r'))) (h3 : ∀ i j,rn r i = some j → lowO (H j) = true) : ∀ {l : List (Nat × AO)},all0 r H l → all0 r' H l
  | [],_ => trivial
  | (i,o) :: l,h => by
    obtain ⟨⟨j,q1,q2⟩,q3⟩ := h
    exact ⟨⟨j,h1 i j q1,by rw [← q2];exact (lowO.ren h2 (h3 i j q1)).symm⟩,all0_low h1 h2 h3 q3⟩
theorem mem_famL : ∀ {F : List AO} {n i : Nat} {o : AO},(i,o) ∈ famL n F → ∃ m,m < F.length ∧ i = n + m
  | [],n,i,o,h => by cases h
  | x :: F,n,i,o,h => by
    rcases List.mem_cons.1 h with h | h
    · injection h with h1 h2
      exact ⟨0,by simp,by omega⟩
    · obtain ⟨m,q1,q2⟩ := mem_famL h
      exact ⟨m + 1,by simp;omega,by omega⟩
section
variable {P : Program} {o : Oper} {N : Nat} {τ : Nat → AV} {H : Nat → AO} {F : List AO}
theorem StX.callN (r : List (Nat × Nat)) (kl pl : List Nat) (s : Nat) {y : Operand} {l : List Operand} {ts : Array TypeId} {f : FuncId} {fn : Func} {fs caps args : List AV} {ob0 : List (Nat × AO)} {F0 Fp : List AO} {R : AV → List (Nat × AO) → List AO → Prop} (hf : P.funcs[f]? = some fn) (hc : GN P f args ob0 F0 R) (hT : Tl H F) (e0 : F.drop s = F0) (e1 : F.take s = Fp) (hs : s ≤ F.length) (hM : F.length ≤ 10000000) (hp : ∀ x l1 F1,R x l1 F1 → pins ob0 l1 pl)
    (h : (o.op,dstOk o.dst N,ev τ y,(fn.name == "runtime.NumGoroutine"),fn.body.isNone,renL (sw r) (fs ++ l.map (ev τ) ++ caps),lowL (fs ++ l.map (ev τ) ++ caps),r.all (fun p => lowO (H p.2))) = (.call { callee := .value y,args := l.toArray,argTypes := ts },true,.clo (.func f) fs caps,false,false,args,true,true)) (h0 : allv r H ob0 = allw ob0)
    (hr : (nodupB (r.map Prod.fst) && (nodupB (r.map Prod.snd) && (okK r kl pl && (smallR r && pl.all (fun i => Nat.blt i 1000000))))) = true := by decide) :
    StX P o N τ H (exL r ob0 ++ (List.range F0.length).map fun i => 1000000 + s + i) fun τ' H' => ∃ x l1 F1,R x l1 F1 ∧ rowF F1 ∧ F1.length ≤ 10000000 ∧ τ' = updo (fun t => kil (kbig kl) (τ t)) o.dst (ren r x) ∧ H' = tl (callH r (kbig kl) l1 H) (Fp ++ F1) := by
  subst e0 e1
  simp only [Prod.mk.injEq] at h
  obtain ⟨ho,ht,hy,hf1,hf2,ha,hlo,hlH⟩ := h
  simp only [Bool.and_eq_true] at hr
  obtain ⟨hr1,hr2,hr3,hr4,hr5⟩ := hr
  have nd1 := app_fst (s := s) (M := 10000000) hr4 (nodupB.nodup hr1)
  have nd2 := app_snd (s := s) (M := 10000000) hr4 (nodupB.nodup hr2)
  have hlen : (F.drop s).length ≤ 10000000 := by simp;omega
  have rnup : ∀ i j,rn r i = some j → rn (r ++ prs s 10000000) i = some j := fun i j q => by rw [rn_app,q]
  have lowH : ∀ i j,rn r i = some j → lowO (H j) = true := fun i j q => List.all_eq_true.1 hlH _ (rn_mem q)
  refine ⟨?_⟩
  intro L O w0 ρ fp a w K Q hrr hk
  have ey := hrr.ev y
  rw [hy,RV] at ey
  obtain ⟨cf,cc,ey,e1,e2⟩ := ey
  have hv : RVL L ρ H w (fs ++ l.map (ev τ) ++ caps) (cf ++ l.map a.eval ++ cc) := (e1.append (RVL.map (fun z => hrr.ev z) l)).append e2
  have hcall := RR.called hrr (r := r ++ prs s 10000000) (k := kbig kl) (pl := pl) hc nd1 nd2 (by
      refine all0_app (all0_low rnup (fun i hi => (lowS (r := r) (s := s) i hi).symm) lowH (allv.all0 h0)) (all0_fam fun i hi => ?_)
      refine ⟨1000000 + s + i,?_,?_⟩
      · rw [rn_app,smallR.hi' hr4 i]
        exact rn_prs (by omega)
      · rw [show 1000000 + s + i = 1000000 + (s + i) by omega,hT.1 (s + i),rowO.ren (rowF.at hT.2 _),List.getElem?_drop])
    (fun j hj i hi => by
      have hjs : j < 1000000 := by
        unfold kbig at hj
        rw [Bool.or_eq_false_iff] at hj
        rcases Nat.lt_or_ge j 1000000 with q | q
        · exact q
        · have := Nat.ble_eq_true_of_le q;rw [hj.2] at this;cases this
      rw [lowS j hjs] at hi
      refine okK.at hr3 j ?_ i hi
      rw [← kbig_lo j hjs];exact hj)
    (fun x ob1 ⟨l1,F1,q1,q2,q3,q4,q5⟩ => by subst q4;exact pins_fam hr5 (hp x l1 F1 q5)) hv (by rw [← ha];exact (renL_low (fun i hi => lowS i hi) _ hlo))
  have hrun : (execOp a.eval o).run P w = .ok (.enter f (cf ++ l.map a.eval ++ cc).toArray) w := by
    simp only [execOp,ho,resolve,Deferred.ofValue,ey,invoke,callFunc,Sem.run_bind,Sem.run_pure,Result.andThen_ok,run_program,hf,hf1,hf2,Bool.false_eq_true,if_false,List.map_toArray,List.append_toArray]
  unfold Oper.wp
  rw [hrun]
  show Calls P f _ w _
  refine Calls.mono hcall ?_
  rintro e w' ⟨x,ob1,⟨l1,F1,q1,q2,q3,rfl,q5⟩,v,ρ',fp',rfl,g1,g2,g3⟩
  simp only [Bool.and_eq_true] at q1
  have eH : callH (r ++ prs s 10000000) (kbig kl) (l1 ++ famL 1000000 F1) H = tl (callH r (kbig kl) l1 H) (F.take s ++ F1) := funext fun j => by
    rcases lo_or_hi j with q | ⟨m,rfl⟩
    · rw [tl_lo q]
      unfold callH
      rw [lowS j q]
      cases hj : rn (sw r) j with
      | none => rfl
      | some i =>
        have hi : i < 1000000 := by
          have := rn_mem hj
          unfold sw at this
          obtain ⟨p,hp,e⟩ := List.mem_map.1 this
          injection e with e1 e2
          subst e2
          exact (smallR.at hr4 p hp).1
        show (ofO (l1 ++ famL 1000000 F1) i).ren _ = (ofO l1 i).ren _
        rw [ofO_lo hi]
        exact lowO.ren lowR (ofO_all q1.2.1 i)
    · rw [tl_hi]
      unfold callH
      rw [sw_hi hr4]
      have hst : (F.take s).length = s := by rw [List.length_take];omega
      by_cases c : s ≤ m ∧ m - s < 10000000
      · rw [if_pos c]
        show (ofO (l1 ++ famL 1000000 F1) (1000000 + (m - s))).ren _ = _
        rw [ofO_hi q1.1,famL_at,if_pos (by omega),show 1000000 + (m - s) - 1000000 = m - s by omega,rowO.ren (rowF.at q2 _),List.getElem?_append_right (by omega),hst]
      · rw [if_neg c]
        show (H (1000000 + m)).kil _ = _
        rw [hT.1 m,rowO.kil (rowF.at hT.2 m)]
        rcases Nat.lt_or_ge m s with z | z
        · rw [List.getElem?_append_left (by omega),List.getElem?_take_of_lt z]
        · rw [List.getElem?_eq_none (by omega),List.getElem?_append_right (by omega),List.getElem?_eq_none (by omega)]
  have ex : ren (r ++ prs s 10000000) x = ren r x := ren_low (fun i hi => lowR i hi) x q1.2.2
  rw [eH,ex] at g2
  rw [eH] at g1
  refine hk _ _ _ _ _ _ ⟨x,l1,F1,q5,q2,q3,rfl,rfl⟩ (g1.puto o.dst g2 (dstOk.at ht)) (fun X hX => ?_)
  rw [← eH]
  refine g3 X (fun i o' hio j hj => ?_)
  rcases List.mem_append.1 hio with hio | hio
  · obtain ⟨⟨j',z1,_⟩,_⟩ : (∃ j',rn r i = some j' ∧ True) ∧ True := by
      refine ⟨?_,trivial⟩
      have : ∀ (l : List (Nat × AO)),all0 r H l → (i,o') ∈ l → ∃ j',rn r i = some j' ∧ True := by
        intro l
        induction l with
        | nil => intro _ h;cases h
        | cons p l ih =>
          obtain ⟨a',b'⟩ := p
          intro h hm
          rcases List.mem_cons.1 hm with hm | hm
          · injection hm with hm1 hm2
            subst hm1
            obtain ⟨⟨j',z,_⟩,_⟩ := h
            exact ⟨j',z,trivial⟩
          · exact ih h.2 hm
      exact this ob0 (allv.all0 h0) hio
    rw [rnup i j' z1] at hj
    injection hj with hj
    subst hj
    exact hX _ (List.mem_append_left _ (List.mem_filterMap.2 ⟨_,hio,z1⟩))
  · obtain ⟨m,hm,rfl⟩ := mem_famL hio
    rw [rn_app,smallR.hi' hr4 m] at hj
    dsimp only at hj
    rw [rn_prs (by omega)] at hj
    injection hj with hj
    subst hj
    exact hX _ (List.mem_append_right _ (List.mem_map.2 ⟨m,by simpa using hm,rfl⟩))
end

inductive All2 {α β : Type} (R : α → β → Prop) : List α → List β → Prop
  | nil : All2 R [] []
  | cons {a : α} {b : β} {l : List α} {m : List β} : R a b → All2 R l m → All2 R (a :: l) (b :: m)
theorem All2.len {α β : Type} {R : α → β → Prop} {l : List α} {m : List β} (h : All2 R l m) : l.length = m.length := by
  induction h with
  | nil => rfl
  | cons _ _ ih => simp [ih]
theorem All2.of {α β : Type} {R : α → β → Prop} : ∀ {l : List α} {m : List β},l.length = m.length → (∀ (i : Nat) (a : α) (b : β),l[i]? = some a → m[i]? = some b → R a b) → All2 R l m
  | [],[],_,_ => .nil
  | a :: l,b :: m,hl,h => .cons (h 0 a b rfl rfl) (All2.of (by simpa using hl) fun i x y h1 h2 => h (i + 1) x y (by simpa using h1) (by simpa using h2))
  | [],_ :: _,hl,_ => by cases hl
  | _ :: _,[],hl,_ => by cases hl
def dpC (H : Nat → AO) (p q : PV) : Prop := p = q ∨ ∃ v m e sz rows,p = .v v ∧ H m = .arr ⟨e,some v⟩ sz rows ∧ q = .lst e sz rows
section
variable {L : Nat → Prop} {ρ : Nat → Value} {H : Nat → AO} {w : World}
theorem RWL.deep (hob : ∀ id,∃ f,OB L ρ H w (ρ id) f (H id)) : ∀ {x y : List PV} {c : List Value} {fp : List Nat},All2 (dpC H) x y → RWL w false x c fp → ∃ fp',RWL w false y c fp'
  | _,_,c,fp,.nil,h => ⟨fp,h⟩
  | _,_,c,fp,.cons h1 h2,h => by
    rw [RWL] at h
    obtain ⟨c,r,f1,f2,rfl,rfl,k1,k2⟩ := h
    obtain ⟨g2,k3⟩ := RWL.deep hob h2 k2
    rcases h1 with rfl | ⟨v,m,e,sz,rows,rfl,hm,rfl⟩
    · exact ⟨f1 ++ g2,by rw [RWL];exact ⟨c,r,f1,g2,rfl,rfl,k1,k3⟩⟩
    · obtain ⟨f,ho⟩ := hob m
      rw [hm] at ho
      obtain ⟨g1,k4⟩ := OB.readsW ho
      have hv : ρ m = v := by obtain ⟨_,_,_,_,_,_,k⟩ := ho;exact k v rfl
      rw [RW] at k1
      rw [k1.1,← hv]
      exact ⟨g1 ++ g2,by rw [RWL];exact ⟨ρ m,r,g1,g2,rfl,rfl,k4,k3⟩⟩
theorem RWR.deep (hob : ∀ id,∃ f,OB L ρ H w (ρ id) f (H id)) {sz : Nat} : ∀ {x y : List (List PV)} {c : List Value} {fp : List Nat},All2 (All2 (dpC H)) x y → RWR w false sz x c fp → ∃ fp',RWR w false sz y c fp'
  | _,_,c,fp,.nil,h => ⟨fp,h⟩
  | _,_,c,fp,.cons h1 h2,h => by
    rw [RWR] at h
    obtain ⟨hl,c,r,f1,f2,rfl,rfl,k1,k2⟩ := h
    obtain ⟨g1,k3⟩ := RWL.deep hob h1 k1
    obtain ⟨g2,k4⟩ := RWR.deep hob h2 k2
    exact ⟨g1 ++ g2,by rw [RWR];exact ⟨by rw [← h1.len];exact hl,c,r,g1,g2,rfl,rfl,k3,k4⟩⟩
end
def Reads (H : Nat → AO) (x y : AV) : Prop := ∀ {L : Nat → Prop} {ρ : Nat → Value} {w : World} {c : Value},(∀ id,∃ f,OB L ρ H w (ρ id) f (H id)) → RV L ρ H w x c → RV L0 ρ0 (ofO []) w y c
theorem Reads.lend {H : Nat → AO} {x y : AV} (h : lend H x = y) : Reads H x y := fun hob hx => h ▸ RV.lend hob x hx
theorem Reads.own {H : Nat → AO} {id : Nat} {t : TypeId} {pt : Option Value} {sz : Nat} {rows rows' : List (List PV)} (hH : H id = .arr ⟨t,pt⟩ sz rows) (h : All2 (All2 (dpC H)) rows rows') : Reads H (.own id) (.p (.lst t sz rows')) := fun {L ρ w c} hob hx => by
  rw [RV] at hx
  have hc := hx.2 (by rw [hH];rfl)
  obtain ⟨f,ho⟩ := hob id
  rw [hH] at ho
  obtain ⟨xs,fr,b1,b2,b3,b4,b5⟩ := ho
  obtain ⟨g,k1⟩ := RWR.deep hob h b1
  have hr := OB.readsW (L := L) (ρ := ρ) (H := H) (w := w) (v := ρ id) (f := f) (e := ⟨t,pt⟩) (sz := sz) (rows := rows) ⟨xs,fr,b1,b2,b3,b4,b5⟩
  rw [hc]
  rw [RV]
  have hlen : rows'.length = rows.length := h.len.symm
  rcases b3.2 with ⟨q,q2⟩ | ⟨gb,cap,cur,q,_,hg,hnc,hcm,_⟩
  · refine ⟨[] ++ g,?_,fun b _ => no_live⟩
    rw [RW]
    refine ⟨xs,[],g,k1,?_,rfl⟩
    unfold SlAt
    simp only [Bool.false_eq_true,if_false]
    exact ⟨none,0,by rw [q,hlen,q2],by omega,by simp [maxLen],.inl ⟨by omega,trivial⟩⟩
  · have b3' := b3
    rw [q] at b3'
    refine ⟨[gb] ++ g,?_,fun b _ => no_live⟩
    rw [RW]
    refine ⟨xs,[gb],g,k1,?_,rfl⟩
    unfold SlAt
    simp only [Bool.false_eq_true,if_false]
    exact ⟨_,cap,by rw [q,hlen],by omega,hcm,.inr ⟨gb,0,rfl,cellsAt_of_own b3',(Array.getElem?_eq_some_iff.1 hg).1,rfl⟩⟩
theorem RVL.reads {H : Nat → AO} {L : Nat → Prop} {ρ : Nat → Value} {w : World} (hob : ∀ id,∃ f,OB L ρ H w (ρ id) f (H id)) : ∀ {l m : List AV} {cs : List Value},All2 (Reads H) l m → RVL L ρ H w l cs → RVL L0 ρ0 (ofO []) w m cs
  | _,_,cs,.nil,h => by rw [RVL] at *;exact h
  | _,_,cs,.cons h1 h2,h => by
    rw [RVL] at *
    obtain ⟨c,r,rfl,k1,k2⟩ := h
    exact ⟨c,r,rfl,h1 hob k1,RVL.reads hob h2 k2⟩
theorem Reads.agg {H : Nat → AO} {l m : List AV} (h : All2 (Reads H) l m) : Reads H (.agg l) (.agg m) := fun hob hx => by
  rw [RV] at *
  obtain ⟨cs,rfl,h1⟩ := hx
  exact ⟨cs,rfl,RVL.reads hob h h1⟩
section
variable {P : Program} {o : Oper} {N : Nat} {τ : Nat → AV} {H : Nat → AO}
theorem zLN {y : Operand} {l : List Operand} {ts : Array TypeId} {f : FuncId} {fn : Func} {args : List AV} {x : AV} (hf : P.funcs[f]? = some fn) (hc : GC P f args [] x [])
    (h : (o.op,dstOk o.dst N,ev τ y,(fn.name == "runtime.NumGoroutine"),fn.body.isNone,flatA x) = (.call { callee := .value y,args := l.toArray,argTypes := ts },true,.clo (.func f) [] [],false,false,true)) (ha : All2 (Reads H) (l.map (ev τ)) args) : St P o N τ H [] (updo τ o.dst x) H := by
  simp only [Prod.mk.injEq] at h
  obtain ⟨ho,ht,hy,hf1,hf2,hx⟩ := h
  refine ⟨?_⟩
  intro L O w0 ρ fp a w K Q hrr hk
  have ey := hrr.ev y
  rw [hy,RV] at ey
  obtain ⟨cf,cc,ey,e1,e2⟩ := ey
  rw [RVL] at e1 e2
  subst e1 e2
  have hv := RVL.reads (fun id => ⟨_,hrr.ob id⟩) ha (RVL.map (fun z => hrr.ev z) l)
  have hcall := hc L0 w (l.map a.eval) ρ0 (fun _ => []) (fun _ q => q.elim) hv (fun i => rfl) (by simp) (by simp)
  have hrun : (execOp a.eval o).run P w = .ok (.enter f (l.map a.eval).toArray) w := by
    simp only [execOp,ho,resolve,Deferred.ofValue,ey,invoke,callFunc,Sem.run_bind,Sem.run_pure,Result.andThen_ok,run_program,hf,hf1,hf2,Bool.false_eq_true,if_false,List.map_toArray,List.append_toArray,List.nil_append,List.append_nil]
  unfold Oper.wp
  rw [hrun]
  show Calls P f _ w _
  refine Calls.mono hcall ?_
  rintro e w' ⟨_,_,⟨rfl,rfl⟩,v,ρ',fp',rfl,g1,g2,g3⟩
  have hg : Chg (fun _ => False) w w' := ⟨g1.os,g1.tape,g1.output,g1.size,fun b hb _ => g1.block b hb (by simp),fun b o hb hlt => g1.nf b o (by simpa using hb) hlt⟩
  exact hk _ _ _ _ ((hrr.grow hg).puto o.dst (RV.flat _ hx g2) (dstOk.at ht)) (fun X hX => ⟨⟨hg.size,fun b hb _ => hg.block b hb (fun q => q)⟩,fun j h1 h2 b h3 => .inr ⟨j,h1,h2,h3⟩⟩)
end
theorem rowF.app {F G : List AO} (h : rowF F) (g : rowF G) : rowF (F ++ G) := fun o ho => by
  rcases List.mem_append.1 ho with q | q
  · exact h o q
  · exact g o q
theorem tlp {H : Nat → AO} {F : List AO} (h : Tl H F := by repeat (first | exact Tl.list rfl | exact Tl.tl (by first | assumption | exact rowF.nil) | refine Tl.frz rfl ?_ | refine Tl.upd rfl ?_ | refine Tl.kil ?_ | refine Tl.call rfl ?_ | refine Tl.swap rfl ?_)) : Tl H F := h
def nR (R : AV → List (Nat × AO) → List AO → Prop) : AV → List (Nat × AO) → Prop := fun x ob1 => ∃ l1 F1,(smallO l1 && (l1.all (fun p => lowO p.2) && lowA x)) = true ∧ rowF F1 ∧ F1.length ≤ 10000000 ∧ ob1 = l1 ++ famL 1000000 F1 ∧ R x l1 F1
section
variable {P : Program} {L O : Nat → Prop} {w0 : World} {N : Nat} {τ : Nat → AV} {H : Nat → AO} {Q : AQ} {c : Code} {ops : Array Oper} {l : List Oper} {F : List AO}
theorem GN.intro {f : FuncId} {fn : Func} {c : Code} {args : List AV} {ob0 : List (Nat × AO)} {F0 : List AO} {R : AV → List (Nat × AO) → List AO → Prop} {rs : List RVar} (hf : P.funcs[f]? = some fn) (hb : fn.body = some c) (hn : fn.ntmps = N) (hl : args.length ≤ N) (hrs : resOk P fn.results.toList rs) (h0 : smallO ob0 = true)
    (h : ∀ L O w0,AW P L O w0 N c (ofL args) (tl (ofO ob0) F0) (EndsX rs (nR R))) : GN P f args ob0 F0 R := GX.intro hf hb hn hl hrs (fun L O w0 => by rw [ofO_fam h0];exact h L O w0)
theorem end_nret {rs : List RVar} {R : AV → List (Nat × AO) → List AO → Prop} (x : AV) (l1 : List (Nat × AO)) {F1 : List AO} (hR : R x l1 F1) (hM : F1.length ≤ 10000000) (h0 : retX τ H rs = some x) (h1 : (smallO l1 && (l1.all (fun p => lowO p.2) && lowA x)) = true) (h2 : allO l1 H) (h3 : Tl H F1) : EndsX rs (nR R) .ret τ H :=
  ⟨x,l1 ++ famL 1000000 F1,⟨l1,F1,h1,h3.2,hM,rfl,hR⟩,h0,allO_app h2 h3.all⟩
end

def rowsV (vs : List Value) (ps : List Posting) : List (List PV) := List.zipWith (fun v (p : Posting) => [.v (.int .i64 p.id),.v v]) vs ps
def famP (vs : List Value) (ps : List Posting) : List AO := List.zipWith (fun v (p : Posting) => .arr ⟨109,some v⟩ 3 (rowsOf encLine p.lines)) vs ps
theorem rowsV_len {vs : List Value} {ps : List Posting} (h : vs.length = ps.length) : (rowsV vs ps).length = ps.length := by unfold rowsV;rw [List.length_zipWith];omega
theorem famP_len {vs : List Value} {ps : List Posting} (h : vs.length = ps.length) : (famP vs ps).length = ps.length := by unfold famP;rw [List.length_zipWith];omega
theorem rowsV_app {vs : List Value} {ps : List Posting} {u : Value} {p : Posting} (h : vs.length = ps.length) : rowsV (vs ++ [u]) (ps ++ [p]) = rowsV vs ps ++ [[.v (.int .i64 p.id),.v u]] := by unfold rowsV;rw [List.zipWith_append h];rfl
theorem famP_app {vs : List Value} {ps : List Posting} {u : Value} {p : Posting} (h : vs.length = ps.length) : famP (vs ++ [u]) (ps ++ [p]) = famP vs ps ++ [.arr ⟨109,some u⟩ 3 (rowsOf encLine p.lines)] := by unfold famP;rw [List.zipWith_append h];rfl
theorem famP_row : ∀ {vs : List Value} {ps : List Posting},rowF (famP vs ps)
  | [],_ => by unfold famP;simp;exact rowF.nil
  | _ :: _,[] => by unfold famP;simp;exact rowF.nil
  | v :: vs,p :: ps => fun o ho => by
    unfold famP at ho
    rw [List.zipWith_cons_cons] at ho
    rcases List.mem_cons.1 ho with rfl | ho
    · rfl
    · exact famP_row (vs := vs) (ps := ps) o ho
theorem rowsV_at {vs : List Value} {ps : List Posting} {i : Nat} (h : vs.length = ps.length) (hi : i < ps.length) : (rowsV vs ps)[i]? = some [.v (.int .i64 ps[i].id),.v (vs[i]'(by omega))] := by
  unfold rowsV
  rw [List.getElem?_zipWith,List.getElem?_eq_getElem hi,List.getElem?_eq_getElem (by omega)]
theorem famP_at {vs : List Value} {ps : List Posting} {i : Nat} (h : vs.length = ps.length) (hi : i < ps.length) : (famP vs ps)[i]? = some (.arr ⟨109,some (vs[i]'(by omega))⟩ 3 (rowsOf encLine ps[i].lines)) := by
  unfold famP
  rw [List.getElem?_zipWith,List.getElem?_eq_getElem hi,List.getElem?_eq_getElem (by omega)]
theorem deepV {H : Nat → AO} {F : List AO} (hT : Tl H F) {vs : List Value} {ps : List Posting} (h : vs.length = ps.length) {s : Nat} (hF : ∀ i,i < ps.length → F[s + i]? = (famP vs ps)[i]?) : All2 (All2 (dpC H)) (rowsV vs ps) (rowsP ps) := by
  refine All2.of (by rw [rowsV_len h,rowsP_len]) fun i a b ha hb => ?_
  have hi : i < ps.length := by have := (List.getElem?_eq_some_iff.1 hb).1;rwa [rowsP_len] at this
  rw [rowsV_at h hi] at ha
  unfold rowsP at hb
  rw [List.getElem?_map,List.getElem?_eq_getElem hi] at hb
  injection ha with ha
  injection hb with hb
  subst ha hb
  refine .cons (.inl rfl) (.cons (.inr ⟨_,1000000 + (s + i),_,_,_,rfl,?_,rfl⟩) .nil)
  rw [hT.1,hF i hi,famP_at h hi]
  rfl

set_option maxHeartbeats 16000000
set_option maxRecDepth 100000
def allA (x : Book) (es : List Event) : AllS := if bookOk x = true then allS x es else ⟨zeroBook,[],[]⟩
theorem allA_ok {x : Book} {es : List Event} (h : bookOk x = true) : allA x es = allS x es := if_pos h
theorem allA_no {x : Book} {es : List Event} (h : bookOk x = false) : allA x es = ⟨zeroBook,[],[]⟩ := if_neg (by simp [h])
abbrev nAr (l : List Int) : AO := .arr 3 1 (rowsOf encKey l)
abbrev bBox (x : Book) : AO := .box 34 none [int x.tick,int x.next,int x.wallet,.own 1,.own 2,.own 3]
abbrev allOb (r : AllS) (vs : List Value) : List (Nat × AO) := [(1,.arr 78 7 (rowsOf encChan r.now.chans)),(2,hAr r.now.htlcs),(3,iAr r.now.circles),(14,.arr 37 2 (rowsV vs r.ps)),(15,nAr r.codes)]
abbrev allV (r : AllS) : AV := .tup [.agg [int r.now.tick,int r.now.next,int r.now.wallet,.own 1,.own 2,.own 3],.own 14,.own 15]
def allRel (r : AllS) : AV → List (Nat × AO) → List AO → Prop := fun y l1 F1 => ∃ vs : List Value,vs.length = r.ps.length ∧ y = allV r ∧ l1 = allOb r vs ∧ F1 = famP vs r.ps
theorem applyAll_e (x : Book) (es : List Event) (hw : BookWf x) (we : ∀ e ∈ es,wfEvent e) (hm : es.length ≤ 1048576) : GN Tryz.prog 19 [bookV x,.p (.lst 41 7 (rowsOf encEvent es))] [] ([]) (allRel (allA x es)) := by
  refine GN.intro (rs := [.cell 4 34 (some 6),.tmp 5,.tmp 6]) Tryz.func19 rfl Tryz.ntmps19 (Nat.le_of_ble_eq_true rfl) ⟨rfl,rfl,ty.kd34,rfl,rfl,trivial⟩ rfl ?_
  intro L O w0
  refine sL<|lst (zX 2002 Z) Z<|lst (zA 2004 ty.ze34 Z) Z<|laV Z<|laV Z<|nG<|aS<|sL<|loX (.agg [vI _ _,vI _ _,vI _ _,vL _ _ _,vL _ _ _,vL _ _ _]) ty.kd34 Z<|lst (zL Tryz.func48 (impl_BookOk_e x hw) Z) Z<|luB Z<|nG ?_
  refine AW.cond rfl ?_ ?_
  · intro h1
    refine sL<|lq (rd (x := .agg [vI _ _,vI _ _,vI _ _,vV _,vV _,vV _]) (rd_build Z ty.sa34 Z Z Z) Z)<|lst (zB 2004 ty.co34 ty.inf34 Z) Z<|laV Z<|laV Z<|nG ?_
    refine AW.adoptB 1 2004 3 78 7 rfl (by decide) rfl ?_
    refine AW.adoptB 2 2004 4 117 7 rfl (by decide) rfl ?_
    refine AW.adoptB 3 2004 5 120 5 rfl (by decide) rfl ?_
    refine AW.adoptT 14 5 37 2 rfl ?_
    refine AW.adoptT 15 6 3 1 rfl ?_
    refine aR<|rT ?_
    have hbk : bookOk x = false := by simpa using h1
    rw [allA_no hbk]
    refine end_nret (F1 := []) (allV ⟨zeroBook,[],[]⟩) (allOb ⟨zeroBook,[],[]⟩ []) ?_ (by simp) rfl rfl ⟨rfl,rfl,rfl,rfl,rfl,trivial⟩ tlp
    exact ⟨[],rfl,rfl,rfl,rfl⟩
  · intro h1
    refine aK<|gT<|aS ?_
    have hbk : bookOk x = true := by simpa using h1
    have fi := bookOk_fi hbk
    have sm := fi.sm
    have hw0 := allS_wf hw we
    refine aL<|loX (.agg [vI _ _,vI _ _,vI _ _,vL _ _ _,vL _ _ _,vL _ _ _]) ty.kd34 Z<|lst (zC [(2005,1),(2009,2),(2013,3)] [1,2,3] [] Tryz.func51 (copyBook_e x (by have := sm.lc;have := sm.lh;have := sm.li;omega)) (trivial) rfl rfl) Z<|lst (zA 2007 ty.ze34 rfl) rfl ?_
    refine lTt ([]) [1,4,5,6,7,20] [vL _ _ _,.ptr 2004 _ 0,vV _,vV _,.ptr 2007 _ 0,.agg [vI _ _,vI _ _,vI _ _,.own _,.own _,.own _]] [1,2,3,2002,2004,2007] [.arr _ _ _,.arr _ _ _,.arr _ _ _,.box _ _ [vI _ _,vI _ _,vI _ _,vL _ _ _,vL _ _ _,vL _ _ _],.box _ _ [vI _ _,vI _ _,vI _ _,vV _,vV _,vV _],.box _ _ [vI _ _,vI _ _,vI _ _,vV _,vV _,vV _]] rfl rfl ?_
    refine lst (zB 2007 ty.co34 ty.inf34 Z) Z<|nA<|laV Z<|nG ?_
    refine AW.adoptT 14 8 37 2 rfl ?_
    refine sL<|laV Z<|nG ?_
    refine AW.adoptT 15 9 3 1 rfl ?_
    refine aS<|sL<|lmL Z<|lnI ty.sl54 Z<|lmI Z<|nG<|aB ?_
    refine AW.loopT (D := Nat × List Value) [(4,.ptr 2004 _ 0),(5,vV _),(6,vV _),(7,.ptr 2007 _ 0),(8,.own _),(9,.own _),(21,vL _ _ _),(22,vI _ _)] [(2002,.box _ _ [vI _ _,vI _ _,vI _ _,vL _ _ _,vL _ _ _,vL _ _ _]),(2004,.box _ _ [vI _ _,vI _ _,vI _ _,vV _,vV _,vV _])] (fun d => [(23,int (d.1 : Int))]) (fun d => [(2007,bBox (allS x (es.take d.1)).now),(1,.arr 78 7 (rowsOf encChan (allS x (es.take d.1)).now.chans)),(2,hAr (allS x (es.take d.1)).now.htlcs),(3,iAr (allS x (es.take d.1)).now.circles),(14,.arr 37 2 (rowsV d.2 (allS x (es.take d.1)).ps)),(15,nAr (allS x (es.take d.1)).codes)]) (fun d => famP d.2 (allS x (es.take d.1)).ps) (fun d => d.1 ≤ es.length ∧ d.2.length = (allS x (es.take d.1)).ps.length) (fun d => es.length - d.1) ((0,[])) (⟨Nat.zero_le _,by rw [List.take_zero];rfl⟩) ⟨rfl,trivial⟩ ⟨(by rw [List.take_zero];rfl),(by rw [List.take_zero];rfl),(by rw [List.take_zero];rfl),(by rw [List.take_zero];rfl),(by rw [List.take_zero];rfl),(by rw [List.take_zero];rfl),trivial⟩ ⟨rfl,rfl,rfl,rfl,rfl,rfl,rfl,rfl,trivial⟩ ⟨rfl,rfl,trivial⟩ (by rw [List.take_zero];exact tlp) ?_
    intro ⟨k,vs⟩ hI
    obtain ⟨hkl,hvl⟩ := hI
    replace hkl : k ≤ es.length := hkl
    replace hvl : vs.length = (allS x (es.take k)).ps.length := hvl
    have hfr : rowF (famP vs (allS x (es.take k)).ps) := famP_row
    refine sL<|lbB Z<|nG<|aS ?_
    refine AW.cond rfl ?_ ?_
    · intro h2
      refine aK<|gT<|aS<|aB<|sL ?_
      have hk : k < es.length := by simpa [length_rowsOf] using h2
      have hwk := hw0 k hkl
      have hlc := allS_codes (x := x) k hkl
      have hlp := allS_ps (x := x) k hkl
      refine li k ty.el54 Z (row_map hk)<|lrX (.agg [vI _ _,vI _ _,vI _ _,vI _ _,vI _ _,vI _ _,vB _]) ty.kd41 Z<|lst (zA 2011 ty.ze41 Z) Z<|lst (zB 2011 ty.co41 ty.inf41 Z) Z<|nG<|aS ?_
      refine AW.pinA 1 rfl ?_
      intro u1
      refine AW.pinA 2 rfl ?_
      intro u2
      refine AW.pinA 3 rfl ?_
      intro u3
      refine aL<|loX (.agg [vI _ _,vI _ _,vI _ _,.own _,.own _,.own _]) ty.kd34 Z<|loX (.agg [vI _ _,vI _ _,vI _ _,vI _ _,vI _ _,vI _ _,vB _]) ty.kd41 Z ?_
      refine lst (zC [(1,1),(2,2),(3,3),(11,61),(12,62),(13,63),(14,64)] [61,62,63,64] [1,2,3] Tryz.func9 (lentBk (apply_g _ es[k] hwk)) (⟨stays.arr rfl,stays.arr rfl,stays.arr rfl,trivial⟩) rfl rfl) rfl ?_
      refine lTt (famP vs (allS x (es.take k)).ps) [4,5,6,7,8,9,21,22,23,30] [.ptr 2004 _ 0,vV _,vV _,.ptr 2007 _ 0,.own _,.own _,vL _ _ _,vI _ _,vI _ _,.tup [.agg [vI _ _,vI _ _,vI _ _,.own _,.own _,.own _],.agg [vI _ _,.own _],vI _ _]] [1,2,3,14,15,61,62,63,64,2002,2004,2007,2011] [.arr _ _ _,.arr _ _ _,.arr _ _ _,.arr _ _ _,.arr _ _ _,.arr _ _ _,.arr _ _ _,.arr _ _ _,.arr _ _ _,.box _ _ [vI _ _,vI _ _,vI _ _,vL _ _ _,vL _ _ _,vL _ _ _],.box _ _ [vI _ _,vI _ _,vI _ _,vV _,vV _,vV _],.box _ _ [vI _ _,vI _ _,vI _ _,.own _,.own _,.own _],.box _ _ [vI _ _,vI _ _,vI _ _,vI _ _,vI _ _,vI _ _,vB _]] rfl rfl ?_
      refine lmX (.tup [.agg [vI _ _,vI _ _,vI _ _,.own _,.own _,.own _],.agg [vI _ _,.own _],vI _ _]) Z<|lxX (.agg [vI _ _,vI _ _,vI _ _,.own _,.own _,.own _]) Z<|lxX (.agg [vI _ _,.own _]) Z<|lxI Z<|lst (zA 2012 ty.ze34 rfl) Z<|lst (zA 2013 ty.ze37 rfl) Z<|lst (zB 2012 ty.co34 ty.inf34 rfl) Z<|lst (zB 2013 ty.co37 ty.inf37 rfl) Z<|laI Z<|nA<|lmO Z<|lmI Z<|lst (zS 2036 (rowsOf encKey [applyC (allS x (es.take k)).now es[k]]) ty.el51 ty.ze3 rfl) Z<|lst (zP 15 ty.el51 ty.ze3 ty.by3 rfl (Src.own rfl rfl) (by simp [rowsOf,rowsV_len hvl];omega)) Z<|laO Z<|nG<|aS<|sL<|lmI Z<|lbB Z<|nG ?_
      refine AW.cond rfl ?_ ?_
      · intro h3
        refine aE<|eT<|eB<|gT ?_
        have hc0 : applyC (allS x (es.take k)).now es[k] ≠ 0 := by simpa using h3
        refine AW.unpin 1 rfl ?_
        refine AW.unpin 2 rfl ?_
        refine AW.unpin 3 rfl ?_
        refine aTt (famP vs (allS x (es.take k)).ps) [4,5,6,7,8,9,21,22,23] [.ptr 2004 _ 0,vV _,vV _,.ptr 2007 _ 0,.own _,.own _,vL _ _ _,vI _ _,vI _ _] [1,2,3,14,15,2002,2004,2007,2011,2012,2013,2036] [.arr _ _ _,.arr _ _ _,.arr _ _ _,.arr _ _ _,.arr _ _ _,.box _ _ [vI _ _,vI _ _,vI _ _,vL _ _ _,vL _ _ _,vL _ _ _],.box _ _ [vI _ _,vI _ _,vI _ _,vV _,vV _,vV _],.box _ _ [vI _ _,vI _ _,vI _ _,.own _,.own _,.own _],.box _ _ [vI _ _,vI _ _,vI _ _,vI _ _,vI _ _,vI _ _,vB _],.box _ _ [vI _ _,vI _ _,vI _ _,.own _,.own _,.own _],.box _ _ [vI _ _,.own _],.arr _ _ _] rfl rfl ?_
        refine aL<|lgI Z<|lmI Z<|nG ?_
        have hn : (allF (allS x (es.take k)) es[k]).now = (allS x (es.take k)).now := allF_no hc0
        have hp : (allF (allS x (es.take k)) es[k]).ps = (allS x (es.take k)).ps := allF_ps1 hc0
        refine ⟨(k + 1,vs),⟨hk,(by rw [allS_succ hk,hp];exact hvl)⟩,by show es.length - (k + 1) < es.length - k;omega,⟨(iq rfl),trivial⟩,⟨(Eq.trans (congrArg bBox hn.symm) (congrArg (fun s : AllS => bBox s.now) (allS_succ hk).symm)),(Eq.trans (congrArg (fun b : Book => AO.arr 78 7 (rowsOf encChan b.chans)) hn.symm) (congrArg (fun s : AllS => AO.arr 78 7 (rowsOf encChan s.now.chans)) (allS_succ hk).symm)),(Eq.trans (congrArg (fun b : Book => hAr b.htlcs) hn.symm) (congrArg (fun s : AllS => hAr s.now.htlcs) (allS_succ hk).symm)),(Eq.trans (congrArg (fun b : Book => iAr b.circles) hn.symm) (congrArg (fun s : AllS => iAr s.now.circles) (allS_succ hk).symm)),(Eq.trans (congrArg (fun p => AO.arr 37 2 (rowsV vs p)) hp.symm) (congrArg (fun s : AllS => AO.arr 37 2 (rowsV vs s.ps)) (allS_succ hk).symm)),(Eq.trans (Eq.trans (b := nAr ((allS x (es.take k)).codes ++ [applyC (allS x (es.take k)).now es[k]])) (congrArg (AO.arr 3 1) (rowsOf_app encKey _ [_]).symm) rfl) (congrArg (fun s : AllS => nAr s.codes) (allS_succ hk).symm)),trivial⟩,⟨rfl,rfl,rfl,rfl,rfl,rfl,rfl,rfl,trivial⟩,⟨rfl,rfl,trivial⟩,(by rw [allS_succ hk,hp];exact tlp)⟩
      · intro h3
        refine aK<|gA<|loX (.agg [vI _ _,vI _ _,vI _ _,.own _,.own _,.own _]) ty.kd34 Z<|lst (zB 2007 ty.co34 ty.inf34 Z) Z<|nA<|lf 1 ty.F37_1 Z<|loO ty.kd35 Z<|lnI ty.sl35 Z<|lbB Z<|nG ?_
        refine AW.cond rfl ?_ ?_
        · intro h4
          refine aTt (famP vs (allS x (es.take k)).ps) [4,5,6,7,8,9,13,21,22,23] [.ptr 2004 _ 0,vV _,vV _,.ptr 2007 _ 0,.own _,.own _,.ptr 2013 _ 0,vL _ _ _,vI _ _,vI _ _] [1,2,3,14,15,61,62,63,64,2002,2004,2007,2011,2012,2013,2036] [.arr _ _ _,.arr _ _ _,.arr _ _ _,.arr _ _ _,.arr _ _ _,.arr _ _ _,.arr _ _ _,.arr _ _ _,.arr _ _ _,.box _ _ [vI _ _,vI _ _,vI _ _,vL _ _ _,vL _ _ _,vL _ _ _],.box _ _ [vI _ _,vI _ _,vI _ _,vV _,vV _,vV _],.box _ _ [vI _ _,vI _ _,vI _ _,.own _,.own _,.own _],.box _ _ [vI _ _,vI _ _,vI _ _,vI _ _,vI _ _,vI _ _,vB _],.box _ _ [vI _ _,vI _ _,vI _ _,.own _,.own _,.own _],.box _ _ [vI _ _,.own _],.arr _ _ _] rfl rfl ?_
          refine AW.pinA 64 rfl ?_
          intro u64
          refine aTt (famP vs (allS x (es.take k)).ps) [4,5,6,7,8,9,13,21,22,23] [.ptr 2004 _ 0,vV _,vV _,.ptr 2007 _ 0,.own _,.own _,.ptr 2013 _ 0,vL _ _ _,vI _ _,vI _ _] [1,2,3,14,15,61,62,63,64,2002,2004,2007,2011,2012,2013,2036] [.arr _ _ _,.arr _ _ _,.arr _ _ _,.arr _ _ _,.arr _ _ _,.arr _ _ _,.arr _ _ _,.arr _ _ _,.arr _ _ _,.box _ _ [vI _ _,vI _ _,vI _ _,vL _ _ _,vL _ _ _,vL _ _ _],.box _ _ [vI _ _,vI _ _,vI _ _,vV _,vV _,vV _],.box _ _ [vI _ _,vI _ _,vI _ _,.own _,.own _,.own _],.box _ _ [vI _ _,vI _ _,vI _ _,vI _ _,vI _ _,vI _ _,vB _],.box _ _ [vI _ _,vI _ _,vI _ _,.own _,.own _,.own _],.box _ _ [vI _ _,.own _],.arr _ _ _] rfl rfl ?_
          refine AW.absorb 64 rfl rfl famP_row ?_
          have hrf : rowF (famP vs (allS x (es.take k)).ps ++ [.arr ⟨109,some u64⟩ 3 (rowsOf encLine (appP (allS x (es.take k)).now es[k]).lines)]) := famP_row.app (fun o ho => by rw [List.mem_singleton.1 ho];rfl)
          refine aL<|lmO Z<|loX (.agg [vI _ _,vV _]) ty.kd37 Z<|lst (zS 2047 [[.v (.int .i64 (appP (allS x (es.take k)).now es[k]).id),.v u64]] ty.el50 ty.ze37 rfl (by intro r hr;simp at hr;subst hr;rfl)) Z<|lst (zP 14 ty.el50 ty.ze37 ty.by37 rfl (Src.own rfl rfl) (by simp [rowsOf,rowsV_len hvl];omega)) Z<|laO Z<|lN<|gB<|gT ?_
          have hc0 : applyC (allS x (es.take k)).now es[k] = 0 := by simpa using h3
          refine AW.swap 61 1 ?_
          refine aTt ((famP vs (allS x (es.take k)).ps ++ [.arr ⟨109,some u64⟩ 3 (rowsOf encLine (appP (allS x (es.take k)).now es[k]).lines)])) [4,5,6,7,8,9,21,22,23] [.ptr 2004 _ 0,vV _,vV _,.ptr 2007 _ 0,.own _,.own _,vL _ _ _,vI _ _,vI _ _] [1,2,3,14,15,61,62,63,2002,2004,2007,2011,2012,2013,2036,2047] [.arr _ _ _,.arr _ _ _,.arr _ _ _,.arr _ _ _,.arr _ _ _,.arr _ _ _,.arr _ _ _,.arr _ _ _,.box _ _ [vI _ _,vI _ _,vI _ _,vL _ _ _,vL _ _ _,vL _ _ _],.box _ _ [vI _ _,vI _ _,vI _ _,vV _,vV _,vV _],.box _ _ [vI _ _,vI _ _,vI _ _,.own _,.own _,.own _],.box _ _ [vI _ _,vI _ _,vI _ _,vI _ _,vI _ _,vI _ _,vB _],.box _ _ [vI _ _,vI _ _,vI _ _,.own _,.own _,.own _],.box _ _ [vI _ _,vV _],.arr _ _ _,.arr _ _ _] rfl rfl ?_
          refine AW.swap 62 2 ?_
          refine aTt ((famP vs (allS x (es.take k)).ps ++ [.arr ⟨109,some u64⟩ 3 (rowsOf encLine (appP (allS x (es.take k)).now es[k]).lines)])) [4,5,6,7,8,9,21,22,23] [.ptr 2004 _ 0,vV _,vV _,.ptr 2007 _ 0,.own _,.own _,vL _ _ _,vI _ _,vI _ _] [1,2,3,14,15,61,62,63,2002,2004,2007,2011,2012,2013,2036,2047] [.arr _ _ _,.arr _ _ _,.arr _ _ _,.arr _ _ _,.arr _ _ _,.arr _ _ _,.arr _ _ _,.arr _ _ _,.box _ _ [vI _ _,vI _ _,vI _ _,vL _ _ _,vL _ _ _,vL _ _ _],.box _ _ [vI _ _,vI _ _,vI _ _,vV _,vV _,vV _],.box _ _ [vI _ _,vI _ _,vI _ _,.own _,.own _,.own _],.box _ _ [vI _ _,vI _ _,vI _ _,vI _ _,vI _ _,vI _ _,vB _],.box _ _ [vI _ _,vI _ _,vI _ _,.own _,.own _,.own _],.box _ _ [vI _ _,vV _],.arr _ _ _,.arr _ _ _] rfl rfl ?_
          refine AW.swap 63 3 ?_
          refine aTt ((famP vs (allS x (es.take k)).ps ++ [.arr ⟨109,some u64⟩ 3 (rowsOf encLine (appP (allS x (es.take k)).now es[k]).lines)])) [4,5,6,7,8,9,21,22,23] [.ptr 2004 _ 0,vV _,vV _,.ptr 2007 _ 0,.own _,.own _,vL _ _ _,vI _ _,vI _ _] [1,2,3,14,15,61,62,63,2002,2004,2007,2011,2012,2013,2036,2047] [.arr _ _ _,.arr _ _ _,.arr _ _ _,.arr _ _ _,.arr _ _ _,.arr _ _ _,.arr _ _ _,.arr _ _ _,.box _ _ [vI _ _,vI _ _,vI _ _,vL _ _ _,vL _ _ _,vL _ _ _],.box _ _ [vI _ _,vI _ _,vI _ _,vV _,vV _,vV _],.box _ _ [vI _ _,vI _ _,vI _ _,.own _,.own _,.own _],.box _ _ [vI _ _,vI _ _,vI _ _,vI _ _,vI _ _,vI _ _,vB _],.box _ _ [vI _ _,vI _ _,vI _ _,.own _,.own _,.own _],.box _ _ [vI _ _,vV _],.arr _ _ _,.arr _ _ _] rfl rfl ?_
          refine aTt ((famP vs (allS x (es.take k)).ps ++ [.arr ⟨109,some u64⟩ 3 (rowsOf encLine (appP (allS x (es.take k)).now es[k]).lines)])) [4,5,6,7,8,9,21,22,23] [.ptr 2004 _ 0,vV _,vV _,.ptr 2007 _ 0,.own _,.own _,vL _ _ _,vI _ _,vI _ _] [1,2,3,14,15,2002,2004,2007,2011,2012,2013,2036,2047] [.arr _ _ _,.arr _ _ _,.arr _ _ _,.arr _ _ _,.arr _ _ _,.box _ _ [vI _ _,vI _ _,vI _ _,vL _ _ _,vL _ _ _,vL _ _ _],.box _ _ [vI _ _,vI _ _,vI _ _,vV _,vV _,vV _],.box _ _ [vI _ _,vI _ _,vI _ _,.own _,.own _,.own _],.box _ _ [vI _ _,vI _ _,vI _ _,vI _ _,vI _ _,vI _ _,vB _],.box _ _ [vI _ _,vI _ _,vI _ _,.own _,.own _,.own _],.box _ _ [vI _ _,vV _],.arr _ _ _,.arr _ _ _] rfl rfl ?_
          refine aL<|lgI Z<|lmI Z<|nG ?_
          have hn : (allF (allS x (es.take k)) es[k]).now = appB (allS x (es.take k)).now es[k] := allF_ok hc0
          have hl0 : (appP (allS x (es.take k)).now es[k]).lines ≠ [] := fun q => by have h := h4;rw [q] at h;simp [rowsOf] at h
          have hp : (allF (allS x (es.take k)) es[k]).ps = (allS x (es.take k)).ps ++ [appP (allS x (es.take k)).now es[k]] := allF_ps hc0 hl0
          refine ⟨(k + 1,vs ++ [u64]),⟨hk,(by rw [allS_succ hk,hp];simp;omega)⟩,by show es.length - (k + 1) < es.length - k;omega,⟨(iq rfl),trivial⟩,⟨(Eq.trans (congrArg bBox hn.symm) (congrArg (fun s : AllS => bBox s.now) (allS_succ hk).symm)),(Eq.trans (congrArg (fun b : Book => AO.arr 78 7 (rowsOf encChan b.chans)) hn.symm) (congrArg (fun s : AllS => AO.arr 78 7 (rowsOf encChan s.now.chans)) (allS_succ hk).symm)),(Eq.trans (congrArg (fun b : Book => hAr b.htlcs) hn.symm) (congrArg (fun s : AllS => hAr s.now.htlcs) (allS_succ hk).symm)),(Eq.trans (congrArg (fun b : Book => iAr b.circles) hn.symm) (congrArg (fun s : AllS => iAr s.now.circles) (allS_succ hk).symm)),(Eq.trans (congrArg (AO.arr 37 2) (show _ = rowsV (vs ++ [u64]) (allF (allS x (es.take k)) es[k]).ps by rw [hp,rowsV_app hvl])) (congrArg (fun s : AllS => AO.arr 37 2 (rowsV (vs ++ [u64]) s.ps)) (allS_succ hk).symm)),(Eq.trans (Eq.trans (b := nAr ((allS x (es.take k)).codes ++ [applyC (allS x (es.take k)).now es[k]])) (congrArg (AO.arr 3 1) (rowsOf_app encKey _ [_]).symm) rfl) (congrArg (fun s : AllS => nAr s.codes) (allS_succ hk).symm)),trivial⟩,⟨rfl,rfl,rfl,rfl,rfl,rfl,rfl,rfl,trivial⟩,⟨rfl,rfl,trivial⟩,(by rw [allS_succ hk,hp,famP_app hvl];exact tlp)⟩
        · intro h4
          refine aK<|gB<|gT ?_
          have hc0 : applyC (allS x (es.take k)).now es[k] = 0 := by simpa using h3
          refine AW.swap 61 1 ?_
          refine aTt (famP vs (allS x (es.take k)).ps) [4,5,6,7,8,9,21,22,23] [.ptr 2004 _ 0,vV _,vV _,.ptr 2007 _ 0,.own _,.own _,vL _ _ _,vI _ _,vI _ _] [1,2,3,14,15,61,62,63,64,2002,2004,2007,2011,2012,2013,2036] [.arr _ _ _,.arr _ _ _,.arr _ _ _,.arr _ _ _,.arr _ _ _,.arr _ _ _,.arr _ _ _,.arr _ _ _,.arr _ _ _,.box _ _ [vI _ _,vI _ _,vI _ _,vL _ _ _,vL _ _ _,vL _ _ _],.box _ _ [vI _ _,vI _ _,vI _ _,vV _,vV _,vV _],.box _ _ [vI _ _,vI _ _,vI _ _,.own _,.own _,.own _],.box _ _ [vI _ _,vI _ _,vI _ _,vI _ _,vI _ _,vI _ _,vB _],.box _ _ [vI _ _,vI _ _,vI _ _,.own _,.own _,.own _],.box _ _ [vI _ _,.own _],.arr _ _ _] rfl rfl ?_
          refine AW.swap 62 2 ?_
          refine aTt (famP vs (allS x (es.take k)).ps) [4,5,6,7,8,9,21,22,23] [.ptr 2004 _ 0,vV _,vV _,.ptr 2007 _ 0,.own _,.own _,vL _ _ _,vI _ _,vI _ _] [1,2,3,14,15,61,62,63,64,2002,2004,2007,2011,2012,2013,2036] [.arr _ _ _,.arr _ _ _,.arr _ _ _,.arr _ _ _,.arr _ _ _,.arr _ _ _,.arr _ _ _,.arr _ _ _,.arr _ _ _,.box _ _ [vI _ _,vI _ _,vI _ _,vL _ _ _,vL _ _ _,vL _ _ _],.box _ _ [vI _ _,vI _ _,vI _ _,vV _,vV _,vV _],.box _ _ [vI _ _,vI _ _,vI _ _,.own _,.own _,.own _],.box _ _ [vI _ _,vI _ _,vI _ _,vI _ _,vI _ _,vI _ _,vB _],.box _ _ [vI _ _,vI _ _,vI _ _,.own _,.own _,.own _],.box _ _ [vI _ _,.own _],.arr _ _ _] rfl rfl ?_
          refine AW.swap 63 3 ?_
          refine aTt (famP vs (allS x (es.take k)).ps) [4,5,6,7,8,9,21,22,23] [.ptr 2004 _ 0,vV _,vV _,.ptr 2007 _ 0,.own _,.own _,vL _ _ _,vI _ _,vI _ _] [1,2,3,14,15,61,62,63,64,2002,2004,2007,2011,2012,2013,2036] [.arr _ _ _,.arr _ _ _,.arr _ _ _,.arr _ _ _,.arr _ _ _,.arr _ _ _,.arr _ _ _,.arr _ _ _,.arr _ _ _,.box _ _ [vI _ _,vI _ _,vI _ _,vL _ _ _,vL _ _ _,vL _ _ _],.box _ _ [vI _ _,vI _ _,vI _ _,vV _,vV _,vV _],.box _ _ [vI _ _,vI _ _,vI _ _,.own _,.own _,.own _],.box _ _ [vI _ _,vI _ _,vI _ _,vI _ _,vI _ _,vI _ _,vB _],.box _ _ [vI _ _,vI _ _,vI _ _,.own _,.own _,.own _],.box _ _ [vI _ _,.own _],.arr _ _ _] rfl rfl ?_
          refine aTt (famP vs (allS x (es.take k)).ps) [4,5,6,7,8,9,21,22,23] [.ptr 2004 _ 0,vV _,vV _,.ptr 2007 _ 0,.own _,.own _,vL _ _ _,vI _ _,vI _ _] [1,2,3,14,15,2002,2004,2007,2011,2012,2013,2036] [.arr _ _ _,.arr _ _ _,.arr _ _ _,.arr _ _ _,.arr _ _ _,.box _ _ [vI _ _,vI _ _,vI _ _,vL _ _ _,vL _ _ _,vL _ _ _],.box _ _ [vI _ _,vI _ _,vI _ _,vV _,vV _,vV _],.box _ _ [vI _ _,vI _ _,vI _ _,.own _,.own _,.own _],.box _ _ [vI _ _,vI _ _,vI _ _,vI _ _,vI _ _,vI _ _,vB _],.box _ _ [vI _ _,vI _ _,vI _ _,.own _,.own _,.own _],.box _ _ [vI _ _,.own _],.arr _ _ _] rfl rfl ?_
          refine aL<|lgI Z<|lmI Z<|nG ?_
          have hn : (allF (allS x (es.take k)) es[k]).now = appB (allS x (es.take k)).now es[k] := allF_ok hc0
          have hl0 : (appP (allS x (es.take k)).now es[k]).lines = [] := List.length_eq_zero_iff.1 (by have h := h4;simp only [length_rowsOf,decide_eq_false_iff_not] at h;omega)
          have hp : (allF (allS x (es.take k)) es[k]).ps = (allS x (es.take k)).ps := allF_ps2 hl0
          refine ⟨(k + 1,vs),⟨hk,(by rw [allS_succ hk,hp];exact hvl)⟩,by show es.length - (k + 1) < es.length - k;omega,⟨(iq rfl),trivial⟩,⟨(Eq.trans (congrArg bBox hn.symm) (congrArg (fun s : AllS => bBox s.now) (allS_succ hk).symm)),(Eq.trans (congrArg (fun b : Book => AO.arr 78 7 (rowsOf encChan b.chans)) hn.symm) (congrArg (fun s : AllS => AO.arr 78 7 (rowsOf encChan s.now.chans)) (allS_succ hk).symm)),(Eq.trans (congrArg (fun b : Book => hAr b.htlcs) hn.symm) (congrArg (fun s : AllS => hAr s.now.htlcs) (allS_succ hk).symm)),(Eq.trans (congrArg (fun b : Book => iAr b.circles) hn.symm) (congrArg (fun s : AllS => iAr s.now.circles) (allS_succ hk).symm)),(Eq.trans (congrArg (fun p => AO.arr 37 2 (rowsV vs p)) hp.symm) (congrArg (fun s : AllS => AO.arr 37 2 (rowsV vs s.ps)) (allS_succ hk).symm)),(Eq.trans (Eq.trans (b := nAr ((allS x (es.take k)).codes ++ [applyC (allS x (es.take k)).now es[k]])) (congrArg (AO.arr 3 1) (rowsOf_app encKey _ [_]).symm) rfl) (congrArg (fun s : AllS => nAr s.codes) (allS_succ hk).symm)),trivial⟩,⟨rfl,rfl,rfl,rfl,rfl,rfl,rfl,rfl,trivial⟩,⟨rfl,rfl,trivial⟩,(by rw [allS_succ hk,hp];exact tlp)⟩
    · intro h2
      refine aE<|eT<|eT<|eB<|gA<|loX (.agg [vI _ _,vI _ _,vI _ _,.own _,.own _,.own _]) ty.kd34 Z<|lmO Z<|lmO Z<|lst (zB 2004 ty.co34 ty.inf34 Z) Z<|laO Z<|laO Z<|nG<|aR ?_
      have hke : k = es.length := by have h := h2;simp only [length_rowsOf,decide_eq_false_iff_not] at h;omega
      subst hke
      rw [allA_ok hbk]
      rw [List.take_length] at hvl hfr
      have hlp := allS_ps (x := x) (es := es) es.length (Nat.le_refl _)
      rw [List.take_length] at hlp ⊢
      refine end_nret (F1 := (famP vs (allS x es).ps)) (allV (allS x es)) (allOb (allS x es) vs) ?_ (by rw [famP_len hvl];omega) rfl rfl ⟨rfl,rfl,rfl,rfl,rfl,trivial⟩ tlp
      exact ⟨vs,hvl,rfl,rfl,rfl⟩
theorem sapplyAll_e (x : Book) (es : List Event) (hw : BookWf x) (we : ∀ e ∈ es,wfEvent e) (hm : es.length ≤ 1048576) : GN Tryz.prog 17 [bookV x,.p (.lst 41 7 (rowsOf encEvent es))] [] ([]) (allRel (allA x es)) := by
  refine GN.intro (rs := [.cell 4 34 (some 6),.tmp 5,.tmp 6]) Tryz.func17 rfl Tryz.ntmps17 (Nat.le_of_ble_eq_true rfl) ⟨rfl,rfl,ty.kd34,rfl,rfl,trivial⟩ rfl ?_
  intro L O w0
  refine sL<|lst (zX 2002 Z) Z<|lst (zA 2004 ty.ze34 Z) Z<|laV Z<|laV Z<|nG<|aS<|sL<|loX (.agg [vI _ _,vI _ _,vI _ _,vL _ _ _,vL _ _ _,vL _ _ _]) ty.kd34 Z<|lst (zL Tryz.func31 (spec_BookOk_e x hw) Z) Z<|luB Z<|nG ?_
  refine AW.cond rfl ?_ ?_
  · intro h1
    refine sL<|lq (rd (x := .agg [vI _ _,vI _ _,vI _ _,vV _,vV _,vV _]) (rd_build Z ty.sa34 Z Z Z) Z)<|lst (zB 2004 ty.co34 ty.inf34 Z) Z<|laV Z<|laV Z<|nG ?_
    refine AW.adoptB 1 2004 3 78 7 rfl (by decide) rfl ?_
    refine AW.adoptB 2 2004 4 117 7 rfl (by decide) rfl ?_
    refine AW.adoptB 3 2004 5 120 5 rfl (by decide) rfl ?_
    refine AW.adoptT 14 5 37 2 rfl ?_
    refine AW.adoptT 15 6 3 1 rfl ?_
    refine aR<|rT ?_
    have hbk : bookOk x = false := by simpa using h1
    rw [allA_no hbk]
    refine end_nret (F1 := []) (allV ⟨zeroBook,[],[]⟩) (allOb ⟨zeroBook,[],[]⟩ []) ?_ (by simp) rfl rfl ⟨rfl,rfl,rfl,rfl,rfl,trivial⟩ tlp
    exact ⟨[],rfl,rfl,rfl,rfl⟩
  · intro h1
    refine aK<|gT<|aS ?_
    have hbk : bookOk x = true := by simpa using h1
    have fi := bookOk_fi hbk
    have sm := fi.sm
    have hw0 := allS_wf hw we
    refine aL<|loX (.agg [vI _ _,vI _ _,vI _ _,vL _ _ _,vL _ _ _,vL _ _ _]) ty.kd34 Z<|lst (zC [(2003,1),(2008,2),(2013,3)] [1,2,3] [] Tryz.func33 (scopy_e x (by have := sm.lc;have := sm.lh;have := sm.li;omega)) (trivial) rfl rfl) Z<|lst (zA 2007 ty.ze34 rfl) rfl ?_
    refine lTt ([]) [1,4,5,6,7,20] [vL _ _ _,.ptr 2004 _ 0,vV _,vV _,.ptr 2007 _ 0,.agg [vI _ _,vI _ _,vI _ _,.own _,.own _,.own _]] [1,2,3,2002,2004,2007] [.arr _ _ _,.arr _ _ _,.arr _ _ _,.box _ _ [vI _ _,vI _ _,vI _ _,vL _ _ _,vL _ _ _,vL _ _ _],.box _ _ [vI _ _,vI _ _,vI _ _,vV _,vV _,vV _],.box _ _ [vI _ _,vI _ _,vI _ _,vV _,vV _,vV _]] rfl rfl ?_
    refine lst (zB 2007 ty.co34 ty.inf34 rfl) Z<|nA<|lst (zS 14 [] ty.el50 ty.ze37 rfl (by simp)) Z<|laO Z<|nA<|lst (zS 15 [] ty.el51 ty.ze3 rfl (by simp)) Z<|laO Z<|nG<|aS<|sL<|lmL Z<|lnI ty.sl54 Z<|lmI Z<|nG<|aB ?_
    refine AW.loopT (D := Nat × List Value) [(4,.ptr 2004 _ 0),(5,vV _),(6,vV _),(7,.ptr 2007 _ 0),(8,.own _),(9,.own _),(23,vL _ _ _),(24,vI _ _)] [(2002,.box _ _ [vI _ _,vI _ _,vI _ _,vL _ _ _,vL _ _ _,vL _ _ _]),(2004,.box _ _ [vI _ _,vI _ _,vI _ _,vV _,vV _,vV _])] (fun d => [(25,int (d.1 : Int))]) (fun d => [(2007,bBox (allS x (es.take d.1)).now),(1,.arr 78 7 (rowsOf encChan (allS x (es.take d.1)).now.chans)),(2,hAr (allS x (es.take d.1)).now.htlcs),(3,iAr (allS x (es.take d.1)).now.circles),(14,.arr 37 2 (rowsV d.2 (allS x (es.take d.1)).ps)),(15,nAr (allS x (es.take d.1)).codes)]) (fun d => famP d.2 (allS x (es.take d.1)).ps) (fun d => d.1 ≤ es.length ∧ d.2.length = (allS x (es.take d.1)).ps.length) (fun d => es.length - d.1) ((0,[])) (⟨Nat.zero_le _,by rw [List.take_zero];rfl⟩) ⟨rfl,trivial⟩ ⟨(by rw [List.take_zero];rfl),(by rw [List.take_zero];rfl),(by rw [List.take_zero];rfl),(by rw [List.take_zero];rfl),(by rw [List.take_zero];rfl),(by rw [List.take_zero];rfl),trivial⟩ ⟨rfl,rfl,rfl,rfl,rfl,rfl,rfl,rfl,trivial⟩ ⟨rfl,rfl,trivial⟩ (by rw [List.take_zero];exact tlp) ?_
    intro ⟨k,vs⟩ hI
    obtain ⟨hkl,hvl⟩ := hI
    replace hkl : k ≤ es.length := hkl
    replace hvl : vs.length = (allS x (es.take k)).ps.length := hvl
    have hfr : rowF (famP vs (allS x (es.take k)).ps) := famP_row
    refine sL<|lbB Z<|nG<|aS ?_
    refine AW.cond rfl ?_ ?_
    · intro h2
      refine aK<|gT<|aS<|aB<|sL ?_
      have hk : k < es.length := by simpa [length_rowsOf] using h2
      have hwk := hw0 k hkl
      have hlc := allS_codes (x := x) k hkl
      have hlp := allS_ps (x := x) k hkl
      refine li k ty.el54 Z (row_map hk)<|lrX (.agg [vI _ _,vI _ _,vI _ _,vI _ _,vI _ _,vI _ _,vB _]) ty.kd41 Z<|lst (zA 2011 ty.ze41 Z) Z<|lst (zB 2011 ty.co41 ty.inf41 Z) Z<|nG<|aS ?_
      refine AW.pinA 1 rfl ?_
      intro u1
      refine AW.pinA 2 rfl ?_
      intro u2
      refine AW.pinA 3 rfl ?_
      intro u3
      refine aL<|loX (.agg [vI _ _,vI _ _,vI _ _,.own _,.own _,.own _]) ty.kd34 Z<|loX (.agg [vI _ _,vI _ _,vI _ _,vI _ _,vI _ _,vI _ _,vB _]) ty.kd41 Z ?_
      refine lst (zC [(1,1),(2,2),(3,3),(11,61),(12,62),(13,63),(14,64)] [61,62,63,64] [1,2,3] Tryz.func6 (lentBk (sapply_g _ es[k] hwk)) (⟨stays.arr rfl,stays.arr rfl,stays.arr rfl,trivial⟩) rfl rfl) rfl ?_
      refine lTt (famP vs (allS x (es.take k)).ps) [4,5,6,7,8,9,23,24,25,32] [.ptr 2004 _ 0,vV _,vV _,.ptr 2007 _ 0,.own _,.own _,vL _ _ _,vI _ _,vI _ _,.tup [.agg [vI _ _,vI _ _,vI _ _,.own _,.own _,.own _],.agg [vI _ _,.own _],vI _ _]] [1,2,3,14,15,61,62,63,64,2002,2004,2007,2011] [.arr _ _ _,.arr _ _ _,.arr _ _ _,.arr _ _ _,.arr _ _ _,.arr _ _ _,.arr _ _ _,.arr _ _ _,.arr _ _ _,.box _ _ [vI _ _,vI _ _,vI _ _,vL _ _ _,vL _ _ _,vL _ _ _],.box _ _ [vI _ _,vI _ _,vI _ _,vV _,vV _,vV _],.box _ _ [vI _ _,vI _ _,vI _ _,.own _,.own _,.own _],.box _ _ [vI _ _,vI _ _,vI _ _,vI _ _,vI _ _,vI _ _,vB _]] rfl rfl ?_
      refine lmX (.tup [.agg [vI _ _,vI _ _,vI _ _,.own _,.own _,.own _],.agg [vI _ _,.own _],vI _ _]) Z<|lxX (.agg [vI _ _,vI _ _,vI _ _,.own _,.own _,.own _]) Z<|lxX (.agg [vI _ _,.own _]) Z<|lxI Z<|lst (zA 2012 ty.ze34 Z) Z<|lst (zA 2013 ty.ze37 Z) Z<|lst (zB 2012 ty.co34 ty.inf34 Z) Z<|lst (zB 2013 ty.co37 ty.inf37 Z) Z<|laI Z<|nG<|aS<|sL<|lmI Z<|lbB Z<|nG ?_
      refine AW.cond rfl ?_ ?_
      · intro h3
        refine sL<|loX (.agg [vI _ _,vI _ _,vI _ _,.own _,.own _,.own _]) ty.kd34 Z<|lst (zB 2007 ty.co34 ty.inf34 Z) Z<|nA<|lf 0 ty.F37_0 Z<|loI ty.kd3 Z<|lbB Z<|nG ?_
        refine AW.cond rfl ?_ ?_
        · intro h4
          refine aTt (famP vs (allS x (es.take k)).ps) [4,5,6,7,8,9,13,14,23,24,25] [.ptr 2004 _ 0,vV _,vV _,.ptr 2007 _ 0,.own _,.own _,.ptr 2013 _ 0,vI _ _,vL _ _ _,vI _ _,vI _ _] [1,2,3,14,15,61,62,63,64,2002,2004,2007,2011,2012,2013] [.arr _ _ _,.arr _ _ _,.arr _ _ _,.arr _ _ _,.arr _ _ _,.arr _ _ _,.arr _ _ _,.arr _ _ _,.arr _ _ _,.box _ _ [vI _ _,vI _ _,vI _ _,vL _ _ _,vL _ _ _,vL _ _ _],.box _ _ [vI _ _,vI _ _,vI _ _,vV _,vV _,vV _],.box _ _ [vI _ _,vI _ _,vI _ _,.own _,.own _,.own _],.box _ _ [vI _ _,vI _ _,vI _ _,vI _ _,vI _ _,vI _ _,vB _],.box _ _ [vI _ _,vI _ _,vI _ _,.own _,.own _,.own _],.box _ _ [vI _ _,.own _]] rfl rfl ?_
          refine AW.pinA 64 rfl ?_
          intro u64
          refine aTt (famP vs (allS x (es.take k)).ps) [4,5,6,7,8,9,13,14,23,24,25] [.ptr 2004 _ 0,vV _,vV _,.ptr 2007 _ 0,.own _,.own _,.ptr 2013 _ 0,vI _ _,vL _ _ _,vI _ _,vI _ _] [1,2,3,14,15,61,62,63,64,2002,2004,2007,2011,2012,2013] [.arr _ _ _,.arr _ _ _,.arr _ _ _,.arr _ _ _,.arr _ _ _,.arr _ _ _,.arr _ _ _,.arr _ _ _,.arr _ _ _,.box _ _ [vI _ _,vI _ _,vI _ _,vL _ _ _,vL _ _ _,vL _ _ _],.box _ _ [vI _ _,vI _ _,vI _ _,vV _,vV _,vV _],.box _ _ [vI _ _,vI _ _,vI _ _,.own _,.own _,.own _],.box _ _ [vI _ _,vI _ _,vI _ _,vI _ _,vI _ _,vI _ _,vB _],.box _ _ [vI _ _,vI _ _,vI _ _,.own _,.own _,.own _],.box _ _ [vI _ _,.own _]] rfl rfl ?_
          refine AW.absorb 64 rfl rfl famP_row ?_
          have hrf : rowF (famP vs (allS x (es.take k)).ps ++ [.arr ⟨109,some u64⟩ 3 (rowsOf encLine (appP (allS x (es.take k)).now es[k]).lines)]) := famP_row.app (fun o ho => by rw [List.mem_singleton.1 ho];rfl)
          refine aL<|lmO Z<|loX (.agg [vI _ _,vV _]) ty.kd37 Z<|lst (zS 2044 [[.v (.int .i64 (appP (allS x (es.take k)).now es[k]).id),.v u64]] ty.el50 ty.ze37 rfl (by intro r hr;simp at hr;subst hr;rfl)) Z<|lst (zP 14 ty.el50 ty.ze37 ty.by37 rfl (Src.own rfl rfl) (by simp [rowsOf,rowsV_len hvl];omega)) Z<|laO Z<|nG<|aL<|lmO Z<|lmI Z<|lst (zS 2048 (rowsOf encKey [applyC (allS x (es.take k)).now es[k]]) ty.el51 ty.ze3 rfl) Z<|lst (zP 15 ty.el51 ty.ze3 ty.by3 rfl (Src.own rfl rfl) (by simp [rowsOf,rowsV_len hvl];omega)) Z<|laO Z<|lN<|gB<|gT ?_
          have hc0 : applyC (allS x (es.take k)).now es[k] = 0 := by simpa using h3
          refine AW.swap 61 1 ?_
          refine aTt ((famP vs (allS x (es.take k)).ps ++ [.arr ⟨109,some u64⟩ 3 (rowsOf encLine (appP (allS x (es.take k)).now es[k]).lines)])) [4,5,6,7,8,9,23,24,25] [.ptr 2004 _ 0,vV _,vV _,.ptr 2007 _ 0,.own _,.own _,vL _ _ _,vI _ _,vI _ _] [1,2,3,14,15,61,62,63,2002,2004,2007,2011,2012,2013,2044,2048] [.arr _ _ _,.arr _ _ _,.arr _ _ _,.arr _ _ _,.arr _ _ _,.arr _ _ _,.arr _ _ _,.arr _ _ _,.box _ _ [vI _ _,vI _ _,vI _ _,vL _ _ _,vL _ _ _,vL _ _ _],.box _ _ [vI _ _,vI _ _,vI _ _,vV _,vV _,vV _],.box _ _ [vI _ _,vI _ _,vI _ _,.own _,.own _,.own _],.box _ _ [vI _ _,vI _ _,vI _ _,vI _ _,vI _ _,vI _ _,vB _],.box _ _ [vI _ _,vI _ _,vI _ _,.own _,.own _,.own _],.box _ _ [vI _ _,vV _],.arr _ _ _,.arr _ _ _] rfl rfl ?_
          refine AW.swap 62 2 ?_
          refine aTt ((famP vs (allS x (es.take k)).ps ++ [.arr ⟨109,some u64⟩ 3 (rowsOf encLine (appP (allS x (es.take k)).now es[k]).lines)])) [4,5,6,7,8,9,23,24,25] [.ptr 2004 _ 0,vV _,vV _,.ptr 2007 _ 0,.own _,.own _,vL _ _ _,vI _ _,vI _ _] [1,2,3,14,15,61,62,63,2002,2004,2007,2011,2012,2013,2044,2048] [.arr _ _ _,.arr _ _ _,.arr _ _ _,.arr _ _ _,.arr _ _ _,.arr _ _ _,.arr _ _ _,.arr _ _ _,.box _ _ [vI _ _,vI _ _,vI _ _,vL _ _ _,vL _ _ _,vL _ _ _],.box _ _ [vI _ _,vI _ _,vI _ _,vV _,vV _,vV _],.box _ _ [vI _ _,vI _ _,vI _ _,.own _,.own _,.own _],.box _ _ [vI _ _,vI _ _,vI _ _,vI _ _,vI _ _,vI _ _,vB _],.box _ _ [vI _ _,vI _ _,vI _ _,.own _,.own _,.own _],.box _ _ [vI _ _,vV _],.arr _ _ _,.arr _ _ _] rfl rfl ?_
          refine AW.swap 63 3 ?_
          refine aTt ((famP vs (allS x (es.take k)).ps ++ [.arr ⟨109,some u64⟩ 3 (rowsOf encLine (appP (allS x (es.take k)).now es[k]).lines)])) [4,5,6,7,8,9,23,24,25] [.ptr 2004 _ 0,vV _,vV _,.ptr 2007 _ 0,.own _,.own _,vL _ _ _,vI _ _,vI _ _] [1,2,3,14,15,61,62,63,2002,2004,2007,2011,2012,2013,2044,2048] [.arr _ _ _,.arr _ _ _,.arr _ _ _,.arr _ _ _,.arr _ _ _,.arr _ _ _,.arr _ _ _,.arr _ _ _,.box _ _ [vI _ _,vI _ _,vI _ _,vL _ _ _,vL _ _ _,vL _ _ _],.box _ _ [vI _ _,vI _ _,vI _ _,vV _,vV _,vV _],.box _ _ [vI _ _,vI _ _,vI _ _,.own _,.own _,.own _],.box _ _ [vI _ _,vI _ _,vI _ _,vI _ _,vI _ _,vI _ _,vB _],.box _ _ [vI _ _,vI _ _,vI _ _,.own _,.own _,.own _],.box _ _ [vI _ _,vV _],.arr _ _ _,.arr _ _ _] rfl rfl ?_
          refine aTt ((famP vs (allS x (es.take k)).ps ++ [.arr ⟨109,some u64⟩ 3 (rowsOf encLine (appP (allS x (es.take k)).now es[k]).lines)])) [4,5,6,7,8,9,23,24,25] [.ptr 2004 _ 0,vV _,vV _,.ptr 2007 _ 0,.own _,.own _,vL _ _ _,vI _ _,vI _ _] [1,2,3,14,15,2002,2004,2007,2011,2012,2013,2044,2048] [.arr _ _ _,.arr _ _ _,.arr _ _ _,.arr _ _ _,.arr _ _ _,.box _ _ [vI _ _,vI _ _,vI _ _,vL _ _ _,vL _ _ _,vL _ _ _],.box _ _ [vI _ _,vI _ _,vI _ _,vV _,vV _,vV _],.box _ _ [vI _ _,vI _ _,vI _ _,.own _,.own _,.own _],.box _ _ [vI _ _,vI _ _,vI _ _,vI _ _,vI _ _,vI _ _,vB _],.box _ _ [vI _ _,vI _ _,vI _ _,.own _,.own _,.own _],.box _ _ [vI _ _,vV _],.arr _ _ _,.arr _ _ _] rfl rfl ?_
          refine aL<|lgI Z<|lmI Z<|nG ?_
          have hn : (allF (allS x (es.take k)) es[k]).now = appB (allS x (es.take k)).now es[k] := allF_ok hc0
          have hid := appP_id hc0
          have hl0 : (appP (allS x (es.take k)).now es[k]).lines ≠ [] := by have h := h4;rw [hid] at h;simpa using h
          have hp : (allF (allS x (es.take k)) es[k]).ps = (allS x (es.take k)).ps ++ [appP (allS x (es.take k)).now es[k]] := allF_ps hc0 hl0
          refine ⟨(k + 1,vs ++ [u64]),⟨hk,(by rw [allS_succ hk,hp];simp;omega)⟩,by show es.length - (k + 1) < es.length - k;omega,⟨(iq rfl),trivial⟩,⟨(Eq.trans (congrArg bBox hn.symm) (congrArg (fun s : AllS => bBox s.now) (allS_succ hk).symm)),(Eq.trans (congrArg (fun b : Book => AO.arr 78 7 (rowsOf encChan b.chans)) hn.symm) (congrArg (fun s : AllS => AO.arr 78 7 (rowsOf encChan s.now.chans)) (allS_succ hk).symm)),(Eq.trans (congrArg (fun b : Book => hAr b.htlcs) hn.symm) (congrArg (fun s : AllS => hAr s.now.htlcs) (allS_succ hk).symm)),(Eq.trans (congrArg (fun b : Book => iAr b.circles) hn.symm) (congrArg (fun s : AllS => iAr s.now.circles) (allS_succ hk).symm)),(Eq.trans (congrArg (AO.arr 37 2) (show _ = rowsV (vs ++ [u64]) (allF (allS x (es.take k)) es[k]).ps by rw [hp,rowsV_app hvl])) (congrArg (fun s : AllS => AO.arr 37 2 (rowsV (vs ++ [u64]) s.ps)) (allS_succ hk).symm)),(Eq.trans (Eq.trans (b := nAr ((allS x (es.take k)).codes ++ [applyC (allS x (es.take k)).now es[k]])) (congrArg (AO.arr 3 1) (rowsOf_app encKey _ [_]).symm) rfl) (congrArg (fun s : AllS => nAr s.codes) (allS_succ hk).symm)),trivial⟩,⟨rfl,rfl,rfl,rfl,rfl,rfl,rfl,rfl,trivial⟩,⟨rfl,rfl,trivial⟩,(by rw [allS_succ hk,hp,famP_app hvl];exact tlp)⟩
        · intro h4
          refine aK<|gT<|aL<|lmO Z<|lmI Z<|lst (zS 2048 (rowsOf encKey [applyC (allS x (es.take k)).now es[k]]) ty.el51 ty.ze3 rfl) Z<|lst (zP 15 ty.el51 ty.ze3 ty.by3 rfl (Src.own rfl rfl) (by simp [rowsOf,rowsV_len hvl];omega)) Z<|laO Z<|lN<|gB<|gT ?_
          have hc0 : applyC (allS x (es.take k)).now es[k] = 0 := by simpa using h3
          refine AW.swap 61 1 ?_
          refine aTt (famP vs (allS x (es.take k)).ps) [4,5,6,7,8,9,23,24,25] [.ptr 2004 _ 0,vV _,vV _,.ptr 2007 _ 0,.own _,.own _,vL _ _ _,vI _ _,vI _ _] [1,2,3,14,15,61,62,63,64,2002,2004,2007,2011,2012,2013,2048] [.arr _ _ _,.arr _ _ _,.arr _ _ _,.arr _ _ _,.arr _ _ _,.arr _ _ _,.arr _ _ _,.arr _ _ _,.arr _ _ _,.box _ _ [vI _ _,vI _ _,vI _ _,vL _ _ _,vL _ _ _,vL _ _ _],.box _ _ [vI _ _,vI _ _,vI _ _,vV _,vV _,vV _],.box _ _ [vI _ _,vI _ _,vI _ _,.own _,.own _,.own _],.box _ _ [vI _ _,vI _ _,vI _ _,vI _ _,vI _ _,vI _ _,vB _],.box _ _ [vI _ _,vI _ _,vI _ _,.own _,.own _,.own _],.box _ _ [vI _ _,.own _],.arr _ _ _] rfl rfl ?_
          refine AW.swap 62 2 ?_
          refine aTt (famP vs (allS x (es.take k)).ps) [4,5,6,7,8,9,23,24,25] [.ptr 2004 _ 0,vV _,vV _,.ptr 2007 _ 0,.own _,.own _,vL _ _ _,vI _ _,vI _ _] [1,2,3,14,15,61,62,63,64,2002,2004,2007,2011,2012,2013,2048] [.arr _ _ _,.arr _ _ _,.arr _ _ _,.arr _ _ _,.arr _ _ _,.arr _ _ _,.arr _ _ _,.arr _ _ _,.arr _ _ _,.box _ _ [vI _ _,vI _ _,vI _ _,vL _ _ _,vL _ _ _,vL _ _ _],.box _ _ [vI _ _,vI _ _,vI _ _,vV _,vV _,vV _],.box _ _ [vI _ _,vI _ _,vI _ _,.own _,.own _,.own _],.box _ _ [vI _ _,vI _ _,vI _ _,vI _ _,vI _ _,vI _ _,vB _],.box _ _ [vI _ _,vI _ _,vI _ _,.own _,.own _,.own _],.box _ _ [vI _ _,.own _],.arr _ _ _] rfl rfl ?_
          refine AW.swap 63 3 ?_
          refine aTt (famP vs (allS x (es.take k)).ps) [4,5,6,7,8,9,23,24,25] [.ptr 2004 _ 0,vV _,vV _,.ptr 2007 _ 0,.own _,.own _,vL _ _ _,vI _ _,vI _ _] [1,2,3,14,15,61,62,63,64,2002,2004,2007,2011,2012,2013,2048] [.arr _ _ _,.arr _ _ _,.arr _ _ _,.arr _ _ _,.arr _ _ _,.arr _ _ _,.arr _ _ _,.arr _ _ _,.arr _ _ _,.box _ _ [vI _ _,vI _ _,vI _ _,vL _ _ _,vL _ _ _,vL _ _ _],.box _ _ [vI _ _,vI _ _,vI _ _,vV _,vV _,vV _],.box _ _ [vI _ _,vI _ _,vI _ _,.own _,.own _,.own _],.box _ _ [vI _ _,vI _ _,vI _ _,vI _ _,vI _ _,vI _ _,vB _],.box _ _ [vI _ _,vI _ _,vI _ _,.own _,.own _,.own _],.box _ _ [vI _ _,.own _],.arr _ _ _] rfl rfl ?_
          refine aTt (famP vs (allS x (es.take k)).ps) [4,5,6,7,8,9,23,24,25] [.ptr 2004 _ 0,vV _,vV _,.ptr 2007 _ 0,.own _,.own _,vL _ _ _,vI _ _,vI _ _] [1,2,3,14,15,2002,2004,2007,2011,2012,2013,2048] [.arr _ _ _,.arr _ _ _,.arr _ _ _,.arr _ _ _,.arr _ _ _,.box _ _ [vI _ _,vI _ _,vI _ _,vL _ _ _,vL _ _ _,vL _ _ _],.box _ _ [vI _ _,vI _ _,vI _ _,vV _,vV _,vV _],.box _ _ [vI _ _,vI _ _,vI _ _,.own _,.own _,.own _],.box _ _ [vI _ _,vI _ _,vI _ _,vI _ _,vI _ _,vI _ _,vB _],.box _ _ [vI _ _,vI _ _,vI _ _,.own _,.own _,.own _],.box _ _ [vI _ _,.own _],.arr _ _ _] rfl rfl ?_
          refine aL<|lgI Z<|lmI Z<|nG ?_
          have hn : (allF (allS x (es.take k)) es[k]).now = appB (allS x (es.take k)).now es[k] := allF_ok hc0
          have hid := appP_id hc0
          have hl0 : (appP (allS x (es.take k)).now es[k]).lines = [] := by have h := h4;rw [hid] at h;simpa using h
          have hp : (allF (allS x (es.take k)) es[k]).ps = (allS x (es.take k)).ps := allF_ps2 hl0
          refine ⟨(k + 1,vs),⟨hk,(by rw [allS_succ hk,hp];exact hvl)⟩,by show es.length - (k + 1) < es.length - k;omega,⟨(iq rfl),trivial⟩,⟨(Eq.trans (congrArg bBox hn.symm) (congrArg (fun s : AllS => bBox s.now) (allS_succ hk).symm)),(Eq.trans (congrArg (fun b : Book => AO.arr 78 7 (rowsOf encChan b.chans)) hn.symm) (congrArg (fun s : AllS => AO.arr 78 7 (rowsOf encChan s.now.chans)) (allS_succ hk).symm)),(Eq.trans (congrArg (fun b : Book => hAr b.htlcs) hn.symm) (congrArg (fun s : AllS => hAr s.now.htlcs) (allS_succ hk).symm)),(Eq.trans (congrArg (fun b : Book => iAr b.circles) hn.symm) (congrArg (fun s : AllS => iAr s.now.circles) (allS_succ hk).symm)),(Eq.trans (congrArg (fun p => AO.arr 37 2 (rowsV vs p)) hp.symm) (congrArg (fun s : AllS => AO.arr 37 2 (rowsV vs s.ps)) (allS_succ hk).symm)),(Eq.trans (Eq.trans (b := nAr ((allS x (es.take k)).codes ++ [applyC (allS x (es.take k)).now es[k]])) (congrArg (AO.arr 3 1) (rowsOf_app encKey _ [_]).symm) rfl) (congrArg (fun s : AllS => nAr s.codes) (allS_succ hk).symm)),trivial⟩,⟨rfl,rfl,rfl,rfl,rfl,rfl,rfl,rfl,trivial⟩,⟨rfl,rfl,trivial⟩,(by rw [allS_succ hk,hp];exact tlp)⟩
      · intro h3
        refine aK<|gT<|aL<|lmO Z<|lmI Z<|lst (zS 2048 (rowsOf encKey [applyC (allS x (es.take k)).now es[k]]) ty.el51 ty.ze3 rfl) Z<|lst (zP 15 ty.el51 ty.ze3 ty.by3 rfl (Src.own rfl rfl) (by simp [rowsOf,rowsV_len hvl];omega)) Z<|laO Z<|lN<|gB<|gT ?_
        have hc0 : applyC (allS x (es.take k)).now es[k] ≠ 0 := by simpa using h3
        refine AW.unpin 1 rfl ?_
        refine AW.unpin 2 rfl ?_
        refine AW.unpin 3 rfl ?_
        refine aTt (famP vs (allS x (es.take k)).ps) [4,5,6,7,8,9,23,24,25] [.ptr 2004 _ 0,vV _,vV _,.ptr 2007 _ 0,.own _,.own _,vL _ _ _,vI _ _,vI _ _] [1,2,3,14,15,2002,2004,2007,2011,2012,2013,2048] [.arr _ _ _,.arr _ _ _,.arr _ _ _,.arr _ _ _,.arr _ _ _,.box _ _ [vI _ _,vI _ _,vI _ _,vL _ _ _,vL _ _ _,vL _ _ _],.box _ _ [vI _ _,vI _ _,vI _ _,vV _,vV _,vV _],.box _ _ [vI _ _,vI _ _,vI _ _,.own _,.own _,.own _],.box _ _ [vI _ _,vI _ _,vI _ _,vI _ _,vI _ _,vI _ _,vB _],.box _ _ [vI _ _,vI _ _,vI _ _,.own _,.own _,.own _],.box _ _ [vI _ _,.own _],.arr _ _ _] rfl rfl ?_
        refine aL<|lgI Z<|lmI Z<|nG ?_
        have hn : (allF (allS x (es.take k)) es[k]).now = (allS x (es.take k)).now := allF_no hc0
        have hp : (allF (allS x (es.take k)) es[k]).ps = (allS x (es.take k)).ps := allF_ps1 hc0
        refine ⟨(k + 1,vs),⟨hk,(by rw [allS_succ hk,hp];exact hvl)⟩,by show es.length - (k + 1) < es.length - k;omega,⟨(iq rfl),trivial⟩,⟨(Eq.trans (congrArg bBox hn.symm) (congrArg (fun s : AllS => bBox s.now) (allS_succ hk).symm)),(Eq.trans (congrArg (fun b : Book => AO.arr 78 7 (rowsOf encChan b.chans)) hn.symm) (congrArg (fun s : AllS => AO.arr 78 7 (rowsOf encChan s.now.chans)) (allS_succ hk).symm)),(Eq.trans (congrArg (fun b : Book => hAr b.htlcs) hn.symm) (congrArg (fun s : AllS => hAr s.now.htlcs) (allS_succ hk).symm)),(Eq.trans (congrArg (fun b : Book => iAr b.circles) hn.symm) (congrArg (fun s : AllS => iAr s.now.circles) (allS_succ hk).symm)),(Eq.trans (congrArg (fun p => AO.arr 37 2 (rowsV vs p)) hp.symm) (congrArg (fun s : AllS => AO.arr 37 2 (rowsV vs s.ps)) (allS_succ hk).symm)),(Eq.trans (Eq.trans (b := nAr ((allS x (es.take k)).codes ++ [applyC (allS x (es.take k)).now es[k]])) (congrArg (AO.arr 3 1) (rowsOf_app encKey _ [_]).symm) rfl) (congrArg (fun s : AllS => nAr s.codes) (allS_succ hk).symm)),trivial⟩,⟨rfl,rfl,rfl,rfl,rfl,rfl,rfl,rfl,trivial⟩,⟨rfl,rfl,trivial⟩,(by rw [allS_succ hk,hp];exact tlp)⟩
    · intro h2
      refine aE<|eT<|eT<|eB<|gA<|loX (.agg [vI _ _,vI _ _,vI _ _,.own _,.own _,.own _]) ty.kd34 Z<|lmO Z<|lmO Z<|lst (zB 2004 ty.co34 ty.inf34 Z) Z<|laO Z<|laO Z<|nG<|aR ?_
      have hke : k = es.length := by have h := h2;simp only [length_rowsOf,decide_eq_false_iff_not] at h;omega
      subst hke
      rw [allA_ok hbk]
      rw [List.take_length] at hvl hfr
      have hlp := allS_ps (x := x) (es := es) es.length (Nat.le_refl _)
      rw [List.take_length] at hlp ⊢
      refine end_nret (F1 := (famP vs (allS x es).ps)) (allV (allS x es)) (allOb (allS x es) vs) ?_ (by rw [famP_len hvl];omega) rfl rfl ⟨rfl,rfl,rfl,rfl,rfl,trivial⟩ tlp
      exact ⟨vs,hvl,rfl,rfl,rfl⟩

def pcnt (ps : List Posting) : Int := tot (fun p : Posting => 1 + 3 * (p.lines.length : Int)) ps
abbrev mkP1 (p : Posting) (k : Int) : Posting := ⟨k,mkdLine (k + 1) p.lines.length⟩
def mkPs : List Posting → Int → List Posting
  | [],_ => []
  | p :: ps,k => mkP1 p k :: mkPs ps (k + (1 + 3 * (p.lines.length : Int)))
theorem pcnt_nil : pcnt [] = 0 := rfl
theorem pcnt_cons {p : Posting} {ps : List Posting} : pcnt (p :: ps) = 1 + 3 * (p.lines.length : Int) + pcnt ps := by unfold pcnt tot;simp
theorem pcnt_app : ∀ {a b : List Posting},pcnt (a ++ b) = pcnt a + pcnt b
  | [],b => by rw [pcnt_nil];simp
  | p :: a,b => by rw [List.cons_append,pcnt_cons,pcnt_cons,pcnt_app];omega
theorem pcnt_bd : ∀ {ps : List Posting},(∀ p ∈ ps,p.lines.length ≤ 100000) → 0 ≤ pcnt ps ∧ pcnt ps ≤ 300001 * (ps.length : Int)
  | [],_ => by rw [pcnt_nil];simp
  | p :: ps,h => by
    have h1 := h p (by simp)
    have h2 := pcnt_bd (ps := ps) (fun q hq => h q (by simp [hq]))
    rw [pcnt_cons,List.length_cons]
    omega
theorem mkPs_len : ∀ {ps : List Posting} {k : Int},(mkPs ps k).length = ps.length
  | [],_ => rfl
  | p :: ps,k => by unfold mkPs;rw [List.length_cons,List.length_cons,mkPs_len]
theorem mkPs_app : ∀ {a b : List Posting} {k : Int},mkPs (a ++ b) k = mkPs a k ++ mkPs b (k + pcnt a)
  | [],b,k => by rw [pcnt_nil];simp [mkPs]
  | p :: a,b,k => by
    rw [List.cons_append,mkPs,mkPs,mkPs_app,pcnt_cons,List.cons_append]
    congr 3;omega
theorem mkPs_get : ∀ {ps : List Posting} {k : Int} {j : Nat} (h : j < ps.length),(mkPs ps k)[j]'(by rw [mkPs_len];exact h) = mkP1 ps[j] (k + pcnt (ps.take j))
  | p :: ps,k,0,h => by simp [mkPs,pcnt_nil]
  | p :: ps,k,j + 1,h => by
    have := mkPs_get (ps := ps) (k := k + (1 + 3 * (p.lines.length : Int))) (j := j) (by simpa using h)
    simp only [mkPs,List.getElem_cons_succ,this,List.take_succ_cons,pcnt_cons]
    congr 1;omega
def mkPj (ps : List Posting) (k : Int) (j : Nat) : List Posting := mkPs (ps.take j) k ++ ps.drop j
theorem mkPj_len {ps : List Posting} {k : Int} {j : Nat} : (mkPj ps k j).length = ps.length := by unfold mkPj;rw [List.length_append,mkPs_len,List.length_take,List.length_drop];omega
theorem mkPj_zero {ps : List Posting} {k : Int} : mkPj ps k 0 = ps := by unfold mkPj;rw [List.take_zero,List.drop_zero];rfl
theorem mkPj_all {ps : List Posting} {k : Int} : mkPj ps k ps.length = mkPs ps k := by unfold mkPj;rw [List.take_length,List.drop_length,List.append_nil]
theorem mkPj_at {ps : List Posting} {k : Int} {j : Nat} (h : j < ps.length) : (mkPj ps k j)[j]'(by rw [mkPj_len];exact h) = ps[j] := by
  unfold mkPj
  have hl : (mkPs (ps.take j) k).length = j := by rw [mkPs_len,List.length_take];omega
  rw [List.getElem_append_right (by omega)]
  simp [hl]
theorem pcnt_take {ps : List Posting} {j : Nat} (h : j < ps.length) : pcnt (ps.take (j + 1)) = pcnt (ps.take j) + (1 + 3 * (ps[j].lines.length : Int)) := by
  rw [List.take_succ_eq_append_getElem h,pcnt_app,pcnt_cons,pcnt_nil];omega
theorem mkPj_succ {ps : List Posting} {k : Int} {j : Nat} (h : j < ps.length) : mkPj ps k (j + 1) = (mkPj ps k j).set j (mkP1 ps[j] (k + pcnt (ps.take j))) := by
  unfold mkPj
  have hl : (mkPs (ps.take j) k).length = j := by rw [mkPs_len,List.length_take];omega
  rw [List.take_succ_eq_append_getElem h,mkPs_app,List.set_append_right _ _ (by omega),hl,Nat.sub_self,List.drop_eq_getElem_cons h,List.set_cons_zero,List.append_assoc]
  rfl
theorem rowsV_set {vs : List Value} {ps : List Posting} {j : Nat} {p : Posting} {v : Value} (hv : vs[j]? = some v) : rowsV vs (ps.set j p) = (rowsV vs ps).set j [.v (.int .i64 p.id),.v v] := by
  apply List.ext_getElem?
  intro i
  unfold rowsV
  rw [List.getElem?_zipWith,List.getElem?_set,List.getElem?_set,List.getElem?_zipWith,List.length_zipWith]
  by_cases e : j = i
  · subst e
    have hjv := (List.getElem?_eq_some_iff.1 hv).1
    rw [hv]
    by_cases q : j < ps.length
    · simp [q,hjv];omega
    · simp [q];omega
  · simp [e]
theorem famP_set {vs : List Value} {ps : List Posting} {j : Nat} {p : Posting} {v : Value} (hv : vs[j]? = some v) : famP vs (ps.set j p) = (famP vs ps).set j (.arr ⟨109,some v⟩ 3 (rowsOf encLine p.lines)) := by
  apply List.ext_getElem?
  intro i
  unfold famP
  rw [List.getElem?_zipWith,List.getElem?_set,List.getElem?_set,List.getElem?_zipWith,List.length_zipWith]
  by_cases e : j = i
  · subst e
    have hjv := (List.getElem?_eq_some_iff.1 hv).1
    rw [hv]
    by_cases q : j < ps.length
    · simp [q,hjv];omega
    · simp [q];omega
  · simp [e]
theorem allS_lines {x : Book} {es : List Event} (hw : BookWf x) (we : ∀ e ∈ es,wfEvent e) : ∀ k,k ≤ es.length → ∀ p ∈ (allS x (es.take k)).ps,p.lines.length ≤ 100000
  | 0,_,p,hp => by rw [List.take_zero] at hp;cases hp
  | k + 1,h,p,hp => by
    rw [allS_succ (by omega)] at hp
    have ih := allS_lines hw we k (by omega)
    have hk := allS_wf hw we k (by omega)
    unfold allF at hp
    dsimp only at hp
    split at hp
    · rcases List.mem_append.1 hp with hp | hp
      · exact ih p hp
      · rw [List.mem_singleton.1 hp]
        exact (appB_len hk (we _ (List.getElem_mem _))).2.2.2
    · exact ih p hp
theorem allS_lens {x : Book} {es : List Event} (hw : BookWf x) (we : ∀ e ∈ es,wfEvent e) (hh : x.htlcs.length ≤ 1048576) (hi : x.circles.length ≤ 1048576) : ∀ k,k ≤ es.length → (allS x (es.take k)).now.htlcs.length ≤ 1048576 ∧ (allS x (es.take k)).now.circles.length ≤ 1048576
  | 0,_ => by rw [List.take_zero];exact ⟨hh,hi⟩
  | k + 1,h => by
    rw [allS_succ (by omega)]
    have ih := allS_lens hw we hh hi k (by omega)
    have hk := allS_wf hw we k (by omega)
    have := appB_len hk (we _ (List.getElem_mem (h := (by omega : k < es.length))))
    unfold allF
    dsimp only
    split
    · exact ⟨by omega,by omega⟩
    · exact ih
structure AllB (r : AllS) (n : Nat) : Prop where
  lc : r.now.chans.length ≤ 1048576
  lh : r.now.htlcs.length ≤ 1048576
  li : r.now.circles.length ≤ 1048576
  lp : r.ps.length ≤ n
  lk : r.codes.length ≤ n
  ll : ∀ p ∈ r.ps,p.lines.length ≤ 100000
theorem allB {x : Book} {es : List Event} (hw : BookWf x) (we : ∀ e ∈ es,wfEvent e) (hh : x.htlcs.length ≤ 1048576) (hi : x.circles.length ≤ 1048576) : AllB (allA x es) es.length := by
  unfold allA
  split
  · have h1 := allS_wf hw we es.length (Nat.le_refl _)
    have h2 := allS_lens hw we hh hi es.length (Nat.le_refl _)
    have h3 := allS_ps (x := x) (es := es) es.length (Nat.le_refl _)
    have h4 := allS_codes (x := x) (es := es) es.length (Nat.le_refl _)
    have h5 := allS_lines hw we es.length (Nat.le_refl _)
    rw [List.take_length] at *
    exact ⟨h1.len,h2.1,h2.2,h3,by omega,h5⟩
  · exact ⟨by simp [zeroBook],by simp [zeroBook],by simp [zeroBook],by simp,by simp,by simp⟩

theorem row_mapP {ps : List Posting} {k : Nat} (hk : k < ps.length) : (rowsP ps)[k]? = some [.v (.int .i64 ps[k].id),.lst 109 3 (rowsOf encLine ps[k].lines)] := by
  unfold rowsP
  rw [List.getElem?_map,List.getElem?_eq_getElem hk]
  rfl
theorem eqPostingS_e (ps : List Posting) (hm : ps.length ≤ 1048576) (hl : ∀ p ∈ ps,p.lines.length ≤ 100000) : GC Tryz.prog 20 [.p (.lst 37 2 (rowsP ps)),.p (.lst 37 2 (rowsP ps))] [] (boo true) [] := by
 refine gi 4 Tryz.func20 rfl Tryz.ntmps20 rfl ?_
 intro L O w0
 refine sL<|laZ Z<|nG<|aS<|sL<|lmL Z<|lnI ty.sl50 Z<|lmL Z<|lnI ty.sl50 Z<|lbB Z<|lsB 10 false rfl (by simp)<|nG<|aN Z<|aK<|gT<|aS<|sL<|laI Z<|nG<|aB ?_
 refine AW.loopE [(0,vL _ _ _),(1,vL _ _ _),(4,vB false)] [] (D := Nat) (fun k => [(5,int (k : Int))]) (fun k => []) (fun k => k ≤ ps.length) (fun k => ps.length - k) (0) (Nat.zero_le _) ⟨rfl,trivial⟩ trivial ⟨rfl,rfl,rfl,trivial⟩ trivial ?_
 intro k hI
 refine aS<|sL<|lmI Z<|lmL Z<|lnI ty.sl50 Z<|lbB Z<|nG ?_
 refine AW.cond rfl ?_ ?_
 ·intro h1
  refine aK<|gT<|aS<|aB<|aS<|aF []<|pq 0 (qmL Z)<|pq 1 (qmX (vI _ _) Z) ?_
  have hk : k < ps.length := by have h := h1;simp only [rowsP_len,decide_eq_true_eq] at h;omega
  have hlk := hl _ (List.getElem_mem hk)
  refine sq 2 (ri k ty.el50 rfl (row_mapP hk))<|sq 3 (rrX (.agg [vI _ _,vL _ _ _]) ty.kd37 rfl)<|pq 4 (qmL rfl)<|vq 5 (rmI rfl)<|vq 6 (ri k ty.el50 rfl (row_mapP hk))<|vq 7 (rrX (.agg [vI _ _,vL _ _ _]) ty.kd37 rfl)<|vst 8 rfl (zL Tryz.func11 (eqPosting_e _ (by omega)) rfl) (.inr rfl)<|fT [0,1,4,5,25] [vL _ _ _,vL _ _ _,vB false,vI _ _,vB true] [] [] rfl Z<|vq 9 (ruZ rfl)<|fsB 26 false rfl (by simp)<|fD<|gT<|aN Z<|aK<|gB<|gT<|aL<|lmI Z<|lgI Z<|laI Z<|nG ?_
  refine ⟨k + 1,hk,by omega,⟨(iq rfl),trivial⟩,trivial,⟨rfl,rfl,rfl,trivial⟩,trivial⟩
 ·intro h1
  refine aE<|eT<|eT<|eB<|gA<|laT Z<|nG<|aR ?_
  refine end_ret ?_ trivial
  rfl
theorem heldPostingS_e (ps : List Posting) (k : Int) (hm : ps.length ≤ 1048576) (hl : ∀ p ∈ ps,p.lines.length ≤ 100000) (hk : 0 ≤ k ∧ k ≤ 100000000000) : GC Tryz.prog 26 [.p (.lst 37 2 (rowsP (mkPs ps k))),int k] [] (int (k + pcnt ps)) [] := by
 refine gi 4 Tryz.func26 rfl Tryz.ntmps26 rfl ?_
 intro L O w0
 refine sL<|laI Z<|nG<|aS<|sL<|laI Z<|nG<|aB ?_
 refine AW.loopE [(0,vL _ _ _),(4,vI _ _)] [] (D := Nat) (fun j => [(5,int (j : Int)),(1,int (k + pcnt (ps.take j)))]) (fun j => []) (fun j => j ≤ ps.length) (fun j => ps.length - j) (0) (Nat.zero_le _) ⟨rfl,(congrArg int (by rw [List.take_zero,pcnt_nil];omega)),trivial⟩ trivial ⟨rfl,rfl,trivial⟩ trivial ?_
 intro j hI
 refine aS<|sL<|lmI Z<|lmL Z<|lnI ty.sl50 Z<|lbB Z<|nG ?_
 refine AW.cond rfl ?_ ?_
 ·intro h1
  refine aK<|gT<|aS<|aB<|aS<|aS ?_
  have hj : j < ps.length := by have h := h1;simp only [rowsP_len,mkPs_len,decide_eq_true_eq] at h;omega
  have hlj := hl _ (List.getElem_mem hj)
  obtain ⟨hb1,hb2⟩ := pcnt_bd (ps := ps.take j) (fun p hp => hl p (List.mem_of_mem_take hp))
  rw [List.length_take] at hb2
  have hrow := row_mapP (ps := mkPs ps k) (k := j) (by rw [mkPs_len];exact hj)
  rw [mkPs_get hj] at hrow
  have hpt := pcnt_take hj
  refine aL<|lmL Z<|lmI Z<|li j ty.el50 rfl (hrow)<|lq (rd (x := .rp _) (zfr ty.F37_0 rfl) rfl)<|lrI ty.kd3 Z<|lmI Z<|lbB Z<|lsB 18 false rfl (by simp)<|nG<|aN Z<|aK<|gA<|lmI Z<|lgI Z<|laI Z<|nA<|lmL Z<|lmI Z<|li j ty.el50 rfl (hrow)<|lq (rd (x := .rp _) (zfr ty.F37_1 rfl) rfl)<|lrL ty.kd35 Z<|lmI Z<|lst (zL Tryz.func72 (heldLineS_e _ _ (by omega) (by omega)) rfl) rfl ?_
  refine lT [0,1,4,5,27] [vL _ _ _,vI _ _,vI _ _,vI _ _,vI _ _] [] [] rfl Z<|laI Z<|nA<|lmI Z<|lbB Z<|lsB 29 false rfl (by simp;omega)<|nG<|aN Z<|aK<|gB<|gT<|aL<|lmI Z<|lgI Z<|laI Z<|nG ?_
  refine ⟨j + 1,hj,by omega,⟨(iq rfl),(Eq.trans (b := int _) rfl (congrArg int (by rw [hpt];omega))),trivial⟩,trivial,⟨rfl,rfl,trivial⟩,trivial⟩
 ·intro h1
  refine aE<|eT<|eT<|eB<|gA<|lmI Z<|laI Z<|nG<|aR ?_
  have hje : j = ps.length := by have h := h1;simp only [rowsP_len,mkPs_len,decide_eq_false_iff_not] at h;omega
  refine end_ret ?_ trivial
  rw [hje,List.take_length]
  try rfl
theorem rowF.set {F : List AO} {j : Nat} {o : AO} (h : rowF F) (ho : rowO o = true) : rowF (F.set j o) := fun x hx => by
  rcases List.mem_or_eq_of_mem_set hx with q | rfl
  · exact h x q
  · exact ho
theorem markPostingS_e (u : Value) (vs : List Value) (ps : List Posting) (k : Int) (hv : vs.length = ps.length) (hm : ps.length ≤ 1048576) (hl : ∀ p ∈ ps,p.lines.length ≤ 100000) (hk : 0 ≤ k ∧ k ≤ 100000000000) : GN Tryz.prog 24 [.own 0,int k] [(0,.arr ⟨37,some u⟩ 2 (rowsV vs ps))] (famP vs ps) (fun y l1 F1 => y = int (k + pcnt ps) ∧ l1 = [(0,.arr ⟨37,some u⟩ 2 (rowsV vs (mkPs ps k)))] ∧ F1 = famP vs (mkPs ps k)) := by
  have hrf0 : rowF (famP vs ps) := famP_row
  refine GN.intro (rs := [.tmp 4]) Tryz.func24 rfl Tryz.ntmps24 (Nat.le_of_ble_eq_true rfl) ⟨rfl,trivial⟩ rfl ?_
  intro L O w0
  refine sL<|laI Z<|nG<|aS<|sL<|laI Z<|nG<|aB ?_
  refine AW.loopT (D := Nat) [(0,.own _),(4,vI _ _)] [] (fun j => [(5,int (j : Int)),(1,int (k + pcnt (ps.take j)))]) (fun j => [(0,.arr ⟨37,some u⟩ 2 (rowsV vs (mkPj ps k j)))]) (fun j => famP vs (mkPj ps k j)) (fun j => j ≤ ps.length) (fun j => ps.length - j) (0) (Nat.zero_le _) ⟨rfl,(congrArg int (by rw [List.take_zero,pcnt_nil];omega)),trivial⟩ ⟨(by rw [mkPj_zero];rfl),trivial⟩ ⟨rfl,rfl,trivial⟩ trivial (by rw [mkPj_zero];exact tlp) ?_
  intro j hI
  have hvq : vs.length = (mkPj ps k j).length := by rw [mkPj_len];exact hv
  have hrf : rowF (famP vs (mkPj ps k j)) := famP_row
  refine aS<|sL<|lmI Z<|lmO Z<|lnI ty.sl50 Z<|lbB Z<|nG ?_
  refine AW.cond rfl ?_ ?_
  · intro h1
    refine aK<|gT<|aS<|aB<|aS ?_
    have hj : j < ps.length := by have h := h1;simp only [rowsV_len hvq,mkPj_len,decide_eq_true_eq] at h;omega
    have hlj := hl _ (List.getElem_mem hj)
    obtain ⟨hb1,hb2⟩ := pcnt_bd (ps := ps.take j) (fun p hp => hl p (List.mem_of_mem_take hp))
    rw [List.length_take] at hb2
    have hvj : vs[j]? = some (vs[j]'(by omega)) := List.getElem?_eq_getElem _
    have hrow := rowsV_at hvq (i := j) (by rw [mkPj_len];exact hj)
    have hfam := famP_at hvq (i := j) (by rw [mkPj_len];exact hj)
    rw [mkPj_at hj] at hrow hfam
    generalize hVJ : vs[j]'(by omega) = vj at hrow hfam hvj
    have hpt := pcnt_take hj
    have hjr : j < (rowsV vs (mkPj ps k j)).length := by rw [rowsV_len hvq,mkPj_len];exact hj
    have hjf : j < (famP vs (mkPj ps k j)).length := by rw [famP_len hvq,mkPj_len];exact hj
    refine aL<|lmO Z<|lmI Z<|lmI Z<|lq (rj j ty.el50 rfl (hjr))<|lf 0 ty.F37_0 Z<|lst (zQ 0 [.v (.int .i64 (k + pcnt (ps.take j)))] ty.co3 ty.inf3 rfl (hrow)) Z<|nA<|lmI Z<|lgI Z<|laI Z<|nG<|aL<|lmO Z<|lmI Z<|lq (rj j ty.el50 rfl (by rw [List.length_set];exact hjr))<|lf 1 ty.F37_1 Z<|lq (rd (x := vV _) (rd_load_arr rfl ty.kd35 rfl rfl rfl (List.getElem?_set_self hjr) rfl) rfl) ?_
    refine AL.borrow 77 j 23 rfl rfl hfam tlp ?_
    have hrf2 : rowF ((famP vs (mkPj ps k j)).set j .gone) := rowF.set famP_row rfl
    refine lmI rfl ?_
    refine lst (zC [(0,77)] [] [0] Tryz.func68 (markLineS_e vj _ _ (by omega) (by omega)) (⟨stays.arr (by simp [rowsOf,mkLs_len]),trivial⟩) rfl rfl) rfl ?_
    refine lTt (((famP vs (mkPj ps k j)).set j .gone)) [0,1,4,5,25] [.own _,vI _ _,vI _ _,vI _ _,vI _ _] [0,77] [.arr _ _ _,.arr _ _ _] rfl rfl ?_
    refine laI Z<|lN<|gB<|gT ?_
    refine aTt (((famP vs (mkPj ps k j)).set j .gone)) [0,1,4,5] [.own _,vI _ _,vI _ _,vI _ _] [0,77] [.arr _ _ _,.arr _ _ _] rfl rfl ?_
    refine AW.putBack 77 j rfl rfl hrf2 (by rw [List.getElem?_set_self hjf]) ?_
    rw [List.set_set]
    have hrf3 : rowF ((famP vs (mkPj ps k j)).set j (.arr ⟨109,some vj⟩ 3 (rowsOf encLine (mkdLine (k + pcnt (ps.take j) + 1) ps[j].lines.length)))) := rowF.set famP_row rfl
    refine aL<|lmI Z<|lgI Z<|laI Z<|nG ?_
    refine ⟨j + 1,hj,by omega,⟨(iq rfl),(Eq.trans (b := int _) rfl (congrArg int (by rw [hpt];omega))),trivial⟩,⟨(by rw [mkPj_succ hj,rowsV_set hvj];rfl),trivial⟩,⟨rfl,rfl,trivial⟩,trivial,(by rw [mkPj_succ hj,famP_set hvj];exact tlp)⟩
  · intro h1
    refine aE<|eT<|eT<|eB<|gA<|lmI Z<|laI Z<|nG<|aR ?_
    have hje : j = ps.length := by have h := h1;simp only [rowsV_len hvq,mkPj_len,decide_eq_false_iff_not] at h;omega
    subst hje
    rw [mkPj_all] at hrf ⊢
    rw [List.take_length]
    refine end_nret (F1 := (famP vs (mkPs ps k))) (int (k + pcnt ps)) ([(0,.arr ⟨37,some u⟩ 2 (rowsV vs (mkPs ps k)))]) ?_ (by rw [famP_len (by rw [mkPs_len];exact hv),mkPs_len];omega) rfl rfl ⟨rfl,trivial⟩ tlp
    exact ⟨rfl,rfl,rfl⟩

def flatR : AO → Prop
  | .arr e sz rows => ∀ r ∈ rows,∀ p ∈ r,∃ v,p = PV.v v
  | _ => False
theorem GX.lent {P : Program} {f : FuncId} {args args' : List AV} {ob0 : List (Nat × AO)} {R : AV → List (Nat × AO) → Prop} (hc : GX P f args [] R) (hl : lendL (ofO ob0) args' = args) (h0 : ∀ p ∈ ob0,arrO p.2 = true)
    (hR : ∀ x ob1,R x ob1 → ownA x = true ∧ (∀ id ∈ ownN x,inO ob1 id = true) ∧ (∀ p ∈ ob1,flatR p.2) ∧ (∀ p ∈ ob0,inO ob1 p.1 = false)) :
    GX P f args' ob0 fun x ob => ∃ ob1,R x ob1 ∧ ob = ob1 ++ ob0 := by
  intro L w cs ρ fp hL hargs hob hdj hLf
  have hv := RVL.lend (fun id => ⟨_,hob id⟩) args' hargs
  rw [hl] at hv
  refine Calls.mono (hc L0 w cs ρ0 (fun _ => []) (fun _ q => q.elim) hv (fun i => rfl) (by simp) (by simp)) ?_
  rintro e w' ⟨x,ob1,hR1,v,ρ',fp',rfl,g1,g2,g3,g4,g5⟩
  obtain ⟨hx,hn,h1,hd⟩ := hR x ob1 hR1
  have hnew : ∀ i,∀ b ∈ fp' i,w.heap.size ≤ b := fun i b hb => by
    rcases (g5 i b hb).1 with ⟨j,q⟩ | q
    · cases q
    · exact q
  have hsame : ∀ b,b < w.heap.size → w'.heap[b]? = w.heap[b]? := fun b hb => g1.block b hb (by simp)
  generalize hρ2 : (fun i => if inO ob1 i = true then ρ' i else ρ i) = ρ2
  generalize hf2 : (fun i => if inO ob1 i = true then fp' i else fp i) = f2
  have eρ1 : ∀ {i},inO ob1 i = true → ρ2 i = ρ' i := fun {i} h => by rw [← hρ2];simp only [h,if_true]
  have eρ0 : ∀ {i},inO ob1 i = false → ρ2 i = ρ i := fun {i} h => by rw [← hρ2];simp [h]
  have ef1 : ∀ {i},inO ob1 i = true → f2 i = fp' i := fun {i} h => by rw [← hf2];simp only [h,if_true]
  have ef0 : ∀ {i},inO ob1 i = false → f2 i = fp i := fun {i} h => by rw [← hf2];simp [h]
  have eH1 : ∀ {i},inO ob1 i = true → ofO (ob1 ++ ob0) i = ofO ob1 i := fun {i} h => by rw [ofO_app,if_pos h]
  have eH0 : ∀ {i},inO ob1 i = false → ofO (ob1 ++ ob0) i = ofO ob0 i := fun {i} h => by rw [ofO_app,if_neg (by simp [h])]
  have hlive : ∀ b,b < w.heap.size → ¬ live L ρ (ofO ob0) b → ¬ live L ρ2 (ofO (ob1 ++ ob0)) b := by
    rintro b hb hn (hl | ⟨i,q1,q2⟩)
    · exact hn (.inl hl)
    · rcases hi : inO ob1 i with _ | _
      · rw [eH0 hi] at q1;rw [eρ0 hi] at q2;exact hn (.inr ⟨i,q1,q2⟩)
      · rw [eH1 hi] at q1;rw [eρ1 hi] at q2
        have := hnew i b ((g3 i).top q1 q2)
        omega
  have E : Env L ρ ρ2 (ofO ob0) (ofO (ob1 ++ ob0)) w w' (inO ob1) := ⟨g1.size,fun b hb hn => ⟨hsame b hb,hlive b hb hn⟩,fun i hk hi => by
    rw [eH0 hk] at hi ⊢
    exact ⟨hi,eρ0 hk,rfl,rfl⟩⟩
  refine ⟨x,ob1 ++ ob0,⟨ob1,hR1,rfl⟩,v,ρ2,f2,rfl,⟨g1.os,g1.tape,g1.output,g1.size,fun b hb _ => hsame b hb,fun b o hb hlt => ?_⟩,?_,fun i => ?_,fun i j hij b hb hb' => ?_,fun i b hb => ?_⟩
  · rcases Nat.lt_or_ge b w.heap.size with hb2 | hb2
    · rcases hb with ⟨i,hi⟩ | hb
      · rw [World.frozen?_of_block (w := w) (hsame b hb2)]
        exact (hob i).frozen b hi o
      · omega
    · exact g1.nf b o (.inr hb2) hlt
  · refine RV.owned x hx g2 fun id hid => ?_
    obtain ⟨o,q1,q2⟩ := ofO_mem (hn id hid)
    have hfl := h1 _ q1
    refine ⟨?_,eρ1 (hn id hid)⟩
    rw [q2]
    cases o with
    | arr e sz rows => rfl
    | box T p c => exact hfl.elim
    | gone => exact hfl.elim
  · rcases hi : inO ob1 i with _ | _
    · rw [eH0 hi,eρ0 hi,ef0 hi]
      have h := (hob i).env E (fun b hb => hsame b ((hob i).lt b hb))
      have ek : (ofO ob0 i).kil (inO ob1) = ofO ob0 i := by
        rcases hj : inO ob0 i with _ | _
        · rw [ofO_out hj];rfl
        · obtain ⟨o,q1,q2⟩ := ofO_mem hj
          have := h0 _ q1
          rw [q2]
          cases o with
          | arr e sz rows => rfl
          | box T p c => cases this
          | gone => rfl
      rwa [ek] at h
    · rw [eH1 hi,eρ1 hi,ef1 hi]
      obtain ⟨o,q1,q2⟩ := ofO_mem hi
      have hfl := h1 _ q1
      have h := g3 i
      rw [q2] at h ⊢
      cases o with
      | arr e sz rows =>
        obtain ⟨xs,fr,k1,k2,k3,k4,k5⟩ := h
        have hfr := k1.flat_fp hfl
        subst hfr
        exact ⟨xs,[],k1,by simp,k3,k4,k5⟩
      | box T p c => exact hfl.elim
      | gone => exact hfl.elim
  · rcases hi : inO ob1 i with _ | _ <;> rcases hj : inO ob1 j with _ | _
    · rw [ef0 hi] at hb;rw [ef0 hj] at hb';exact hdj i j hij b hb hb'
    · rw [ef0 hi] at hb;rw [ef1 hj] at hb'
      have := (hob i).lt b hb
      have := hnew j b hb'
      omega
    · rw [ef1 hi] at hb;rw [ef0 hj] at hb'
      have := (hob j).lt b hb'
      have := hnew i b hb
      omega
    · rw [ef1 hi] at hb;rw [ef1 hj] at hb';exact g4 i j hij b hb hb'
  · rcases hi : inO ob1 i with _ | _
    · rw [ef0 hi] at hb;exact ⟨.inl ⟨i,hb⟩,hLf i b hb⟩
    · rw [ef1 hi] at hb
      have := hnew i b hb
      exact ⟨.inr this,fun hl => by have := hL b hl;omega⟩
theorem GX.same {P : Program} {f : FuncId} {args : List AV} {ob0 : List (Nat × AO)} {R R' : AV → List (Nat × AO) → Prop} (h : GX P f args ob0 R) (hR : ∀ x ob,R x ob → ∃ ob',R' x ob' ∧ ofO ob' = ofO ob) : GX P f args ob0 R' := fun L w cs ρ fp h1 h2 h3 h4 h5 =>
  Calls.mono (h L w cs ρ fp h1 h2 h3 h4 h5) fun e w' ⟨x,ob,q,r⟩ => by
    obtain ⟨ob',q1,q2⟩ := hR x ob q
    exact ⟨x,ob',q1,by rw [q2];exact r⟩
theorem inO_fam {F : List AO} {i : Nat} (h : i < 1000000) : inO (famL 1000000 F) i = false := by
  cases e : inO (famL 1000000 F) i with
  | false => rfl
  | true =>
    obtain ⟨o,q,_⟩ := ofO_mem e
    obtain ⟨m,_,q2⟩ := mem_famL q
    omega
theorem inO_app {l m : List (Nat × AO)} {i : Nat} : inO (l ++ m) i = (inO l i || inO m i) := by unfold inO;rw [List.map_append,List.contains_eq_any_beq,List.any_append,← List.contains_eq_any_beq,← List.contains_eq_any_beq]
theorem GN.lent {P : Program} {f : FuncId} {args args' : List AV} {ob0 : List (Nat × AO)} {R : AV → List (Nat × AO) → List AO → Prop} (hc : GN P f args [] [] R) (hl : lendL (ofO ob0) args' = args) (h0 : (ob0.all fun p => arrO p.2 && (lowO p.2 && Nat.blt p.1 1000000)) = true)
    (hR : ∀ x l1 F1,R x l1 F1 → ownA x = true ∧ (∀ id ∈ ownN x,inO l1 id = true) ∧ (∀ p ∈ l1,flatR p.2) ∧ (∀ o ∈ F1,flatR o) ∧ (∀ p ∈ ob0,inO l1 p.1 = false)) :
    GN P f args' ob0 [] fun x l F => ∃ l1,R x l1 F ∧ l = l1 ++ ob0 := by
  have hs : smallO ob0 = true := List.all_eq_true.2 fun p hp => by
    have := List.all_eq_true.1 h0 p hp
    simp only [Bool.and_eq_true] at this
    exact this.2.2
  have hlo : (ob0.all fun p => lowO p.2) = true := List.all_eq_true.2 fun p hp => by
    have := List.all_eq_true.1 h0 p hp
    simp only [Bool.and_eq_true] at this
    exact this.2.1
  have hc' : GX P f args [] _ := hc
  have h := GX.lent (ob0 := ob0) hc' hl (fun p hp => by
    have := List.all_eq_true.1 h0 p hp
    simp only [Bool.and_eq_true] at this
    exact this.1) (fun x ob1 ⟨l1,F1,q1,q2,q3,q4,q5⟩ => by
    subst q4
    obtain ⟨r1,r2,r3,r4,r5⟩ := hR x l1 F1 q5
    refine ⟨r1,fun id hid => by rw [inO_app,r2 id hid];rfl,fun p hp => ?_,fun p hp => ?_⟩
    · rcases List.mem_append.1 hp with hp | hp
      · exact r3 p hp
      · have : ∀ (F : List AO) (n : Nat),p ∈ famL n F → p.2 ∈ F := by
          intro F
          induction F with
          | nil => intro n h;cases h
          | cons o F ih =>
            intro n h
            rcases List.mem_cons.1 h with h | h
            · rw [h];simp
            · exact List.mem_cons_of_mem _ (ih _ h)
        exact r4 _ (this _ _ hp)
    · rw [inO_app,r5 p hp,inO_fam (Nat.le_of_ble_eq_true (List.all_eq_true.1 hs p hp))];rfl)
  show GX P f args' (ob0 ++ []) _
  rw [List.append_nil]
  refine h.same fun x ob ⟨ob1,⟨l1,F1,q1,q2,q3,q4,q5⟩,q6⟩ => ?_
  subst q4 q6
  simp only [Bool.and_eq_true] at q1
  have s1 : smallO (l1 ++ ob0) = true := by unfold smallO at *;rw [List.all_append,q1.1,hs];rfl
  refine ⟨(l1 ++ ob0) ++ famL 1000000 F1,⟨l1 ++ ob0,F1,?_,q2,q3,rfl,l1,q5,rfl⟩,?_⟩
  · rw [s1,List.all_append,q1.2.1,hlo,q1.2.2];rfl
  · funext i
    rcases lo_or_hi i with q | ⟨m,rfl⟩
    · rw [ofO_lo q,ofO_app,ofO_app,inO_app,inO_fam q,Bool.or_false,ofO_lo q]
    · rw [ofO_hi s1,List.append_assoc,ofO_hi q1.1,ofO_app]
      split
      · rfl
      · rename_i z
        rw [ofO_out (by simpa using z)]
        have : inO ob0 (1000000 + m) = false := by
          cases e : inO ob0 (1000000 + m) with
          | false => rfl
          | true =>
            obtain ⟨o,w1,_⟩ := ofO_mem e
            have := List.all_eq_true.1 hs _ w1
            have : 1000000 + m < 1000000 := Nat.le_of_ble_eq_true this
            omega
        rw [ofO_out this]
theorem at_last {A M : List AO} {n : Nat} : ∀ i,i < n → (A ++ M)[A.length + i]? = M[i]? := fun i _ => by rw [List.getElem?_append_right (by omega)];congr 1;omega
theorem at_mid {A M C : List AO} {n : Nat} (hn : M.length = n) : ∀ i,i < n → (A ++ M ++ C)[A.length + i]? = M[i]? := fun i hi => by rw [List.getElem?_append_left (by simp;omega)];exact at_last i hi
theorem at_mid2 {A M C D : List AO} {n : Nat} (hn : M.length = n) : ∀ i,i < n → (A ++ M ++ C ++ D)[A.length + i]? = M[i]? := fun i hi => by rw [List.getElem?_append_left (by simp;omega)];exact at_mid hn i hi

abbrev obAll (u1 u2 u3 u4 : Value) (x : Book) (es : List Event) : List (Nat × AO) := [(4,.arr ⟨78,some u1⟩ 7 (rowsOf encChan x.chans)),(5,.arr ⟨117,some u2⟩ 7 (rowsOf encHtlc x.htlcs)),(6,.arr ⟨120,some u3⟩ 5 (rowsOf encCircle x.circles)),(7,.arr ⟨41,some u4⟩ 7 (rowsOf encEvent es))]
def allRel4 (u1 u2 u3 u4 : Value) (x : Book) (es : List Event) : AV → List (Nat × AO) → List AO → Prop := fun y l F => ∃ l1,allRel (allA x es) y l1 F ∧ l = l1 ++ obAll u1 u2 u3 u4 x es
theorem flat_rows {α : Type} {enc : α → List Value} {e : Pin} {sz : Nat} {l : List α} : flatR (.arr e sz (rowsOf enc l)) := flat_rowsOf
theorem flat_rowsV : ∀ {vs : List Value} {ps : List Posting},∀ r ∈ rowsV vs ps,∀ p ∈ r,∃ v,p = PV.v v
  | [],_,r,hr => by unfold rowsV at hr;simp at hr
  | _ :: _,[],r,hr => by unfold rowsV at hr;simp at hr
  | v :: vs,q :: ps,r,hr => by
    unfold rowsV at hr
    rw [List.zipWith_cons_cons] at hr
    rcases List.mem_cons.1 hr with rfl | hr
    · intro p hp
      simp at hp
      rcases hp with rfl | rfl
      · exact ⟨_,rfl⟩
      · exact ⟨_,rfl⟩
    · exact flat_rowsV (vs := vs) (ps := ps) r hr
theorem flat_famP : ∀ {vs : List Value} {ps : List Posting},∀ o ∈ famP vs ps,flatR o
  | [],_,r,hr => by unfold famP at hr;simp at hr
  | _ :: _,[],r,hr => by unfold famP at hr;simp at hr
  | v :: vs,q :: ps,r,hr => by
    unfold famP at hr
    rw [List.zipWith_cons_cons] at hr
    rcases List.mem_cons.1 hr with rfl | hr
    · exact flat_rowsOf
    · exact flat_famP (vs := vs) (ps := ps) r hr
theorem lentAll {f : FuncId} {x : Book} {es : List Event} (hc : GN Tryz.prog f [bookV x,.p (.lst 41 7 (rowsOf encEvent es))] [] [] (allRel (allA x es))) (u1 u2 u3 u4 : Value) :
    GN Tryz.prog f [.agg [int x.tick,int x.next,int x.wallet,.own 4,.own 5,.own 6],.own 7] (obAll u1 u2 u3 u4 x es) [] (allRel4 u1 u2 u3 u4 x es) :=
  GN.lent hc rfl rfl (fun y l1 F1 ⟨vs,hv,e1,e2,e3⟩ => by
    subst e1 e2 e3
    refine ⟨rfl,fun id hid => ?_,fun p hp => ?_,flat_famP,fun p hp => ?_⟩
    · simp [ownN,ownNL] at hid
      rcases hid with rfl | rfl | rfl | rfl | rfl <;> rfl
    · simp at hp
      rcases hp with rfl | rfl | rfl | rfl | rfl
      · exact flat_rows
      · exact flat_rows
      · exact flat_rows
      · exact flat_rowsV
      · exact flat_rows
    · simp at hp
      rcases hp with rfl | rfl | rfl | rfl <;> rfl)
theorem pinsAll {u1 u2 u3 u4 : Value} {x : Book} {es : List Event} : ∀ y l1 F1,allRel4 u1 u2 u3 u4 x es y l1 F1 → pins (obAll u1 u2 u3 u4 x es) l1 [4,5,6,7] := fun y l F ⟨l1,⟨vs,_,e1,e2,e3⟩,e4⟩ => by
  subst e1 e2 e3 e4
  exact ⟨stays.arr rfl,stays.arr rfl,stays.arr rfl,stays.arr rfl,trivial⟩
def szEvents (es : List Event) (l : Int) : Int := if l - (es.length : Int) < 0 then -1 else l - (es.length : Int)
theorem szEventS_e (es : List Event) (l : Int) (l1 : -1 ≤ l) (l2 : l ≤ 1048576) (hm : es.length ≤ 9223372036854775807) : GC Tryz.prog 16 [.p (.lst 28 7 (rowsOf encEvent es)),int l] [] (int (szEvents es l)) [] := by
 refine gi 4 Tryz.func16 rfl Tryz.ntmps16 rfl ?_
 intro L O w0
 refine sL<|laI Z<|nA<|lmI Z<|lmL Z<|lnI ty.sl48 Z ?_
 refine lhI rfl ⟨rfl,fits_i64 (by rw [length_rowsOf];unfold i64;omega)⟩<|laI Z<|nG<|aS<|sL<|lmI Z<|lbB Z<|nG ?_
 refine AW.cond rfl ?_ ?_
 ·intro h1
  refine sL<|laI Z<|nG<|aR<|rT ?_
  unfold szEvents
  refine end_ret ?_ trivial
  have h := h1
  rw [length_rowsOf] at *
  simp only [decide_eq_true_eq,decide_eq_false_iff_not] at h
  first | rw [if_pos h] | rw [if_neg h]
  rfl
 ·intro h1
  refine aK<|gA<|lmI Z<|laI Z<|nG<|aR ?_
  unfold szEvents
  refine end_ret ?_ trivial
  have h := h1
  rw [length_rowsOf] at *
  simp only [decide_eq_true_eq,decide_eq_false_iff_not] at h
  first | rw [if_pos h] | rw [if_neg h]
  rfl
theorem FnExactApplyAll_e (x : Book) (es : List Event) (wc : ∀ c ∈ x.chans,wfChan c) (wh : ∀ c ∈ x.htlcs,wfHtlc c) (wi : ∀ c ∈ x.circles,wfCircle c) (we : ∀ e ∈ es,wfEvent e) (hme : es.length ≤ 9223372036854775807) : GC Tryz.prog 4 [lbookV x,.p (.lst 28 7 (rowsOf encEvent es))] [] (boo true) [] := by
 refine gi 4 Tryz.func4 rfl Tryz.ntmps4 rfl ?_
 intro L O w0
 refine sL<|lst (zX 2002 rfl) Z<|laZ Z<|nA<|laI Z<|nA<|loX (.agg [vI _ _,vI _ _,vI _ _,vL _ _ _,vL _ _ _,vL _ _ _]) ty.kd26 Z<|lmI Z<|lst (zL Tryz.func5 (szBook_e x 1048576 wc wh wi (by omega) (by omega)) rfl) Z<|laI Z<|nG<|aS<|sL<|lmI Z<|lbB Z<|nG ?_
 refine AW.cond rfl ?_ ?_
 ·intro h1
  refine sL<|laT Z<|nG<|aR<|rT ?_
  refine end_ret ?_ trivial
  rfl
 ·intro h1
  refine aK<|gT<|aS ?_
  have hs1 : 0 ≤ szBook x 1048576 := by have h := h1;simp only [decide_eq_false_iff_not] at h;omega
  obtain ⟨hs0,hc,hh,hi⟩ := szBook_le x 1048576 hs1 (by omega)
  refine aL<|lmL Z<|lmI Z<|lst (zL Tryz.func16 (szEventS_e es _ (by omega) (by omega) hme) rfl) Z<|laI Z<|nG<|aS<|sL<|lmI Z<|lbB Z<|nG ?_
  refine AW.cond rfl ?_ ?_
  ·intro h2
   refine sL<|laT Z<|nG<|aR<|rT ?_
   refine end_ret ?_ trivial
   rfl
  ·intro h2
   refine aK<|gT<|aS ?_
   have hes : es.length ≤ 1048576 := by have h := h2;simp only [decide_eq_false_iff_not] at h;unfold szEvents at h;split at h <;> omega
   have hwb : BookWf x := ⟨wc,wh,wi,hc⟩
   have hB : AllB (allA x es) 1048576 := (fun b : AllB (allA x es) es.length => ⟨b.lc,b.lh,b.li,by have := b.lp;omega,by have := b.lk;omega,b.ll⟩) (allB hwb we hh hi)
   obtain ⟨hp0,hp1⟩ := pcnt_bd hB.ll
   have hlp := hB.lp
   have hlc := hB.lc
   have hlh := hB.lh
   have hli := hB.li
   have hlk := hB.lk
   refine aL<|loX (.agg [vI _ _,vI _ _,vI _ _,vL _ _ _,vL _ _ _,vL _ _ _]) ty.kd26 Z<|lst (zC [(1,11),(2,12),(3,13)] [11,12,13] [] Tryz.func7 (toBook_e x hc hh hi) (trivial) Z Z) Z ?_
   refine lTt ([]) [1,2,4,32] [vL _ _ _,.ptr 2002 _ 0,vB false,.agg [vI _ _,vI _ _,vI _ _,.own _,.own _,.own _]] [11,12,13,2002] [.arr _ _ _,.arr _ _ _,.arr _ _ _,.box _ _ [vI _ _,vI _ _,vI _ _,vL _ _ _,vL _ _ _,vL _ _ _]] rfl rfl ?_
   refine lmL Z<|lst (St.lendO 17 rfl (by intro s hs;cases hs;decide) rfl Tryz.func18 rfl rfl (toEventS_e _ hes) flat_rowsOf rfl) rfl ?_
   refine AL.pinA 11 rfl ?_
   intro u11
   refine AL.pinA 12 rfl ?_
   intro u12
   refine AL.pinA 13 rfl ?_
   intro u13
   refine AL.pinA 17 rfl ?_
   intro u17
   refine AL.stx (StX.callN (F := []) [(1,101),(2,102),(3,103),(4,11),(5,12),(6,13),(7,17),(14,114),(15,115)] [101,102,103,114,115] [4,5,6,7] ([]).length Tryz.func17 (lentAll (sapplyAll_e x es hwb we hes) _ _ _ _) tlp List.drop_length List.take_length (Nat.le_refl _) (by first | (simp;done) | (simp [famP_len,mkPs_len, *];omega)) (pinsAll) rfl rfl) rfl ?_
   rintro _ _ ⟨xz1,oz1,Fz1,hz1,hF1,hM1,rfl,rfl⟩
   obtain ⟨l1,⟨vs1,hv1,rfl,rfl,rfl⟩,rfl⟩ := hz1
   have hrf1 : rowF ([] ++ famP vs1 (allA x es).ps) := rowF.app (by first | assumption | exact rowF.nil) hF1
   refine lmX (.tup [.agg [vI _ _,vI _ _,vI _ _,.own _,.own _,.own _],.own _,.own _]) Z<|lxX (.agg [vI _ _,vI _ _,vI _ _,.own _,.own _,.own _]) Z<|lxO Z<|lxO Z<|lst (zA 2006 ty.ze34 Z) Z<|lst (zB 2006 ty.co34 ty.inf34 Z) Z<|laO Z<|laO Z<|nA<|loX (.agg [vI _ _,vI _ _,vI _ _,vL _ _ _,vL _ _ _,vL _ _ _]) ty.kd26 Z<|lst (zC [(1,21),(2,22),(3,23)] [21,22,23] [] Tryz.func7 (toBook_e x hc hh hi) (trivial) Z Z) Z<|lst (zA 2009 ty.ze34 Z) Z ?_
   refine lTt (([] ++ famP vs1 (allA x es).ps)) [1,2,4,6,7,8,9,40] [vL _ _ _,.ptr 2002 _ 0,vB false,.ptr 2006 _ 0,.own _,.own _,.ptr 2009 _ 0,.agg [vI _ _,vI _ _,vI _ _,.own _,.own _,.own _]] [21,22,23,101,102,103,114,115,2002,2006,2009] [.arr _ _ _,.arr _ _ _,.arr _ _ _,.arr _ _ _,.arr _ _ _,.arr _ _ _,.arr _ _ _,.arr _ _ _,.box _ _ [vI _ _,vI _ _,vI _ _,vL _ _ _,vL _ _ _,vL _ _ _],.box _ _ [vI _ _,vI _ _,vI _ _,.own _,.own _,.own _],.box _ _ [vI _ _,vI _ _,vI _ _,vV _,vV _,vV _]] rfl rfl ?_
   refine lst (zB 2009 ty.co34 ty.inf34 rfl) Z<|nA<|lmL Z<|lst (St.lendO 27 rfl (by intro s hs;cases hs;decide) rfl Tryz.func18 rfl rfl (toEventS_e _ hes) flat_rowsOf rfl) Z<|laO Z<|nG<|aS ?_
   refine AW.pinA 21 rfl ?_
   intro u21
   refine AW.pinA 22 rfl ?_
   intro u22
   refine AW.pinA 23 rfl ?_
   intro u23
   refine AW.pinA 27 rfl ?_
   intro u27
   refine aL<|loX (.agg [vI _ _,vI _ _,vI _ _,.own _,.own _,.own _]) ty.kd34 Z<|lmO Z ?_
   refine AL.stx (StX.callN (F := ([] ++ famP vs1 (allA x es).ps)) [(1,201),(2,202),(3,203),(4,21),(5,22),(6,23),(7,27),(14,214),(15,215)] [201,202,203,214,215] [4,5,6,7] (([] ++ famP vs1 (allA x es).ps)).length Tryz.func19 (lentAll (applyAll_e x es hwb we hes) _ _ _ _) tlp List.drop_length List.take_length (Nat.le_refl _) (by first | (simp;done) | (simp [famP_len,mkPs_len, *];omega)) (pinsAll) rfl rfl) rfl ?_
   rintro _ _ ⟨xz2,oz2,Fz2,hz2,hF2,hM2,rfl,rfl⟩
   obtain ⟨l2,⟨vs2,hv2,rfl,rfl,rfl⟩,rfl⟩ := hz2
   have hrf2 : rowF (([] ++ famP vs1 (allA x es).ps) ++ famP vs2 (allA x es).ps) := rowF.app (by first | assumption | exact rowF.nil) hF2
   refine lmX (.tup [.agg [vI _ _,vI _ _,vI _ _,.own _,.own _,.own _],.own _,.own _]) Z<|lxX (.agg [vI _ _,vI _ _,vI _ _,.own _,.own _,.own _]) Z<|lxO Z<|lxO Z<|lst (zA 2011 ty.ze34 rfl) Z<|lst (zB 2011 ty.co34 ty.inf34 rfl) Z<|laO Z<|laO Z<|nG<|aS<|sL<|loX (.agg [vI _ _,vI _ _,vI _ _,.own _,.own _,.own _]) ty.kd34 Z<|loX (.agg [vI _ _,vI _ _,vI _ _,.own _,.own _,.own _]) ty.kd34 Z<|lst (zL Tryz.func10 (eqBook_e _ (by first | exact hB.lc | omega) (by first | exact hB.lh | omega) (by first | exact hB.li | omega)) rfl) rfl ?_
   refine lTt ((([] ++ famP vs1 (allA x es).ps) ++ famP vs2 (allA x es).ps)) [1,2,4,6,7,8,9,10,11,12,13,52] [vL _ _ _,.ptr 2002 _ 0,vB false,.ptr 2006 _ 0,.own _,.own _,.ptr 2009 _ 0,.own _,.ptr 2011 _ 0,.own _,.own _,vB true] [21,22,23,27,101,102,103,114,115,201,202,203,214,215,2002,2006,2009,2011] [.arr _ _ _,.arr _ _ _,.arr _ _ _,.arr _ _ _,.arr _ _ _,.arr _ _ _,.arr _ _ _,.arr _ _ _,.arr _ _ _,.arr _ _ _,.arr _ _ _,.arr _ _ _,.arr _ _ _,.arr _ _ _,.box _ _ [vI _ _,vI _ _,vI _ _,vL _ _ _,vL _ _ _,vL _ _ _],.box _ _ [vI _ _,vI _ _,vI _ _,.own _,.own _,.own _],.box _ _ [vI _ _,vI _ _,vI _ _,.own _,.own _,.own _],.box _ _ [vI _ _,vI _ _,vI _ _,.own _,.own _,.own _]] rfl rfl ?_
   refine luZ Z<|lsB 53 false rfl (by first | (simp;done) | (simp;omega))<|lmZ Z<|lmO Z<|lmO Z<|lst (zLN Tryz.func20 (eqPostingS_e _ (by have := hB.lp;omega) hB.ll) rfl (.cons (Reads.own rfl (deepV (F := (([] ++ famP vs1 (allA x es).ps) ++ famP vs2 (allA x es).ps)) tlp (hv2) (at_last))) (.cons (Reads.own rfl (deepV (F := (([] ++ famP vs1 (allA x es).ps) ++ famP vs2 (allA x es).ps)) tlp (hv1) (at_mid (A := []) (famP_len hv1)))) .nil))) Z<|luZ Z<|lsB 58 false rfl (by first | (simp;done) | (simp;omega))<|lkZ Z<|lmZ Z<|lmO Z<|lmO Z<|lst (zL Tryz.func21 (eqIntS_e _ (by have := hB.lk;omega)) rfl) Z<|luZ Z<|lsB 64 false rfl (by first | (simp;done) | (simp;omega))<|lkZ Z<|nG<|aN Z<|aK<|gT<|aS<|aS<|aF []<|sq 0 (roX (.agg [vI _ _,vI _ _,vI _ _,.own _,.own _,.own _]) ty.kd34 rfl)<|vq 1 (roX (.agg [vI _ _,vI _ _,vI _ _,vL _ _ _,vL _ _ _,vL _ _ _]) ty.kd26 rfl)<|vst 2 rfl (zC [(1,41),(2,42),(3,43)] [41,42,43] [] Tryz.func7 (toBook_e x hc hh hi) (trivial) rfl rfl) (.inr rfl) ?_
   refine fTt ((([] ++ famP vs1 (allA x es).ps) ++ famP vs2 (allA x es).ps)) [1,2,4,6,7,8,9,10,11,12,13,66,68] [vL _ _ _,.ptr 2002 _ 0,vB false,.ptr 2006 _ 0,.own _,.own _,.ptr 2009 _ 0,.own _,.ptr 2011 _ 0,.own _,.own _,.agg [vI _ _,vI _ _,vI _ _,.own _,.own _,.own _],.agg [vI _ _,vI _ _,vI _ _,.own _,.own _,.own _]] [21,22,23,27,41,42,43,101,102,103,114,115,201,202,203,214,215,2002,2006,2009,2011] [.arr _ _ _,.arr _ _ _,.arr _ _ _,.arr _ _ _,.arr _ _ _,.arr _ _ _,.arr _ _ _,.arr _ _ _,.arr _ _ _,.arr _ _ _,.arr _ _ _,.arr _ _ _,.arr _ _ _,.arr _ _ _,.arr _ _ _,.arr _ _ _,.arr _ _ _,.box _ _ [vI _ _,vI _ _,vI _ _,vL _ _ _,vL _ _ _,vL _ _ _],.box _ _ [vI _ _,vI _ _,vI _ _,.own _,.own _,.own _],.box _ _ [vI _ _,vI _ _,vI _ _,.own _,.own _,.own _],.box _ _ [vI _ _,vI _ _,vI _ _,.own _,.own _,.own _]] rfl rfl ?_
   refine vst 3 rfl (zL Tryz.func10 (eqBook_e _ (by first | exact hB.lc | omega) (by first | exact hB.lh | omega) (by first | exact hB.li | omega)) rfl) (.inr rfl)<|vq 4 (ruZ rfl)<|fsB 70 false rfl (by first | (simp;done) | (simp;omega))<|fD<|gT<|aN Z<|aK<|gT<|aS<|sL<|lmO Z<|lmL Z<|lst (St.lendO 47 rfl (by intro s hs;cases hs;decide) rfl Tryz.func18 rfl rfl (toEventS_e _ hes) flat_rowsOf rfl) Z<|lst (zL Tryz.func22 (eqEventS_e _ (by omega)) rfl) Z<|luZ Z<|lsB 75 false rfl (by first | (simp;done) | (simp;omega))<|nG<|aN Z<|aK<|gA<|laI Z<|nA<|loX (.agg [vI _ _,vI _ _,vI _ _,.own _,.own _,.own _]) ty.kd34 rfl ?_
   refine lmI rfl ?_
   refine lst (zC [(1,21),(2,22),(3,23)] [] [1,2,3] Tryz.func12 (markBook_e _ _ _ (x) _ (by omega) (by omega) (by omega) (by omega)) (⟨stays.arr (by simp [mkdBook,rowsOf,mkLs_len]),stays.arr (by simp [mkdBook,rowsOf,mkLs_len]),stays.arr (by simp [mkdBook,rowsOf,mkLs_len]),trivial⟩) rfl rfl) Z<|laI Z<|nA<|lmO Z<|lmI rfl ?_
   refine lst (zC [(0,27)] [] [0] Tryz.func23 (markEventS_e _ _ _ (by omega) (by omega)) (⟨stays.arr (by simp [rowsOf,mkLs_len]),trivial⟩) rfl rfl) rfl ?_
   refine lTt ((([] ++ famP vs1 (allA x es).ps) ++ famP vs2 (allA x es).ps)) [1,2,4,6,7,8,11,12,13,14,81] [vL _ _ _,.ptr 2002 _ 0,vB false,.ptr 2006 _ 0,.own _,.own _,.ptr 2011 _ 0,.own _,.own _,vI _ _,vI _ _] [101,102,103,114,115,201,202,203,214,215,2002,2006,2011] [.arr _ _ _,.arr _ _ _,.arr _ _ _,.arr _ _ _,.arr _ _ _,.arr _ _ _,.arr _ _ _,.arr _ _ _,.arr _ _ _,.arr _ _ _,.box _ _ [vI _ _,vI _ _,vI _ _,vL _ _ _,vL _ _ _,vL _ _ _],.box _ _ [vI _ _,vI _ _,vI _ _,.own _,.own _,.own _],.box _ _ [vI _ _,vI _ _,vI _ _,.own _,.own _,.own _]] rfl rfl ?_
   refine laI Z<|nG<|aS<|sL<|lmI Z<|lbB Z<|lsB 83 false rfl (by first | (simp;done) | (simp;omega))<|lmZ Z<|loX (.agg [vI _ _,vI _ _,vI _ _,.own _,.own _,.own _]) ty.kd34 Z<|loX (.agg [vI _ _,vI _ _,vI _ _,.own _,.own _,.own _]) ty.kd34 Z<|lst (zL Tryz.func10 (eqBook_e _ (by first | exact hB.lc | omega) (by first | exact hB.lh | omega) (by first | exact hB.li | omega)) rfl) Z<|luZ Z<|lsB 88 false rfl (by first | (simp;done) | (simp;omega))<|lkZ Z<|lmZ Z<|lmO Z<|lmO Z<|lst (zLN Tryz.func20 (eqPostingS_e _ (by have := hB.lp;omega) hB.ll) rfl (.cons (Reads.own rfl (deepV (F := (([] ++ famP vs1 (allA x es).ps) ++ famP vs2 (allA x es).ps)) tlp (hv2) (at_last))) (.cons (Reads.own rfl (deepV (F := (([] ++ famP vs1 (allA x es).ps) ++ famP vs2 (allA x es).ps)) tlp (hv1) (at_mid (A := []) (famP_len hv1)))) .nil))) Z<|luZ Z<|lsB 94 false rfl (by first | (simp;done) | (simp;omega))<|lkZ Z<|lmZ Z<|lmO Z<|lmO Z<|lst (zL Tryz.func21 (eqIntS_e _ (by have := hB.lk;omega)) rfl) rfl ?_
   refine lTt ((([] ++ famP vs1 (allA x es).ps) ++ famP vs2 (allA x es).ps)) [1,2,4,6,7,8,11,12,13,96,99] [vL _ _ _,.ptr 2002 _ 0,vB false,.ptr 2006 _ 0,.own _,.own _,.ptr 2011 _ 0,.own _,.own _,vB false,vB true] [101,102,103,114,115,201,202,203,214,215,2002,2006,2011] [.arr _ _ _,.arr _ _ _,.arr _ _ _,.arr _ _ _,.arr _ _ _,.arr _ _ _,.arr _ _ _,.arr _ _ _,.arr _ _ _,.arr _ _ _,.box _ _ [vI _ _,vI _ _,vI _ _,vL _ _ _,vL _ _ _,vL _ _ _],.box _ _ [vI _ _,vI _ _,vI _ _,.own _,.own _,.own _],.box _ _ [vI _ _,vI _ _,vI _ _,.own _,.own _,.own _]] rfl rfl ?_
   refine luZ Z<|lsB 100 false rfl (by first | (simp;done) | (simp;omega))<|lkZ Z<|nG<|aN Z<|aK<|gA<|laI Z<|nG<|aS ?_
   refine AW.pinA 201 rfl ?_
   intro u201
   refine AW.pinA 202 rfl ?_
   intro u202
   refine AW.pinA 203 rfl ?_
   intro u203
   refine aL<|loX (.agg [vI _ _,vI _ _,vI _ _,.own _,.own _,.own _]) ty.kd34 Z<|lmI Z ?_
   refine lst (zC [(1,201),(2,202),(3,203)] [] [1,2,3] Tryz.func12 (markBook_e _ _ _ ((allA x es).now) _ hB.lc hB.lh hB.li (by omega)) (⟨stays.arr (by simp [mkdBook,rowsOf,mkLs_len]),stays.arr (by simp [mkdBook,rowsOf,mkLs_len]),stays.arr (by simp [mkdBook,rowsOf,mkLs_len]),trivial⟩) rfl rfl) Z<|laI Z<|nG<|aS ?_
   refine AW.pinA 214 rfl ?_
   intro u214
   refine aL<|lmO Z<|lmI Z ?_
   refine AL.stx (StX.callN (F := (([] ++ famP vs1 (allA x es).ps) ++ famP vs2 (allA x es).ps)) [(0,214)] [] [0] (([] ++ famP vs1 (allA x es).ps)).length Tryz.func24 (markPostingS_e _ vs2 (allA x es).ps _ hv2 (by omega) hB.ll (by omega)) tlp List.drop_left List.take_left (by simp) (by first | (simp;done) | (simp [famP_len,mkPs_len, *];omega)) ((fun y l F ⟨_,e2,_⟩ => by subst e2;exact ⟨stays.arr (by rw [rowsV_len (by rw [mkPs_len];exact hv2),rowsV_len hv2,mkPs_len]),trivial⟩)) rfl rfl) rfl ?_
   rintro _ _ ⟨xz3,oz3,Fz3,hz3,hF3,hM3,rfl,rfl⟩
   obtain ⟨rfl,rfl,rfl⟩ := hz3
   have hrf3 : rowF (([] ++ famP vs1 (allA x es).ps) ++ famP vs2 (mkPs (allA x es).ps (1 + 7 * ((allA x es).now.chans.length : Int) + 7 * ((allA x es).now.htlcs.length : Int) + 5 * ((allA x es).now.circles.length : Int)))) := rowF.app (by first | assumption | exact rowF.nil) hF3
   refine laI Z<|nG<|aS ?_
   have hv2' : vs2.length = (mkPs (allA x es).ps (1 + 7 * ((allA x es).now.chans.length : Int) + 7 * ((allA x es).now.htlcs.length : Int) + 5 * ((allA x es).now.circles.length : Int))).length := by rw [mkPs_len];exact hv2
   refine AW.pinA 215 rfl ?_
   intro u215
   refine aL<|lmO Z<|lmI Z ?_
   refine lst (zC [(0,215)] [] [0] Tryz.func25 (markIntS_e _ _ _ (by omega) (by omega)) (⟨stays.arr (by simp [rowsOf,mkLs_len]),trivial⟩) rfl rfl) rfl ?_
   refine lTt ((([] ++ famP vs1 (allA x es).ps) ++ famP vs2 (mkPs (allA x es).ps (1 + 7 * ((allA x es).now.chans.length : Int) + 7 * ((allA x es).now.htlcs.length : Int) + 5 * ((allA x es).now.circles.length : Int))))) [1,2,4,6,7,8,11,12,13,15,110] [vL _ _ _,.ptr 2002 _ 0,vB false,.ptr 2006 _ 0,.own _,.own _,.ptr 2011 _ 0,.own _,.own _,vI _ _,vI _ _] [101,102,103,114,115,201,202,203,214,215,2002,2006,2011] [.arr _ _ _,.arr _ _ _,.arr _ _ _,.arr _ _ _,.arr _ _ _,.arr _ _ _,.arr _ _ _,.arr _ _ _,.arr _ _ _,.arr _ _ _,.box _ _ [vI _ _,vI _ _,vI _ _,vL _ _ _,vL _ _ _,vL _ _ _],.box _ _ [vI _ _,vI _ _,vI _ _,.own _,.own _,.own _],.box _ _ [vI _ _,vI _ _,vI _ _,.own _,.own _,.own _]] rfl rfl ?_
   refine laI Z<|nA<|laI Z<|nA<|loX (.agg [vI _ _,vI _ _,vI _ _,.own _,.own _,.own _]) ty.kd34 Z<|lmI Z<|lst (zL Tryz.func14 (heldBook_e _ _ hB.lc hB.lh hB.li (by omega)) rfl) Z<|laI Z<|nG<|aS<|sL<|lmI Z<|lbB Z<|lsB 115 false rfl (by first | (simp;done) | (simp;omega))<|nG<|aN Z<|aK<|gA<|lmO rfl ?_
   refine lmI Z<|lst (zLN Tryz.func26 (heldPostingS_e _ _ (by have := hB.lp;omega) hB.ll (by omega)) rfl (.cons (Reads.own rfl (deepV (F := (([] ++ famP vs1 (allA x es).ps) ++ famP vs2 (mkPs (allA x es).ps (1 + 7 * ((allA x es).now.chans.length : Int) + 7 * ((allA x es).now.htlcs.length : Int) + 5 * ((allA x es).now.circles.length : Int))))) tlp (hv2') (at_last))) (.cons (Reads.lend rfl) .nil))) Z<|laI Z<|nG<|aS<|sL<|lmI Z<|lbB Z<|lsB 120 false rfl (by first | (simp;done) | (simp;omega))<|nG<|aN Z<|aK<|gA<|lmO Z<|lmI Z<|lst (zL Tryz.func27 (heldIntS_e _ _ (by have := hB.lk;omega) (by have := hB.lk;have := hB.lp;omega)) rfl) rfl ?_
   refine lTt ((([] ++ famP vs1 (allA x es).ps) ++ famP vs2 (mkPs (allA x es).ps (1 + 7 * ((allA x es).now.chans.length : Int) + 7 * ((allA x es).now.htlcs.length : Int) + 5 * ((allA x es).now.circles.length : Int))))) [1,2,4,6,7,8,11,12,13,15,16,123] [vL _ _ _,.ptr 2002 _ 0,vB false,.ptr 2006 _ 0,.own _,.own _,.ptr 2011 _ 0,.own _,.own _,vI _ _,vI _ _,vI _ _] [101,102,103,114,115,201,202,203,214,215,2002,2006,2011] [.arr _ _ _,.arr _ _ _,.arr _ _ _,.arr _ _ _,.arr _ _ _,.arr _ _ _,.arr _ _ _,.arr _ _ _,.arr _ _ _,.arr _ _ _,.box _ _ [vI _ _,vI _ _,vI _ _,vL _ _ _,vL _ _ _,vL _ _ _],.box _ _ [vI _ _,vI _ _,vI _ _,.own _,.own _,.own _],.box _ _ [vI _ _,vI _ _,vI _ _,.own _,.own _,.own _]] rfl rfl ?_
   refine laI Z<|nG<|aS<|sL<|lmI Z<|lbB Z<|lsB 125 false rfl (by first | (simp;done) | (simp;omega))<|nG<|aN Z<|aK<|gT<|aS<|sL<|lmI Z<|lmI Z<|lbB Z<|lsB 128 false rfl (by first | (simp;done) | (simp;omega))<|nG<|aN Z<|aK<|gA<|loX (.agg [vI _ _,vI _ _,vI _ _,vL _ _ _,vL _ _ _,vL _ _ _]) ty.kd26 Z<|lst (zC [(1,51),(2,52),(3,53)] [51,52,53] [] Tryz.func7 (toBook_e x hc hh hi) (trivial) rfl rfl) rfl ?_
   refine lmL Z<|lst (St.lendO 57 rfl (by intro s hs;cases hs;decide) rfl Tryz.func18 rfl rfl (toEventS_e _ hes) flat_rowsOf rfl) rfl ?_
   refine AL.pinA 51 rfl ?_
   intro u51
   refine AL.pinA 52 rfl ?_
   intro u52
   refine AL.pinA 53 rfl ?_
   intro u53
   refine AL.pinA 57 rfl ?_
   intro u57
   refine AL.stx (StX.callN (F := (([] ++ famP vs1 (allA x es).ps) ++ famP vs2 (mkPs (allA x es).ps (1 + 7 * ((allA x es).now.chans.length : Int) + 7 * ((allA x es).now.htlcs.length : Int) + 5 * ((allA x es).now.circles.length : Int))))) [(1,301),(2,302),(3,303),(4,51),(5,52),(6,53),(7,57),(14,314),(15,315)] [301,302,303,314,315] [4,5,6,7] ((([] ++ famP vs1 (allA x es).ps) ++ famP vs2 (mkPs (allA x es).ps (1 + 7 * ((allA x es).now.chans.length : Int) + 7 * ((allA x es).now.htlcs.length : Int) + 5 * ((allA x es).now.circles.length : Int))))).length Tryz.func19 (lentAll (applyAll_e x es hwb we hes) _ _ _ _) tlp List.drop_length List.take_length (Nat.le_refl _) (by first | (simp;done) | (simp [famP_len,mkPs_len, *];omega)) (pinsAll) rfl rfl) rfl ?_
   rintro _ _ ⟨xz4,oz4,Fz4,hz4,hF4,hM4,rfl,rfl⟩
   obtain ⟨l4,⟨vs4,hv4,rfl,rfl,rfl⟩,rfl⟩ := hz4
   have hrf4 : rowF ((([] ++ famP vs1 (allA x es).ps) ++ famP vs2 (mkPs (allA x es).ps (1 + 7 * ((allA x es).now.chans.length : Int) + 7 * ((allA x es).now.htlcs.length : Int) + 5 * ((allA x es).now.circles.length : Int)))) ++ famP vs4 (allA x es).ps) := rowF.app (by first | assumption | exact rowF.nil) hF4
   refine lmX (.tup [.agg [vI _ _,vI _ _,vI _ _,.own _,.own _,.own _],.own _,.own _]) Z<|lxX (.agg [vI _ _,vI _ _,vI _ _,.own _,.own _,.own _]) Z<|lxO Z<|lxO Z<|lst (zA 2017 ty.ze34 Z) Z ?_
   refine lTt (((([] ++ famP vs1 (allA x es).ps) ++ famP vs2 (mkPs (allA x es).ps (1 + 7 * ((allA x es).now.chans.length : Int) + 7 * ((allA x es).now.htlcs.length : Int) + 5 * ((allA x es).now.circles.length : Int)))) ++ famP vs4 (allA x es).ps)) [4,6,7,8,11,12,13,15,16,17,135,136,137] [vB false,.ptr 2006 _ 0,.own _,.own _,.ptr 2011 _ 0,.own _,.own _,vI _ _,vI _ _,.ptr 2017 _ 0,.agg [vI _ _,vI _ _,vI _ _,.own _,.own _,.own _],.own _,.own _] [101,102,103,114,115,201,202,203,214,215,301,302,303,314,315,2006,2011,2017] [.arr _ _ _,.arr _ _ _,.arr _ _ _,.arr _ _ _,.arr _ _ _,.arr _ _ _,.arr _ _ _,.arr _ _ _,.arr _ _ _,.arr _ _ _,.arr _ _ _,.arr _ _ _,.arr _ _ _,.arr _ _ _,.arr _ _ _,.box _ _ [vI _ _,vI _ _,vI _ _,.own _,.own _,.own _],.box _ _ [vI _ _,vI _ _,vI _ _,.own _,.own _,.own _],.box _ _ [vI _ _,vI _ _,vI _ _,vV _,vV _,vV _]] rfl rfl ?_
   refine lst (zB 2017 ty.co34 ty.inf34 rfl) Z<|laO Z<|laO Z<|nG<|aS<|sL<|loX (.agg [vI _ _,vI _ _,vI _ _,.own _,.own _,.own _]) ty.kd34 Z<|loX (.agg [vI _ _,vI _ _,vI _ _,.own _,.own _,.own _]) ty.kd34 Z<|lst (zL Tryz.func10 (eqBook_e _ (by first | exact hB.lc | omega) (by first | exact hB.lh | omega) (by first | exact hB.li | omega)) rfl) Z<|luZ Z<|lsB 141 false rfl (by first | (simp;done) | (simp;omega))<|lmZ Z<|lmO Z<|lmO Z<|lst (zLN Tryz.func20 (eqPostingS_e _ (by have := hB.lp;omega) hB.ll) rfl (.cons (Reads.own rfl (deepV (F := ((([] ++ famP vs1 (allA x es).ps) ++ famP vs2 (mkPs (allA x es).ps (1 + 7 * ((allA x es).now.chans.length : Int) + 7 * ((allA x es).now.htlcs.length : Int) + 5 * ((allA x es).now.circles.length : Int)))) ++ famP vs4 (allA x es).ps)) tlp (hv4) (at_last))) (.cons (Reads.own rfl (deepV (F := ((([] ++ famP vs1 (allA x es).ps) ++ famP vs2 (mkPs (allA x es).ps (1 + 7 * ((allA x es).now.chans.length : Int) + 7 * ((allA x es).now.htlcs.length : Int) + 5 * ((allA x es).now.circles.length : Int)))) ++ famP vs4 (allA x es).ps)) tlp (hv1) (at_mid2 (A := []) (famP_len hv1)))) .nil))) Z<|luZ Z<|lsB 146 false rfl (by first | (simp;done) | (simp;omega))<|lkZ Z<|lmZ Z<|lmO Z<|lmO Z<|lst (zL Tryz.func21 (eqIntS_e _ (by have := hB.lk;omega)) rfl) rfl ?_
   refine lTt (((([] ++ famP vs1 (allA x es).ps) ++ famP vs2 (mkPs (allA x es).ps (1 + 7 * ((allA x es).now.chans.length : Int) + 7 * ((allA x es).now.htlcs.length : Int) + 5 * ((allA x es).now.circles.length : Int)))) ++ famP vs4 (allA x es).ps)) [4,11,12,13,15,16,148,151] [vB false,.ptr 2011 _ 0,.own _,.own _,vI _ _,vI _ _,vB false,vB true] [201,202,203,214,215,2011] [.arr _ _ _,.arr _ _ _,.arr _ _ _,.arr _ _ _,.arr _ _ _,.box _ _ [vI _ _,vI _ _,vI _ _,.own _,.own _,.own _]] rfl rfl ?_
   refine luZ Z<|lsB 152 false rfl (by first | (simp;done) | (simp;omega))<|lkZ Z<|nG<|aN Z<|aK<|gA<|laI Z<|nA<|loX (.agg [vI _ _,vI _ _,vI _ _,.own _,.own _,.own _]) ty.kd34 Z<|lmI Z<|lst (zL Tryz.func14 (heldBook_e _ _ hB.lc hB.lh hB.li (by omega)) rfl) Z<|laI Z<|nG<|aS<|sL<|lmI Z<|lbB Z<|lsB 158 false rfl (by first | (simp;done) | (simp;omega))<|nG<|aN rfl ?_
   refine aK<|gA<|lmO Z<|lmI Z<|lst (zLN Tryz.func26 (heldPostingS_e _ _ (by have := hB.lp;omega) hB.ll (by omega)) rfl (.cons (Reads.own rfl (deepV (F := ((([] ++ famP vs1 (allA x es).ps) ++ famP vs2 (mkPs (allA x es).ps (1 + 7 * ((allA x es).now.chans.length : Int) + 7 * ((allA x es).now.htlcs.length : Int) + 5 * ((allA x es).now.circles.length : Int)))) ++ famP vs4 (allA x es).ps)) tlp (hv2') (at_mid (by rw [famP_len hv2',mkPs_len])))) (.cons (Reads.lend rfl) .nil))) Z<|laI Z<|nG<|aS<|sL<|lmI Z<|lbB Z<|lsB 163 false rfl (by first | (simp;done) | (simp;omega))<|nG<|aN Z<|aK<|gA<|lmO Z<|lmI Z<|lst (zL Tryz.func27 (heldIntS_e _ _ (by have := hB.lk;omega) (by have := hB.lk;have := hB.lp;omega)) rfl) rfl ?_
   refine lTt (((([] ++ famP vs1 (allA x es).ps) ++ famP vs2 (mkPs (allA x es).ps (1 + 7 * ((allA x es).now.chans.length : Int) + 7 * ((allA x es).now.htlcs.length : Int) + 5 * ((allA x es).now.circles.length : Int)))) ++ famP vs4 (allA x es).ps)) [4,15,16,166] [vB false,vI _ _,vI _ _,vI _ _] [] [] rfl rfl ?_
   refine laI Z<|nG<|aS<|sL<|lmI Z<|lbB Z<|lsB 168 false rfl (by first | (simp;done) | (simp;omega))<|nG<|aN Z<|aK<|gT<|aS<|sL<|lmI Z<|lmI Z<|lbB Z<|lsB 171 false rfl (by first | (simp;done) | (simp;omega))<|nG<|aN Z<|aK<|gA<|laT Z<|lN ?_
   refine gT<|aR ?_
   refine end_ret ?_ trivial
   rfl

theorem lbookRV {x : Book} {w : World} {v0 v1 v2 : Value} (h0 : SlR 7 repChan w 0 w.heap.size v0 x.chans) (h1 : SlR 7 repHtlc w 0 w.heap.size v1 x.htlcs) (h2 : SlR 5 repCircle w 0 w.heap.size v2 x.circles) :
    RV (fun _ => False) (fun _ => undef) (ofO []) w (lbookV x) (.agg #[.int .i64 x.tick,.int .i64 x.next,.int .i64 x.wallet,v0,v1,v2]) := by
  rw [RV]
  refine ⟨[.int .i64 x.tick,.int .i64 x.next,.int .i64 x.wallet,v0,v1,v2],rfl,?_⟩
  simp only [RVL]
  exact ⟨_,_,rfl,RV.v_mk rfl,_,_,rfl,RV.v_mk rfl,_,_,rfl,RV.v_mk rfl,
    _,_,rfl,RV.of_slr h0 (fun _ _ h => h.1) (fun _ => rfl) (by intro c u hu;simp [encChan] at hu;rcases hu with h | h | h | h | h | h | h <;> (subst h;rfl)) (Nat.le_refl _) (fun _ _ _ => no_live),
    _,_,rfl,RV.of_slr h1 (fun _ _ h => h.1) (fun _ => rfl) (by intro c u hu;simp [encHtlc] at hu;rcases hu with h | h | h | h | h | h | h <;> (subst h;rfl)) (Nat.le_refl _) (fun _ _ _ => no_live),
    _,_,rfl,RV.of_slr h2 (fun _ _ h => h.1) (fun _ => rfl) (by intro c u hu;simp [encCircle] at hu;rcases hu with h | h | h | h | h <;> (subst h;rfl)) (Nat.le_refl _) (fun _ _ _ => no_live),rfl⟩
theorem FnExactApplyAll_walk (x : Book) (a0 : Option Addr) (c0 : Nat) (a1 : Option Addr) (c1 : Nat) (a2 : Option Addr) (c2 : Nat) (es : List Event) (ae : Option Addr) (ce : Nat) (w : World) (h0 : SlR 7 repChan w 0 w.heap.size (.slice a0 x.chans.length c0) x.chans) (h1 : SlR 7 repHtlc w 0 w.heap.size (.slice a1 x.htlcs.length c1) x.htlcs) (h2 : SlR 5 repCircle w 0 w.heap.size (.slice a2 x.circles.length c2) x.circles) (wf0 : wfBook x) (h3 : SlR 7 repEvent w 0 w.heap.size (.slice ae es.length ce) es) :
    Calls Tryz.prog 4 #[.agg #[.int .i64 x.tick,.int .i64 x.next,.int .i64 x.wallet,.slice a0 x.chans.length c0,.slice a1 x.htlcs.length c1,.slice a2 x.circles.length c2],.slice ae es.length ce] w fun r w' => r = .returned (.bool true) ∧ Grow w w' :=
  GC.calls (cs := [_,_]) rfl (FnExactApplyAll_e x es (h0.each fun _ _ _ _ h => h.2) (h1.each fun _ _ _ _ h => h.2) (h2.each fun _ _ _ _ h => h.2) (h3.each fun _ _ _ _ h => h.2) (by obtain ⟨a,c,_,k1,k2,_⟩ := h3;unfold maxLen at k2;omega)) (by
    simp only [RVL]
    exact ⟨_,_,rfl,lbookRV h0 h1 h2,_,_,rfl,RV.of_slr h3 (fun _ _ h => h.1) (fun _ => rfl) (by intro c u hu;simp [encEvent] at hu;rcases hu with h | h | h | h | h | h | h <;> (subst h;rfl)) (Nat.le_refl _) (fun _ _ _ => no_live),rfl⟩)
end Go.Proofs.YtohobndkbmpfcaaGreat

namespace Go.Proofs.YtohobndkbmpfcaaGreat.fnExactApplyAll
open Go.ChangeShapes Go.WideShapes Go.ChangeAt Go.RowKit Go.Proofs.YtohobndkbmpfcaaGreat
set_option maxHeartbeats 16000000
set_option maxRecDepth 100000
set_option linter.unusedVariables false
theorem own : ownKnob Tryz.prog.godebug = none := by kernel_rfl
theorem laid : laidOutB Tryz.prog = true := by kernel_rfl
theorem readable : ∀ t ∈ [26,48],Tryz.prog.readableRec t = true ∧ t < Tryz.prog.types.size := by
  intro t ht
  simp only [List.mem_cons,List.not_mem_nil,or_false] at ht
  rcases ht with rfl | rfl
  all_goals exact ⟨by kernel_rfl,of_decide_eq_true (by kernel_rfl)⟩
theorem lifted (os : Os) (started : os.Started) (H : Type) (enc : TypeId × Value → H) :
    ReturnsInHanded {} Tryz.checked os 4 .any (Rows.fnExactApplyAllSpec.pre6 enc Tryz.prog Tryz.f4 Rows.fnExactApplyAllRow.domain false) (Rows.fnExactApplyAllSpec.post enc Tryz.prog Tryz.f4 false true false false) := by
  refine returnsInHanded_of_change (C := Tryz.checked) own started (by kernel_rfl) Tryz.func4
    (ChangeSpec.witness6 (enc := enc) (C := Tryz.checked) false ⟨#[],#[.agg #[.int .i64 0,.int .i64 0,.int .i64 0,.slice none 0 0,.slice none 0 0,.slice none 0 0],.slice none 0 0],[]⟩ 8 (by kernel_rfl) (by kernel_rfl) (by kernel_rfl) (by kernel_rfl)) ?_
  intro W base args ds gs before hval0 hW hcnd _
  have hval : ∀ (j : Nat) t v,Tryz.f4.params[j]? = some t → args[j]? = some v → Value.okWide Tryz.prog W .any base t v := hval0
  have hW' := hW
  obtain ⟨p,q,hA0,hV,rfl,hfz,hnd⟩ := hW
  have hA : DataW.TrodAll enc Tryz.prog W 0 (fun _ => true) true Tryz.f4.params.toList args.toList ds p := hA0
  rw [Tryz.params4] at hA hval
  have hB := hA
  obtain ⟨v0,vs0,d0,ds0,p0,q0,hargs,rfl,rfl,h0,r0⟩ := trodAll_cons hA
  obtain ⟨v1,vs1,d1,ds1,p1,q1,rfl,rfl,rfl,h1,r1⟩ := trodAll_cons r0
  obtain ⟨rfl,rfl,rfl⟩ := trodAll_nil r1
  obtain rfl : args = #[v0,v1] := by cases args;simp_all
  obtain ⟨rfl,rfl⟩ := trodVars_none hV
  obtain ⟨cs0,rfl,_⟩ := okWide_struct Tryz.underlying26 (hval 0 26 v0 rfl rfl)
  obtain ⟨fu0,t0⟩ := h0
  obtain ⟨x0,u0_0,u0_1,u0_2,e0,s0_0,s0_1,s0_2,w0⟩ := trodBook t0
  have e0 : cs0 = #[.int .i64 x0.tick,.int .i64 x0.next,.int .i64 x0.wallet,u0_0,u0_1,u0_2] := Array.ext' (by simpa [Value.cells] using e0)
  subst e0
  obtain ⟨a0_0,c0_0,rfl⟩ : ∃ a c,u0_0 = Value.slice a x0.chans.length c := let ⟨a,c,h,_⟩ := s0_0;⟨a,c,h⟩
  obtain ⟨a0_1,c0_1,rfl⟩ : ∃ a c,u0_1 = Value.slice a x0.htlcs.length c := let ⟨a,c,h,_⟩ := s0_1;⟨a,c,h⟩
  obtain ⟨a0_2,c0_2,rfl⟩ : ∃ a c,u0_2 = Value.slice a x0.circles.length c := let ⟨a,c,h,_⟩ := s0_2;⟨a,c,h⟩
  obtain ⟨a1,l1,c1,rfl⟩ := okWide_slice Tryz.underlying48 (hval 1 48 v1 rfl rfl)
  obtain ⟨fu1,t1⟩ := h1
  obtain ⟨x1,s1⟩ := SlR.of_trod (rep := repEvent) Tryz.underlying48 cellsEvent (by decide) (fun _ _ _ h => trodEvent h) t1
  obtain rfl : l1 = x1.length := by obtain ⟨_,_,he,_⟩ := s1;injection he
  clear hA0 hval0
  simp only [List.append_nil] at hW'
  refine (FnExactApplyAll_walk x0 a0_0 c0_0 a0_1 c0_1 a0_2 c0_2 x1 a1 c1 W s0_0 s0_1 s0_2 w0 s1).mono fun e W' ⟨he,hg⟩ => ?_
  subst he
  exact ⟨_,rfl,_,_,_,_,_,[],hW',trodAll_mk1 (shut_bool Tryz.underlying4 true),
    trodAll_below laid hg.below (readable) hB,rfl,hg.below.frame _,fun h => by cases h⟩
theorem over : Rows.fnExactApplyAllRow.holds Tryz.pinned (OpenSpec.ofChange Rows.fnExactApplyAllSpec) :=
  OpenClaim.holds_of_wide 4 Tryz.f4 rfl rfl rfl rfl rfl rfl rfl ⟨rfl,rfl,rfl,rfl,rfl⟩ rfl rfl rfl rfl rfl (by kernel_rfl) Tryz.func4 (by kernel_rfl)
    (of_decide_eq_true (by kernel_rfl)) (by unfold Func.isWrapper;first | (rw [if_pos (by decide +kernel)];kernel_rfl) | (rw [if_neg (by decide +kernel)];exact ⟨rfl,rfl⟩))
    (fun os started H enc _ => lifted os started H enc)
theorem proved : Rows.FnExactApplyAllSaid :=
  over
#print axioms proved
end Go.Proofs.YtohobndkbmpfcaaGreat.fnExactApplyAll

