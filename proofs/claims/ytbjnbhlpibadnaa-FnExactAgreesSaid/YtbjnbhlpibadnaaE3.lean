/- What a walk over data is: codes, regions and operations, told by what slots and objects hold. No program in sight. -/
import Derived.Test.YtbjnbhlpibadnaaE2
import Derived.Test.YtbjnbhlpibadnaaAnyG
import Derived.Scope
namespace Go.Proofs.Ytbjnbhlpibadnaa
open Go.RowKit
set_option linter.unusedSimpArgs false
set_option linter.unusedVariables false

/-- A constant as data. -/
def cst : Value → AV
  | .agg cs => if cs.toList.all (·.oneCell') = true then .agg (cs.toList.map fun c => .p (.v c)) else .bad
  | .tuple _ => .bad
  | v => .p (.v v)
def ev (τ : Nat → AV) : Operand → AV
  | .tmp t => τ t
  | .const v => cst v
  | .func f => .clo (.func f) [] []
  | .global _ => .bad

section
variable {L : Nat → Prop} {ρ : Nat → Value} {H : Nat → AO} {w : World}
theorem RV.v_eq {x c : Value} (h : RV L ρ H w (.p (.v x)) c) : c = x := by
  rw [RV] at h
  obtain ⟨fp, h, _⟩ := h
  rw [RW] at h
  exact h.1
theorem RV.v_mk {x : Value} (h : x.oneCell' = true) : RV L ρ H w (.p (.v x)) x := by
  rw [RV]
  exact ⟨[], by rw [RW]; exact ⟨rfl, rfl, h⟩, by simp⟩
theorem RVL.pv : ∀ (cs : List Value), cs.all (·.oneCell') = true → RVL L ρ H w (cs.map fun c => .p (.v c)) cs
  | [], _ => by simp [RVL]
  | c :: r, h => by
    rw [List.all_cons, Bool.and_eq_true] at h
    rw [List.map_cons, RVL]
    exact ⟨c, r, rfl, RV.v_mk h.1, RVL.pv r h.2⟩
theorem RV.cst (v : Value) : RV L ρ H w (cst v) v := by
  cases v with
  | agg cs =>
    unfold Proofs.Ytbjnbhlpibadnaa.cst
    dsimp only
    split
    · rename_i h
      rw [RV]
      exact ⟨cs.toList, by simp, RVL.pv _ h⟩
    · simp [RV]
  | tuple vs => simp [Proofs.Ytbjnbhlpibadnaa.cst, RV]
  | _ => exact RV.v_mk rfl
end

section
variable {L O : Nat → Prop} {w0 : World} {N : Nat} {τ τ' : Nat → AV} {H H' : Nat → AO} {ρ : Nat → Value} {fp : Nat → List Nat} {a : Act} {w : World}
theorem RR.ev (h : RR L O w0 N τ H ρ fp a w) (x : Operand) : RV L ρ H w (ev τ x) (a.eval x) := by
  cases x with
  | tmp t => exact h.tm t
  | const v => exact RV.cst v
  | global g => simp [Proofs.Ytbjnbhlpibadnaa.ev, RV]
  | func f =>
    unfold Proofs.Ytbjnbhlpibadnaa.ev Act.eval
    dsimp only
    rw [RV]
    exact ⟨[], [], by simp, by simp [RVL], by simp [RVL]⟩
theorem RR.put (h : RR L O w0 N τ H ρ fp a w) {t : Nat} {x : AV} {c : Value} (hx : RV L ρ H w x c) (ht : t < N) : RR L O w0 N (upd τ t x) H ρ fp (a.put (some t) c) w := by
  refine ⟨h.chg, by simp [Act.put, h.size], h.defers, fun s => ?_, h.ob, h.dj, h.own, h.lo⟩
  unfold Act.put
  by_cases e : s = t
  · subst e
    rw [upd_same]
    have : (a.tmps.setIfInBounds s c).getD s undef = c := by simp [h.size, ht]
    dsimp only
    rw [this]
    exact hx
  · rw [upd_ne _ _ e]
    dsimp only
    have : (a.tmps.setIfInBounds t c).getD s undef = a.tmps.getD s undef := by simp [Array.getD_eq_getD_getElem?, Array.getElem?_setIfInBounds_ne (Ne.symm e)]
    rw [this]
    exact h.tm s
theorem RR.size_put {o : Option Tmp} {c : Value} (h : RR L O w0 N τ H ρ fp a w) : (a.put o c).tmps.size = N := by cases o <;> simp [Act.put, h.size]
/-- What a slot is set to, if there is one. -/
def updo (τ : Nat → AV) (t : Option Nat) (x : AV) : Nat → AV := match t with | some t => upd τ t x | none => τ
theorem RR.puto (h : RR L O w0 N τ H ρ fp a w) (t : Option Nat) {x : AV} {c : Value} (hx : RV L ρ H w x c) (ht : ∀ s, t = some s → s < N) : RR L O w0 N (updo τ t x) H ρ fp (a.put t c) w := by
  cases t with
  | none => exact h
  | some t => exact h.put hx (ht t rfl)
/-- Slots and objects may be forgotten. -/
theorem RR.weak (h : RR L O w0 N τ H ρ fp a w) (hs : ∀ t, τ' t = .bad ∨ τ' t = τ t) (hH : ∀ id, H' id = .gone ∨ H' id = H id) : ∃ fp', RR L O w0 N τ' H' ρ fp' a w ∧ Env L ρ ρ H H' w w noK := by
  have E : Env L ρ ρ H H' w w noK := by
    refine ⟨Nat.le_refl _, fun b _ hn => ⟨rfl, ?_⟩, fun id _ hh => ?_⟩
    · rintro (hL | ⟨id, h1, h2⟩)
      · exact hn (.inl hL)
      rcases hH id with q | q
      · rw [q] at h1; cases h1
      · rw [q] at h1; exact hn (.inr ⟨id, h1, h2⟩)
    · rcases hH id with q | q
      · rw [q] at hh; cases hh
      · rw [q] at hh ⊢; exact ⟨hh, rfl, rfl, rfl⟩
  refine ⟨fun id => if (H' id).here = true then fp id else [], ⟨h.chg, h.size, h.defers, fun t => ?_, fun id => ?_, fun i j hij b hb => ?_, fun id => ?_, h.lo⟩, E⟩
  · rcases hs t with q | q
    · rw [q]; simp [RV]
    · rw [q]
      have := RV.env E _ (h.tm t)
      rwa [kil_no] at this
  · rcases hH id with q | q
    · rw [q]; simp [OB, AO.here]
    · rw [q]
      have := (h.ob id).env E (fun b _ => rfl)
      rw [AO.kil_no] at this
      split
      · exact this
      · rename_i hn
        cases hq : H id with
        | gone => simp [OB]
        | box T p cs => rw [hq] at hn; exact absurd rfl hn
        | arr e sz rows => rw [hq] at hn; exact absurd rfl hn
  · split at hb
    · split
      · exact h.dj i j hij b hb
      · simp
    · simp at hb
  · split
    · exact h.own id
    · simp
end

/-- W is w but for the blocks of objects in X and new blocks. -/
def Keep (X : Nat → Bool) (ρ : Nat → Value) (H : Nat → AO) (w W : World) : Prop :=
  w.heap.size ≤ W.heap.size ∧ ∀ b, b < w.heap.size → (∀ id, X id = true → (H id).here = true → (ρ id).ownBlock ≠ some b) → W.heap[b]? = w.heap[b]?
theorem Keep.refl (X : Nat → Bool) (ρ : Nat → Value) (H : Nat → AO) (w : World) : Keep X ρ H w w := ⟨Nat.le_refl _, fun _ _ _ => rfl⟩
/-- A step that leaves all but the blocks of objects in X and new ones. -/
def Mv (X : Nat → Bool) (ρ : Nat → Value) (H : Nat → AO) (w : World) (ρ' : Nat → Value) (H' : Nat → AO) (w' : World) : Prop :=
  Keep X ρ H w w' ∧ ∀ id, X id = true → (H' id).here = true → ∀ b, (ρ' id).ownBlock = some b → w.heap.size ≤ b ∨ ∃ j, X j = true ∧ (H j).here = true ∧ (ρ j).ownBlock = some b
theorem Mv.keep {X : Nat → Bool} {ρ ρ' : Nat → Value} {H H' : Nat → AO} {w w' W : World} (h : Mv X ρ H w ρ' H' w') (k : Keep X ρ' H' w' W) : Keep X ρ H w W :=
  ⟨Nat.le_trans h.1.1 k.1, fun b hb hn => by
    rw [k.2 b (Nat.lt_of_lt_of_le hb h.1.1) (fun id h1 h2 h3 => ?_)]
    · exact h.1.2 b hb hn
    · rcases h.2 id h1 h2 b h3 with q | ⟨j, q1, q2, q3⟩
      · omega
      · exact hn j q1 q2 q3⟩

/-- The operation reads or reckons alone: it yields x, whatever happens to the objects in X meanwhile. -/
structure Rd (P : Program) (o : Oper) (τ : Nat → AV) (H : Nat → AO) (X : Nat → Bool) (x : AV) : Prop where
  run : ∀ {L O : Nat → Prop} {w0 : World} {N : Nat} {ρ : Nat → Value} {fp : Nat → List Nat} {a : Act} {w : World}, RR L O w0 N τ H ρ fp a w →
    ∃ c, RV L ρ H w x c ∧ ∀ W, Keep X ρ H w W → (execOp a.eval o).run P W = .ok (.value c) W
/-- The operation leaves the slots τ' and the objects H', and touches the objects in E alone. -/
structure St (P : Program) (o : Oper) (N : Nat) (τ : Nat → AV) (H : Nat → AO) (E : List Nat) (τ' : Nat → AV) (H' : Nat → AO) : Prop where
  run : ∀ {L O : Nat → Prop} {w0 : World} {ρ : Nat → Value} {fp : Nat → List Nat} {a : Act} {w : World} {K : Act → World → Prop} {Q : Exit → Act → World → Prop}, RR L O w0 N τ H ρ fp a w →
    (∀ a' w' ρ' fp', RR L O w0 N τ' H' ρ' fp' a' w' → (∀ X : Nat → Bool, (∀ id ∈ E, X id = true) → Mv X ρ H w ρ' H' w') → K a' w') → o.wp P a w K Q

/-- Whether the operation is wanted, as far as it can be told. -/
def gv (τ : Nat → AV) (ops : Array Oper) (o : Oper) : Option Bool :=
  match o.guard with
  | none => some true
  | some (j, want) =>
    match (ops[j]?).bind (·.dst) with
    | none => some false
    | some t => match τ t with
      | .p (.v (.bool b)) => some (b == want)
      | .tup [] => some false
      | _ => none
theorem RR.wanted {L O : Nat → Prop} {w0 : World} {N : Nat} {τ : Nat → AV} {H : Nat → AO} {ρ : Nat → Value} {fp : Nat → List Nat} {a : Act} {w : World} (h : RR L O w0 N τ H ρ fp a w)
    {ops : Array Oper} {o : Oper} {b : Bool} (hg : gv τ ops o = some b) : Region.wanted o (yielded ops a.tmps) = b := by
  unfold gv at hg
  unfold Region.wanted
  split at hg
  · rename_i hq
    rw [hq]
    injection hg
  · rename_i j want hq
    rw [hq]
    dsimp only
    unfold yielded
    split at hg
    · rename_i hd
      rw [hd]
      injection hg
    · rename_i t hd
      rw [hd]
      have ht := h.tm t
      split at hg
      · rename_i b' hb
        rw [hb] at ht
        have e := ht.v_eq
        injection hg with hg
        subst hg
        rcases Nat.lt_or_ge t a.tmps.size with q | q
        · rw [Array.getD_eq_getD_getElem?, Array.getElem?_eq_getElem q] at e
          simp only [Option.getD_some] at e
          simp [Array.getElem?_eq_getElem q, e]
        · rw [Array.getD_eq_getD_getElem?, Array.getElem?_eq_none q] at e
          cases e
      · rename_i hb
        rw [hb] at ht
        rw [RV] at ht
        obtain ⟨cs, e, _⟩ := ht
        injection hg with hg
        subst hg
        rcases Nat.lt_or_ge t a.tmps.size with q | q
        · rw [Array.getD_eq_getD_getElem?, Array.getElem?_eq_getElem q] at e
          simp only [Option.getD_some] at e
          simp [Array.getElem?_eq_getElem q, e]
        · simp [Array.getElem?_eq_none q]
      · cases hg

/-- An assertion on how a code is left. -/
abbrev AQ := Exit → (Nat → AV) → (Nat → AO) → Prop
def QQ (L O : Nat → Prop) (w0 : World) (N : Nat) (Q : AQ) : Exit → Act → World → Prop := fun e a w => ∃ τ H ρ fp, RR L O w0 N τ H ρ fp a w ∧ Q e τ H
def AW (P : Program) (L O : Nat → Prop) (w0 : World) (N : Nat) (c : Code) (τ : Nat → AV) (H : Nat → AO) (Q : AQ) : Prop :=
  ∀ ρ fp a w, RR L O w0 N τ H ρ fp a w → c.wp P (QQ L O w0 N Q) a w
def AL (P : Program) (L O : Nat → Prop) (w0 : World) (N : Nat) (ops : Array Oper) (l : List Oper) (τ : Nat → AV) (H : Nat → AO) (Q : AQ) : Prop :=
  ∀ ρ fp a w, RR L O w0 N τ H ρ fp a w → wpList P ops (QQ L O w0 N Q) l a w
def AG (P : Program) (L O : Nat → Prop) (w0 : World) (N : Nat) (ops : Array Oper) (f : Nat) (X : Nat → Bool) (n : Nat) (listed : Array Bool) (τ : Nat → AV) (H : Nat → AO) (Q : AQ) : Prop :=
  ∀ ρ fp a w, RR L O w0 N τ H ρ fp a w → wpAnyG P .any ops (QQ L O w0 N Q) (Keep X ρ H w) f n listed a w
def AQ.andThen (K : (Nat → AV) → (Nat → AO) → Prop) (Q : AQ) : AQ := fun e τ H => match e with | .normal => K τ H | e => Q e τ H
def AQ.inBlock (id : Nat) (Q : AQ) : AQ := fun e τ H => match e with | .exit i => if i = id then Q .normal τ H else Q (.exit i) τ H | e => Q e τ H
def AQ.noGoto (Q : AQ) : AQ := fun e τ H => match e with | .goto _ => False | e => Q e τ H

section
variable {P : Program} {L O : Nat → Prop} {w0 : World} {N : Nat} {τ τ' : Nat → AV} {H H' : Nat → AO} {Q Q' : AQ}
theorem QQ.mono {e : Exit} {a : Act} {w : World} (h : QQ L O w0 N Q e a w) (hq : ∀ e τ H, Q e τ H → Q' e τ H) : QQ L O w0 N Q' e a w := by
  obtain ⟨τ, H, ρ, fp, h1, h2⟩ := h
  exact ⟨τ, H, ρ, fp, h1, hq _ _ _ h2⟩
theorem AW.mono {c : Code} (h : AW P L O w0 N c τ H Q) (hq : ∀ e τ H, Q e τ H → Q' e τ H) : AW P L O w0 N c τ H Q' :=
  fun ρ fp a w hr => Code.wp_mono (fun _ _ _ q => q.mono hq) (h ρ fp a w hr)
theorem AW.weak {c : Code} (hs : ∀ t, τ' t = .bad ∨ τ' t = τ t) (hH : ∀ id, H' id = .gone ∨ H' id = H id) (h : AW P L O w0 N c τ' H' Q) : AW P L O w0 N c τ H Q := fun ρ fp a w hr => by
  obtain ⟨fp', hr', _⟩ := hr.weak hs hH
  exact h ρ fp' a w hr'
theorem AW.seq {x y : Code} (h : AW P L O w0 N x τ H (Q.andThen fun τ H => AW P L O w0 N y τ H Q)) : AW P L O w0 N (.seq x y) τ H Q := fun ρ fp a w hr =>
  wp_seq (Code.wp_mono (fun e a w q => by
    obtain ⟨τ, H, ρ, fp, h1, h2⟩ := q
    cases e <;> first | exact ⟨τ, H, ρ, fp, h1, h2⟩ | exact h2 ρ fp a w h1) (h ρ fp a w hr))
theorem AW.skip (h : Q .normal τ H) : AW P L O w0 N .skip τ H Q := fun ρ fp a w hr => wp_skip ⟨τ, H, ρ, fp, hr, h⟩
theorem AW.ret (h : Q .ret τ H) : AW P L O w0 N .ret τ H Q := fun ρ fp a w hr => wp_ret ⟨τ, H, ρ, fp, hr, h⟩
theorem AW.exit {id : Nat} (h : Q (.exit id) τ H) : AW P L O w0 N (.exit id) τ H Q := fun ρ fp a w hr => wp_exit ⟨τ, H, ρ, fp, hr, h⟩
theorem AW.block {id : Nat} {c : Code} (h : AW P L O w0 N c τ H (Q.inBlock id)) : AW P L O w0 N (.block id c) τ H Q := fun ρ fp a w hr =>
  wp_block (Code.wp_mono (fun e a w q => by
    obtain ⟨τ, H, ρ, fp, h1, h2⟩ := q
    cases e <;> try exact ⟨τ, H, ρ, fp, h1, h2⟩
    rename_i i
    unfold AQ.inBlock at h2
    unfold Exit.inBlock
    dsimp only at h2 ⊢
    split at h2
    · rename_i q; rw [if_pos q]; exact ⟨τ, H, ρ, fp, h1, h2⟩
    · rename_i q; rw [if_neg q]; exact ⟨τ, H, ρ, fp, h1, h2⟩) (h ρ fp a w hr))
theorem AW.scope {c : Code} (h : AW P L O w0 N c τ H Q.noGoto) : AW P L O w0 N (.scope c) τ H Q := fun ρ fp a w hr =>
  wp_scope_straight (Code.wp_mono (fun e a w q => by
    obtain ⟨τ, H, ρ, fp, h1, h2⟩ := q
    cases e <;> first | exact ⟨τ, H, ρ, fp, h1, h2⟩ | exact h2) (h ρ fp a w hr))
theorem AW.cond {c : Operand} {x y : Code} {t : Bool} (hc : ev τ c = .p (.v (.bool t))) (ht : t = true → AW P L O w0 N x τ H Q) (hf : t = false → AW P L O w0 N y τ H Q) : AW P L O w0 N (.cond c x y) τ H Q := fun ρ fp a w hr => by
  have e := hr.ev c
  rw [hc] at e
  exact wp_cond_split e.v_eq (fun q => ht q ρ fp a w hr) (fun q => hf q ρ fp a w hr)
theorem AW.yes {c : Operand} {x y : Code} (hc : ev τ c = .p (.v (.bool true))) (h : AW P L O w0 N x τ H Q) : AW P L O w0 N (.cond c x y) τ H Q := AW.cond hc (fun _ => h) (fun q => by cases q)
theorem AW.no {c : Operand} {x y : Code} (hc : ev τ c = .p (.v (.bool false))) (h : AW P L O w0 N y τ H Q) : AW P L O w0 N (.cond c x y) τ H Q := AW.cond hc (fun q => by cases q) (fun _ => h)

/-- Slots and objects by a list. -/
def ofT : List (Nat × AV) → Nat → AV
  | [], _ => .bad
  | (s, x) :: l, t => if t = s then x else ofT l t
def ofO : List (Nat × AO) → Nat → AO
  | [], _ => .gone
  | (s, x) :: l, t => if t = s then x else ofO l t
def allT : List (Nat × AV) → (Nat → AV) → Prop
  | [], _ => True
  | (s, x) :: l, τ => τ s = x ∧ allT l τ
def allO : List (Nat × AO) → (Nat → AO) → Prop
  | [], _ => True
  | (s, x) :: l, τ => τ s = x ∧ allO l τ
theorem allT.weak : ∀ {l : List (Nat × AV)} {τ : Nat → AV}, allT l τ → ∀ t, ofT l t = .bad ∨ ofT l t = τ t
  | [], τ, _, t => .inl rfl
  | (s, x) :: l, τ, h, t => by
    unfold ofT
    split
    · rename_i q; subst q; exact .inr h.1.symm
    · exact allT.weak h.2 t
theorem allO.weak : ∀ {l : List (Nat × AO)} {τ : Nat → AO}, allO l τ → ∀ t, ofO l t = .gone ∨ ofO l t = τ t
  | [], τ, _, t => .inl rfl
  | (s, x) :: l, τ, h, t => by
    unfold ofO
    split
    · rename_i q; subst q; exact .inr h.1.symm
    · exact allO.weak h.2 t
/-- A loop: the rounds' data d, what they say of slots and objects, and a measure. -/
theorem AW.loop {D : Type} (T : D → List (Nat × AV)) (B : D → List (Nat × AO)) (I : D → Prop) (μ : D → Nat) {c : Code} (d : D) (h0 : I d) (h1 : allT (T d) τ) (h2 : allO (B d) H)
    (round : ∀ d, I d → AW P L O w0 N c (ofT (T d)) (ofO (B d)) (Q.andThen fun τ H => ∃ d', I d' ∧ μ d' < μ d ∧ allT (T d') τ ∧ allO (B d') H)) : AW P L O w0 N (.loop c) τ H Q := fun ρ fp a w hr => by
  obtain ⟨fp', hr', _⟩ := hr.weak h1.weak h2.weak
  have key : ∀ n (d : D), μ d = n → I d → ∀ ρ fp a w, RR L O w0 N (ofT (T d)) (ofO (B d)) ρ fp a w → ∀ b k cs, ∃ e a' w', QQ L O w0 N Q e a' w' ∧ Arrives P (lone (b.at a (.code c :: .inLoop c :: k)) cs w) b k cs e a' w' := by
    intro n
    induction n using Nat.strongRecOn with
    | _ n ih =>
      intro d hn hI ρ fp a w hr b k cs
      obtain ⟨e, a₁, w₁, hq, harr⟩ := round d hI ρ fp a w hr b (.inLoop c :: k) cs
      obtain ⟨τ₁, H₁, ρ₁, fp₁, hr₁, hq⟩ := hq
      cases e with
      | normal =>
        obtain ⟨d', i1, i2, i3, i4⟩ := hq
        obtain ⟨fp₂, hr₂, _⟩ := hr₁.weak i3.weak i4.weak
        obtain ⟨e₂, a₂, w₂, hq₂, harr₂⟩ := ih (μ d') (hn ▸ i2) d' rfl i1 ρ₁ fp₂ a₁ w₁ hr₂ b k cs
        exact ⟨e₂, a₂, w₂, hq₂, .of_steps (Steps.trans harr (.one step_inLoop)) harr₂⟩
      | exit id => exact ⟨_, a₁, w₁, ⟨τ₁, H₁, ρ₁, fp₁, hr₁, hq⟩, .pass (x := .inLoop c) rfl (fun _ _ => .inl (by simp)) harr⟩
      | goto l => exact ⟨_, a₁, w₁, ⟨τ₁, H₁, ρ₁, fp₁, hr₁, hq⟩, .pass (x := .inLoop c) rfl (fun _ _ => .inl (by simp)) harr⟩
      | ret => exact ⟨_, a₁, w₁, ⟨τ₁, H₁, ρ₁, fp₁, hr₁, hq⟩, .pass (x := .inLoop c) rfl (fun _ _ => .inl (by simp)) harr⟩
      | panic ch => exact ⟨_, a₁, w₁, ⟨τ₁, H₁, ρ₁, fp₁, hr₁, hq⟩, .pass (x := .inLoop c) rfl (fun _ _ => .inl (by simp)) harr⟩
      | outgrown => exact ⟨_, a₁, w₁, ⟨τ₁, H₁, ρ₁, fp₁, hr₁, hq⟩, .pass (x := .inLoop c) rfl (fun _ _ => .inl (by simp)) harr⟩
  intro b k cs
  obtain ⟨e, a', w', hq, harr⟩ := key (μ d) d rfl h0 ρ fp' a w hr' b k cs
  exact ⟨e, a', w', hq, .of_steps (.one step_loop) harr⟩

/-! ## Regions whose order is told -/
theorem AW.list {id : Nat} {l : List Oper} (h : AL P L O w0 N l.toArray l τ H Q) : AW P L O w0 N (.region id l.toArray false) τ H Q := fun ρ fp a w hr => wp_region_lit (h ρ fp a w hr)
variable {ops : Array Oper} {o : Oper} {l : List Oper}
theorem AL.nil (h : Q .normal τ H) : AL P L O w0 N ops [] τ H Q := fun ρ fp a w hr => wpList_nil ⟨τ, H, ρ, fp, hr, h⟩
theorem AL.rd {x : AV} {t : Nat} (hr : Rd P o τ H (fun _ => false) x) (hg : gv τ ops o = some true) (hd : o.dst = some t) (ht : t < N) (h : AL P L O w0 N ops l (upd τ t x) H Q) : AL P L O w0 N ops (o :: l) τ H Q := fun ρ fp a w hrr =>
  wpList_step fun K hK => by
    rw [hrr.wanted hg, if_pos rfl]
    obtain ⟨c, h1, h2⟩ := hr.run hrr
    unfold Oper.wp
    rw [h2 w (Keep.refl _ _ _ _)]
    refine hK _ _ (h ρ fp _ w ?_)
    rw [hd]
    exact hrr.put h1 ht
theorem AL.no {t : Nat} (hg : gv τ ops o = some false) (hd : o.dst = some t) (ht : t < N) (h : AL P L O w0 N ops l (upd τ t (.tup [])) H Q) : AL P L O w0 N ops (o :: l) τ H Q := fun ρ fp a w hrr =>
  wpList_step fun K hK => by
    rw [hrr.wanted hg, if_neg (by simp)]
    refine hK _ _ (h ρ fp _ w ?_)
    rw [hd]
    exact hrr.put (by rw [RV]; exact ⟨[], rfl, by simp [RVL]⟩) ht
theorem AL.st {E : List Nat} (hs : St P o N τ H E τ' H') (hg : gv τ ops o = some true) (h : AL P L O w0 N ops l τ' H' Q) : AL P L O w0 N ops (o :: l) τ H Q := fun ρ fp a w hrr =>
  wpList_step fun K hK => by
    rw [hrr.wanted hg, if_pos rfl]
    exact hs.run hrr (fun a' w' ρ' fp' hr' _ => hK _ _ (h ρ' fp' a' w' hr'))

/-- What f waits for, at whatever remove (found in one pass from the end). -/
def reachStep (md : Region.Mode) (ops : Array Oper) (S : Array Bool) (j : Nat) : Array Bool :=
  if S.getD j false = true then (match ops[j]? with
    | some o => o.after.toList.foldl (fun S e => if Region.binds md e = true then S.setIfInBounds e.on true else S) S
    | none => S) else S
def reachB (md : Region.Mode) (ops : Array Oper) (f : Nat) : Array Bool := (List.range ops.size).reverse.foldl (reachStep md ops) ((Array.replicate ops.size false).setIfInBounds f true)
theorem getD_set_of {S : Array Bool} {i j : Nat} (h : (S.setIfInBounds i true).getD j false = true) : j = i ∨ S.getD j false = true := by
  by_cases q : i = j
  · exact .inl q.symm
  · rw [getD_set_ne false q] at h; exact .inr h
theorem reachB_listed {md : Region.Mode} {ops : Array Oper} {f : Nat} {listed : Array Bool} (hc : Closed md ops listed) (hf : ∀ of_, ops[f]? = some of_ → ∀ e ∈ of_.after, Region.binds md e = true → listed.getD e.on false = true) {i : Nat} (h : (reachB md ops f).getD i false = true) : i = f ∨ listed.getD i false = true := by
  have inner : ∀ (l : List Edge) (S : Array Bool), (∀ j, S.getD j false = true → j = f ∨ listed.getD j false = true) → (∀ e ∈ l, Region.binds md e = true → listed.getD e.on false = true) →
      ∀ j, (l.foldl (fun S e => if Region.binds md e = true then S.setIfInBounds e.on true else S) S).getD j false = true → j = f ∨ listed.getD j false = true := by
    intro l
    induction l with
    | nil => intro S hS _ j hj; exact hS j hj
    | cons e l ih =>
      intro S hS hl j hj
      rw [List.foldl_cons] at hj
      refine ih _ (fun j' hj' => ?_) (fun e' he' => hl e' (by simp [he'])) j hj
      split at hj'
      · rename_i hb
        rcases getD_set_of hj' with q | q
        · subst q; exact .inr (hl e (by simp) hb)
        · exact hS j' q
      · exact hS j' hj'
  have outer : ∀ (l : List Nat) (S : Array Bool), (∀ j, S.getD j false = true → j = f ∨ listed.getD j false = true) → ∀ j, (l.foldl (reachStep md ops) S).getD j false = true → j = f ∨ listed.getD j false = true := by
    intro l
    induction l with
    | nil => intro S hS j hj; exact hS j hj
    | cons m l ih =>
      intro S hS j hj
      rw [List.foldl_cons] at hj
      refine ih _ (fun j' hj' => ?_) j hj
      unfold reachStep at hj'
      split at hj'
      · rename_i hm
        split at hj'
        · rename_i o ho
          refine inner o.after.toList S hS (fun e he hb => ?_) j' hj'
          rcases hS m hm with q | q
          · subst q; exact hf o ho e (by simpa using he) hb
          · exact hc m o ho q e (by simpa using he) hb
        · exact hS j' hj'
      · exact hS j' hj'
  refine outer _ _ (fun j hj => ?_) i h
  rcases getD_set_of hj with q | q
  · exact .inl q
  · exfalso
    rcases Nat.lt_or_ge j ops.size with q' | q'
    · simp [q'] at q
    · simp [q'] at q
theorem wpAnyG_firstR {md : Region.Mode} {Q : Exit → Act → World → Prop} {S : World → Prop} {f i : Nat} {oi : Oper} {v : Value} (hi : ops[i]? = some oi) (hsel : ∀ (j : Nat) (o : Oper) cs b, ops[j]? = some o → o.op ≠ .select cs b)
    (hQ : ∀ c a w, Q (.panic c) (a.put oi.dst v) w → Q (.panic c) a w) (hf : (reachB md ops f).getD i false = true) :
    ∀ (fuel : Nat) (listed : Array Bool) (a : Act) (w : World),
      (∀ j oj, ops[j]? = some oj → j ≠ i → listed.getD j true = false → (∀ e ∈ oj.after, Region.binds md e = true → e.on ≠ i) → oi.apart ops oj = true) →
      Closed md ops listed → i ∈ Region.ready md ops listed → YieldsIf P ops S oi v a → S w →
      wpAnyG P md ops Q S f fuel (listed.setIfInBounds i true) (a.put oi.dst v) w → wpAnyG P md ops Q S f (fuel + 1) listed a w := by
  intro fuel
  induction fuel with
  | zero =>
    intro listed a w _ _ hr hy hS H
    refine ⟨fun h => (by rw [h] at hr; cases hr), fun j hj => ?_⟩
    by_cases hji : j = i
    · subst hji; exact hy.wpOp hi hS ⟨fun _ => hS, H⟩
    · have := ready_mono hj hji
      rw [H.1] at this
      cases this
  | succ fuel ih =>
    intro listed a w hfree hcl hr hy hS H
    refine ⟨fun h => (by rw [h] at hr; cases hr), fun j hj => ?_⟩
    by_cases hji : j = i
    · subst hji; exact hy.wpOp hi hS ⟨fun _ => hS, H⟩
    · have h1 := H.2 j (ready_mono hj hji)
      obtain ⟨hjun, oj, hoj, hall⟩ := mem_ready.1 hj
      have hnot : ∀ e ∈ oj.after, Region.binds md e = true → e.on ≠ i := fun e he hb heq => by
        have h1 := hall e he hb
        have h0 := (mem_ready.1 hr).1
        rw [heq] at h1
        rcases Nat.lt_or_ge i listed.size with h' | h'
        · simp [h'] at h0 h1; rw [h0] at h1; cases h1
        · simp [Array.getElem?_eq_none h'] at h1
      have h2 := wpOp_putIf hoj (hfree j oj hoj hji hjun hnot) (fun cs b => hsel i oi cs b hi) (fun cs b => hsel j oj cs b hoj) hQ hy h1
      have hfree' : ∀ k ok, ops[k]? = some ok → k ≠ i → (listed.setIfInBounds j true).getD k true = false →
          (∀ e ∈ ok.after, Region.binds md e = true → e.on ≠ i) → oi.apart ops ok = true := fun k ok hk hki hun hno => by
        refine hfree k ok hk hki ?_ hno
        by_cases hjk : j = k
        · subst hjk; exact hjun
        · rw [getD_set_ne true hjk] at hun; exact hun
      have hjf : j ≠ f := fun q => by
        subst q
        have hl := reachB_listed hcl (fun of_ hof e he hb => by rw [hoj] at hof; injection hof with hof; subst hof; exact hall e he hb) hf
        rcases hl with hl | hl
        · exact hji hl.symm
        · have h0 := (mem_ready.1 hr).1
          rcases Nat.lt_or_ge i listed.size with h' | h'
          · simp [h'] at h0 hl; rw [h0] at hl; cases hl
          · simp [Array.getElem?_eq_none h'] at hl
      refine wpOp_mono (fun a' w' h3 => ⟨fun _ => h3.2.1 hjf, ih (listed.setIfInBounds j true) a' w' hfree' (hcl.set hj) (ready_mono hr (Ne.symm hji)) h3.1 (h3.2.1 hjf) ?_⟩) h2
      rw [Array.setIfInBounds_comm _ _ hji]
      exact h3.2.2
theorem wpAnyG_takeR {md : Region.Mode} {Q : Exit → Act → World → Prop} {S : World → Prop} {f i : Nat} {oi : Oper} {v : Value} {fuel : Nat} {listed : Array Bool} {a : Act} {w : World} (hi : ops[i]? = some oi)
    (hs : Region.noSelect ops = true) (hf : Region.free md ops listed i = true) (hr : (Region.ready md ops listed).contains i = true) (hw : (reachB md ops f).getD i false = true) (hc : closedB md ops listed = true)
    (hQ : ∀ c a w, Q (.panic c) (a.put oi.dst v) w → Q (.panic c) a w) (hy : YieldsIf P ops S oi v a) (hS : S w)
    (h : wpAnyG P md ops Q S f fuel (listed.setIfInBounds i true) (a.put oi.dst v) w) : wpAnyG P md ops Q S f (fuel + 1) listed a w :=
  wpAnyG_firstR hi (Region.noSelect_spec hs) hQ hw fuel listed a w (Region.free_spec hi hf) (Closed.of hc) (by simpa using hr) hy hS h

/-! ## Regions that draw their order -/
theorem wpAnyG_mono {md : Region.Mode} {Q : Exit → Act → World → Prop} {S S' : World → Prop} {f : Nat} (hS : ∀ W, S' W → S W) : ∀ (n : Nat) (listed : Array Bool) (a : Act) (w : World), wpAnyG P md ops Q S' f n listed a w → wpAnyG P md ops Q S f n listed a w
  | 0, _, _, _, h => h
  | n + 1, _, _, _, h => ⟨h.1, fun i hi => wpOp_mono (fun a' w' h' => ⟨fun hf => hS _ (h'.1 hf), wpAnyG_mono hS n _ a' w' h'.2⟩) (h.2 i hi)⟩
theorem RR.drew {ρ : Nat → Value} {fp : Nat → List Nat} {a : Act} {w : World} (h : RR L O w0 N τ H ρ fp a w) : RR L O w0 N τ H ρ fp a w.drew :=
  have E : Env L ρ ρ H H w w.drew noK := ⟨Nat.le_refl _, fun _ _ h => ⟨rfl, h⟩, fun _ _ h => ⟨h, rfl, rfl, rfl⟩⟩
  ⟨⟨h.chg.os, h.chg.tape, h.chg.output, h.chg.size, h.chg.block, h.chg.nf⟩, h.size, h.defers, fun t => by have := RV.env E _ (h.tm t); rwa [kil_no] at this, fun id => by
    have := (h.ob id).env E (fun b _ => rfl)
    rwa [AO.kil_no] at this, h.dj, h.own, h.lo⟩
theorem AW.draw {id : Nat} (f : Nat) (X : Nat → Bool) (hm : P.follows .mixedOrders = true) (h : AG P L O w0 N ops f X ops.size (Array.replicate ops.size false) τ H Q) : AW P L O w0 N (.region id ops true) τ H Q := fun ρ fp a w hr =>
  wp_region_G hm (h ρ fp a w.drew hr.drew)
theorem AG.done {f : Nat} {X : Nat → Bool} {n : Nat} {listed : Array Bool} (hr : Region.ready .any ops listed = []) (h : Q .normal τ H) : AG P L O w0 N ops f X n listed τ H Q := fun ρ fp a w hrr =>
  wpAnyG_done hr ⟨τ, H, ρ, fp, hrr, h⟩ n
/-- One alone may come up, and it reads or reckons alone. -/
theorem AG.rd {f i : Nat} {X : Nat → Bool} {n : Nat} {listed : Array Bool} {x : AV} {t : Nat} (ho : ops[i]? = some o) (hr : Region.ready .any ops listed = [i]) (hrd : Rd P o τ H (fun _ => false) x) (hg : gv τ ops o = some true) (hd : o.dst = some t) (ht : t < N)
    (h : AG P L O w0 N ops f X n (listed.setIfInBounds i true) (upd τ t x) H Q) : AG P L O w0 N ops f X (n + 1) listed τ H Q := fun ρ fp a w hrr =>
  wpAnyG_one ho hr fun K hK => by
    rw [hrr.wanted hg, if_pos rfl]
    obtain ⟨c, h1, h2⟩ := hrd.run hrr
    unfold Oper.wp
    rw [h2 w (Keep.refl _ _ _ _)]
    refine hK _ _ (fun _ => Keep.refl _ _ _ _) (h ρ fp _ w ?_)
    rw [hd]
    exact hrr.put h1 ht
theorem AG.no {f i : Nat} {X : Nat → Bool} {n : Nat} {listed : Array Bool} {t : Nat} (ho : ops[i]? = some o) (hr : Region.ready .any ops listed = [i]) (hg : gv τ ops o = some false) (hd : o.dst = some t) (ht : t < N)
    (h : AG P L O w0 N ops f X n (listed.setIfInBounds i true) (upd τ t (.tup [])) H Q) : AG P L O w0 N ops f X (n + 1) listed τ H Q := fun ρ fp a w hrr =>
  wpAnyG_one ho hr fun K hK => by
    rw [hrr.wanted hg, if_neg (by simp)]
    refine hK _ _ (fun _ => Keep.refl _ _ _ _) (h ρ fp _ w ?_)
    rw [hd]
    exact hrr.put (by rw [RV]; exact ⟨[], rfl, by simp [RVL]⟩) ht
/-- Whatever may come up, take this one first: it reads or reckons alone, apart from what is still to come. -/
theorem AG.take {f i : Nat} {X : Nat → Bool} {n : Nat} {listed : Array Bool} {x : AV} {t : Nat} (ho : ops[i]? = some o) (hr : (Region.ready .any ops listed).contains i = true) (hs : Region.noSelect ops = true) (hfr : Region.free .any ops listed i = true)
    (hb : (reachB .any ops f).getD i false = true) (hc : closedB .any ops listed = true) (hrd : Rd P o τ H X x) (hg : gv τ ops o = some true) (hd : o.dst = some t) (ht : t < N) (hnp : ∀ c τ H, ¬ Q (.panic c) τ H)
    (h : AG P L O w0 N ops f X n (listed.setIfInBounds i true) (upd τ t x) H Q) : AG P L O w0 N ops f X (n + 1) listed τ H Q := fun ρ fp a w hrr => by
  obtain ⟨c, h1, h2⟩ := hrd.run hrr
  refine wpAnyG_takeR (v := c) ho hs hfr hr hb hc (fun c a w ⟨τ, H, _, _, _, q⟩ => absurd q (hnp c τ H)) (.inl ⟨hrr.wanted hg, fun W hW => h2 W hW⟩) (Keep.refl _ _ _ _) (h ρ fp _ w ?_)
  rw [hd]
  exact hrr.put h1 ht
theorem AG.skip {f i : Nat} {X : Nat → Bool} {n : Nat} {listed : Array Bool} {t : Nat} (ho : ops[i]? = some o) (hr : (Region.ready .any ops listed).contains i = true) (hs : Region.noSelect ops = true) (hfr : Region.free .any ops listed i = true)
    (hb : (reachB .any ops f).getD i false = true) (hc : closedB .any ops listed = true) (hg : gv τ ops o = some false) (hd : o.dst = some t) (ht : t < N) (hnp : ∀ c τ H, ¬ Q (.panic c) τ H)
    (h : AG P L O w0 N ops f X n (listed.setIfInBounds i true) (upd τ t (.tup [])) H Q) : AG P L O w0 N ops f X (n + 1) listed τ H Q := fun ρ fp a w hrr => by
  refine wpAnyG_takeR (v := undef) ho hs hfr hr hb hc (fun c a w ⟨τ, H, _, _, _, q⟩ => absurd q (hnp c τ H)) (.inr ⟨hrr.wanted hg, rfl⟩) (Keep.refl _ _ _ _) (h ρ fp _ w ?_)
  rw [hd]
  exact hrr.put (by rw [RV]; exact ⟨[], rfl, by simp [RVL]⟩) ht
/-- One alone may come up, and it turns objects; it is not the last. -/
theorem AG.st {f i : Nat} {X : Nat → Bool} {n : Nat} {listed : Array Bool} {E : List Nat} (ho : ops[i]? = some o) (hr : Region.ready .any ops listed = [i]) (hs : St P o N τ H E τ' H') (hX : ∀ id ∈ E, X id = true) (hg : gv τ ops o = some true)
    (h : AG P L O w0 N ops f X n (listed.setIfInBounds i true) τ' H' Q) : AG P L O w0 N ops f X (n + 1) listed τ H Q := fun ρ fp a w hrr =>
  wpAnyG_one ho hr fun K hK => by
    rw [hrr.wanted hg, if_pos rfl]
    refine hs.run hrr (fun a' w' ρ' fp' hr' hmv => hK _ _ (fun _ => (hmv X hX).1) (wpAnyG_mono (fun W hW => (hmv X hX).keep hW) _ _ _ _ (h ρ' fp' a' w' hr')))
/-- The last operation. -/
theorem AG.last {f : Nat} {X : Nat → Bool} {n : Nat} {listed : Array Bool} {E : List Nat} (ho : ops[f]? = some o) (hr : Region.ready .any ops listed = [f]) (hr2 : Region.ready .any ops (listed.setIfInBounds f true) = []) (hs : St P o N τ H E τ' H') (hg : gv τ ops o = some true)
    (h : Q .normal τ' H') : AG P L O w0 N ops f X (n + 1) listed τ H Q := fun ρ fp a w hrr =>
  wpAnyG_one ho hr fun K hK => by
    rw [hrr.wanted hg, if_pos rfl]
    exact hs.run hrr (fun a' w' ρ' fp' hr' _ => hK _ _ (fun hne => absurd rfl hne) (wpAnyG_done hr2 ⟨τ', H', ρ', fp', hr', h⟩ _))
/-- Fewer objects may be touched from here on. -/
theorem AG.less {f : Nat} {X X' : Nat → Bool} {n : Nat} {listed : Array Bool} (hX : ∀ id, X' id = true → X id = true) (h : AG P L O w0 N ops f X' n listed τ H Q) : AG P L O w0 N ops f X n listed τ H Q := fun ρ fp a w hrr =>
  wpAnyG_mono (fun W hW => ⟨hW.1, fun b hb hn => hW.2 b hb (fun id q => hn id (hX id q))⟩) _ _ _ _ (h ρ fp a w hrr)
end
end Go.Proofs.Ytbjnbhlpibadnaa
