/- Rows given up for reading, nil rows taken as own, copies. No program in sight. -/
import Derived.Test.YtbjnbhlpibadnaaE9
namespace Go.Proofs.Ytbjnbhlpibadnaa
open Go.RowKit
set_option linter.unusedSimpArgs false
set_option linter.unusedVariables false

mutual
def frz (id : Nat) (y : PV) : AV → AV
  | .own j => if j = id then .p y else .own j
  | .sub j off len => if j = id then .dead else .sub j off len
  | .ptr j r c => if j = id then .dead else .ptr j r c
  | .agg cs => .agg (frzL id y cs)
  | .tup cs => .tup (frzL id y cs)
  | .clo fn f cs => .clo fn (frzL id y f) (frzL id y cs)
  | x => x
def frzL (id : Nat) (y : PV) : List AV → List AV
  | [] => []
  | x :: xs => frz id y x :: frzL id y xs
end
def AO.frz (id : Nat) (y : PV) : AO → AO
  | .box T p cells => .box T p (frzL id y cells)
  | o => o
theorem frzL_length (id : Nat) (y : PV) : ∀ l, (frzL id y l).length = l.length
  | [] => rfl
  | x :: xs => by rw [frzL, List.length_cons, frzL_length id y xs, List.length_cons]
theorem AO.frz_here (id : Nat) (y : PV) (o : AO) : (o.frz id y).here = o.here := by cases o <;> rfl
theorem AO.frz_len (id : Nat) (y : PV) (o : AO) : (o.frz id y).len = o.len := by cases o <;> rfl
theorem AO.frz_sz (id : Nat) (y : PV) (o : AO) : (o.frz id y).sz = o.sz := by
  cases o with
  | box T p cells => exact frzL_length id y cells
  | _ => rfl
theorem frz_cell (id : Nat) (y : PV) (x : AV) (h : x.cell = true) : (frz id y x).cell = true := by
  cases x <;> simp only [AV.cell, Bool.false_eq_true] at h <;> simp only [frz]
  all_goals first | rfl | (split <;> rfl)
theorem frzL_cell (id : Nat) (y : PV) : ∀ (l : List AV), (∀ x ∈ l, x.cell = true) → ∀ x ∈ frzL id y l, x.cell = true
  | [], h => h
  | z :: l, h => by
    rw [frzL]
    intro x hx
    rcases List.mem_cons.1 hx with rfl | hx
    · exact frz_cell id y z (h z (by simp))
    · exact frzL_cell id y l (fun u hu => h u (by simp [hu])) x hx
structure Frz (id : Nat) (y : PV) (L : Nat → Prop) (ρ : Nat → Value) (H H' : Nat → AO) (w : World) : Prop where
  live : ∀ b, ¬ live L ρ H b → ¬ live L ρ H' b
  obj : ∀ j, j ≠ id → (H' j).here = true → (H j).here = true ∧ (H' j).len = (H j).len ∧ (H' j).sz = (H j).sz
  here : (H id).here = true
  val : RV L ρ H' w (.p y) (ρ id)
section
variable {id : Nat} {y : PV} {L : Nat → Prop} {ρ : Nat → Value} {H H' : Nat → AO} {w : World}
mutual
theorem RV.frz (R : Frz id y L ρ H H' w) : ∀ (x : AV) {c : Value}, RV L ρ H w x c → RV L ρ H' w (frz id y x) c
  | .p x, c, h => by
    rw [_root_.Go.Proofs.Ytbjnbhlpibadnaa.frz] <;> try (intros; contradiction)
    rw [RV] at *
    obtain ⟨fp, h1, h2⟩ := h
    exact ⟨fp, h1, fun b hb => R.live b (h2 b hb)⟩
  | .own j, c, h => by
    rw [_root_.Go.Proofs.Ytbjnbhlpibadnaa.frz]
    rw [RV] at h
    split
    · rename_i q
      subst q
      rw [h.2 R.here]
      exact R.val
    · rename_i q
      rw [RV]
      exact ⟨h.1, fun ho => h.2 (R.obj j q ho).1⟩
  | .sub j off len, c, h => by
    rw [_root_.Go.Proofs.Ytbjnbhlpibadnaa.frz]
    rw [RV] at h
    split
    · rw [RV]; exact h.1
    · rename_i q
      rw [RV]
      exact ⟨h.1, fun ho => by
        obtain ⟨h1, h3, h4⟩ := R.obj j q ho
        rw [h3, h4]; exact h.2 h1⟩
  | .ptr j i kk, c, h => by
    rw [_root_.Go.Proofs.Ytbjnbhlpibadnaa.frz]
    rw [RV] at h
    split
    · rw [RV]; exact h.1
    · rename_i q
      rw [RV]
      exact ⟨h.1, fun ho => by
        obtain ⟨h1, h3, h4⟩ := R.obj j q ho
        rw [h3, h4]; exact h.2 h1⟩
  | .rp cells, c, h => by
    rw [_root_.Go.Proofs.Ytbjnbhlpibadnaa.frz] <;> try (intros; contradiction)
    rw [RV] at *
    obtain ⟨b, off, cs, fp, rfl, h1, h2, h3, h4, h5⟩ := h
    exact ⟨b, off, cs, fp, rfl, h1, h2, h3, R.live b h4, fun b hb => R.live b (h5 b hb)⟩
  | .agg l, c, h => by
    rw [_root_.Go.Proofs.Ytbjnbhlpibadnaa.frz]
    rw [RV] at *
    obtain ⟨cs, rfl, h1⟩ := h
    exact ⟨cs, rfl, RVL.frz R l h1⟩
  | .tup l, c, h => by
    rw [_root_.Go.Proofs.Ytbjnbhlpibadnaa.frz]
    rw [RV] at *
    obtain ⟨cs, rfl, h1⟩ := h
    exact ⟨cs, rfl, RVL.frz R l h1⟩
  | .clo fn f l, c, h => by
    rw [_root_.Go.Proofs.Ytbjnbhlpibadnaa.frz]
    rw [RV] at *
    obtain ⟨fs, cs, rfl, h1, h2⟩ := h
    exact ⟨fs, cs, rfl, RVL.frz R f h1, RVL.frz R l h2⟩
  | .dead, c, h => by
    rw [_root_.Go.Proofs.Ytbjnbhlpibadnaa.frz] <;> try (intros; contradiction)
    rw [RV] at *; exact h
  | .bad, c, h => by
    rw [_root_.Go.Proofs.Ytbjnbhlpibadnaa.frz] <;> try (intros; contradiction)
    rw [RV]; trivial
theorem RVL.frz (R : Frz id y L ρ H H' w) : ∀ (x : List AV) {c : List Value}, RVL L ρ H w x c → RVL L ρ H' w (frzL id y x) c
  | [], c, h => by rw [frzL]; rw [RVL] at *; exact h
  | x :: xs, c, h => by
    rw [frzL]
    rw [RVL] at *
    obtain ⟨c, r, rfl, h1, h2⟩ := h
    exact ⟨c, r, rfl, RV.frz R x h1, RVL.frz R xs h2⟩
end
end
def frzH (id : Nat) (y : PV) (H : Nat → AO) : Nat → AO := upd (fun j => (H j).frz id y) id .gone
section
variable {P : Program} {o : Oper} {N : Nat} {τ : Nat → AV} {H : Nat → AO} {L O : Nat → Prop} {w0 : World} {ops : Array Oper} {l : List Oper} {Q : AQ}
theorem RR.freeze {ρ : Nat → Value} {fp : Nat → List Nat} {a : Act} {w : World} (h : RR L O w0 N τ H ρ fp a w) (id : Nat) {e : TypeId} {sz : Nat} {rows : List (List PV)} (hH : H id = .arr e sz rows) :
    RR L O w0 N (fun t => frz id (.lst e sz rows) (τ t)) (frzH id (.lst e sz rows) H) ρ (upd fp id []) a w := by
  have hne : ∀ {j}, j ≠ id → frzH id (.lst e sz rows) H j = (H j).frz id (.lst e sz rows) := fun {j} q => upd_ne _ _ q
  have heq : frzH id (.lst e sz rows) H id = .gone := upd_same _ _ _
  have hlive : ∀ b, live L ρ (frzH id (.lst e sz rows) H) b → live L ρ H b := by
    rintro b (hl | ⟨j, q1, q2⟩)
    · exact .inl hl
    · by_cases ej : j = id
      · subst ej; rw [heq] at q1; cases q1
      · rw [hne ej, AO.frz_here] at q1; exact .inr ⟨j, q1, q2⟩
  have hob := h.ob id
  rw [hH] at hob
  obtain ⟨xs, fr, b1, b2, b3, b4⟩ := hob
  have R : Frz id (.lst e sz rows) L ρ H (frzH id (.lst e sz rows) H) w := by
    refine ⟨fun b hn hl => hn (hlive b hl), fun j hj hh => ?_, by rw [hH]; rfl, ?_⟩
    · rw [hne hj] at hh ⊢
      rw [AO.frz_here] at hh
      exact ⟨hh, AO.frz_len _ _ _, AO.frz_sz _ _ _⟩
    · rw [RV]
      rcases b3.2 with ⟨q, q2⟩ | ⟨g, cap, cur, q, _, hg, hnc, hcm, _⟩
      · refine ⟨[] ++ fr, ?_, fun b hb hl => b2 b (by simpa using hb) (hlive b hl)⟩
        rw [RW]
        refine ⟨xs, [], fr, b1, ?_, rfl⟩
        unfold SlAt
        simp only [Bool.false_eq_true, if_false]
        exact ⟨none, 0, by rw [q, q2], by omega, by simp [maxLen], .inl ⟨q2, trivial⟩⟩
      · have b3' := b3
        rw [q] at b3'
        refine ⟨[g] ++ fr, ?_, fun b hb hl => ?_⟩
        · rw [RW]
          refine ⟨xs, [g], fr, b1, ?_, rfl⟩
          unfold SlAt
          simp only [Bool.false_eq_true, if_false]
          exact ⟨_, cap, q, hnc, hcm, .inr ⟨g, 0, rfl, cellsAt_of_own b3', (Array.getElem?_eq_some_iff.1 hg).1, rfl⟩⟩
        · rcases List.mem_append.1 hb with hb | hb
          · have hbg : b = g := by simpa using hb
            subst hbg
            have hbf : b ∈ fp id := by rw [b4, q]; simp [Value.ownBlock]
            rcases hl with hl | ⟨j, q1, q2⟩
            · exact (h.own id b hbf).2 hl
            · by_cases ej : j = id
              · subst ej; rw [heq] at q1; cases q1
              · rw [hne ej, AO.frz_here] at q1
                exact h.dj j id ej b ((h.ob j).top q1 q2) hbf
          · exact b2 b hb (hlive b hl)
  refine ⟨h.chg, h.size, h.defers, fun t => RV.frz R _ (h.tm t), fun j => ?_, fun i j hij b hb hb' => ?_, fun j b hb => ?_, h.lo⟩
  · by_cases ej : j = id
    · subst ej; rw [heq, upd_same]; rfl
    · rw [hne ej, upd_ne _ _ ej]
      have := h.ob j
      cases hj : H j with
      | box T p cells =>
        rw [hj] at this
        obtain ⟨ys, h1, h2, h3, h4, h5⟩ := this
        exact ⟨ys, RVL.frz R cells h1, frzL_cell _ _ cells h2, by rw [frzL_length]; exact h3, h4, h5⟩
      | arr e' s' r' =>
        rw [hj] at this
        obtain ⟨ys, fr', h1, h2, h3, h4⟩ := this
        exact ⟨ys, fr', h1, fun b hb => R.live b (h2 b hb), h3, h4⟩
      | gone => rw [hj] at this; exact this
  · by_cases e1 : i = id
    · subst e1; rw [upd_same] at hb; cases hb
    · by_cases e2 : j = id
      · subst e2; rw [upd_same] at hb'; cases hb'
      · rw [upd_ne _ _ e1] at hb
        rw [upd_ne _ _ e2] at hb'
        exact h.dj i j hij b hb hb'
  · by_cases e1 : j = id
    · subst e1; rw [upd_same] at hb; cases hb
    · rw [upd_ne _ _ e1] at hb; exact h.own j b hb
theorem AW.freeze (id : Nat) {c : Code} {e : TypeId} {sz : Nat} {rows : List (List PV)} (hH : H id = .arr e sz rows) (h : AW P L O w0 N c (fun t => frz id (.lst e sz rows) (τ t)) (frzH id (.lst e sz rows) H) Q) : AW P L O w0 N c τ H Q :=
  fun ρ fp a w hr => h ρ _ a w (hr.freeze id hH)
theorem AL.freeze (id : Nat) {e : TypeId} {sz : Nat} {rows : List (List PV)} (hH : H id = .arr e sz rows) (h : AL P L O w0 N ops l (fun t => frz id (.lst e sz rows) (τ t)) (frzH id (.lst e sz rows) H) Q) : AL P L O w0 N ops l τ H Q :=
  fun ρ fp a w hr => h ρ _ a w (hr.freeze id hH)
theorem AG.freeze (id : Nat) {f : Nat} {X : Nat → Bool} {n : Nat} {listed : Array Bool} {e : TypeId} {sz : Nat} {rows : List (List PV)} (hH : H id = .arr e sz rows) (h : AG P L O w0 N ops f X n listed (fun t => frz id (.lst e sz rows) (τ t)) (frzH id (.lst e sz rows) H) Q) : AG P L O w0 N ops f X n listed τ H Q :=
  fun ρ fp a w hr => wpAnyG_mono (fun W hW => ⟨hW.1, fun b hb hn => hW.2 b hb (fun j q1 q2 q3 => by
    by_cases ej : j = id
    · subst ej; rw [show frzH j (.lst e sz rows) H j = .gone from upd_same _ _ _] at q2; cases q2
    · rw [show frzH id (.lst e sz rows) H j = (H j).frz id (.lst e sz rows) from upd_ne _ _ ej, AO.frz_here] at q2
      exact hn j q1 q2 q3)⟩) _ _ _ _ (h ρ _ a w (hr.freeze id hH))

/-- A nil slice in slot t is taken as the row id of the call's own. -/
theorem RR.adoptT {ρ : Nat → Value} {fp : Nat → List Nat} {a : Act} {w : World} (h : RR L O w0 N τ H ρ fp a w) (id t : Nat) (e : TypeId) (sz : Nat) (ht : τ t = .p (.v (.slice none 0 0))) :
    RR L O w0 N (upd (fun s => kil (one? id) (τ s)) t (.own id)) (upd (fun j => (H j).kil (one? id)) id (.arr e sz [])) (upd ρ id (.slice none 0 0)) (upd fp id []) a w := by
  have h1 := h.turnK (one? id) (id := id) (o' := .arr e sz []) (v' := .slice none 0 0) (f' := []) h.chg (Nat.le_refl _) (fun _ _ _ => rfl) (fun hk => by simp [one?] at hk) (fun _ b hb => by cases hb) (fun E => ⟨[], [], by simp [RWR], by simp, World.ownsRow_nil _ _ _ _, rfl⟩) (by simp) (by simp)
  refine ⟨h1.chg, h1.size, h1.defers, fun s => ?_, h1.ob, h1.dj, h1.own, h1.lo⟩
  by_cases e1 : s = t
  · subst e1
    rw [upd_same]
    have h2 := h.tm s
    rw [ht] at h2
    rw [h2.v_eq, RV]
    exact ⟨rfl, fun _ => (upd_same _ _ _).symm⟩
  · rw [upd_ne _ _ e1]; exact h1.tm s
theorem AW.adoptT (id t : Nat) (e : TypeId) (sz : Nat) {c : Code} (ht : τ t = .p (.v (.slice none 0 0))) (h : AW P L O w0 N c (upd (fun s => kil (one? id) (τ s)) t (.own id)) (upd (fun j => (H j).kil (one? id)) id (.arr e sz [])) Q) : AW P L O w0 N c τ H Q :=
  fun ρ fp a w hr => h _ _ a w (hr.adoptT id t e sz ht)
/-- A nil slice in cell k of the variable b is taken as the row id of the call's own. -/
theorem RR.adoptB {ρ : Nat → Value} {fp : Nat → List Nat} {a : Act} {w : World} (h : RR L O w0 N τ H ρ fp a w) (id b k : Nat) (e : TypeId) (sz : Nat) {T : TypeId} {p : Option Nat} {cells : List AV} (hb : H b = .box T p cells) (hbi : b ≠ id) (hk : cells[k]? = some (.p (.v (.slice none 0 0)))) :
    RR L O w0 N (fun s => kil (one? id) (τ s)) (upd (upd (fun j => (H j).kil (one? id)) id (.arr e sz [])) b (.box T p ((kilL (one? id) cells).set k (.own id)))) (upd ρ id (.slice none 0 0)) (upd fp id []) a w := by
  have h1 := h.turnK (one? id) (id := id) (o' := .arr e sz []) (v' := .slice none 0 0) (f' := []) h.chg (Nat.le_refl _) (fun _ _ _ => rfl) (fun hk => by simp [one?] at hk) (fun _ b hb => by cases hb) (fun E => ⟨[], [], by simp [RWR], by simp, World.ownsRow_nil _ _ _ _, rfl⟩) (by simp) (by simp)
  generalize hH1 : upd (fun j => (H j).kil (one? id)) id (.arr e sz []) = H1 at *
  have hb1 : H1 b = .box T p (kilL (one? id) cells) := by rw [← hH1, upd_ne _ _ hbi, hb]; rfl
  have hi1 : (H1 id).here = true := by rw [← hH1, upd_same]; rfl
  generalize upd ρ id (.slice none 0 0) = ρ1 at *
  have E : Env L ρ1 ρ1 H1 (upd H1 b (.box T p ((kilL (one? id) cells).set k (.own id)))) w w noK := by
    refine ⟨Nat.le_refl _, fun b' _ hn => ⟨rfl, ?_⟩, fun j _ hj => ?_⟩
    · rintro (hl | ⟨j, q1, q2⟩)
      · exact hn (.inl hl)
      · by_cases ej : j = b
        · subst ej; exact hn (.inr ⟨j, by rw [hb1]; rfl, q2⟩)
        · rw [upd_ne _ _ ej] at q1; exact hn (.inr ⟨j, q1, q2⟩)
    · by_cases ej : j = b
      · subst ej; rw [upd_same, hb1]; exact ⟨rfl, rfl, rfl, by simp [AO.sz]⟩
      · rw [upd_ne _ _ ej] at hj ⊢; exact ⟨hj, rfl, rfl, rfl⟩
  refine ⟨h1.chg, h1.size, h1.defers, fun s => by have := RV.env E _ (h1.tm s); rwa [kil_no] at this, fun j => ?_, h1.dj, h1.own, h1.lo⟩
  have hj := (h1.ob j).env E (fun _ _ => rfl)
  rw [AO.kil_no] at hj
  by_cases ej : j = b
  · subst ej
    rw [upd_same]
    rw [hb1] at hj
    obtain ⟨xs, k1, k2, k3, k4, k5⟩ := hj
    have hc := (h.ob j)
    rw [hb] at hc
    -- the cell is nil
    have hkk : (kilL (one? id) cells)[k]? = some (.p (.v (.slice none 0 0))) := by
      have : ∀ (l : List AV) (k : Nat), l[k]? = some (.p (.v (.slice none 0 0))) → (kilL (one? id) l)[k]? = some (.p (.v (.slice none 0 0))) := by
        intro l
        induction l with
        | nil => intro k h; simp at h
        | cons x l ih =>
          intro k h
          cases k with
          | zero => simp at h; subst h; simp [kilL, kil]
          | succ k => simp at h; rw [kilL]; simpa using ih k h
      exact this cells k hk
    obtain ⟨u, u1, u2⟩ := RVL.get k1 hkk
    have hu := u2.v_eq
    subst hu
    refine ⟨xs, ?_, fun z hz => ?_, by rw [List.length_set]; exact k3, k4, k5⟩
    · have gen : ∀ (l : List AV) (cs : List Value) (k' : Nat) (u : Value), RVL L ρ1 (upd H1 j (.box T p ((kilL (one? id) cells).set k (.own id)))) w l cs → cs[k']? = some u → RV L ρ1 (upd H1 j (.box T p ((kilL (one? id) cells).set k (.own id)))) w (.own id) u → RVL L ρ1 (upd H1 j (.box T p ((kilL (one? id) cells).set k (.own id)))) w (l.set k' (.own id)) cs := by
        intro l
        induction l with
        | nil => intro cs k' u h _ _; exact h
        | cons x l ih =>
          intro cs k' u h hu hv
          rw [RVL] at h
          obtain ⟨c, r, rfl, h1, h2⟩ := h
          cases k' with
          | zero =>
            rw [List.set_cons_zero, RVL]
            simp at hu
            subst hu
            exact ⟨c, r, rfl, hv, h2⟩
          | succ k' =>
            rw [List.set_cons_succ, RVL]
            exact ⟨c, r, rfl, h1, ih r k' u h2 (by simpa using hu) hv⟩
      refine gen _ _ k _ k1 u1 ?_
      rw [RV, upd_ne _ _ (Ne.symm hbi)]
      refine ⟨rfl, fun _ => ?_⟩
      have := h1.ob id
      have hHid : H1 id = .arr e sz [] := by rw [← hH1, upd_same]
      rw [hHid] at this
      obtain ⟨ys, fr, _, _, hown, hfp⟩ := this
      rcases hown.2 with ⟨q, _⟩ | ⟨g, cap, cur, q, _⟩
      · exact q.symm
      · have : g ∈ upd fp id [] id := by rw [hfp, q]; simp [Value.ownBlock]
        rw [upd_same] at this
        cases this
    · rcases List.mem_or_eq_of_mem_set hz with hz | rfl
      · exact k2 z hz
      · rfl
  · rw [upd_ne _ _ ej]; exact hj
theorem AW.adoptB (id b k : Nat) (e : TypeId) (sz : Nat) {c : Code} {T : TypeId} {p : Option Nat} {cells : List AV} (hb : H b = .box T p cells) (hbi : b ≠ id) (hk : cells[k]? = some (.p (.v (.slice none 0 0)))) (h : AW P L O w0 N c (fun s => kil (one? id) (τ s)) (upd (upd (fun j => (H j).kil (one? id)) id (.arr e sz [])) b (.box T p ((kilL (one? id) cells).set k (.own id)))) Q) : AW P L O w0 N c τ H Q :=
  fun ρ fp a w hr => h _ _ a w (hr.adoptB id b k e sz hb hbi hk)
end
end Go.Proofs.Ytbjnbhlpibadnaa
