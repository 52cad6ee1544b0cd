/- Calls and contracts over data. No program in sight. -/
import Derived.Test.YtbjnbhlpibadnaaE7
namespace Go.Proofs.Ytbjnbhlpibadnaa
open Go.RowKit
set_option linter.unusedSimpArgs false
set_option linter.unusedVariables false

/-! ## Names of objects, told anew -/
def rn : List (Nat × Nat) → Nat → Option Nat
  | [], _ => none
  | (a, b) :: r, i => if i = a then some b else rn r i
def sw (r : List (Nat × Nat)) : List (Nat × Nat) := r.map fun p => (p.2, p.1)
theorem rn_mem : ∀ {r : List (Nat × Nat)} {i j : Nat}, rn r i = some j → (i, j) ∈ r
  | [], i, j, h => by cases h
  | (a, b) :: r, i, j, h => by
    unfold rn at h
    split at h
    · rename_i q
      injection h with h
      subst q h
      simp
    · exact List.mem_cons_of_mem _ (rn_mem h)
theorem mem_rn : ∀ {r : List (Nat × Nat)} {i j : Nat}, (r.map Prod.fst).Nodup → (i, j) ∈ r → rn r i = some j
  | [], i, j, _, h => by cases h
  | (a, b) :: r, i, j, hn, h => by
    unfold rn
    rw [List.map_cons, List.nodup_cons] at hn
    rcases List.mem_cons.1 h with h | h
    · injection h with h1 h2
      subst h1 h2
      rw [if_pos rfl]
    · rw [if_neg (fun q => hn.1 (by rw [← q]; exact List.mem_map.2 ⟨_, h, rfl⟩))]
      exact mem_rn hn.2 h
theorem rn_sw {r : List (Nat × Nat)} (h1 : (r.map Prod.fst).Nodup) (h2 : (r.map Prod.snd).Nodup) {i j : Nat} : rn r i = some j ↔ rn (sw r) j = some i := by
  have hs : ((sw r).map Prod.fst) = r.map Prod.snd := by unfold sw; rw [List.map_map]; rfl
  constructor
  · intro h
    refine mem_rn (by rw [hs]; exact h2) ?_
    exact List.mem_map.2 ⟨_, rn_mem h, rfl⟩
  · intro h
    have := rn_mem h
    unfold sw at this
    obtain ⟨p, hp, e⟩ := List.mem_map.1 this
    injection e with e1 e2
    subst e1 e2
    exact mem_rn h1 hp
mutual
def ren (r : List (Nat × Nat)) : AV → AV
  | .own id => match rn r id with | some j => .own j | none => .dead
  | .sub id off len => match rn r id with | some j => .sub j off len | none => .dead
  | .ptr id i c => match rn r id with | some j => .ptr j i c | none => .dead
  | .agg cs => .agg (renL r cs)
  | .tup cs => .tup (renL r cs)
  | .clo fn f cs => .clo fn (renL r f) (renL r cs)
  | x => x
def renL (r : List (Nat × Nat)) : List AV → List AV
  | [] => []
  | x :: xs => ren r x :: renL r xs
end
def AO.ren (r : List (Nat × Nat)) : AO → AO
  | .box T p cells => .box T p (renL r cells)
  | o => o
theorem renL_length (r : List (Nat × Nat)) : ∀ l, (renL r l).length = l.length
  | [] => rfl
  | x :: xs => by rw [renL, List.length_cons, renL_length r xs, List.length_cons]
theorem AO.ren_here (r : List (Nat × Nat)) (o : AO) : (o.ren r).here = o.here := by cases o <;> rfl
theorem AO.ren_len (r : List (Nat × Nat)) (o : AO) : (o.ren r).len = o.len := by cases o <;> rfl
theorem AO.ren_sz (r : List (Nat × Nat)) (o : AO) : (o.ren r).sz = o.sz := by
  cases o with
  | box T p cells => exact renL_length r cells
  | _ => rfl
theorem ren_cell (r : List (Nat × Nat)) (x : AV) (h : x.cell = true) : (ren r x).cell = true := by
  cases x <;> simp only [AV.cell, Bool.false_eq_true] at h <;> simp only [ren]
  all_goals first | rfl | (split <;> rfl)
theorem renL_cell (r : List (Nat × Nat)) : ∀ (l : List AV), (∀ x ∈ l, x.cell = true) → ∀ x ∈ renL r l, x.cell = true
  | [], h => h
  | y :: l, h => by
    rw [renL]
    intro x hx
    rcases List.mem_cons.1 hx with rfl | hx
    · exact ren_cell r y (h y (by simp))
    · exact renL_cell r l (fun z hz => h z (by simp [hz])) x hx
structure Ren (r : List (Nat × Nat)) (L1 : Nat → Prop) (ρ1 : Nat → Value) (H1 : Nat → AO) (L2 : Nat → Prop) (ρ2 : Nat → Value) (H2 : Nat → AO) : Prop where
  live : ∀ b, ¬ live L1 ρ1 H1 b → ¬ live L2 ρ2 H2 b
  obj : ∀ i j, rn r i = some j → (H2 j).here = true → (H1 i).here = true ∧ ρ2 j = ρ1 i ∧ (H2 j).len = (H1 i).len ∧ (H2 j).sz = (H1 i).sz
section
variable {r : List (Nat × Nat)} {L1 L2 : Nat → Prop} {ρ1 ρ2 : Nat → Value} {H1 H2 : Nat → AO} {w : World}
mutual
theorem RV.ren (R : Ren r L1 ρ1 H1 L2 ρ2 H2) : ∀ (x : AV) {c : Value}, RV L1 ρ1 H1 w x c → RV L2 ρ2 H2 w (ren r x) c
  | .p x, c, h => by
    rw [_root_.Go.Proofs.Ytbjnbhlpibadnaa.ren] <;> try (intros; contradiction)
    rw [RV] at *
    obtain ⟨fp, h1, h2⟩ := h
    exact ⟨fp, h1, fun b hb => R.live b (h2 b hb)⟩
  | .own id, c, h => by
    rw [_root_.Go.Proofs.Ytbjnbhlpibadnaa.ren]
    rw [RV] at h
    cases hr : rn r id with
    | none => dsimp only; rw [RV]; exact h.1
    | some j =>
      dsimp only
      rw [RV]
      exact ⟨h.1, fun ho => by
        obtain ⟨h1, h2, _⟩ := R.obj id j hr ho
        rw [h2]; exact h.2 h1⟩
  | .sub id off len, c, h => by
    rw [_root_.Go.Proofs.Ytbjnbhlpibadnaa.ren]
    rw [RV] at h
    cases hr : rn r id with
    | none => dsimp only; rw [RV]; exact h.1
    | some j =>
      dsimp only
      rw [RV]
      exact ⟨h.1, fun ho => by
        obtain ⟨h1, h2, h3, h4⟩ := R.obj id j hr ho
        rw [h2, h3, h4]; exact h.2 h1⟩
  | .ptr id i kk, c, h => by
    rw [_root_.Go.Proofs.Ytbjnbhlpibadnaa.ren]
    rw [RV] at h
    cases hr : rn r id with
    | none => dsimp only; rw [RV]; exact h.1
    | some j =>
      dsimp only
      rw [RV]
      exact ⟨h.1, fun ho => by
        obtain ⟨h1, h2, h3, h4⟩ := R.obj id j hr ho
        rw [h2, h3, h4]; exact h.2 h1⟩
  | .rp cells, c, h => by
    rw [_root_.Go.Proofs.Ytbjnbhlpibadnaa.ren] <;> try (intros; contradiction)
    rw [RV] at *
    obtain ⟨b, off, cs, fp, rfl, h1, h2, h3, h4, h5⟩ := h
    exact ⟨b, off, cs, fp, rfl, h1, h2, h3, R.live b h4, fun b hb => R.live b (h5 b hb)⟩
  | .agg l, c, h => by
    rw [_root_.Go.Proofs.Ytbjnbhlpibadnaa.ren]
    rw [RV] at *
    obtain ⟨cs, rfl, h1⟩ := h
    exact ⟨cs, rfl, RVL.ren R l h1⟩
  | .tup l, c, h => by
    rw [_root_.Go.Proofs.Ytbjnbhlpibadnaa.ren]
    rw [RV] at *
    obtain ⟨cs, rfl, h1⟩ := h
    exact ⟨cs, rfl, RVL.ren R l h1⟩
  | .clo fn f l, c, h => by
    rw [_root_.Go.Proofs.Ytbjnbhlpibadnaa.ren]
    rw [RV] at *
    obtain ⟨fs, cs, rfl, h1, h2⟩ := h
    exact ⟨fs, cs, rfl, RVL.ren R f h1, RVL.ren R l h2⟩
  | .dead, c, h => by
    rw [_root_.Go.Proofs.Ytbjnbhlpibadnaa.ren] <;> try (intros; contradiction)
    rw [RV] at *; exact h
  | .bad, c, h => by
    rw [_root_.Go.Proofs.Ytbjnbhlpibadnaa.ren] <;> try (intros; contradiction)
    rw [RV]; trivial
theorem RVL.ren (R : Ren r L1 ρ1 H1 L2 ρ2 H2) : ∀ (x : List AV) {c : List Value}, RVL L1 ρ1 H1 w x c → RVL L2 ρ2 H2 w (renL r x) c
  | [], c, h => by rw [renL]; rw [RVL] at *; exact h
  | x :: xs, c, h => by
    rw [renL]
    rw [RVL] at *
    obtain ⟨c, r, rfl, h1, h2⟩ := h
    exact ⟨c, r, rfl, RV.ren R x h1, RVL.ren R xs h2⟩
end
theorem OB.ren (R : Ren r L1 ρ1 H1 L2 ρ2 H2) {v : Value} {f : List Nat} {o : AO} (h : OB L1 ρ1 H1 w v f o) : OB L2 ρ2 H2 w v f (o.ren r) := by
  cases o with
  | box T p cells =>
    obtain ⟨xs, h1, h2, h3, h4, h5⟩ := h
    exact ⟨xs, RVL.ren R cells h1, renL_cell r cells h2, by rw [renL_length]; exact h3, h4, h5⟩
  | arr e sz rows =>
    obtain ⟨xs, fr, h1, h2, h3, h4⟩ := h
    exact ⟨xs, fr, h1, fun b hb => R.live b (h2 b hb), h3, h4⟩
  | gone => exact h
theorem OB.only {L : Nat → Prop} {ρ : Nat → Value} {H : Nat → AO} {v : Value} {f : List Nat} {o : AO} (h : OB L ρ H w v f o) {b : Nat} (hb : b ∈ f) : o.here = true ∧ v.ownBlock = some b := by
  cases o with
  | box T p cells => obtain ⟨xs, h1, h2, h3, rfl, h5⟩ := h; exact ⟨rfl, by simpa [Option.mem_toList] using hb⟩
  | arr e sz rows => obtain ⟨xs, fr, h1, h2, h3, rfl⟩ := h; exact ⟨rfl, by simpa [Option.mem_toList] using hb⟩
  | gone => unfold OB at h; subst h; cases hb
end

/-- Function f, called with args while the objects ob0 are handed to it, returns x and leaves the objects ob1. -/
def GC (P : Program) (f : FuncId) (args : List AV) (ob0 : List (Nat × AO)) (x : AV) (ob1 : List (Nat × AO)) : Prop :=
  ∀ (L : Nat → Prop) (w : World) (cs : List Value) (ρ : Nat → Value) (fp : Nat → List Nat), (∀ b, L b → b < w.heap.size) → RVL L ρ (ofO ob0) w args cs → (∀ i, OB L ρ (ofO ob0) w (ρ i) (fp i) (ofO ob0 i)) → (∀ i j, i ≠ j → ∀ b ∈ fp i, b ∉ fp j) → (∀ i, ∀ b ∈ fp i, ¬ L b) →
    Calls P f cs.toArray w fun e w' => ∃ (v : Value) (ρ' : Nat → Value) (fp' : Nat → List Nat), e = .returned v ∧ Chg (fun b => ∃ i, b ∈ fp i) w w' ∧ RV L ρ' (ofO ob1) w' x v ∧ (∀ i, OB L ρ' (ofO ob1) w' (ρ' i) (fp' i) (ofO ob1 i)) ∧ (∀ i j, i ≠ j → ∀ b ∈ fp' i, b ∉ fp' j) ∧ (∀ i, ∀ b ∈ fp' i, ((∃ j, b ∈ fp j) ∨ w.heap.size ≤ b) ∧ ¬ L b)

/-- The objects behind a call: told by ob1 where r gives them a name, else as they were. -/
def callH (r : List (Nat × Nat)) (k : Nat → Bool) (ob1 : List (Nat × AO)) (H : Nat → AO) : Nat → AO := fun j => match rn (sw r) j with | some i => (ofO ob1 i).ren r | none => (H j).kil k
/-- The objects that are handed to a call are there, under r's names. -/
def all0 (r : List (Nat × Nat)) (H : Nat → AO) : List (Nat × AO) → Prop
  | [] => True
  | (i, o) :: l => (∃ j, rn r i = some j ∧ (H j).ren (sw r) = o) ∧ all0 r H l
theorem all0.at {r : List (Nat × Nat)} {H : Nat → AO} : ∀ {l : List (Nat × AO)}, all0 r H l → ∀ i, ofO l i = .gone ∨ ∃ j, rn r i = some j ∧ (H j).ren (sw r) = ofO l i
  | [], _, i => .inl rfl
  | (i', o) :: l, h, i => by
    unfold ofO
    split
    · rename_i q; subst q; exact .inr h.1
    · exact all0.at h.2 i
/-- The handed objects that stay in their places: variables whose place is told. -/
def pins (ob0 ob1 : List (Nat × AO)) : List Nat → Prop
  | [] => True
  | i :: l => (∃ T g cs T' cs', ofO ob0 i = .box T (some g) cs ∧ ofO ob1 i = .box T' (some g) cs' ∧ cs'.length = cs.length) ∧ pins ob0 ob1 l
theorem pins.at {ob0 ob1 : List (Nat × AO)} : ∀ {l : List Nat}, pins ob0 ob1 l → ∀ i ∈ l, ∃ T g cs T' cs', ofO ob0 i = .box T (some g) cs ∧ ofO ob1 i = .box T' (some g) cs' ∧ cs'.length = cs.length
  | [], _, i, h => by cases h
  | i' :: l, h, i, hi => by
    rcases List.mem_cons.1 hi with rfl | hi
    · exact h.1
    · exact pins.at h.2 i hi

section
variable {P : Program} {o : Oper} {N : Nat} {τ : Nat → AV} {H : Nat → AO}
/-- Behind a call: what the caller knows. -/
theorem RR.called {L O : Nat → Prop} {w0 : World} {ρ : Nat → Value} {fp : Nat → List Nat} {a : Act} {w : World} (hr : RR L O w0 N τ H ρ fp a w) {r : List (Nat × Nat)} {k : Nat → Bool} {pl : List Nat} {f : FuncId} {args : List AV} {ob0 ob1 : List (Nat × AO)} {x : AV} (hc : GC P f args ob0 x ob1)
    (r1 : (r.map Prod.fst).Nodup) (r2 : (r.map Prod.snd).Nodup) (h0 : all0 r H ob0) (hk : ∀ j, k j = false → ∀ i, rn (sw r) j = some i → i ∈ pl) (hp : pins ob0 ob1 pl) {vs : List AV} {cs : List Value} (hv : RVL L ρ H w vs cs) (ha : renL (sw r) vs = args) :
    Calls P f cs.toArray w fun e w' => ∃ (v : Value) (ρ' : Nat → Value) (fp' : Nat → List Nat), e = .returned v ∧ RR L O w0 N (fun t => kil k (τ t)) (callH r k ob1 H) ρ' fp' a w' ∧ RV L ρ' (callH r k ob1 H) w' (ren r x) v ∧
      (∀ X : Nat → Bool, (∀ i o, (i, o) ∈ ob0 → ∀ j, rn r i = some j → X j = true) → Mv X ρ H w ρ' (callH r k ob1 H) w') := by
  subst ha
  have hinv : ∀ {i j}, rn r i = some j ↔ rn (sw r) j = some i := fun {i j} => rn_sw r1 r2
  -- the callee's view
  have hH : ∀ i, (ofO ob0 i).here = true → ∃ j, rn r i = some j ∧ (H j).ren (sw r) = ofO ob0 i ∧ (H j).here = true := fun i hi => by
    rcases h0.at i with q | ⟨j, q1, q2⟩
    · rw [q] at hi; cases hi
    · exact ⟨j, q1, q2, by rw [← q2, AO.ren_here] at hi; exact hi⟩
  generalize hρc : (fun i => match rn r i with | some j => ρ j | none => undef) = ρc
  generalize hfc : (fun i => if (ofO ob0 i).here = true then (match rn r i with | some j => fp j | none => []) else []) = fc
  have eρ : ∀ {i j}, rn r i = some j → ρc i = ρ j := fun {i j} h => by rw [← hρc]; simp only [h]
  have ef : ∀ {i j}, (ofO ob0 i).here = true → rn r i = some j → fc i = fp j := fun {i j} h1 h2 => by rw [← hfc]; simp only [h1, h2, if_true]
  have ef0 : ∀ {i}, (ofO ob0 i).here = false → fc i = [] := fun {i} h1 => by rw [← hfc]; simp [h1]
  have fmem : ∀ {i b}, b ∈ fc i → ∃ j, rn r i = some j ∧ b ∈ fp j ∧ (ofO ob0 i).here = true ∧ (H j).here = true ∧ (ρ j).ownBlock = some b := fun {i b} hb => by
    cases hh : (ofO ob0 i).here with
    | false => rw [ef0 hh] at hb; cases hb
    | true =>
      obtain ⟨j, q1, q2, q3⟩ := hH i hh
      rw [ef hh q1] at hb
      exact ⟨j, q1, hb, rfl, q3, ((hr.ob j).only hb).2⟩
  let Lc : Nat → Prop := fun b => L b ∨ ∃ j, (H j).here = true ∧ (ρ j).ownBlock = some b ∧ ∀ i, rn r i = some j → (ofO ob0 i).here = false
  have RA : Ren (sw r) L ρ H Lc ρc (ofO ob0) := by
    refine ⟨fun b hn hl => hn ?_, fun j i hji hi => ?_⟩
    · rcases hl with (hl | ⟨j, q1, q2, _⟩) | ⟨i, q1, q2⟩
      · exact .inl hl
      · exact .inr ⟨j, q1, q2⟩
      · obtain ⟨j, p1, p2, p3⟩ := hH i q1
        rw [eρ p1] at q2
        exact .inr ⟨j, p3, q2⟩
    · have hij := hinv.2 hji
      obtain ⟨j', p1, p2, p3⟩ := hH i hi
      rw [hij] at p1
      injection p1 with p1
      subst p1
      exact ⟨p3, eρ hij, by rw [← p2, AO.ren_len], by rw [← p2, AO.ren_sz]⟩
  have hcall := hc Lc w cs ρc fc (fun b hb => by
      rcases hb with hb | ⟨j, q1, q2, _⟩
      · exact Nat.lt_of_lt_of_le (hr.lo b hb) hr.chg.size
      · exact (hr.ob j).lt b ((hr.ob j).top q1 q2)) (RVL.ren RA vs hv) (fun i => by
      cases hh : (ofO ob0 i).here with
      | false =>
        rw [ef0 hh]
        cases ho : ofO ob0 i with
        | gone => rfl
        | box T p cs => rw [ho] at hh; cases hh
        | arr e sz rows => rw [ho] at hh; cases hh
      | true =>
        obtain ⟨j, p1, p2, p3⟩ := hH i hh
        have := (hr.ob j).ren RA
        rw [p2] at this
        rw [ef hh p1, eρ p1]
        exact this) (fun i i' hne b hb hb' => by
      obtain ⟨j, p1, p2, _⟩ := fmem hb
      obtain ⟨j', p1', p2', _⟩ := fmem hb'
      have hjj : j ≠ j' := fun q => by
        subst q
        have e1 := hinv.1 p1
        have e2 := hinv.1 p1'
        rw [e1] at e2
        injection e2 with e2
        exact hne e2
      exact hr.dj j j' hjj b p2 p2') (fun i b hb hl => by
      obtain ⟨j, p1, p2, p3, p4, p5⟩ := fmem hb
      rcases hl with hl | ⟨j', q1, q2, q3⟩
      · exact (hr.own j b p2).2 hl
      · by_cases e : j' = j
        · subst e
          have := q3 i p1
          rw [p3] at this
          cases this
        · exact hr.dj j' j e b ((hr.ob j').top q1 q2) p2)
  refine Calls.mono hcall ?_
  rintro e w' ⟨v, ρ', fp', rfl, g1, g2, g3, g4, g5⟩
  -- the caller's view
  generalize hρ2 : (fun j => match rn (sw r) j with | some i => ρ' i | none => ρ j) = ρ2
  generalize hf2 : (fun j => match rn (sw r) j with | some i => fp' i | none => fp j) = f2
  have eρs : ∀ {i j}, rn (sw r) j = some i → ρ2 j = ρ' i := fun {i j} h => by rw [← hρ2]; simp only [h]
  have eρn : ∀ {j}, rn (sw r) j = none → ρ2 j = ρ j := fun {j} h => by rw [← hρ2]; simp only [h]
  have efs : ∀ {i j}, rn (sw r) j = some i → f2 j = fp' i := fun {i j} h => by rw [← hf2]; simp only [h]
  have efn : ∀ {j}, rn (sw r) j = none → f2 j = fp j := fun {j} h => by rw [← hf2]; simp only [h]
  have eHs : ∀ {i j}, rn (sw r) j = some i → callH r k ob1 H j = (ofO ob1 i).ren r := fun {i j} h => by unfold callH; rw [h]
  have eHn : ∀ {j}, rn (sw r) j = none → callH r k ob1 H j = (H j).kil k := fun {j} h => by unfold callH; rw [h]
  have old : ∀ {i b}, b ∈ fp' i → (∃ j, b ∈ fp j ∧ (H j).here = true ∧ (ρ j).ownBlock = some b ∧ ∃ i', rn r i' = some j ∧ (ofO ob0 i').here = true) ∨ w.heap.size ≤ b := fun {i b} hb => by
    rcases (g5 i b hb).1 with ⟨i', hb'⟩ | q
    · obtain ⟨j, p1, p2, p3, p4, p5⟩ := fmem hb'
      exact .inl ⟨j, p2, p4, p5, i', p1, p3⟩
    · exact .inr q
  have RB : Ren r Lc ρ' (ofO ob1) L ρ2 (callH r k ob1 H) := by
    refine ⟨fun b hn hl => hn ?_, fun i j hij hj => ?_⟩
    · rcases hl with hl | ⟨j, q1, q2⟩
      · exact .inl (.inl hl)
      · cases hs : rn (sw r) j with
        | none =>
          rw [eHn hs, AO.kil_here] at q1
          rw [eρn hs] at q2
          refine .inl (.inr ⟨j, q1, q2, fun i hi => ?_⟩)
          rw [hinv.1 hi] at hs
          cases hs
        | some i =>
          rw [eHs hs, AO.ren_here] at q1
          rw [eρs hs] at q2
          exact .inr ⟨i, q1, q2⟩
    · have hs := hinv.1 hij
      rw [eHs hs] at hj ⊢
      rw [AO.ren_here] at hj
      exact ⟨hj, eρs hs, AO.ren_len _ _, AO.ren_sz _ _⟩
  have hsame : ∀ b, b < w.heap.size → ¬ (∃ i, b ∈ fc i) → w'.heap[b]? = w.heap[b]? := g1.block
  have hliveE : ∀ b, b < w.heap.size → ¬ live L ρ H b → ¬ live L ρ2 (callH r k ob1 H) b := by
    rintro b hb hn (hl | ⟨j, q1, q2⟩)
    · exact hn (.inl hl)
    · cases hs : rn (sw r) j with
      | none =>
        rw [eHn hs, AO.kil_here] at q1
        rw [eρn hs] at q2
        exact hn (.inr ⟨j, q1, q2⟩)
      | some i =>
        rw [eHs hs, AO.ren_here] at q1
        rw [eρs hs] at q2
        rcases old ((g3 i).top q1 q2) with ⟨j', p1, p2, p3, _⟩ | q
        · exact hn (.inr ⟨j', p2, p3⟩)
        · omega
  have E : Env L ρ ρ2 H (callH r k ob1 H) w w' k := by
    refine ⟨g1.size, fun b hb hn => ⟨hsame b hb ?_, hliveE b hb hn⟩, fun j hkj hj => ?_⟩
    · rintro ⟨i, hi⟩
      obtain ⟨j, p1, p2, p3, p4, p5⟩ := fmem hi
      exact hn (.inr ⟨j, p4, p5⟩)
    · cases hs : rn (sw r) j with
      | none =>
        rw [eHn hs] at hj ⊢
        rw [AO.kil_here] at hj
        exact ⟨hj, eρn hs, AO.kil_len _ _, AO.kil_sz _ _⟩
      | some i =>
        obtain ⟨T, g, c0, T', c1, e1, e2, e3⟩ := hp.at i (hk j hkj i hs)
        have hij := hinv.2 hs
        obtain ⟨j', p1, p2, p3⟩ := hH i (by rw [e1]; rfl)
        rw [hij] at p1
        injection p1 with p1
        subst p1
        have o1 := g3 i
        rw [e2] at o1
        obtain ⟨_, _, _, _, _, o1⟩ := o1
        have o2 := hr.ob j
        cases hHj : H j with
        | gone => rw [hHj] at p3; cases p3
        | arr e sz rows => rw [hHj, e1] at p2; cases p2
        | box T2 pn c2 =>
          rw [hHj] at o2
          rw [hHj, e1] at p2
          have hpn : pn = some g := by unfold AO.ren at p2; injection p2
          have hc2 : renL (sw r) c2 = c0 := by unfold AO.ren at p2; injection p2
          obtain ⟨_, _, _, _, _, o2⟩ := o2
          refine ⟨rfl, ?_, ?_, ?_⟩
          · rw [eρs hs, o1 g rfl, o2 g hpn]
          · rw [eHs hs, e2]; rfl
          · rw [eHs hs, e2, AO.ren_sz]
            show c1.length = c2.length
            rw [e3, ← hc2, renL_length]
  have hXO : ∀ b, (∃ i, b ∈ fc i) → O b ∨ w0.heap.size ≤ b := fun b ⟨i, hi⟩ => by
    obtain ⟨j, p1, p2, _⟩ := fmem hi
    exact (hr.own j b p2).1
  refine ⟨v, ρ2, f2, rfl, ?_, RV.ren RB x g2, fun X hX => ⟨⟨g1.size, fun b hb hn => hsame b hb ?_⟩, fun j hj hh b hb => ?_⟩⟩
  · refine ⟨hr.chg.step (X := fun b => ∃ i, b ∈ fc i) g1.os g1.tape g1.output g1.size hsame hXO g1.nf, hr.size, hr.defers, fun t => RV.env E _ (hr.tm t), fun j => ?_, fun i j hij b hb hb' => ?_, fun j b hb => ?_, hr.lo⟩
    · cases hs : rn (sw r) j with
      | none =>
        rw [eHn hs, eρn hs, efn hs]
        refine (hr.ob j).env E (fun b hb => hsame b ((hr.ob j).lt b hb) ?_)
        rintro ⟨i, hi⟩
        obtain ⟨j', p1, p2, _⟩ := fmem hi
        have hne : j ≠ j' := fun q => by subst q; rw [hinv.1 p1] at hs; cases hs
        exact hr.dj j j' hne b hb p2
      | some i =>
        rw [eHs hs, eρs hs, efs hs]
        exact (g3 i).ren RB
    · have mix : ∀ {j i b}, rn (sw r) j = none → b ∈ fp j → b ∈ fp' i → False := fun {j i b} hs h1 h2 => by
        rcases old h2 with ⟨j', p1, p2, p3, i', p4, _⟩ | q
        · have hne : j ≠ j' := fun q => by subst q; rw [hinv.1 p4] at hs; cases hs
          exact hr.dj j j' hne b h1 p1
        · have := (hr.ob j).lt b h1; omega
      cases hs : rn (sw r) i with
      | none =>
        rw [efn hs] at hb
        cases hs' : rn (sw r) j with
        | none => rw [efn hs'] at hb'; exact hr.dj i j hij b hb hb'
        | some q => rw [efs hs'] at hb'; exact mix hs hb hb'
      | some p =>
        rw [efs hs] at hb
        cases hs' : rn (sw r) j with
        | none => rw [efn hs'] at hb'; exact mix hs' hb' hb
        | some q =>
          rw [efs hs'] at hb'
          have hpq : p ≠ q := fun e => by
            subst e
            have e1 := hinv.2 hs
            have e2 := hinv.2 hs'
            rw [e1] at e2
            injection e2 with e2
            exact hij e2
          exact g4 p q hpq b hb hb'
    · cases hs : rn (sw r) j with
      | none => rw [efn hs] at hb; exact hr.own j b hb
      | some i =>
        rw [efs hs] at hb
        refine ⟨?_, fun hL => (g5 i b hb).2 (.inl hL)⟩
        rcases old hb with ⟨j', p1, _⟩ | q
        · exact (hr.own j' b p1).1
        · exact .inr (Nat.le_trans hr.chg.size q)
  · rintro ⟨i, hi⟩
    obtain ⟨j, p1, p2, p3, p4, p5⟩ := fmem hi
    have hmem : ∃ o', (i, o') ∈ ob0 := by
      have : ∀ (l : List (Nat × AO)), (ofO l i).here = true → ∃ o', (i, o') ∈ l := by
        intro l
        induction l with
        | nil => intro h; cases h
        | cons q l ih =>
          obtain ⟨s, y⟩ := q
          intro h
          unfold ofO at h
          split at h
          · rename_i e; subst e; exact ⟨y, by simp⟩
          · obtain ⟨o', ho⟩ := ih h; exact ⟨o', by simp [ho]⟩
      exact this ob0 p3
    obtain ⟨o', ho'⟩ := hmem
    exact hn j (hX i o' ho' j p1) p4 p5
  · cases hs : rn (sw r) j with
    | none =>
      rw [eHn hs, AO.kil_here] at hh
      rw [eρn hs] at hb
      exact .inr ⟨j, hj, hh, hb⟩
    | some i =>
      rw [eHs hs, AO.ren_here] at hh
      rw [eρs hs] at hb
      rcases old ((g3 i).top hh hb) with ⟨j', p1, p2, p3, i', p4, p5⟩ | q
      · refine .inr ⟨j', ?_, p2, p3⟩
        have : ∀ (l : List (Nat × AO)), (ofO l i').here = true → ∃ o', (i', o') ∈ l := by
          intro l
          induction l with
          | nil => intro h; cases h
          | cons q l ih =>
            obtain ⟨s, y⟩ := q
            intro h
            unfold ofO at h
            split at h
            · rename_i e; subst e; exact ⟨y, by simp⟩
            · obtain ⟨o', ho⟩ := ih h; exact ⟨o', by simp [ho]⟩
        obtain ⟨o', ho'⟩ := this ob0 p5
        exact hX i' o' ho' j' p4
      · exact .inl q
end
end Go.Proofs.Ytbjnbhlpibadnaa
