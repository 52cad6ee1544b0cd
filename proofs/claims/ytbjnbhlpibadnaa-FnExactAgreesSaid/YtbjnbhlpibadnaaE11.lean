/- Small steps that printed walks take; contracts in the older words. No program in sight. -/
import Derived.Test.YtbjnbhlpibadnaaE10
import Derived.Test.YtbjnbhlpibadnaaSup2
namespace Go.Proofs.Ytbjnbhlpibadnaa
open Go.RowKit
set_option linter.unusedSimpArgs false
set_option linter.unusedVariables false

section
variable {K : (Nat → AV) → (Nat → AO) → Prop} {Q : AQ} {τ : Nat → AV} {H : Nat → AO} {id i : Nat}
theorem go_then (h : K τ H) : AQ.andThen K Q .normal τ H := h
theorem ex_then (h : Q (.exit i) τ H) : AQ.andThen K Q (.exit i) τ H := h
theorem ret_then (h : Q .ret τ H) : AQ.andThen K Q .ret τ H := h
theorem go_block (h : Q .normal τ H) : AQ.inBlock id Q .normal τ H := h
theorem ex_block (h : Q .normal τ H) : AQ.inBlock id Q (.exit id) τ H := by unfold AQ.inBlock; dsimp only; rw [if_pos rfl]; exact h
theorem ex_other (hi : i ≠ id) (h : Q (.exit i) τ H) : AQ.inBlock id Q (.exit i) τ H := by unfold AQ.inBlock; dsimp only; rw [if_neg hi]; exact h
theorem ret_block (h : Q .ret τ H) : AQ.inBlock id Q .ret τ H := h
theorem go_scope (h : Q .normal τ H) : AQ.noGoto Q .normal τ H := h
theorem ex_scope (h : Q (.exit i) τ H) : AQ.noGoto Q (.exit i) τ H := h
theorem ret_scope (h : Q .ret τ H) : AQ.noGoto Q .ret τ H := h
theorem end_ret {rs : List RVar} {x : AV} {ob1 : List (Nat × AO)} (h1 : retX τ H rs = some x) (h2 : allO ob1 H) : Ends rs x ob1 .ret τ H := ⟨h1, h2⟩
theorem end_go {rs : List RVar} {x : AV} {ob1 : List (Nat × AO)} (h1 : retX τ H rs = some x) (h2 : allO ob1 H) : Ends rs x ob1 .normal τ H := ⟨h1, h2⟩
def NP (Q : AQ) : Prop := ∀ c τ H, ¬ Q (.panic c) τ H
theorem NP.then (h : NP Q) : NP (AQ.andThen K Q) := h
theorem NP.block (h : NP Q) : NP (AQ.inBlock id Q) := h
theorem NP.scope (h : NP Q) : NP (AQ.noGoto Q) := h
theorem NP.ends {rs : List RVar} {x : AV} {ob1 : List (Nat × AO)} : NP (Ends rs x ob1) := fun _ _ _ h => h
end
section
variable {P : Program} {L O : Nat → Prop} {w0 : World} {N : Nat} {τ : Nat → AV} {H : Nat → AO} {Q : AQ} {ops : Array Oper} {l : List Oper} {b : Bool} {t : Nat}
theorem upd_self {α : Type} {f : Nat → α} {i : Nat} {x : α} (h : f i = x) : upd f i x = f := funext fun j => by unfold upd; split <;> simp_all
theorem AL.bool (ht : τ t = .p (.v (.bool b))) (h1 : b = true → AL P L O w0 N ops l (upd τ t (.p (.v (.bool true)))) H Q) (h2 : b = false → AL P L O w0 N ops l (upd τ t (.p (.v (.bool false)))) H Q) : AL P L O w0 N ops l τ H Q := by
  cases b
  · have := h2 rfl; rwa [upd_self ht] at this
  · have := h1 rfl; rwa [upd_self ht] at this
theorem AG.bool {f : Nat} {X : Nat → Bool} {n : Nat} {listed : Array Bool} (ht : τ t = .p (.v (.bool b))) (h1 : b = true → AG P L O w0 N ops f X n listed (upd τ t (.p (.v (.bool true)))) H Q) (h2 : b = false → AG P L O w0 N ops f X n listed (upd τ t (.p (.v (.bool false)))) H Q) : AG P L O w0 N ops f X n listed τ H Q := by
  cases b
  · have := h2 rfl; rwa [upd_self ht] at this
  · have := h1 rfl; rwa [upd_self ht] at this
/-- What a slot holds, told in other words. -/
theorem AL.slot (t : Nat) (x : AV) (ht : τ t = x) (h : AL P L O w0 N ops l (upd τ t x) H Q) : AL P L O w0 N ops l τ H Q := by rwa [upd_self ht] at h
theorem AG.slot (t : Nat) (x : AV) {f : Nat} {X : Nat → Bool} {n : Nat} {listed : Array Bool} (ht : τ t = x) (h : AG P L O w0 N ops f X n listed (upd τ t x) H Q) : AG P L O w0 N ops f X n listed τ H Q := by rwa [upd_self ht] at h
theorem AW.slot (t : Nat) (x : AV) {c : Code} (ht : τ t = x) (h : AW P L O w0 N c (upd τ t x) H Q) : AW P L O w0 N c τ H Q := by rwa [upd_self ht] at h
theorem AW.obj (i : Nat) (x : AO) {c : Code} (ht : H i = x) (h : AW P L O w0 N c τ (upd H i x) Q) : AW P L O w0 N c τ H Q := by rwa [upd_self ht] at h
/-- Slots and objects listed anew; the rest is forgotten. -/
theorem AW.tidy (T : List (Nat × AV)) (B : List (Nat × AO)) {c : Code} (h1 : allT T τ) (h2 : allO B H) (h : AW P L O w0 N c (ofT T) (ofO B) Q) : AW P L O w0 N c τ H Q := AW.weak h1.weak h2.weak h

/-- A value of known cells. -/
def val : AV → Option Value
  | .p (.v v) => some v
  | _ => none
def vals : List AV → Option (List Value)
  | [] => some []
  | x :: l => match val x, vals l with
    | some v, some vs => some (v :: vs)
    | _, _ => none
def valA : AV → Option Value
  | .agg l => (vals l).map fun vs => .agg vs.toArray
  | x => val x
theorem vals_eq {ρ : Nat → Value} {w : World} : ∀ {l : List AV} {vs cs : List Value}, vals l = some vs → RVL L ρ H w l cs → cs = vs
  | [], vs, cs, h, h2 => by injection h with h; subst h; rwa [RVL] at h2
  | x :: l, vs, cs, h, h2 => by
    rw [RVL] at h2
    obtain ⟨c, r, rfl, h3, h4⟩ := h2
    unfold vals at h
    split at h
    · rename_i v vs' h5 h6
      injection h with h
      subst h
      rw [vals_eq h6 h4]
      congr 1
      unfold val at h5
      split at h5
      · injection h5 with h5; subst h5; exact h3.v_eq
      · cases h5
    · cases h
theorem valA_eq {ρ : Nat → Value} {w : World} {x : AV} {v c : Value} (h : valA x = some v) (h2 : RV L ρ H w x c) : c = v := by
  unfold valA at h
  split at h
  · rename_i l
    cases hv : vals l with
    | none => rw [hv] at h; cases h
    | some vs =>
      rw [hv] at h
      injection h with h
      subst h
      rw [RV] at h2
      obtain ⟨cs, rfl, h3⟩ := h2
      rw [vals_eq hv h3]
  · unfold val at h
    split at h
    · injection h with h; subst h; exact h2.v_eq
    · cases h
theorem rd_eqv {o : Oper} {X : Nat → Bool} {op : BinOp} {T yT : TypeId} {x y : Operand} {vx vy : Value} {b : Bool} (ho : o.op = .binOp op T x y yT) (hx : valA (ev τ x) = some vx) (hy : valA (ev τ y) = some vy) (h : ∀ W, (do eqGuard op T x y vx vy; binOp op T vx vy : Sem Value).run P W = .ok (.bool b) W) : Rd P o τ H X (boo b) := by
  apply Rd.pure; intro L ρ a w he _
  have e1 := valA_eq hx (he x)
  have e2 := valA_eq hy (he y)
  refine ⟨.bool b, RV.v_mk rfl, fun W => ?_⟩
  have : execOp a.eval o = (do let v ← (do eqGuard op T x y (a.eval x) (a.eval y); binOp op T (a.eval x) (a.eval y)); pure (.value v)) := by simp only [execOp, ho]
  rw [this, e1, e2, Sem.run_bind, h]
  rfl
end

theorem row_map {α : Type} {g : α → List PV} {l : List α} {k : Nat} (h : k < l.length) : (l.map g)[k]? = some (g l[k]) := by rw [List.getElem?_map, List.getElem?_eq_getElem h]; rfl

theorem allT.app : ∀ {l m : List (Nat × AV)} {τ : Nat → AV}, allT l τ → allT m τ → allT (l ++ m) τ
  | [], m, τ, _, h => h
  | (s, x) :: l, m, τ, h, k => ⟨h.1, allT.app h.2 k⟩
theorem allO.app : ∀ {l m : List (Nat × AO)} {τ : Nat → AO}, allO l τ → allO m τ → allO (l ++ m) τ
  | [], m, τ, _, h => h
  | (s, x) :: l, m, τ, h, k => ⟨h.1, allO.app h.2 k⟩
theorem allT.same (τ : Nat → AV) : ∀ ks : List Nat, allT (ks.map fun t => (t, τ t)) τ
  | [] => trivial
  | _ :: ks => ⟨rfl, allT.same τ ks⟩
theorem allO.same (H : Nat → AO) : ∀ ks : List Nat, allO (ks.map fun t => (t, H t)) H
  | [] => trivial
  | _ :: ks => ⟨rfl, allO.same H ks⟩
/-- A loop whose rounds keep the slots ks and the objects os as they are. -/
theorem AW.loopK {P : Program} {L O : Nat → Prop} {w0 : World} {N : Nat} {τ : Nat → AV} {H : Nat → AO} {Q : AQ} (ks os : List Nat) {D : Type} (T : D → List (Nat × AV)) (B : D → List (Nat × AO)) (I : D → Prop) (μ : D → Nat) {c : Code} (d : D) (h0 : I d) (h1 : allT (T d) τ) (h2 : allO (B d) H)
    (round : ∀ d, I d → AW P L O w0 N c (ofT (T d ++ ks.map fun t => (t, τ t))) (ofO (B d ++ os.map fun t => (t, H t))) (Q.andThen fun τ' H' => ∃ d', I d' ∧ μ d' < μ d ∧ allT (T d') τ' ∧ allO (B d') H' ∧ allT (ks.map fun t => (t, τ t)) τ' ∧ allO (os.map fun t => (t, H t)) H')) : AW P L O w0 N (.loop c) τ H Q :=
  AW.loop (fun d => T d ++ ks.map fun t => (t, τ t)) (fun d => B d ++ os.map fun t => (t, H t)) I μ d h0 (h1.app (allT.same τ ks)) (h2.app (allO.same H os)) fun d hI => (round d hI).mono fun e τ' H' q => by
    cases e <;> first | exact q | skip
    obtain ⟨d', q1, q2, q3, q4, q5, q6⟩ := q
    exact ⟨d', q1, q2, q3.app q5, q4.app q6⟩

/-- A loop whose rounds keep the slots K and the objects KO as they are told. -/
theorem AW.loopE {P : Program} {L O : Nat → Prop} {w0 : World} {N : Nat} {τ : Nat → AV} {H : Nat → AO} {Q : AQ} (K : List (Nat × AV)) (KO : List (Nat × AO)) {D : Type} (T : D → List (Nat × AV)) (B : D → List (Nat × AO)) (I : D → Prop) (μ : D → Nat) {c : Code} (d : D) (h0 : I d) (h1 : allT (T d) τ) (h2 : allO (B d) H) (h3 : allT K τ) (h4 : allO KO H)
    (round : ∀ d, I d → AW P L O w0 N c (ofT (T d ++ K)) (ofO (B d ++ KO)) (Q.andThen fun τ' H' => ∃ d', I d' ∧ μ d' < μ d ∧ allT (T d') τ' ∧ allO (B d') H' ∧ allT K τ' ∧ allO KO H')) : AW P L O w0 N (.loop c) τ H Q :=
  AW.loop (fun d => T d ++ K) (fun d => B d ++ KO) I μ d h0 (h1.app h3) (h2.app h4) fun d hI => (round d hI).mono fun e τ' H' q => by
    cases e <;> first | exact q | skip
    obtain ⟨d', q1, q2, q3, q4, q5, q6⟩ := q
    exact ⟨d', q1, q2, q3.app q5, q4.app q6⟩

/-! ## The older words -/
/-- Rows of flat elements. -/
def rowsOf {α : Type} (enc : α → List Value) (xs : List α) : List (List PV) := xs.map fun x => (enc x).map PV.v
theorem length_rowsOf {α : Type} (enc : α → List Value) (xs : List α) : (rowsOf enc xs).length = xs.length := List.length_map _
theorem RWR.pvs {w : World} {st : Bool} {α : Type} {enc : α → List Value} {sz : Nat} (hs : ∀ x, (enc x).length = sz) (h1 : ∀ x, ∀ u ∈ enc x, u.oneCell' = true) : ∀ xs, RWR w st sz (rowsOf enc xs) (xs.flatMap enc) []
  | [] => by simp [rowsOf, RWR]
  | x :: xs => by
    rw [List.flatMap_cons]
    show RWR w st sz ((enc x).map PV.v :: rowsOf enc xs) _ _
    rw [RWR]
    exact ⟨by rw [List.length_map, hs], enc x, _, [], [], rfl, rfl, RWL.pv _ (h1 x), RWR.pvs hs h1 xs⟩
theorem RWL.pv_inv {w : World} {st : Bool} : ∀ {vs : List Value} {cs : List Value} {fp : List Nat}, RWL w st (vs.map PV.v) cs fp → cs = vs ∧ fp = []
  | [], cs, fp, h => by rw [List.map_nil, RWL] at h; exact h
  | v :: vs, cs, fp, h => by
    rw [List.map_cons, RWL] at h
    obtain ⟨c, r, f1, f2, rfl, rfl, h1, h2⟩ := h
    rw [RW] at h1
    obtain ⟨rfl, rfl⟩ := RWL.pv_inv h2
    exact ⟨by rw [h1.1], by rw [h1.2.1]; rfl⟩
theorem RWR.pvs_inv {w : World} {st : Bool} {α : Type} {enc : α → List Value} {sz : Nat} : ∀ {xs : List α} {cs : List Value} {fp : List Nat}, RWR w st sz (rowsOf enc xs) cs fp → cs = xs.flatMap enc ∧ fp = []
  | [], cs, fp, h => by rw [show rowsOf enc ([] : List α) = [] from rfl, RWR] at h; exact h
  | x :: xs, cs, fp, h => by
    have h' : RWR w st sz ((enc x).map PV.v :: rowsOf enc xs) cs fp := h
    rw [RWR] at h'
    obtain ⟨_, c, r, f1, f2, rfl, rfl, h1, h2⟩ := h'
    obtain ⟨rfl, rfl⟩ := RWL.pv_inv h1
    obtain ⟨rfl, rfl⟩ := RWR.pvs_inv h2
    exact ⟨rfl, rfl⟩
/-- A slice in the older words reads as rows. -/
theorem RV.of_slr {L : Nat → Prop} {ρ : Nat → Value} {H : Nat → AO} {α : Type} {enc : α → List Value} {sz : Nat} {rep : World → Nat → Nat → List Value → α → Prop} {w : World} {lo hi : Nat} {v : Value} {xs : List α} {e : TypeId} (h : SlR sz rep w lo hi v xs) (hrep : ∀ cs x, rep w lo hi cs x → cs = enc x) (hs : ∀ x, (enc x).length = sz) (h1 : ∀ x, ∀ u ∈ enc x, u.oneCell' = true)
    (hhi : hi ≤ w.heap.size) (hl : ∀ b, lo ≤ b → b < hi → ¬ live L ρ H b) : RV L ρ H w (.p (.lst e sz (rowsOf enc xs))) v := by
  obtain ⟨a, cap, rfl, c1, c2, hsl⟩ := h
  rw [RV]
  rcases hsl with hz | ⟨b, off, rfl, b1, b2, hel⟩
  · refine ⟨[] ++ [], ?_, by simp⟩
    rw [RW]
    refine ⟨_, [], [], RWR.pvs hs h1 xs, ?_, rfl⟩
    unfold SlAt
    simp only [Bool.false_eq_true, if_false]
    exact ⟨_, _, by rw [length_rowsOf], by rw [length_rowsOf]; exact c1, c2, .inl ⟨by rw [length_rowsOf, hz]; rfl, trivial⟩⟩
  · refine ⟨[b] ++ [], ?_, fun x hx => by simp at hx; subst hx; exact hl x b1 b2⟩
    rw [RW]
    refine ⟨_, [b], [], RWR.pvs hs h1 xs, ?_, rfl⟩
    unfold SlAt
    simp only [Bool.false_eq_true, if_false]
    refine ⟨_, _, by rw [length_rowsOf], by rw [length_rowsOf]; exact c1, c2, .inr ⟨b, off, rfl, fun j v hj => ?_, by omega, rfl⟩⟩
    have hsz : 0 < sz := by
      rcases Nat.eq_zero_or_pos sz with q | q
      · exfalso
        have hlen : (xs.flatMap enc).length = 0 := by
          have : ∀ (l : List α), (l.flatMap enc).length = l.length * sz := by
            intro l
            induction l with
            | nil => simp
            | cons y l ih => rw [List.flatMap_cons, List.length_append, ih, hs, List.length_cons, Nat.add_mul]; omega
          rw [this, q]; simp
        have := (List.getElem?_eq_some_iff.1 hj).1
        omega
      · exact q
    have hlen : ∀ (l : List α), (l.flatMap enc).length = l.length * sz := by
      intro l
      induction l with
      | nil => simp
      | cons y l ih => rw [List.flatMap_cons, List.length_append, ih, hs, List.length_cons, Nat.add_mul]; omega
    have hjl := (List.getElem?_eq_some_iff.1 hj).1
    rw [hlen] at hjl
    have hi' : j / sz < xs.length := Nat.div_lt_of_lt_mul (by rw [Nat.mul_comm]; exact hjl)
    obtain ⟨cs, q1, q2⟩ := hel (j / sz) hi'
    have q1' := hrep _ _ q1
    subst q1'
    have hdec : j = j / sz * sz + j % sz := by rw [Nat.mul_comm]; exact (Nat.div_add_mod j sz).symm
    have hm : j % sz < sz := Nat.mod_lt _ hsz
    have hget : ∀ (l : List α) (i m : Nat) (h : i < l.length), m < sz → (l.flatMap enc)[i * sz + m]? = (enc l[i])[m]? := by
      intro l
      induction l with
      | nil => intro i m h; exact absurd h (by simp)
      | cons y l ih =>
        intro i m h hm
        rw [List.flatMap_cons]
        cases i with
        | zero => rw [Nat.zero_mul, Nat.zero_add, List.getElem?_append_left (by rw [hs]; exact hm)]; rfl
        | succ i =>
          rw [List.getElem?_append_right (by rw [hs, Nat.add_mul]; omega), hs, show (i + 1) * sz + m - sz = i * sz + m by rw [Nat.add_mul]; omega]
          exact ih i m (by simpa using h) hm
    rw [hdec, hget xs (j / sz) (j % sz) hi' hm] at hj
    have := q2 _ _ hj
    rw [hdec, ← Nat.add_assoc]
    exact this
/-- Rows read as a slice in the older words. -/
theorem RV.slr {L : Nat → Prop} {ρ : Nat → Value} {H : Nat → AO} {α : Type} {enc : α → List Value} {sz : Nat} {rep : World → Nat → Nat → List Value → α → Prop} {w : World} {v : Value} {xs : List α} {e : TypeId} (h : RV L ρ H w (.p (.lst e sz (rowsOf enc xs))) v) (hs : ∀ x, (enc x).length = sz) (hrep : ∀ x ∈ xs, rep w 0 w.heap.size (enc x) x) : SlR sz rep w 0 w.heap.size v xs := by
  rw [RV] at h
  obtain ⟨fp, h, _⟩ := h
  rw [RW] at h
  obtain ⟨cs, f1, f2, h1, h2, _⟩ := h
  obtain ⟨rfl, rfl⟩ := RWR.pvs_inv h1
  unfold SlAt at h2
  simp only [Bool.false_eq_true, if_false] at h2
  obtain ⟨a, cap, rfl, c1, c2, h2⟩ := h2
  rw [length_rowsOf] at *
  refine ⟨a, cap, rfl, c1, c2, ?_⟩
  rcases h2 with ⟨q, _⟩ | ⟨b, off, rfl, hc, hb, _⟩
  · exact .inl (List.eq_nil_of_length_eq_zero q)
  · refine .inr ⟨b, off, rfl, Nat.zero_le _, hb, fun i hi => ⟨enc xs[i], hrep _ (List.getElem_mem hi), fun j v hj => ?_⟩⟩
    have hm : j < sz := by have := (List.getElem?_eq_some_iff.1 hj).1; rw [hs] at this; exact this
    have hget : ∀ (l : List α) (i m : Nat) (h : i < l.length), m < sz → (l.flatMap enc)[i * sz + m]? = (enc l[i])[m]? := by
      intro l
      induction l with
      | nil => intro i m h; exact absurd h (by simp)
      | cons y l ih =>
        intro i m h hm
        rw [List.flatMap_cons]
        cases i with
        | zero => rw [Nat.zero_mul, Nat.zero_add, List.getElem?_append_left (by rw [hs]; exact hm)]; rfl
        | succ i =>
          rw [List.getElem?_append_right (by rw [hs, Nat.add_mul]; omega), hs, show (i + 1) * sz + m - sz = i * sz + m by rw [Nat.add_mul]; omega]
          exact ih i m (by simpa using h) hm
    rw [← hget xs i j hi hm] at hj
    have := hc _ _ hj
    rw [Nat.add_assoc]
    exact this
/-- A contract in the older words whose results hold no memory. -/
theorem GC.of_calls {P : Program} {f : FuncId} {args : List AV} {x : AV} {r : Value} (hx : valA x = some r) (ho : ∀ {L : Nat → Prop} {ρ : Nat → Value} {w : World}, RV L ρ (ofO []) w x r)
    (h : ∀ (L : Nat → Prop) (ρ : Nat → Value) (w : World) (cs : List Value), RVL L ρ (ofO []) w args cs → Calls P f cs.toArray w fun e w' => e = .returned r ∧ Grow w w') : GC P f args [] x [] := by
  intro L w cs ρ fp hL hargs hob hdj hLf
  refine Calls.mono (h L ρ w cs hargs) ?_
  rintro e w' ⟨rfl, g⟩
  refine ⟨r, ρ, fun _ => [], rfl, ⟨g.below.os, g.below.tape, g.below.output, g.size, fun b hb _ => g.below.block b hb, fun b o hb hlt => ?_⟩, ho, fun i => rfl, by simp, by simp⟩
  rcases hb with ⟨i, hi⟩ | hb
  · have := (hob i).only hi
    cases this.1
  · exact g.nf b o hb hlt
/-- A contract over data, in the older words. -/
theorem GC.calls {P : Program} {f : FuncId} {args : List AV} {x : AV} {r : Value} (hx : valA x = some r) (h : GC P f args [] x []) {w : World} {cs : List Value} (hargs : RVL (fun _ => False) (fun _ => undef) (ofO []) w args cs) : Calls P f cs.toArray w fun e w' => e = .returned r ∧ Grow w w' := by
  refine Calls.mono (h (fun _ => False) w cs (fun _ => undef) (fun _ => []) (fun _ q => q.elim) hargs (fun i => rfl) (by simp) (by simp)) ?_
  rintro e w' ⟨v, ρ', fp', rfl, g1, g2, _⟩
  refine ⟨by rw [valA_eq hx g2], ⟨⟨g1.os, g1.tape, g1.output, g1.size, fun b hb => g1.block b hb (by simp)⟩, fun b o h1 h2 => g1.nf b o (.inr h1) h2⟩⟩
end Go.Proofs.Ytbjnbhlpibadnaa
