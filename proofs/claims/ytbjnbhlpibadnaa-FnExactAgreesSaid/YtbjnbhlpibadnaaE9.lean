/- Calls at their operations, and a function's contract out of its body; rows given up for reading; nil rows. No program in sight. -/
import Derived.Test.YtbjnbhlpibadnaaE8
namespace Go.Proofs.Ytbjnbhlpibadnaa
open Go.RowKit
set_option linter.unusedSimpArgs false
set_option linter.unusedVariables false

def inK (kl : List Nat) : Nat → Bool := fun j => kl.contains j
/-- Every name that r tells is dropped or stays in its place. -/
def okK (r : List (Nat × Nat)) (kl pl : List Nat) : Bool := r.all fun p => kl.contains p.2 || pl.contains p.1
theorem okK.at {r : List (Nat × Nat)} {kl pl : List Nat} (h : okK r kl pl = true) : ∀ j, inK kl j = false → ∀ i, rn (sw r) j = some i → i ∈ pl := fun j hj i hi => by
  have hm := rn_mem hi
  unfold sw at hm
  obtain ⟨p, hp, e⟩ := List.mem_map.1 hm
  injection e with e1 e2
  subst e1 e2
  have := List.all_eq_true.1 h p hp
  unfold inK at hj
  rw [hj, Bool.false_or] at this
  simpa using this
def nodupB (l : List Nat) : Bool := match l with | [] => true | x :: l => !l.contains x && nodupB l
theorem nodupB.nodup : ∀ {l : List Nat}, nodupB l = true → l.Nodup
  | [], _ => List.nodup_nil
  | x :: l, h => by
    unfold nodupB at h
    simp only [Bool.and_eq_true, Bool.not_eq_true', List.contains_eq_mem, decide_eq_false_iff_not] at h
    exact List.nodup_cons.2 ⟨h.1, nodupB.nodup h.2⟩
def exL (r : List (Nat × Nat)) (ob0 : List (Nat × AO)) : List Nat := ob0.filterMap fun p => rn r p.1

section
variable {P : Program} {o : Oper} {N : Nat} {τ : Nat → AV} {H : Nat → AO}
theorem St.call (r : List (Nat × Nat)) (kl pl : List Nat) {y : Operand} {l : List Operand} {ts : Array TypeId} {f : FuncId} {fn : Func} {fs caps args : List AV} {ob0 ob1 : List (Nat × AO)} {x : AV} (ho : o.op = .call { callee := .value y, args := l.toArray, argTypes := ts }) (ht : ∀ s, o.dst = some s → s < N)
    (hy : ev τ y = .clo (.func f) fs caps) (hf : P.funcs[f]? = some fn) (hf1 : (fn.name == "runtime.NumGoroutine") = false) (hf2 : fn.body.isNone = false) (hc : GC P f args ob0 x ob1)
    (hr : nodupB (r.map Prod.fst) = true ∧ nodupB (r.map Prod.snd) = true ∧ okK r kl pl = true) (h0 : all0 r H ob0) (hp : pins ob0 ob1 pl) (ha : renL (sw r) (fs ++ l.map (ev τ) ++ caps) = args) :
    St P o N τ H (exL r ob0) (updo (fun t => kil (inK kl) (τ t)) o.dst (ren r x)) (callH r (inK kl) ob1 H) := by
  refine ⟨?_⟩
  intro L O w0 ρ fp a w K Q hrr hk
  have ey := hrr.ev y
  rw [hy, RV] at ey
  obtain ⟨cf, cc, ey, e1, e2⟩ := ey
  have hv : RVL L ρ H w (fs ++ l.map (ev τ) ++ caps) (cf ++ l.map a.eval ++ cc) := (e1.append (RVL.map (fun z => hrr.ev z) l)).append e2
  have hcall := RR.called hrr (k := inK kl) (pl := pl) hc (nodupB.nodup hr.1) (nodupB.nodup hr.2.1) h0 (okK.at hr.2.2) hp hv ha
  have hrun : (execOp a.eval o).run P w = .ok (.enter f (cf ++ l.map a.eval ++ cc).toArray) w := by
    simp only [execOp, ho, resolve, Deferred.ofValue, ey, invoke, callFunc, Sem.run_bind, Sem.run_pure, Result.andThen_ok, run_program, hf, hf1, hf2, Bool.false_eq_true, if_false, List.map_toArray, List.append_toArray]
  unfold Oper.wp
  rw [hrun]
  show Calls P f _ w _
  refine Calls.mono hcall ?_
  rintro e w' ⟨v, ρ', fp', rfl, g1, g2, g3⟩
  refine hk _ _ _ _ (g1.puto o.dst g2 ht) (fun X hX => g3 X (fun i o' hio j hj => hX j ?_))
  exact List.mem_filterMap.2 ⟨_, hio, hj⟩

/-! ## A function's contract out of its body -/
inductive RVar where
  | tmp (t : Nat)
  | cell (a t : Nat) (n : Option Nat)
def resOk (P : Program) : List ResultVar → List RVar → Prop
  | [], [] => True
  | .tmp t :: l, .tmp t' :: l' => t = t' ∧ resOk P l l'
  | .cell a t :: l, .cell a' t' n :: l' => a = a' ∧ t = t' ∧ kindA P t = some n ∧ resOk P l l'
  | _, _ => False
def retOne (τ : Nat → AV) (H : Nat → AO) : RVar → Option AV
  | .tmp t => some (τ t)
  | .cell a _ n => match τ a with
    | .ptr id 0 k => match H id with
      | .box _ _ cells => ldA n (cells.drop k)
      | _ => none
    | _ => none
def retA (τ : Nat → AV) (H : Nat → AO) : List RVar → Option (List AV)
  | [] => some []
  | r :: l => match retOne τ H r, retA τ H l with
    | some x, some xs => some (x :: xs)
    | _, _ => none
def retX (τ : Nat → AV) (H : Nat → AO) (l : List RVar) : Option AV := match retA τ H l with
  | some [x] => some x
  | some xs => some (.tup xs)
  | none => none
def ofL (l : List AV) : Nat → AV := fun t => (l[t]?).getD .bad
/-- How a body ends: it returns x and leaves ob1. -/
def Ends (rs : List RVar) (x : AV) (ob1 : List (Nat × AO)) : AQ := fun e τ H => match e with
  | .ret => retX τ H rs = some x ∧ allO ob1 H
  | .normal => retX τ H rs = some x ∧ allO ob1 H
  | _ => False
def resVal (tmps : Array Value) : ResultVar → Sem Value
  | .tmp t => pure (tmps.getD t undef)
  | .cell a t => do loadVar t (← asAddr (tmps.getD a undef))
theorem results_eq (fn : Func) (tmps : Array Value) : results fn tmps = (do let vs ← fn.results.mapM (resVal tmps); pure (if h : vs.size = 1 then vs[0] else .tuple vs)) := by
  unfold results
  congr 1
theorem retOne_run {L O : Nat → Prop} {w0 : World} {ρ : Nat → Value} {fp : Nat → List Nat} {a : Act} {w : World} (hr : RR L O w0 N τ H ρ fp a w) {y : RVar} {rv : ResultVar} {x : AV} (hk : resOk P [rv] [y]) (h : retOne τ H y = some x) :
    ∃ c, RV L ρ H w x c ∧ (resVal a.tmps rv).run P w = .ok c w := by
  cases rv with
  | tmp t =>
    cases y with
    | tmp t' =>
      obtain ⟨rfl, _⟩ := hk
      injection h with h
      subst h
      exact ⟨_, hr.tm t, rfl⟩
    | cell a t n => exact hk.elim
  | cell t ty =>
    cases y with
    | tmp t' => exact hk.elim
    | cell b t' n =>
      obtain ⟨rfl, rfl, hk, _⟩ := hk
      unfold retOne at h
      dsimp only at h
      split at h
      · rename_i id k hx
        split at h
        · rename_i T p cells hH
          have hv := hr.tm t
          rw [hx, RV] at hv
          obtain ⟨_, g, m, cap, hg, e⟩ := hv.2 (by rw [hH]; rfl)
          have hob := hr.ob id
          rw [hH] at hob
          obtain ⟨xs, k1, k2, k3, k4, _⟩ := hob
          obtain ⟨hc, hlt⟩ := own_at (fp := fp id) k3 hg
          obtain ⟨c, q1, q2⟩ := ldA_run (P := P) (b := g) (off := 0 + k) hk (RVL.drop k k1) h
          refine ⟨c, q1, ?_⟩
          have := q2 w (hc.drop k)
          simp only [Instr.loadAt, Instr.sureAddr, Sem.run_bind, Sem.run_pure, Result.andThen_ok] at this
          simp only [resVal, e, asAddr, Sem.run_bind, Sem.run_pure, Result.andThen_ok, Nat.zero_mul]
          exact this
        · cases h
      · cases h
theorem results_run {L O : Nat → Prop} {w0 : World} {ρ : Nat → Value} {fp : Nat → List Nat} {a : Act} {w : World} (hr : RR L O w0 N τ H ρ fp a w) : ∀ (rv : List ResultVar) (rs : List RVar) (xs : List AV), resOk P rv rs → retA τ H rs = some xs →
    ∃ cs, RVL L ρ H w xs cs ∧ (rv.mapM (resVal a.tmps)).run P w = .ok cs w
  | [], [], xs, _, h => by
    injection h with h
    subst h
    exact ⟨[], by simp [RVL], rfl⟩
  | [], _ :: _, xs, hk, h => hk.elim
  | .tmp _ :: _, [], xs, hk, h => hk.elim
  | .cell _ _ :: _, [], xs, hk, h => hk.elim
  | rv :: l, y :: rs, xs, hk, h => by
    have hk' : resOk P [rv] [y] ∧ resOk P l rs := by
      cases rv <;> cases y <;> first | exact hk.elim | skip
      · exact ⟨⟨hk.1, trivial⟩, hk.2⟩
      · exact ⟨⟨hk.1, hk.2.1, hk.2.2.1, trivial⟩, hk.2.2.2⟩
    unfold retA at h
    split at h
    · rename_i x xs' h1 h2
      injection h with h
      subst h
      obtain ⟨c, q1, q2⟩ := retOne_run hr hk'.1 h1
      obtain ⟨cs, q3, q4⟩ := results_run hr l rs xs' hk'.2 h2
      refine ⟨c :: cs, by rw [RVL]; exact ⟨c, cs, rfl, q1, q3⟩, ?_⟩
      rw [List.mapM_cons, Sem.run_bind, q2, Result.andThen_ok, Sem.run_bind, q4]
      rfl
    · cases h
theorem OB.frozen {L : Nat → Prop} {ρ : Nat → Value} {w : World} {v : Value} {fp : List Nat} {o : AO} (h : OB L ρ H w v fp o) : ∀ b ∈ fp, ∀ off, w.frozen? ⟨b, off, none⟩ = false := fun b hb off => by
  have key : ∀ {e sz n xs}, w.ownsRow 0 e sz v n xs → v.ownBlock = some b → w.frozen? ⟨b, off, none⟩ = false := fun {e sz n xs} h1 h2 => by
    rcases h1.2 with ⟨q, _⟩ | ⟨g, cap, cur, q, _, hg, _⟩
    · rw [q] at h2; cases h2
    · rw [q] at h2
      have h3 : g = b := by injection h2
      subst h3
      simp [World.frozen?, hg]
  obtain ⟨_, hv⟩ := h.only hb
  cases o with
  | box T p cells => obtain ⟨xs, _, _, h3, _⟩ := h; exact key h3 hv
  | arr e sz rows => obtain ⟨xs, fr, _, _, h3, _⟩ := h; exact key h3 hv
  | gone => unfold OB at h; subst h; cases hb
theorem GC.intro {f : FuncId} {fn : Func} {c : Code} {args : List AV} {ob0 ob1 : List (Nat × AO)} {x : AV} {rs : List RVar} (hf : P.funcs[f]? = some fn) (hb : fn.body = some c) (hn : fn.ntmps = N) (hl : args.length ≤ N) (hrs : resOk P fn.results.toList rs)
    (h : ∀ L O w0, AW P L O w0 N c (ofL args) (ofO ob0) (Ends rs x ob1)) : GC P f args ob0 x ob1 := by
  intro L w cs ρ fp hL hargs hob hdj hLf
  refine calls_of_wp hf hb ?_
  have hcl := hargs.length
  have h0 : RR L (fun b => ∃ i, b ∈ fp i) w N (ofL args) (ofO ob0) ρ fp { tmps := cs.toArray ++ Array.replicate (fn.ntmps - cs.toArray.size) undef, defers := [] } w := by
    refine ⟨Chg.refl _ w (fun b off ⟨i, hi⟩ => (hob i).frozen b hi off), ?_, rfl, fun t => ?_, hob, hdj, fun i b hb => ⟨.inl ⟨i, hb⟩, hLf i b hb⟩, hL⟩
    · simp only [Array.size_append, List.size_toArray, Array.size_replicate]; omega
    · unfold ofL
      cases ht : args[t]? with
      | none => simp [RV]
      | some y =>
        obtain ⟨u, k1, k2⟩ := RVL.get hargs ht
        have htl : t < cs.length := (List.getElem?_eq_some_iff.1 k1).1
        have e : ({ tmps := cs.toArray ++ Array.replicate (fn.ntmps - cs.toArray.size) undef, defers := [] } : Act).tmps.getD t undef = u := by
          show (cs.toArray ++ Array.replicate (fn.ntmps - cs.toArray.size) undef).getD t undef = u
          rw [Array.getD_eq_getD_getElem?, Array.getElem?_append_left (by simpa using htl)]
          simp [k1]
        rw [e]
        exact k2
  refine Code.wp_mono ?_ (h L _ w ρ fp _ w h0)
  rintro e a' w' ⟨τ', H', ρ', fp', hr, hq⟩
  have fin : retX τ' H' rs = some x ∧ allO ob1 H' → a'.defers = [] ∧ ∃ v, (results fn a'.tmps).run P w' = .ok v w' ∧ ∃ (v_1 : Value) (ρ' : Nat → Value) (fp' : Nat → List Nat), Ending.returned v = .returned v_1 ∧ Chg (fun b => ∃ i, b ∈ fp i) w w' ∧ RV L ρ' (ofO ob1) w' x v_1 ∧ (∀ i, OB L ρ' (ofO ob1) w' (ρ' i) (fp' i) (ofO ob1 i)) ∧ (∀ i j, i ≠ j → ∀ b ∈ fp' i, b ∉ fp' j) ∧ (∀ i, ∀ b ∈ fp' i, ((∃ j, b ∈ fp j) ∨ w.heap.size ≤ b) ∧ ¬ L b) := by
    rintro ⟨q1, q2⟩
    unfold retX at q1
    cases hra : retA τ' H' rs with
    | none => rw [hra] at q1; cases q1
    | some xs =>
      rw [hra] at q1
      obtain ⟨cs', k1, k2⟩ := results_run hr fn.results.toList rs xs hrs hra
      obtain ⟨fp2, hr2, E⟩ := hr.weak (fun t => .inr rfl) q2.weak
      have hrun : ∃ v, (results fn a'.tmps).run P w' = .ok v w' ∧ RV L ρ' H' w' x v := by
        have e1 : (fn.results.mapM (resVal a'.tmps)).run P w' = .ok cs'.toArray w' := by
          rw [← Array.toArray_toList (xs := fn.results), List.mapM_toArray]
          simp only [Sem.run_map]
          rw [k2]
          rfl
        refine ⟨if h : cs'.toArray.size = 1 then cs'.toArray[0] else .tuple cs'.toArray, ?_, ?_⟩
        · rw [results_eq, Sem.run_bind, e1]
          rfl
        · have hlen := k1.length
          split
          · rename_i h1
            have h1' : cs'.length = 1 := by simpa using h1
            match xs, cs', k1, q1, hlen, h1' with
            | [y], [c], k1, q1, _, _ =>
              injection q1 with q1
              subst q1
              rw [RVL] at k1
              obtain ⟨c', r, e, k3, _⟩ := k1
              injection e with e1 e2
              subst e1
              exact k3
          · rename_i h1
            have h1' : cs'.length ≠ 1 := by simpa using h1
            have hx : x = .tup xs := by
              match xs, q1, hlen with
              | [], q1, _ => injection q1 with q1; exact q1.symm
              | [y], _, hlen => exact absurd hlen h1'
              | _ :: _ :: _, q1, _ => injection q1 with q1; exact q1.symm
            subst hx
            rw [RV]
            exact ⟨cs', rfl, k1⟩
      obtain ⟨v, hrun, hx⟩ := hrun
      have hx2 := RV.env E x hx
      rw [kil_no] at hx2
      exact ⟨hr.defers, v, hrun, v, ρ', fp2, rfl, hr2.chg, hx2, hr2.ob, hr2.dj, hr2.own⟩
  unfold Ends at hq
  cases e with
  | ret => exact fin hq
  | normal => exact fin hq
  | exit id => exact hq.elim
  | goto l => exact hq.elim
  | panic c => exact hq.elim
  | outgrown => exact hq.elim
end
end Go.Proofs.Ytbjnbhlpibadnaa
