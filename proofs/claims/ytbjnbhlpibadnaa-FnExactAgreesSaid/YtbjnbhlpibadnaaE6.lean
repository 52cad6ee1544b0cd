/- The operations that turn memory, over data. No program in sight. -/
import Derived.Test.YtbjnbhlpibadnaaE5
import Derived.Laws.CopyRow
import Derived.Maps.AppendAt
namespace Go.Proofs.Ytbjnbhlpibadnaa
open Go.RowKit
set_option linter.unusedSimpArgs false
set_option linter.unusedVariables false

theorem RVL.envK {L : Nat → Prop} {ρ ρ' : Nat → Value} {H H' : Nat → AO} {w w' : World} {k : Nat → Bool} (E : Env L ρ ρ' H H' w w' k) {l : List AV} {cs : List Value} (h : RVL L ρ H w l cs) : RVL L ρ' H' w' (kilL k l) cs := RVL.env E l h

/-- An operation that turns object id alone, or lays it. -/
theorem St.turn {P : Program} {o : Oper} {N : Nat} {τ : Nat → AV} {H : Nat → AO} (id : Nat) (k : Nat → Bool) (x : AV) (o' : AO) (E : List Nat) (ht : ∀ s, o.dst = some s → s < N)
    (h : ∀ {L O : Nat → Prop} {w0 : World} {ρ : Nat → Value} {fp : Nat → List Nat} {a : Act} {w : World}, RR L O w0 N τ H ρ fp a w → ∃ w' v' row c nx, (execOp a.eval o).run P w = .ok nx w' ∧ (nx = .value c ∨ (nx = .skip ∧ c = undef)) ∧
      w.grownBy w' row ∧ (∀ b, row = some b → id ∈ E ∧ (H id).here = true ∧ (ρ id).ownBlock = some b) ∧
      (∀ b off, (row = some b ∨ w.heap.size ≤ b) → b < w'.heap.size → w'.frozen? ⟨b, off, none⟩ = false) ∧
      (k id = false → o'.here = true → (H id).here = true ∧ v' = ρ id ∧ o'.len = (H id).len ∧ o'.sz = (H id).sz) ∧
      (∀ b, v'.ownBlock = some b → w.heap.size ≤ b ∨ ((H id).here = true ∧ (ρ id).ownBlock = some b)) ∧
      (Env L ρ (upd ρ id v') H (upd (fun j => (H j).kil k) id o') w w' k → OB L (upd ρ id v') (upd (fun j => (H j).kil k) id o') w' v' v'.ownBlock.toList o' ∧ RV L (upd ρ id v') (upd (fun j => (H j).kil k) id o') w' x c)) :
    St P o N τ H E (updo (fun t => kil k (τ t)) o.dst x) (upd (fun j => (H j).kil k) id o') := by
  refine ⟨?_⟩
  intro L O w0 ρ fp a w K Q hr hk
  obtain ⟨w', v', row, c, nx, h1, h2, h3, h4, h5, h6, h7, h8⟩ := h hr
  have hX : ∀ b, row = some b → (O b ∨ w0.heap.size ≤ b) ∧ ¬ L b := fun b hb => hr.own id b ((hr.ob id).top (h4 b hb).2.1 (h4 b hb).2.2)
  have hc : Chg O w0 w' := hr.chg.step (X := fun b => row = some b) h3.os h3.tape h3.output h3.size (fun b hb hn => h3.block b hb (fun e => hn e.symm)) (fun b hb => (hX b hb).1) h5
  have hw : ∀ b, b < w.heap.size → ¬ ((H id).here = true ∧ (ρ id).ownBlock = some b) → w'.heap[b]? = w.heap[b]? := fun b hb hn => h3.block b hb (fun e => hn (h4 b e.symm).2)
  have hE : ∃ E : Env L ρ (upd ρ id v') H (upd (fun j => (H j).kil k) id o') w w' k, True := by
    refine ⟨⟨h3.size, fun b hb hn => ⟨hw b hb (fun q => hn (.inr ⟨id, q⟩)), ?_⟩, fun j hkj hj => ?_⟩, trivial⟩
    · rintro (hL | ⟨j, k2, k3⟩)
      · exact hn (.inl hL)
      by_cases e : j = id
      · subst e
        rw [upd_same] at k2 k3
        rcases h7 b k3 with q | q
        · omega
        · exact hn (.inr ⟨j, q⟩)
      · rw [upd_ne _ _ e] at k2 k3
        rw [AO.kil_here] at k2
        exact hn (.inr ⟨j, k2, k3⟩)
    · by_cases e : j = id
      · subst e
        rw [upd_same] at hj ⊢
        rw [upd_same]
        exact h6 hkj hj
      · rw [upd_ne _ _ e] at hj ⊢
        rw [upd_ne _ _ e]
        rw [AO.kil_here] at hj
        exact ⟨hj, rfl, AO.kil_len _ _, AO.kil_sz _ _⟩
  obtain ⟨hE, _⟩ := hE
  obtain ⟨q1, q2⟩ := h8 hE
  have hr' := hr.turnK k (id := id) (o' := o') (v' := v') (f' := v'.ownBlock.toList) hc h3.size hw h6 (fun _ => h7) (fun _ => q1) (fun b hb => by
      have hb' : v'.ownBlock = some b := by simpa [Option.mem_toList] using hb
      rcases h7 b hb' with q | q
      · exact ⟨.inr (Nat.le_trans hr.chg.size q), fun hL => by have := hr.lo b hL; have := hr.chg.size; omega⟩
      · exact hr.own id b ((hr.ob id).top q.1 q.2)) (fun j hj b hb => by
      have hb' : v'.ownBlock = some b := by simpa [Option.mem_toList] using hb
      rcases h7 b hb' with q | q
      · intro hbj
        have := (hr.ob j).lt b hbj
        omega
      · exact hr.dj id j (Ne.symm hj) b ((hr.ob id).top q.1 q.2))
  have hmv : ∀ X : Nat → Bool, (∀ i ∈ E, X i = true) → Mv X ρ H w (upd ρ id v') (upd (fun j => (H j).kil k) id o') w' := fun X hX => by
    refine ⟨⟨h3.size, fun b hb hn => h3.block b hb (fun e => ?_)⟩, fun j hj hh b hb => ?_⟩
    · obtain ⟨q1, q2, q3⟩ := h4 b e.symm
      exact hn id (hX id q1) q2 q3
    · by_cases e : j = id
      · subst e
        rw [upd_same] at hb
        rcases h7 b hb with q | q
        · exact .inl q
        · exact .inr ⟨j, hj, q⟩
      · rw [upd_ne _ _ e] at hb hh
        rw [AO.kil_here] at hh
        exact .inr ⟨j, hj, hh, hb⟩
  unfold Oper.wp
  rw [h1]
  rcases h2 with rfl | ⟨rfl, rfl⟩
  · exact hk _ _ _ _ (hr'.puto o.dst q2 ht) hmv
  · exact hk _ _ _ _ (hr'.puto o.dst q2 ht) hmv
/-- The same, where all that refers to the object stays good. -/
theorem St.turn0 {P : Program} {o : Oper} {N : Nat} {τ : Nat → AV} {H : Nat → AO} (id : Nat) (x : AV) (o' : AO) (E : List Nat) (ht : ∀ s, o.dst = some s → s < N)
    (h : ∀ {L O : Nat → Prop} {w0 : World} {ρ : Nat → Value} {fp : Nat → List Nat} {a : Act} {w : World}, RR L O w0 N τ H ρ fp a w → ∃ w' row c nx, (execOp a.eval o).run P w = .ok nx w' ∧ (nx = .value c ∨ (nx = .skip ∧ c = undef)) ∧
      w.grownBy w' row ∧ (∀ b, row = some b → id ∈ E ∧ (H id).here = true ∧ (ρ id).ownBlock = some b) ∧
      (∀ b off, (row = some b ∨ w.heap.size ≤ b) → b < w'.heap.size → w'.frozen? ⟨b, off, none⟩ = false) ∧
      ((H id).here = true ∧ o'.len = (H id).len ∧ o'.sz = (H id).sz) ∧
      (Env L ρ ρ H (upd H id o') w w' noK → OB L ρ (upd H id o') w' (ρ id) (ρ id).ownBlock.toList o' ∧ RV L ρ (upd H id o') w' x c)) :
    St P o N τ H E (updo τ o.dst x) (upd H id o') := by
  have e1 : (fun t => kil noK (τ t)) = τ := funext fun t => kil_no _
  have e2 : (fun j => (H j).kil noK) = H := funext fun j => AO.kil_no _
  have this : St P o N τ H E (updo (fun t => kil noK (τ t)) o.dst x) (upd (fun j => (H j).kil noK) id o') := St.turn (P := P) (o := o) (N := N) (τ := τ) (H := H) id noK x o' E ht (fun {L O w0 ρ fp a w} hr => by
    obtain ⟨w', row, c, nx, h1, h2, h3, h4, h5, h6, h7⟩ := h hr
    have e3 : upd ρ id (ρ id) = ρ := funext fun j => by unfold upd; split <;> simp_all
    refine ⟨w', ρ id, row, c, nx, h1, h2, h3, h4, h5, fun _ _ => ⟨h6.1, rfl, h6.2⟩, fun b hb => .inr ⟨h6.1, hb⟩, ?_⟩
    rw [e2, e3]
    exact h7)
  rw [e1, e2] at this
  exact this

/-- The zero cells of a type. -/
def zeroA (P : Program) (t : TypeId) : Option (List Value) :=
  match P.info? t with
  | some i => match i.zero with
    | some z => if z.cells.all (·.oneCell') = true then some z.cells.toList else none
    | none => none
  | none => none
theorem zeroA_spec {P : Program} {t : TypeId} {zs : List Value} (h : zeroA P t = some zs) : ∃ i z, P.info? t = some i ∧ i.zero = some z ∧ z.cells = zs.toArray ∧ zs.all (·.oneCell') = true ∧ ∀ u ∈ zs, u.oneCell' = true := by
  unfold zeroA at h
  split at h
  · rename_i i hi
    split at h
    · rename_i z hz
      split at h
      · rename_i ha
        injection h with h
        subst h
        refine ⟨i, z, hi, hz, by simp, by simpa using ha, fun u hu => ?_⟩
        have := Array.all_eq_true'.1 ha u (by simpa using hu)
        exact this
      · cases h
    · cases h
  · cases h
theorem frozen_new {w : World} {cs : Array Value} {T : TypeId} : ∀ b off, (none = some b ∨ w.heap.size ≤ b) → b < (w.alloc (.cells cs T)).heap.size → (w.alloc (.cells cs T)).frozen? ⟨b, off, none⟩ = false := fun b off h1 h2 => by
  have hb : b = w.heap.size := by
    rcases h1 with h1 | h1
    · cases h1
    · have : (w.alloc (.cells cs T)).heap.size = w.heap.size + 1 := by simp
      omega
  subst hb
  unfold World.frozen?
  dsimp only
  rw [heap_alloc_new]
  simp
theorem ownsRow_new {w : World} {cs : List Value} {T : TypeId} {sz n : Nat} (hl : cs.length = n * sz) (hn : n ≤ maxLen) : (w.alloc (.cells cs.toArray T)).ownsRow 0 T sz (.slice (some ⟨w.heap.size, 0, none⟩) n n) n cs :=
  ⟨hl, .inr ⟨w.heap.size, n, cs.toArray, rfl, Nat.zero_le _, heap_alloc_new w _, Nat.le_refl _, hn, by simpa using hl, by simp [← hl]⟩⟩

section
variable {P : Program} {o : Oper} {N : Nat} {τ : Nat → AV} {H : Nat → AO}
def one? (id : Nat) : Nat → Bool := fun j => j == id
theorem St.alloc (id : Nat) {T : TypeId} {t : Nat} {zs : List Value} (ho : o.op = .alloc T) (hd : o.dst = some t) (ht : t < N) (hz : zeroA P T = some zs) :
    St P o N τ H [] (upd (fun s => kil (one? id) (τ s)) t (.ptr id 0 0)) (upd (fun j => (H j).kil (one? id)) id (.box T none (zs.map fun c => .p (.v c)))) := by
  obtain ⟨i, z, h1, h2, h3, h4, h5⟩ := zeroA_spec hz
  have this : St P o N τ H [] (updo (fun s => kil (one? id) (τ s)) o.dst (.ptr id 0 0)) (upd (fun j => (H j).kil (one? id)) id (.box T none (zs.map fun c => .p (.v c)))) := St.turn (P := P) (o := o) (N := N) (τ := τ) (H := H) id (one? id) (.ptr id 0 0) (.box T none (zs.map fun c => .p (.v c))) [] (fun s hs => by rw [hd] at hs; cases hs; exact ht) (fun {L O w0 ρ fp a w} hr => by
    refine ⟨w.alloc (.cells zs.toArray T), .slice (some ⟨w.heap.size, 0, none⟩) 1 1, none, .pointer (some ⟨w.heap.size, 0, none⟩), _, ?_, .inl rfl, World.grownBy_alloc w _ none, fun b hb => (by cases hb), frozen_new, fun hk => (by simp [one?] at hk), fun b hb => (by injection hb with hb; exact .inl (Nat.le_of_eq hb)), fun E => ⟨?_, ?_⟩⟩
    · simp [execOp, ho, Instr.alloc, zeroValue, typeInfo, h1, h2, newVar, newRow, h3]
    · exact ⟨zs, RVL.pv zs h4, fun y hy => by obtain ⟨c, _, rfl⟩ := List.mem_map.1 hy; rfl, by rw [List.length_map]; exact ownsRow_new (by simp) (by simp [maxLen]), rfl, fun g hg => by cases hg⟩
    · rw [RV, upd_same, upd_same]
      exact ⟨rfl, fun _ => ⟨by simp [AO.len], w.heap.size, 1, 1, rfl, by simp⟩⟩)
  rw [hd] at this
  exact this
theorem St.box (id : Nat) {T : TypeId} {t : Nat} {x : Operand} {l : List AV} (ho : o.op = .box T x) (hd : o.dst = some t) (ht : t < N) (hl : cellsA (ev τ x) = some l) :
    St P o N τ H [] (upd (fun s => kil (one? id) (τ s)) t (.ptr id 0 0)) (upd (fun j => (H j).kil (one? id)) id (.box T none (kilL (one? id) l))) := by
  have this : St P o N τ H [] (updo (fun s => kil (one? id) (τ s)) o.dst (.ptr id 0 0)) (upd (fun j => (H j).kil (one? id)) id (.box T none (kilL (one? id) l))) := St.turn (P := P) (o := o) (N := N) (τ := τ) (H := H) id (one? id) (.ptr id 0 0) (.box T none (kilL (one? id) l)) [] (fun s hs => by rw [hd] at hs; cases hs; exact ht) (fun {L O w0 ρ fp a w} hr => by
    obtain ⟨k1, k2⟩ := cellsA_spec (hr.ev x) hl
    refine ⟨w.alloc (.cells (a.eval x).cells.toList.toArray T), .slice (some ⟨w.heap.size, 0, none⟩) 1 1, none, .pointer (some ⟨w.heap.size, 0, none⟩), _, ?_, .inl rfl, World.grownBy_alloc w _ none, fun b hb => (by cases hb), frozen_new, fun hk => (by simp [one?] at hk), fun b hb => (by injection hb with hb; exact .inl (Nat.le_of_eq hb)), fun E => ⟨?_, ?_⟩⟩
    · simp [execOp, ho, Instr.box, newVar, newRow]
    · exact ⟨_, RVL.env E l k1, kilL_cell _ _ k2, by rw [kilL_length]; exact ownsRow_new (by rw [k1.length]; simp) (by simp [maxLen]), rfl, fun g hg => by cases hg⟩
    · rw [RV, upd_same, upd_same]
      exact ⟨rfl, fun _ => ⟨by simp [AO.len], w.heap.size, 1, 1, rfl, by simp⟩⟩)
  rw [hd] at this
  exact this

/-- A store into the block of an own row. -/
theorem store_run {w : World} {e : TypeId} {sz n g m cap off : Nat} {v : Value} {xs vs : List Value} {t : TypeId} {x y : Operand} {a : Act} (ho : o.op = .store t x y) (hown : w.ownsRow 0 e sz v n xs) (hv : v = .slice (some ⟨g, 0, none⟩) m cap) (hx : a.eval x = .pointer (some ⟨g, off, none⟩)) (hy : (a.eval y).cells.toList = vs)
    (h1 : ∀ u ∈ vs, u.oneCell' = true) (hsz : P.cellsOf t = vs.length) (hi : (P.info? t).isSome = true) (hfit : off + vs.length ≤ xs.length) :
    ∃ w', (execOp a.eval o).run P w = .ok .skip w' ∧ w.grownBy w' (some g) ∧ (∀ b o', (some g = some b ∨ w.heap.size ≤ b) → b < w'.heap.size → w'.frozen? ⟨b, o', none⟩ = false) ∧ w'.ownsRow 0 e sz v n (xs.take off ++ vs ++ xs.drop (off + vs.length)) := by
  subst hv
  rcases hown.2 with ⟨q, _⟩ | ⟨g', cap', cur, q, _, hg, hnc, hcm, hcs, htk⟩
  · cases q
  · injection q with q1 q2 q3
    injection q1 with q1
    injection q1 with q1
    subst q1 q2 q3
    have hxl : xs.length ≤ cur.size := by rw [hown.1, hcs]; exact Nat.mul_le_mul_right _ hnc
    have hst := run_storeCells_at P g off e vs 0 cur w hg (by omega) h1
    simp only [Nat.add_zero] at hst
    obtain ⟨i, hi⟩ := Option.isSome_iff_exists.1 hi
    have hs : (sizeOf t).run P w = .ok vs.length w := by
      rw [← hsz]; simp [sizeOf, typeInfo, hi, Program.cellsOf]
    have hcz : (a.eval y).cells.size = vs.length := by rw [← hy]; simp
    have hgl : g < w.heap.size := (Array.getElem?_eq_some_iff.1 hg).1
    refine ⟨w.setRow g (cur.toList.take off ++ vs ++ cur.toList.drop (off + vs.length)).toArray, ?_, ⟨rfl, rfl, rfl, by simp, fun b hb hne => setRow_other w g b _ (fun e => hne (by rw [e]))⟩, fun b o' hb hlt => ?_, ?_⟩
    · simp [execOp, ho, hx, Instr.storeAt, Instr.sureAddr, storeVar, hs, hcz, hy, hst]
    · have hbg : b = g := by
        rcases hb with hb | hb
        · injection hb with hb; exact hb.symm
        · rw [setRow_size] at hlt; omega
      subst hbg
      simp [World.frozen?, setRow_heap w b cur _ e _ hg]
    · have hxe : xs = cur.toList.take (m * sz) := htk.symm
      have hms : xs.length = m * sz := hown.1
      refine ⟨?_, .inr ⟨g, cap, _, rfl, Nat.zero_le _, setRow_heap w g cur _ e _ hg, hnc, hcm, ?_, ?_⟩⟩
      · simp only [List.length_append, List.length_take, List.length_drop]; omega
      · rw [← hcs]; simp only [List.size_toArray, List.length_append, List.length_take, List.length_drop, Array.length_toList]; omega
      · rw [hxe]
        apply List.ext_getElem?
        intro j
        simp only [List.getElem?_take, List.getElem?_append, List.length_append, List.length_take, List.getElem?_drop, Array.length_toList]
        have : (m * sz) ≤ cur.size := by omega
        split <;> split <;> (try split) <;> (try split) <;> (try split) <;> first | rfl | omega | (congr 1; omega) | skip
        all_goals (try (split <;> first | rfl | omega | (congr 1; omega)))

theorem St.storeBox (id : Nat) {t T : TypeId} {x y : Operand} {k : Nat} {p : Option Nat} {cells l : List AV} (ho : o.op = .store t x y) (hd : o.dst = none) (hx : ev τ x = .ptr id 0 k) (hH : H id = .box T p cells) (hl : cellsA (ev τ y) = some l) (hsz : P.cellsOf t = l.length) (hi : (P.info? t).isSome = true) (hfit : k + l.length ≤ cells.length) :
    St P o N τ H [id] τ (upd H id (.box T p (cells.take k ++ l ++ cells.drop (k + l.length)))) := by
  have hlen : (cells.take k ++ l ++ cells.drop (k + l.length)).length = cells.length := by simp only [List.length_append, List.length_take, List.length_drop]; omega
  have this : St P o N τ H [id] (updo τ o.dst .bad) (upd H id (.box T p (cells.take k ++ l ++ cells.drop (k + l.length)))) := St.turn0 (P := P) (o := o) (N := N) (τ := τ) (H := H) id .bad (.box T p (cells.take k ++ l ++ cells.drop (k + l.length))) [id] (fun s hs => by rw [hd] at hs; cases hs) (fun {L O w0 ρ fp a w} hr => by
    obtain ⟨k1, k2⟩ := cellsA_spec (hr.ev y) hl
    have hv := hr.ev x
    rw [hx, RV, hH] at hv
    obtain ⟨_, g, m, cap, hg, he⟩ := hv.2 rfl
    have hob := hr.ob id
    rw [hH] at hob
    obtain ⟨xs, b1, b2, b3, b4, b5⟩ := hob
    have hxl := b1.length
    have hll := k1.length
    obtain ⟨w', r1, r2, r3, r4⟩ := store_run (P := P) (vs := (a.eval y).cells.toList) (off := k) ho b3 hg (by rw [he]; simp) rfl (k1.ones k2) (by rw [hsz, hll]) hi (by rw [hxl, hll]; omega)
    refine ⟨w', some g, undef, _, r1, .inr ⟨rfl, rfl⟩, r2, fun b hb => ⟨by simp, by rw [hH]; rfl, by rw [hg, ← hb]; rfl⟩, r3, ⟨by rw [hH]; rfl, by rw [hH]; rfl, by rw [hH]; exact hlen⟩, fun E => ⟨?_, by simp [RV]⟩⟩
    have e1 := RVL.env E _ b1
    have e2 := RVL.env E _ k1
    rw [kilL_no] at e1 e2
    refine ⟨_, ((e1.take k).append e2).append (e1.drop (k + l.length)), fun z hz => ?_, ?_, rfl, b5⟩
    · rcases List.mem_append.1 hz with hz | hz
      · rcases List.mem_append.1 hz with hz | hz
        · exact b2 z (List.mem_of_mem_take hz)
        · exact k2 z hz
      · exact b2 z (List.mem_of_mem_drop hz)
    · rw [hlen]
      rw [hll] at r4
      exact r4)
  rw [hd] at this
  exact this
theorem RWL.of_rvl {L : Nat → Prop} {ρ : Nat → Value} {w : World} : ∀ {l : List PV} {cs : List Value}, RVL L ρ H w (l.map AV.p) cs → ∃ fp, RWL w false l cs fp ∧ ∀ b ∈ fp, ¬ live L ρ H b
  | [], cs, h => by rw [List.map_nil, RVL] at h; exact ⟨[], by simp [RWL, h], by simp⟩
  | x :: l, cs, h => by
    rw [List.map_cons, RVL] at h
    obtain ⟨c, r, rfl, h1, h2⟩ := h
    rw [RV] at h1
    obtain ⟨f1, h1, q1⟩ := h1
    obtain ⟨f2, h2, q2⟩ := RWL.of_rvl h2
    refine ⟨f1 ++ f2, by rw [RWL]; exact ⟨c, r, f1, f2, rfl, rfl, h1, h2⟩, fun b hb => ?_⟩
    rcases List.mem_append.1 hb with hb | hb
    · exact q1 b hb
    · exact q2 b hb
theorem RWL.append' {w : World} {st : Bool} : ∀ {x y : List PV} {c d : List Value} {f g : List Nat}, RWL w st x c f → RWL w st y d g → RWL w st (x ++ y) (c ++ d) (f ++ g)
  | [], y, c, d, f, g, h, k => by rw [RWL] at h; obtain ⟨rfl, rfl⟩ := h; simpa using k
  | x :: xs, y, c, d, f, g, h, k => by
    rw [RWL] at h
    obtain ⟨c, r, f1, f2, rfl, rfl, h1, h2⟩ := h
    rw [List.cons_append, RWL]
    exact ⟨c, r ++ d, f1, f2 ++ g, by simp, by simp, h1, RWL.append' h2 k⟩
theorem St.storeArr (id : Nat) {t e : TypeId} {x y : Operand} {i k sz : Nat} {rows : List (List PV)} {row pl : List PV} (ho : o.op = .store t x y) (hd : o.dst = none) (hx : ev τ x = .ptr id i k) (hH : H id = .arr e sz rows) (hrow : rows[i]? = some row) (hl : cellsA (ev τ y) = some (pl.map AV.p)) (hsz : P.cellsOf t = pl.length) (hi : (P.info? t).isSome = true) (hfit : k + pl.length ≤ sz) :
    St P o N τ H [id] τ (upd H id (.arr e sz (rows.set i (row.take k ++ pl ++ row.drop (k + pl.length))))) := by
  have this : St P o N τ H [id] (updo τ o.dst .bad) (upd H id (.arr e sz (rows.set i (row.take k ++ pl ++ row.drop (k + pl.length))))) := St.turn0 (P := P) (o := o) (N := N) (τ := τ) (H := H) id .bad (.arr e sz (rows.set i (row.take k ++ pl ++ row.drop (k + pl.length)))) [id] (fun s hs => by rw [hd] at hs; cases hs) (fun {L O w0 ρ fp a w} hr => by
    obtain ⟨k1, k2⟩ := cellsA_spec (hr.ev y) hl
    have hv := hr.ev x
    rw [hx, RV, hH] at hv
    obtain ⟨hil, g, m, cap, hg, he⟩ := hv.2 rfl
    have hob := hr.ob id
    rw [hH] at hob
    obtain ⟨xs, fr, b1, b2, b3, b4⟩ := hob
    have hll := k1.length
    rw [List.length_map] at hll
    obtain ⟨c1, cr, c2, f1, f2, f3, rfl, rfl, l1, l2, l3, l4⟩ := RWR.row b1 hrow
    have hxl := b3.1
    have hpos : i * sz + sz ≤ rows.length * sz := by
      have h1 : (i + 1) * sz ≤ rows.length * sz := Nat.mul_le_mul_right _ hil
      rw [Nat.add_mul] at h1; omega
    simp only [List.length_append] at hxl
    obtain ⟨w', r1, r2, r3, r4⟩ := store_run (P := P) (vs := (a.eval y).cells.toList) (off := i * sz + k) ho b3 hg (by rw [he]; simp [AO.sz]) rfl (k1.ones k2) (by rw [hsz, hll]) hi (by simp only [List.length_append]; rw [hll]; omega)
    refine ⟨w', some g, undef, _, r1, .inr ⟨rfl, rfl⟩, r2, fun b hb => ⟨by simp, by rw [hH]; rfl, by rw [hg, ← hb]; rfl⟩, r3, ⟨by rw [hH]; rfl, by rw [hH]; simp [AO.len], by rw [hH]; rfl⟩, fun E => ⟨?_, by simp [RV]⟩⟩
    obtain ⟨fv, v1, v2⟩ := RWL.of_rvl k1
    have hrl : row.length = sz := by rw [← l3.length, l2]
    obtain ⟨g1, t1, t2⟩ := l3.take k
    obtain ⟨g2, t3, t4⟩ := l3.drop (k + pl.length)
    have hnew := l4 (row.take k ++ pl ++ row.drop (k + pl.length)) _ _ (by simp only [List.length_append, List.length_take, List.length_drop]; omega) ((t1.append' v1).append' t3)
    have hnl : ∀ b ∈ f1 ++ (g1 ++ fv ++ g2) ++ f3, ¬ live L ρ H b := fun b hb => by
      simp only [List.mem_append] at hb
      rcases hb with (hb | (hb | hb) | hb) | hb
      · exact b2 b (by simp [hb])
      · exact b2 b (by simp [t2 hb])
      · exact v2 b hb
      · exact b2 b (by simp [t4 hb])
      · exact b2 b (by simp [hb])
    refine ⟨_, _, RWR.same _ hnew (fun b hb hlt => (E.block b hlt (hnl b hb)).1), fun b hb => (E.block b (RWR.lt _ hnew b hb) (hnl b hb)).2, ?_, rfl⟩
    rw [List.length_set]
    rw [hll] at r4
    have e : (c1 ++ cr ++ c2).take (i * sz + k) ++ (a.eval y).cells.toList ++ (c1 ++ cr ++ c2).drop (i * sz + k + pl.length) = c1 ++ (cr.take k ++ (a.eval y).cells.toList ++ cr.drop (k + pl.length)) ++ c2 := by
      have d1 : (c1 ++ cr ++ c2).take (i * sz + k) = c1 ++ cr.take k := by
        rw [List.append_assoc, List.take_append, List.take_of_length_le (by omega), l1, Nat.add_sub_cancel_left, List.take_append_of_le_length (by omega)]
      have d2 : (c1 ++ cr ++ c2).drop (i * sz + k + pl.length) = cr.drop (k + pl.length) ++ c2 := by
        rw [List.append_assoc, List.drop_append, List.drop_eq_nil_of_le (by omega), l1, show i * sz + k + pl.length - i * sz = k + pl.length by omega, List.nil_append, List.drop_append_of_le_length (by omega)]
      rw [d1, d2]
      simp [List.append_assoc]
    rw [e] at r4
    exact r4)
  rw [hd] at this
  exact this
end
end Go.Proofs.Ytbjnbhlpibadnaa
