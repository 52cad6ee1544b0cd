/- Places of elements, parts of slices, structs built of parts, over data. No program in sight. -/
import Derived.Test.YtbjnbhlpibadnaaE4
import Derived.Laws.Tables
namespace Go.Proofs.Ytbjnbhlpibadnaa
open Go.RowKit
set_option linter.unusedSimpArgs false
set_option linter.unusedVariables false

/-- The elements of a slice type: their type and cells. -/
def elA (P : Program) (t : TypeId) : Option (TypeId × Nat) :=
  match P.underlying t with
  | some (.slice e) => if (P.underlying e).isSome = true then some (e, P.cellsOf e) else none
  | _ => none
theorem elA_spec {P : Program} {t e : TypeId} {sz : Nat} (h : elA P t = some (e, sz)) : P.underlying t = some (.slice e) ∧ (∃ d, P.underlying e = some d) ∧ P.cellsOf e = sz := by
  unfold elA at h
  split at h
  · rename_i e' q
    split at h
    · rename_i q2
      simp only [Option.some.injEq, Prod.mk.injEq] at h
      obtain ⟨rfl, rfl⟩ := h
      exact ⟨q, Option.isSome_iff_exists.1 q2, rfl⟩
    · cases h
  · cases h

/-- What a row of a readable slice holds. -/
theorem RW.at {w : World} {e : TypeId} {sz i : Nat} {rows : List (List PV)} {row : List PV} {c : Value} {fp : List Nat} (h : RW w false (.lst e sz rows) c fp) (hr : rows[i]? = some row) :
    ∃ b off cap cs fr, c = .slice (some ⟨b, off, none⟩) rows.length cap ∧ RWL w false row cs fr ∧ CellsAt w b (off + i * sz) cs ∧ b < w.heap.size ∧ b ∈ fp ∧ fr ⊆ fp := by
  rw [RW] at h
  obtain ⟨xs, f1, f2, h1, h2, rfl⟩ := h
  unfold SlAt at h2
  simp only [Bool.false_eq_true, if_false] at h2
  obtain ⟨a, cap, rfl, _, _, h2⟩ := h2
  have hil : i < rows.length := (List.getElem?_eq_some_iff.1 hr).1
  rcases h2 with ⟨q, _⟩ | ⟨b, off, rfl, hc, hb, rfl⟩
  · omega
  · obtain ⟨c1, cr, c2, g1, gr, g2, rfl, rfl, k1, k2, k3, _⟩ := RWR.row h1 hr
    exact ⟨b, off, cap, cr, gr, rfl, k3, hc.mid k1, hb, by simp, fun x hx => by simp [hx]⟩

section
variable {P : Program} {o : Oper} {τ : Nat → AV} {H : Nat → AO} {X : Nat → Bool}
theorem rd_iaddr_p {t e e' : TypeId} {x y : Operand} {k : IntKind} {sz i : Nat} {n : Int} {rows : List (List PV)} {row : List PV} (ho : o.op = .indexAddr t x y) (ht : elA P t = some (e, sz)) (hx : ev τ x = .p (.lst e' sz rows)) (hy : ev τ y = .p (.v (.int k n))) (hn : n = (i : Int)) (hrow : rows[i]? = some row) : Rd P o τ H X (.rp row) := by
  subst hn
  obtain ⟨q1, ⟨d, q2⟩, q3⟩ := elA_spec ht
  apply Rd.pure; intro L ρ a w he _
  have h := he x
  rw [hx, RV] at h
  obtain ⟨fp, h1, h2⟩ := h
  have h3 := he y
  rw [hy] at h3
  obtain ⟨b, off, cap, cs, fr, e1, k1, k2, k3, k4, k5⟩ := h1.at hrow
  have hil : i < rows.length := (List.getElem?_eq_some_iff.1 hrow).1
  exact ⟨_, by rw [RV]; exact ⟨b, _, cs, fr, rfl, k1, k2, k3, h2 b k4, fun b hb => h2 b (k5 hb)⟩, iaddr_run ho q1 q2 q3 e1 h3.v_eq hil⟩
theorem rd_iaddr_own {t e e' : TypeId} {x y : Operand} {k : IntKind} {sz i id : Nat} {n : Int} {rows : List (List PV)} (ho : o.op = .indexAddr t x y) (ht : elA P t = some (e, sz)) (hx : ev τ x = .own id) (hH : H id = .arr e' sz rows) (hy : ev τ y = .p (.v (.int k n))) (hn : n = (i : Int)) (hi : i < rows.length) : Rd P o τ H X (.ptr id i 0) := by
  subst hn
  obtain ⟨q1, ⟨d, q2⟩, q3⟩ := elA_spec ht
  apply Rd.pure; intro L ρ a w he hob
  have h := he x
  rw [hx, RV] at h
  have h0 := h.2 (by rw [hH]; rfl)
  have h3 := he y
  rw [hy] at h3
  obtain ⟨fp, hO⟩ := hob id
  rw [hH] at hO
  obtain ⟨xs, fr, _, _, hown, _⟩ := hO
  rcases hown.2 with ⟨q, q'⟩ | ⟨g, cap, cur, q, _⟩
  · omega
  · have e1 : a.eval x = .slice (some ⟨g, 0, none⟩) rows.length cap := h0.trans q
    refine ⟨_, ?_, iaddr_run ho q1 q2 q3 e1 h3.v_eq hi⟩
    rw [RV, hH]
    exact ⟨rfl, fun _ => ⟨hi, g, _, cap, q, by simp [AO.sz]⟩⟩
theorem rd_iaddr_sub {t e e' : TypeId} {x y : Operand} {k : IntKind} {sz i id off len : Nat} {n : Int} {rows : List (List PV)} (ho : o.op = .indexAddr t x y) (ht : elA P t = some (e, sz)) (hx : ev τ x = .sub id off len) (hH : H id = .arr e' sz rows) (hy : ev τ y = .p (.v (.int k n))) (hn : n = (i : Int)) (hi : i < len) : Rd P o τ H X (.ptr id (off + i) 0) := by
  subst hn
  obtain ⟨q1, ⟨d, q2⟩, q3⟩ := elA_spec ht
  apply Rd.pure; intro L ρ a w he hob
  have h := he x
  rw [hx, RV, hH] at h
  obtain ⟨h1, b, cap, e1, _, _, h2⟩ := h.2 rfl
  obtain ⟨g, m, cap', e2, rfl⟩ := h2 (by omega)
  have h3 := he y
  rw [hy] at h3
  refine ⟨_, ?_, iaddr_run ho q1 q2 q3 e1 h3.v_eq hi⟩
  rw [RV, hH]
  refine ⟨rfl, fun _ => ⟨?_, g, m, cap', e2, ?_⟩⟩
  · simp only [AO.len] at h1 ⊢; omega
  · simp only [AO.sz, Nat.add_mul, Nat.add_zero]

/-- A bound of a part: a number, or what stands for none. -/
def bnd (τ : Nat → AV) (d : Nat) : Option Operand → Nat → Prop
  | none, n => n = d
  | some y, n => ∃ k, ev τ y = .p (.v (.int k (n : Int)))
theorem slc_run {t e : TypeId} {x : Operand} {lo hi : Option Operand} {sz l h n cap : Nat} {b : Option Addr} {L : Nat → Prop} {ρ : Nat → Value} {a : Act} {w : World} (he : ∀ y, RV L ρ H w (ev τ y) (a.eval y)) (ho : o.op = .slice t x lo hi none) (ht : elA P t = some (e, sz)) (hlo : bnd τ 0 lo l) (hhi : bnd τ n hi h) (hlh : l ≤ h) (hn : h ≤ n) (hc : n ≤ cap)
    (e1 : a.eval x = .slice b n cap) (W : World) : (execOp a.eval o).run P W = .ok (.value (.slice (if cap = l then b else b.map (·.add (l * sz))) (h - l) (cap - l))) W := by
  obtain ⟨q1, ⟨d, q2⟩, q3⟩ := elA_spec ht
  have bh : ∀ (code : BoundsCode) (y : Operand) (m : Nat), bnd τ n (some y) h → h ≤ m → (Instr.sliceBound (a.eval y) m code).run P W = .ok h W := fun code y m hb hm => by
    obtain ⟨k, hb⟩ := hb
    have := he y
    rw [hb] at this
    rw [this.v_eq]
    have q : (0 : Int) ≤ (h : Int) ∧ (h : Int) ≤ (m : Int) := ⟨by omega, by omega⟩
    simp [Instr.sliceBound, asIntOf, q, hm]
  have bl : ∀ (code : BoundsCode) (y : Operand) (m : Nat), bnd τ 0 (some y) l → l ≤ m → (Instr.sliceBound (a.eval y) m code).run P W = .ok l W := fun code y m hb hm => by
    obtain ⟨k, hb⟩ := hb
    have := he y
    rw [hb] at this
    rw [this.v_eq]
    have q : (0 : Int) ≤ (l : Int) ∧ (l : Int) ≤ (m : Int) := ⟨by omega, by omega⟩
    simp [Instr.sliceBound, asIntOf, q, hm]
  have key : (Instr.sliceBounds true n cap (lo.map a.eval) (hi.map a.eval) none).run P W = .ok (l, h, cap) W := by
    unfold Instr.sliceBounds
    cases hi with
    | none =>
      have hh : h = n := hhi
      subst hh
      cases lo with
      | none => have hl : l = 0 := hlo; subst hl; simp
      | some y => simp [bl _ y h hlo hlh]
    | some z =>
      cases lo with
      | none => have hl : l = 0 := hlo; subst hl; simp [bh _ z cap hhi (by omega)]
      | some y => simp [bh _ z cap hhi (by omega), bl _ y h hlo hlh]
  simp [execOp, ho, Instr.sliceAt, Instr.slice, run_underlying q1, e1, key, sizeOf_run q2, q3]
theorem rd_slc_p {t e e' : TypeId} {x : Operand} {lo hi : Option Operand} {sz l h : Nat} {rows : List (List PV)} (ho : o.op = .slice t x lo hi none) (ht : elA P t = some (e, sz)) (hx : ev τ x = .p (.lst e' sz rows)) (hlo : bnd τ 0 lo l) (hhi : bnd τ rows.length hi h) (hlh : l ≤ h) (hn : h ≤ rows.length) :
    Rd P o τ H X (.p (.lst e' sz ((rows.take h).drop l))) := by
  apply Rd.pure; intro L ρ a w he hob
  have hv := he x
  rw [hx, RV] at hv
  obtain ⟨fp, h1, h2⟩ := hv
  rw [RW] at h1
  obtain ⟨xs, f1, f2, k1, k2, rfl⟩ := h1
  unfold SlAt at k2
  simp only [Bool.false_eq_true, if_false] at k2
  obtain ⟨b, cap, e1, c1, c2, k2⟩ := k2
  refine ⟨_, ?_, slc_run he ho ht hlo hhi hlh hn c1 e1⟩
  obtain ⟨g1, t1, t2⟩ := k1.take h
  obtain ⟨g2, t3, t4⟩ := t1.drop l
  have hlen : ((rows.take h).drop l).length = h - l := by rw [List.length_drop, List.length_take]; omega
  rw [RV]
  rcases k2 with ⟨q, rfl⟩ | ⟨blk, off, rfl, hc, hb, rfl⟩
  · refine ⟨[] ++ g2, ?_, fun b hb => h2 b ?_⟩
    · rw [RW]
      refine ⟨_, [], g2, t3, ?_, rfl⟩
      unfold SlAt
      simp only [Bool.false_eq_true, if_false]
      exact ⟨_, _, by rw [hlen], by rw [hlen]; omega, by omega, .inl ⟨by rw [hlen]; omega, trivial⟩⟩
    · simp only [List.nil_append] at hb ⊢
      exact t2 (t4 hb)
  · by_cases hz : h - l = 0
    · refine ⟨[] ++ g2, ?_, fun b hb => h2 b ?_⟩
      · rw [RW]
        refine ⟨_, [], g2, t3, ?_, rfl⟩
        unfold SlAt
        simp only [Bool.false_eq_true, if_false]
        exact ⟨_, _, by rw [hlen], by rw [hlen]; omega, by omega, .inl ⟨by rw [hlen]; omega, trivial⟩⟩
      · simp only [List.nil_append] at hb
        exact List.mem_append_right _ (t2 (t4 hb))
    · refine ⟨[blk] ++ g2, ?_, fun b hb => h2 b ?_⟩
      · rw [RW]
        refine ⟨_, [blk], g2, t3, ?_, rfl⟩
        unfold SlAt
        simp only [Bool.false_eq_true, if_false]
        refine ⟨_, _, by rw [hlen], by rw [hlen]; omega, by omega, .inr ⟨blk, off + l * sz, ?_, ?_, hb, rfl⟩⟩
        · rw [if_neg (by omega)]
          show some ((⟨blk, off, none⟩ : Addr).add (l * sz)) = _
          unfold Addr.add; split <;> simp_all
        · refine CellsAt.drop ?_ _
          intro j v hj
          rw [List.getElem?_take] at hj
          split at hj
          · exact hc j v hj
          · cases hj
      · rcases List.mem_append.1 hb with q | q
        · exact List.mem_append_left _ q
        · exact List.mem_append_right _ (t2 (t4 q))
theorem rd_slc_own {t e e' : TypeId} {x : Operand} {lo hi : Option Operand} {sz l h id : Nat} {rows : List (List PV)} (ho : o.op = .slice t x lo hi none) (ht : elA P t = some (e, sz)) (hx : ev τ x = .own id) (hH : H id = .arr e' sz rows) (hlo : bnd τ 0 lo l) (hhi : bnd τ rows.length hi h) (hlh : l ≤ h) (hn : h ≤ rows.length) :
    Rd P o τ H X (.sub id l (h - l)) := by
  apply Rd.pure; intro L ρ a w he hob
  have hv := he x
  rw [hx, RV] at hv
  have h0 := hv.2 (by rw [hH]; rfl)
  obtain ⟨fp, hO⟩ := hob id
  rw [hH] at hO
  obtain ⟨xs, fr, _, _, hown, _⟩ := hO
  rcases hown.2 with ⟨q, q'⟩ | ⟨g, cap, cur, q, _, _, c1, c2, _⟩
  · refine ⟨_, ?_, slc_run he ho ht hlo hhi hlh hn (Nat.le_of_eq q') (by rw [h0, q, q'])⟩
    rw [RV, hH]
    exact ⟨rfl, fun _ => ⟨by simp only [AO.len]; omega, _, _, rfl, by omega, by simp only [maxLen]; omega, fun hp => by omega⟩⟩
  · refine ⟨_, ?_, slc_run he ho ht hlo hhi hlh hn c1 (h0.trans q)⟩
    rw [RV, hH]
    refine ⟨rfl, fun _ => ⟨by simp only [AO.len]; omega, _, _, rfl, by omega, by omega, fun hp => ⟨g, _, cap, q, ?_⟩⟩⟩
    rw [if_neg (by omega)]
    show some ((⟨g, 0, none⟩ : Addr).add (l * sz)) = _
    unfold Addr.add; split <;> simp_all [AO.sz]

theorem rd_min {x y : Operand} {ts : Array TypeId} {r : AV} (ho : o.op = .call { callee := .builtin .min, args := #[x, y], argTypes := ts }) (h : mmv false (ev τ x) (ev τ y) = some r) : Rd P o τ H X r := by
  apply Rd.pure; intro L ρ a w he _
  have hx := he x
  have hy := he y
  generalize ev τ x = vx at *
  generalize ev τ y = vy at *
  unfold mmv at h
  split at h
  · injection h with h
    subst h
    refine ⟨_, RV.v_mk rfl, fun W => ?_⟩
    rename_i k a' k' b'
    have : (if b' < a' then b' else a') = min a' b' := by omega
    simp [execOp, ho, resolve, invoke, builtin, Builtin.min_, Builtin.min2, hx.v_eq, hy.v_eq, this]
  · cases h
theorem rd_max {x y : Operand} {ts : Array TypeId} {r : AV} (ho : o.op = .call { callee := .builtin .max, args := #[x, y], argTypes := ts }) (h : mmv true (ev τ x) (ev τ y) = some r) : Rd P o τ H X r := by
  apply Rd.pure; intro L ρ a w he _
  have hx := he x
  have hy := he y
  generalize ev τ x = vx at *
  generalize ev τ y = vy at *
  unfold mmv at h
  split at h
  · injection h with h
    subst h
    refine ⟨_, RV.v_mk rfl, fun W => ?_⟩
    rename_i k a' k' b'
    have : (if a' < b' then b' else a') = max a' b' := by omega
    simp [execOp, ho, resolve, invoke, builtin, Builtin.max_, Builtin.max2, hx.v_eq, hy.v_eq, this]
  · cases h
theorem RVL.map {L : Nat → Prop} {ρ : Nat → Value} {w : World} {a : Act} (he : ∀ y, RV L ρ H w (ev τ y) (a.eval y)) : ∀ l : List Operand, RVL L ρ H w (l.map (ev τ)) (l.map a.eval)
  | [] => by simp [RVL]
  | x :: l => by
    rw [List.map_cons, List.map_cons, RVL]
    exact ⟨_, _, rfl, he x, RVL.map he l⟩
theorem rd_mkf {fn : Fn} {f cs : List Operand} (ho : o.op = .makeFunc fn f.toArray cs.toArray) : Rd P o τ H X (.clo fn (f.map (ev τ)) (cs.map (ev τ))) := by
  apply Rd.pure; intro L ρ a w he _
  refine ⟨.func fn (f.map a.eval).toArray (cs.map a.eval).toArray, by rw [RV]; exact ⟨_, _, rfl, RVL.map he f, RVL.map he cs⟩, fun W => ?_⟩
  simp [execOp, ho, Instr.makeFunc]

theorem cellsA_spec {L : Nat → Prop} {ρ : Nat → Value} {w : World} {x : AV} {c : Value} {l : List AV} (h : RV L ρ H w x c) (hl : cellsA x = some l) : RVL L ρ H w l c.cells.toList ∧ (∀ y ∈ l, y.cell = true) := by
  have key : x.cell = true → l = [x] → RVL L ρ H w l c.cells.toList ∧ (∀ y ∈ l, y.cell = true) := fun h1 h2 => by
    subst h2
    have := h.one h1
    have hc : c.cells = #[c] := by cases c <;> first | rfl | cases this
    rw [hc]
    refine ⟨by simp only [RVL]; exact ⟨c, [], rfl, h, rfl⟩, by simpa using h1⟩
  cases x with
  | agg l' =>
    simp only [cellsA] at hl
    split at hl
    · rename_i ha
      injection hl with hl
      subst hl
      rw [RV] at h
      obtain ⟨cs, rfl, h⟩ := h
      exact ⟨by simpa [Value.cells] using h, by simpa using ha⟩
    · cases hl
  | tup _ => cases hl
  | bad => cases hl
  | p x => exact key rfl (by unfold cellsA at hl; injection hl with hl; exact hl.symm)
  | own _ => exact key rfl (by unfold cellsA at hl; injection hl with hl; exact hl.symm)
  | sub _ _ _ => exact key rfl (by unfold cellsA at hl; injection hl with hl; exact hl.symm)
  | ptr _ _ _ => exact key rfl (by unfold cellsA at hl; injection hl with hl; exact hl.symm)
  | rp _ => exact key rfl (by unfold cellsA at hl; injection hl with hl; exact hl.symm)
  | clo _ _ _ => exact key rfl (by unfold cellsA at hl; injection hl with hl; exact hl.symm)
  | dead => exact key rfl (by unfold cellsA at hl; injection hl with hl; exact hl.symm)

/-- The zero cells of a struct type, and where its fields lie. -/
def structA (P : Program) (t : TypeId) : Option (List Value × List (Nat × Nat)) :=
  match P.info? t, P.underlying t with
  | some it, some (.struct fields) =>
    match it.zero, fields.toList.mapM (fun f => (P.info? f.type).map fun i => (f.offset, i.size)) with
    | some z, some places => some (z.cells.toList, places)
    | _, _ => none
  | _, _ => none
def bparts (place : Nat → Option (Nat × Nat)) (τ : Nat → AV) : List (Nat × Operand) → Option (List (Nat × Nat × AV))
  | [] => some []
  | (i, x) :: r => match place i, bparts place τ r with
    | some (off, n), some l => some ((off, n, ev τ x) :: l)
    | _, _ => none
theorem foldl_set : ∀ (vs : List Value) (j off : Nat) (cells : Array Value), off + j + vs.length ≤ cells.size →
    ((vs.zipIdx j).foldl (fun (cs : Array Value) (p : Value × Nat) => cs.setIfInBounds (off + p.2) p.1) cells).toList = cells.toList.take (off + j) ++ vs ++ cells.toList.drop (off + j + vs.length)
  | [], j, off, cells, h => by simp
  | v :: vs, j, off, cells, h => by
    rw [List.zipIdx_cons, List.foldl_cons, foldl_set vs (j + 1) off _ (by simp at h ⊢; omega)]
    simp only [Array.toList_setIfInBounds, List.length_cons]
    have h1 : off + j < cells.toList.length := by simp at h ⊢; omega
    rw [show off + (j + 1) = off + j + 1 by omega, List.take_set, List.drop_set_of_lt (by omega)]
    rw [List.take_succ_eq_append_getElem h1, List.set_append_right _ _ (by simp; omega)]
    simp only [List.length_take, Nat.min_eq_left (Nat.le_of_lt h1), Nat.sub_self, List.set_cons_zero, List.append_assoc, List.cons_append, List.nil_append]
    rw [show off + j + 1 + vs.length = off + j + (vs.length + 1) by omega]
theorem fill_rel {L : Nat → Prop} {ρ : Nat → Value} {w : World} {a : Act} (he : ∀ y, RV L ρ H w (ev τ y) (a.eval y)) (place : Nat → Option (Nat × Nat)) : ∀ (parts : List (Nat × Operand)) (bp : List (Nat × Nat × AV)) (l l' : List AV) (cs : Array Value), bparts place τ parts = some bp → buildv l bp = some l' → RVL L ρ H w l cs.toList →
    ∃ cs', Instr.fill place cs (parts.map fun p => (p.1, a.eval p.2)) = some cs' ∧ RVL L ρ H w l' cs'.toList
  | [], bp, l, l', cs, h1, h2, h3 => by
    injection h1 with h1
    subst h1
    injection h2 with h2
    subst h2
    exact ⟨cs, rfl, h3⟩
  | (i, x) :: parts, bp, l, l', cs, h1, h2, h3 => by
    unfold bparts at h1
    split at h1
    · rename_i off n bp' hp hr
      injection h1 with h1
      subst h1
      unfold buildv at h2
      split at h2
      · rename_i lx hl
        split at h2
        · rename_i hc
          obtain ⟨k1, _⟩ := cellsA_spec (he x) hl
          have hlc := k1.length
          have hls := h3.length
          simp only [Array.length_toList] at hlc hls
          obtain ⟨cs', r1, r2⟩ := fill_rel he place parts bp' _ l' ((a.eval x).cells.zipIdx.foldl (fun cs (p : Value × Nat) => cs.setIfInBounds (off + p.2) p.1) cs) hr h2 (by
            have := foldl_set (a.eval x).cells.toList 0 off cs (by simp; omega)
            rw [← Array.foldl_toList, Array.toList_zipIdx, this]
            rw [Nat.add_zero, Array.length_toList]
            rw [hlc, hc.1]
            exact ((h3.take off).append k1).append (h3.drop (off + n)))
          refine ⟨cs', ?_, r2⟩
          rw [List.map_cons]
          unfold Instr.fill
          dsimp only
          rw [hp]
          dsimp only
          split
          · rename_i q'
            simp only [Bool.or_eq_true, decide_eq_true_eq] at q'
            omega
          · exact r1
        · cases h2
      · cases h2
    · cases h1
theorem rd_build {t : TypeId} {parts : List (Nat × Operand)} {zs : List Value} {places : List (Nat × Nat)} {bp : List (Nat × Nat × AV)} {l : List AV} (ho : o.op = .build t parts.toArray) (hs : structA P t = some (zs, places)) (hz : zs.all (·.oneCell') = true) (h1 : bparts (fun i => places[i]?) τ parts = some bp) (h2 : buildv (zs.map fun c => .p (.v c)) bp = some l) : Rd P o τ H X (.agg l) := by
  apply Rd.pure; intro L ρ a w he _
  obtain ⟨cs', r1, r2⟩ := fill_rel he _ parts bp _ l zs.toArray h1 h2 (by simpa using RVL.pv zs hz)
  refine ⟨.agg cs', by rw [RV]; exact ⟨cs'.toList, by simp, r2⟩, fun W => ?_⟩
  have hb : P.built t (parts.map fun p => (p.1, a.eval p.2)) = some cs' := by
    unfold structA at hs
    unfold Program.built
    split at hs
    · rename_i it fields q1 q2
      split at hs
      · rename_i z pl q3 q4
        simp only [Option.some.injEq, Prod.mk.injEq] at hs
        obtain ⟨rfl, rfl⟩ := hs
        rw [q1, q2]
        dsimp only
        rw [q3, q4]
        dsimp only
        have e : (fun (i : Nat) => pl.toArray[i]?) = (fun (i : Nat) => pl[i]?) := funext fun i => by first | rfl | simp
        simpa [e] using r1
      · cases hs
    · cases hs
  have := run_build (P := P) W t ((parts.map fun p => (p.1, a.eval p.2)).toArray) cs' (by simpa using hb)
  simp [execOp, ho, this]
end
end Go.Proofs.Ytbjnbhlpibadnaa
