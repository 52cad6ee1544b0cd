/- Rows of the call's own: made, built, appended to, copied into; given up for reading. No program in sight. -/
import Derived.Test.YtbjnbhlpibadnaaE6
namespace Go.Proofs.Ytbjnbhlpibadnaa
open Go.RowKit
set_option linter.unusedSimpArgs false
set_option linter.unusedVariables false

theorem RWL.split {w : World} {st : Bool} : ∀ {x y : List PV} {cs : List Value} {fp : List Nat}, RWL w st (x ++ y) cs fp → ∃ c d f g, cs = c ++ d ∧ fp = f ++ g ∧ RWL w st x c f ∧ RWL w st y d g
  | [], y, cs, fp, h => ⟨[], cs, [], fp, rfl, rfl, by simp [RWL], h⟩
  | x :: xs, y, cs, fp, h => by
    rw [List.cons_append, RWL] at h
    obtain ⟨c, r, f1, f2, rfl, rfl, h1, h2⟩ := h
    obtain ⟨c', d', f', g', rfl, rfl, h3, h4⟩ := RWL.split h2
    exact ⟨c :: c', d', f1 ++ f', g', by simp, by simp, by rw [RWL]; exact ⟨c, c', f1, f', rfl, rfl, h1, h3⟩, h4⟩
theorem RWR.of_flat {w : World} {st : Bool} {sz : Nat} : ∀ {rows : List (List PV)} {cs : List Value} {fp : List Nat}, RWL w st rows.flatten cs fp → (∀ r ∈ rows, r.length = sz) → RWR w st sz rows cs fp
  | [], cs, fp, h, _ => by rw [List.flatten_nil, RWL] at h; rw [RWR]; exact h
  | r :: rows, cs, fp, h, hr => by
    rw [List.flatten_cons] at h
    obtain ⟨c, d, f, g, rfl, rfl, h1, h2⟩ := h.split
    rw [RWR]
    exact ⟨hr r (by simp), c, d, f, g, rfl, rfl, h1, RWR.of_flat h2 (fun q hq => hr q (by simp [hq]))⟩
theorem RWL.pv {w : World} {st : Bool} : ∀ (cs : List Value), (∀ u ∈ cs, u.oneCell' = true) → RWL w st (cs.map PV.v) cs []
  | [], _ => by simp [RWL]
  | c :: r, h => by
    rw [List.map_cons, RWL]
    exact ⟨c, r, [], [], rfl, rfl, by rw [RW]; exact ⟨rfl, rfl, h c (by simp)⟩, RWL.pv r (fun u hu => h u (by simp [hu]))⟩
theorem madeCells_flat (zs : List Value) (n : Nat) : (madeCells zs.toArray (n * zs.length)).toList = (List.replicate n zs).flatten := by
  induction n with
  | zero => simp [madeCells]
  | succ n ih =>
    have e : (List.range ((n + 1) * zs.length)).map (fun i => zs.toArray[i % zs.toArray.size]!) = (List.range (n * zs.length)).map (fun i => zs.toArray[i % zs.toArray.size]!) ++ zs := by
      rw [Nat.add_mul, Nat.one_mul, List.range_add, List.map_append, List.map_map]
      congr 1
      apply List.ext_getElem
      · simp
      · intro i h1 h2
        simp only [List.length_map, List.length_range] at h1
        simp only [List.getElem_map, List.getElem_range, Function.comp, List.size_toArray]
        rw [Nat.mul_comm, Nat.mul_add_mod, Nat.mod_eq_of_lt h1]
        simp [h1]
    have e2 : (madeCells zs.toArray ((n + 1) * zs.length)).toList = (List.range ((n + 1) * zs.length)).map (fun i => zs.toArray[i % zs.toArray.size]!) := by simp [madeCells]
    have e3 : (madeCells zs.toArray (n * zs.length)).toList = (List.range (n * zs.length)).map (fun i => zs.toArray[i % zs.toArray.size]!) := by simp [madeCells]
    rw [e2, e, ← e3, ih, List.replicate_succ', List.flatten_append]
    simp
theorem RWR.rep {w : World} {st : Bool} {zs : List Value} (h1 : ∀ u ∈ zs, u.oneCell' = true) : ∀ n, RWR w st zs.length (List.replicate n (zs.map PV.v)) (List.replicate n zs).flatten []
  | 0 => by simp [RWR]
  | n + 1 => by
    rw [List.replicate_succ, List.replicate_succ, RWR, List.flatten_cons]
    exact ⟨by simp, zs, _, [], [], rfl, rfl, RWL.pv zs h1, RWR.rep h1 n⟩

section
variable {P : Program} {o : Oper} {N : Nat} {τ : Nat → AV} {H : Nat → AO}
theorem info_of {e : TypeId} {zs : List Value} (h : zeroA P e = some zs) : ∃ i z, P.info? e = some i ∧ i.zero = some z ∧ z.cells = zs.toArray ∧ i.size = P.cellsOf e ∧ i.bytes = P.bytesOf e := by
  obtain ⟨i, z, h1, h2, h3, _⟩ := zeroA_spec h
  exact ⟨i, z, h1, h2, h3, by simp [Program.cellsOf, h1], by simp [Program.bytesOf, h1]⟩
theorem St.make (id : Nat) {t e : TypeId} {x y : Operand} {d sz m : Nat} {k k' : IntKind} {n n' : Int} {zs : List Value} (ho : o.op = .makeSlice t x y) (hd : o.dst = some d) (ht : d < N) (he : elA P t = some (e, sz)) (hz : zeroA P e = some zs) (hzl : zs.length = sz) (hx : ev τ x = .p (.v (.int k n))) (hy : ev τ y = .p (.v (.int k' n'))) (hn : n = (m : Int)) (hn' : n' = (m : Int))
    (hb : P.bytesOf e * m ≤ 281474976710656) (hm : m ≤ maxLen) :
    St P o N τ H [] (upd (fun s => kil (one? id) (τ s)) d (.own id)) (upd (fun j => (H j).kil (one? id)) id (.arr e sz (List.replicate m (zs.map PV.v)))) := by
  subst hn hn' hzl
  obtain ⟨i, z, i1, i2, i3, i4, i5⟩ := info_of hz
  obtain ⟨_, _, _, _, _, _, h1⟩ := zeroA_spec hz
  obtain ⟨q1, _, q3⟩ := elA_spec he
  have this : St P o N τ H [] (updo (fun s => kil (one? id) (τ s)) o.dst (.own id)) (upd (fun j => (H j).kil (one? id)) id (.arr e zs.length (List.replicate m (zs.map PV.v)))) := St.turn id (one? id) (.own id) _ [] (fun s hs => by rw [hd] at hs; cases hs; exact ht) (fun {L O w0 ρ fp a w} hr => by
    have ex := hr.ev x
    have ey := hr.ev y
    rw [hx] at ex
    rw [hy] at ey
    have hm' : (m : Int) ≤ 9223372036854775807 := by simp only [maxLen] at hm; omega
    have hb' : (i.bytes : Int) * (m : Int) ≤ 281474976710656 := by
      rw [i5]
      have h : ((P.bytesOf e * m : Nat) : Int) ≤ 281474976710656 := by omega
      rwa [Int.natCast_mul] at h
    have hr2 := run_make (P := P) w t e i z q1 i1 i2 k k' (m : Int) (m : Int) (by omega) (Int.le_refl _) hb' hm'
    have hmk : madeCells zs.toArray (m * zs.length) = (List.replicate m zs).flatten.toArray := by rw [← madeCells_flat]
    rw [Int.toNat_natCast, i3, i4, q3, hmk] at hr2
    refine ⟨w.alloc (.cells (List.replicate m zs).flatten.toArray e), .slice (some ⟨w.heap.size, 0, none⟩) m m, none, .slice (some ⟨w.heap.size, 0, none⟩) m m, _, ?_, .inl rfl, World.grownBy_alloc w _ none, fun b hb => (by cases hb), frozen_new, fun hk => (by simp [one?] at hk), fun b hb => (by injection hb with hb; exact .inl (Nat.le_of_eq hb)), fun E => ⟨?_, ?_⟩⟩
    · simp [execOp, ho, ex.v_eq, ey.v_eq, hr2]
    · refine ⟨_, [], RWR.rep h1 m, by simp, ?_, rfl⟩
      rw [List.length_replicate]
      exact ownsRow_new (by simp [List.length_flatten]) hm
    · rw [RV, upd_same, upd_same]
      exact ⟨rfl, fun _ => rfl⟩)
  rw [hd] at this
  exact this
theorem St.bslice (id : Nat) {t e : TypeId} {len d sz : Nat} {parts : List (Nat × Operand)} {zs : List Value} {bp : List (Nat × Nat × AV)} {l : List AV} {rows : List (List PV)} (ho : o.op = .buildSlice t len parts.toArray) (hd : o.dst = some d) (ht : d < N) (he : elA P t = some (e, sz)) (hz : zeroA P e = some zs) (hzl : zs.length = sz)
    (h1 : bparts (fun i => some (i * sz, sz)) τ parts = some bp) (h2 : buildv ((List.replicate len zs).flatten.map fun c => .p (.v c)) bp = some l) (hl : l = rows.flatten.map AV.p) (hrs : ∀ r ∈ rows, r.length = sz) (hlen : rows.length = len) (hsm : len * sz ≤ 16777216) (hsz : 0 < sz) :
    St P o N τ H [] (upd (fun s => kil (one? id) (τ s)) d (.own id)) (upd (fun j => (H j).kil (one? id)) id (.arr e sz rows)) := by
  subst hzl hl
  obtain ⟨i, z, i1, i2, i3, i4, i5⟩ := info_of hz
  obtain ⟨_, _, _, _, _, o1, o2⟩ := zeroA_spec hz
  obtain ⟨q1, _, q3⟩ := elA_spec he
  have this : St P o N τ H [] (updo (fun s => kil (one? id) (τ s)) o.dst (.own id)) (upd (fun j => (H j).kil (one? id)) id (.arr e zs.length rows)) := St.turn id (one? id) (.own id) _ [] (fun s hs => by rw [hd] at hs; cases hs; exact ht) (fun {L O w0 ρ fp a w} hr => by
    have hz0 : RVL L ρ H w ((List.replicate len zs).flatten.map fun c => .p (.v c)) (madeCells zs.toArray (len * zs.length)).toList := by
      rw [madeCells_flat]
      refine RVL.pv _ ?_
      rw [List.all_eq_true]
      intro u hu
      obtain ⟨l', hl', hu⟩ := List.mem_flatten.1 hu
      rw [(List.mem_replicate.1 hl').2] at hu
      exact o2 u hu
    obtain ⟨cs', f1, f2⟩ := fill_rel (fun y => hr.ev y) _ parts bp _ _ _ h1 h2 hz0
    obtain ⟨fr, g1, g2⟩ := RWL.of_rvl f2
    have g3 := RWR.of_flat g1 hrs
    have hcl : cs'.toList.length = len * zs.length := by rw [g3.length, hlen]
    have hrun : (Instr.buildSlice t len (parts.map fun p => (p.1, a.eval p.2)).toArray).run P w = .ok (.slice (some ⟨w.heap.size, 0, none⟩) len len) (w.alloc (.cells cs'.toList.toArray e)) := by
      have f1' := f1
      unfold madeCells at f1'
      rw [Array.toArray_toList]
      have hsm' : ¬ (16777216 < len * i.size) := by rw [i4, q3]; omega
      by_cases hz0 : len * i.size = 0
      · have hz1 : len * zs.length = 0 := by rw [← q3, ← i4]; exact hz0
        have : (Array.range (len * zs.length)).map (zs.toArray[· % zs.toArray.size]!) = #[] := by rw [hz1]; simp [Array.range_zero']
        rw [this] at f1'
        simp [Instr.buildSlice, run_underlying q1, sizeOf, typeInfo, i1, hsm', hz0, newRow, Array.range_zero']
        rw [i4, q3, f1']
        simp
      · refine run_buildSlice (P := P) w t e len _ cs' i z q1 i1 i2 (by omega) hz0 ?_
        rw [i3, i4, q3]
        simpa using f1'
    refine ⟨w.alloc (.cells cs'.toList.toArray e), .slice (some ⟨w.heap.size, 0, none⟩) len len, none, .slice (some ⟨w.heap.size, 0, none⟩) len len, _, ?_, .inl rfl, World.grownBy_alloc w _ none, fun b hb => (by cases hb), frozen_new, fun hk => (by simp [one?] at hk), fun b hb => (by injection hb with hb; exact .inl (Nat.le_of_eq hb)), fun E => ⟨?_, ?_⟩⟩
    · simp only [execOp, ho, List.map_toArray]
      rw [Sem.run_bind, hrun]
      rfl
    · refine ⟨cs'.toList, fr, RWR.same _ g3 (fun b hb hlt => (E.block b hlt (g2 b hb)).1), fun b hb => (E.block b (RWR.lt _ g3 b hb) (g2 b hb)).2, ?_, rfl⟩
      rw [hlen]
      exact ownsRow_new hcl (by simp only [maxLen]; have := Nat.le_mul_of_pos_right len hsz; omega)
    · rw [RV, upd_same, upd_same]
      exact ⟨rfl, fun _ => rfl⟩)
  rw [hd] at this
  exact this

/-- What is appended: the rows that a value reads as. -/
structure Src (τ : Nat → AV) (H : Nat → AO) (x : Operand) (sz : Nat) (rows : List (List PV)) : Prop where
  run : ∀ {L O : Nat → Prop} {w0 : World} {N : Nat} {ρ : Nat → Value} {fp : Nat → List Nat} {a : Act} {w : World}, RR L O w0 N τ H ρ fp a w → ∃ a2 cap news fr, a.eval x = .slice a2 rows.length cap ∧ (rows.length = 0 ∨ ∃ b off, a2 = some ⟨b, off, none⟩ ∧ CellsAt w b off news) ∧ RWR w false sz rows news fr ∧ ∀ b ∈ fr, ¬ live L ρ H b
theorem Src.own {x : Operand} {sz j : Nat} {e : TypeId} {rows : List (List PV)} (hx : ev τ x = .own j) (hH : H j = .arr e sz rows) : Src τ H x sz rows := ⟨fun {L O w0 N ρ fp a w} hr => by
  have h := hr.ev x
  rw [hx, RV] at h
  have h0 := h.2 (by rw [hH]; rfl)
  have hob := hr.ob j
  rw [hH] at hob
  obtain ⟨xs, fr, k1, k2, k3, _⟩ := hob
  rcases k3.2 with ⟨q, q2⟩ | ⟨g, cap, cur, q, _⟩
  · exact ⟨none, 0, xs, fr, by rw [h0, q, q2], .inl q2, k1, k2⟩
  · have k3' := k3
    rw [q] at k3'
    exact ⟨_, cap, xs, fr, h0.trans q, .inr ⟨g, 0, rfl, cellsAt_of_own k3'⟩, k1, k2⟩⟩
theorem Src.p {x : Operand} {sz : Nat} {e : TypeId} {rows : List (List PV)} (hx : ev τ x = .p (.lst e sz rows)) : Src τ H x sz rows := ⟨fun {L O w0 N ρ fp a w} hr => by
  have h := hr.ev x
  rw [hx, RV] at h
  obtain ⟨fp, h1, h2⟩ := h
  rw [RW] at h1
  obtain ⟨xs, f1, f2, k1, k2, rfl⟩ := h1
  unfold SlAt at k2
  simp only [Bool.false_eq_true, if_false] at k2
  obtain ⟨b, cap, e1, c1, c2, k2⟩ := k2
  refine ⟨b, cap, xs, f2, e1, ?_, k1, fun b hb => h2 b (by simp [hb])⟩
  rcases k2 with ⟨q, _⟩ | ⟨blk, off, rfl, hc, _⟩
  · exact .inl q
  · exact .inr ⟨blk, off, rfl, hc⟩⟩
theorem Src.nil {x : Operand} {sz : Nat} (hx : ev τ x = .p (.v (.slice none 0 0))) : Src τ H x sz [] := ⟨fun {L O w0 N ρ fp a w} hr => by
  have h := hr.ev x
  rw [hx] at h
  exact ⟨none, 0, [], [], h.v_eq, .inl rfl, by simp [RWR], by simp⟩⟩
theorem Src.sub {x : Operand} {sz j off len : Nat} {e : TypeId} {rows : List (List PV)} (hx : ev τ x = .sub j off len) (hH : H j = .arr e sz rows) : Src τ H x sz ((rows.drop off).take len) := ⟨fun {L O w0 N ρ fp a w} hr => by
  have h := hr.ev x
  rw [hx, RV, hH] at h
  obtain ⟨h1, b, cap, e1, _, _, h2⟩ := h.2 rfl
  simp only [AO.len] at h1
  have hob := hr.ob j
  rw [hH] at hob
  obtain ⟨xs, fr, k1, k2, k3, _⟩ := hob
  obtain ⟨g1, t1, t2⟩ := k1.drop off
  obtain ⟨g2, t3, t4⟩ := t1.take len
  have hl : ((rows.drop off).take len).length = len := by rw [List.length_take, List.length_drop]; omega
  refine ⟨b, cap, _, g2, by rw [hl]; exact e1, ?_, t3, fun b hb => k2 b (t2 (t4 hb))⟩
  rw [hl]
  by_cases hz : len = 0
  · exact .inl hz
  · obtain ⟨g, m, cap', e2, e3⟩ := h2 (by omega)
    rw [e2] at k3
    have hm : m = rows.length := by
      rcases k3.2 with ⟨q, _⟩ | ⟨g', cap', cur, q, _⟩
      · cases q
      · injection q
    subst hm
    refine .inr ⟨g, off * sz, by rw [e3]; rfl, ?_⟩
    have := (cellsAt_of_own k3).drop (off * sz)
    rw [Nat.zero_add] at this
    intro i v hi
    rw [List.getElem?_take] at hi
    split at hi
    · exact this i v hi
    · cases hi⟩

/-- append onto an own row. -/
theorem append_run {w : World} {t ty e : TypeId} {i : TypeInfo} {z : Value} (ht : P.underlying t = some (.slice e)) (hi : P.info? e = some i) (hz : i.zero = some z) (hzs : z.cells.size = i.size) (hsz : 0 < i.size)
    {v : Value} {n : Nat} {xs : List Value} (hown : w.ownsRow 0 e i.size v n xs) {a2 : Option Addr} {m c : Nat} {news : List Value} (hl : news.length = m * i.size) (hsrc : m = 0 ∨ ∃ b off, a2 = some ⟨b, off, none⟩ ∧ CellsAt w b off news) (h1 : ∀ u ∈ news, u.oneCell' = true)
    (h63 : n + m ≤ maxLen) (hbytes : (n + m) * i.bytes ≤ 140737488355328) :
    ∃ v' w', (Builtin.append_ #[t, t] ty #[v, .slice a2 m c]).run P w = .ok v' w' ∧ w'.ownsRow 0 e i.size v' (n + m) (xs ++ news) ∧ w.grownBy w' v.ownBlock ∧ (v'.ownBlock = v.ownBlock ∨ v'.ownBlock = some w.heap.size) ∧
      (∀ b off, (v.ownBlock = some b ∨ w.heap.size ≤ b) → b < w'.heap.size → w'.frozen? ⟨b, off, none⟩ = false) := by
  have hfv : ∀ b off, (v.ownBlock = some b ∨ w.heap.size ≤ b) → b < w.heap.size → w.frozen? ⟨b, off, none⟩ = false := fun b off hb hlt => by
    rcases hb with hb | hb
    · rcases hown.2 with ⟨q, _⟩ | ⟨g, cap, cur, q, _, hg, _⟩
      · rw [q] at hb; cases hb
      · rw [q] at hb
        injection hb with hb
        have hb' : g = b := hb
        subst hb'
        simp [World.frozen?, hg]
    · omega
  by_cases hm0 : m = 0 ∧ a2 = none
  · obtain ⟨rfl, rfl⟩ := hm0
    have hn : news = [] := List.eq_nil_of_length_eq_zero (by simpa using hl)
    subst hn
    refine ⟨v, w, ?_, by simpa using hown, ⟨rfl, rfl, rfl, Nat.le_refl _, fun _ _ _ => rfl⟩, .inl rfl, hfv⟩
    rcases hown.2 with ⟨rfl, rfl⟩ | ⟨g, cap, cur, rfl, _, hg, hnc, _⟩
    · simp [Builtin.append_, run_underlying ht, sizeOf, typeInfo, hi, Builtin.lenOf, Builtin.firstCells]
    · simp [Builtin.append_, run_underlying ht, sizeOf, typeInfo, hi, Builtin.lenOf, Builtin.firstCells, hnc, storeCells]
  · obtain ⟨ad, had, hnews⟩ : ∃ ad, a2 = some ad ∧ ∀ j u, news[j]? = some u → w.cell? (ad.add j) = some u := by
      rcases hsrc with hm | ⟨b, off, rfl, hc⟩
      · cases a2 with
        | none => exact absurd ⟨hm, rfl⟩ hm0
        | some ad =>
          have hn : news = [] := List.eq_nil_of_length_eq_zero (by rw [hl, hm]; simp)
          exact ⟨ad, rfl, fun j u hj => by rw [hn] at hj; simp at hj⟩
      · exact ⟨_, rfl, fun j u hj => by
          have e : (⟨b, off, none⟩ : Addr).add j = ⟨b, off + j, none⟩ := by unfold Addr.add; split <;> simp_all
          rw [e]; exact hc j u hj⟩
    subst had
    obtain ⟨v', w', r1, r2, r3, _, r5⟩ := run_append_own_at (P := P) w 0 t ty e i z i.size i.bytes ht hi hz rfl rfl hzs hsz v n xs hown ad m c news hl hnews h1 h63 hbytes (Nat.zero_le _)
    refine ⟨v', w', r1, r2, r3, r5, ?_⟩
    have hsmall : n + m ≤ 9223372036854775807 := by simp only [maxLen] at h63; omega
    rcases hown.2 with ⟨rfl, rfl⟩ | ⟨g, cap, cur, rfl, hbg, hgg, hnc, hcm, hcs, htake⟩
    · by_cases hm : m = 0
      · subst hm
        have hn : news = [] := List.eq_nil_of_length_eq_zero (by simpa using hl)
        subst hn
        have : (Builtin.append_ #[t, t] ty #[.slice none 0 0, .slice (some ad) 0 c]).run P w = .ok (.slice none 0 0) w := by
          simp [Builtin.append_, run_underlying ht, sizeOf, typeInfo, hi, Builtin.lenOf, Builtin.firstCells, loadCells, loadCellsFrom]
        rw [this] at r1
        injection r1 with _ hw
        subst hw
        exact hfv
      · rw [run_append_nil (P := P) w t ty e i z ht hi hz ad m c news hl hnews (by omega) (by omega) (by have hb := hbytes; simp only [Nat.zero_add] at hb; omega)] at r1
        injection r1 with _ hw
        subst hw
        intro b off hb hlt
        refine frozen_new (w := w.drew) b off (.inr ?_) hlt
        rcases hb with hb | hb
        · cases hb
        · exact hb
    · by_cases hroom : n + m ≤ cap
      · have hfit : n * i.size + news.length ≤ cur.size := by rw [hl, hcs, ← Nat.add_mul]; exact Nat.mul_le_mul_right _ hroom
        rw [run_append_room (P := P) w t ty e i ht hi g n cap cur hgg ad m c news hl hnews h1 hroom hfit] at r1
        injection r1 with _ hw
        subst hw
        intro b off hb hlt
        rw [setRow_size] at hlt
        have hbg : g = b := by
          rcases hb with hb | hb
          · injection hb
          · omega
        subst hbg
        simp [World.frozen?, setRow_heap w g cur _ e _ hgg]
      · have holds : ∀ j u, xs[j]? = some u → w.cell? ((⟨g, 0, none⟩ : Addr).add j) = some u := hown.cells (g := g) rfl
        rw [run_append_grow (P := P) w t ty e i z ht hi hz ⟨g, 0, none⟩ n cap xs hown.1 holds ad m c news hl hnews (by omega) (by omega) (growslice_fits (by omega) hbytes)] at r1
        injection r1 with _ hw
        subst hw
        intro b off hb hlt
        rcases hb with hb | hb
        · injection hb with hb
          have hb' : g = b := hb
          subst hb'
          have hgl : g < w.drew.heap.size := (Array.getElem?_eq_some_iff.1 hgg).1
          rw [World.frozen?_of_block (w := w.drew) (heap_alloc_old w.drew _ hgl)]
          have : w.drew.heap[g]? = some (.cells cur e (0, 0)) := hgg
          simp [World.frozen?, this]
        · exact frozen_new (w := w.drew) b off (.inr hb) hlt
theorem RWR.keep {L : Nat → Prop} {ρ ρ' : Nat → Value} {H' : Nat → AO} {w w' : World} {k : Nat → Bool} (E : Env L ρ ρ' H H' w w' k) {sz : Nat} {rows : List (List PV)} {xs : List Value} {fr : List Nat} (h : RWR w false sz rows xs fr) (hl : ∀ b ∈ fr, ¬ live L ρ H b) : RWR w' false sz rows xs fr ∧ ∀ b ∈ fr, ¬ live L ρ' H' b :=
  ⟨RWR.same _ h (fun b hb hlt => (E.block b hlt (hl b hb)).1), fun b hb => (E.block b (RWR.lt _ h b hb) (hl b hb)).2⟩
theorem St.app (id : Nat) {t e : TypeId} {s x : Operand} {d sz : Nat} {zs : List Value} {rows rows2 : List (List PV)} (ho : o.op = .call { callee := .builtin .append, args := #[s, x], argTypes := #[t, t] }) (hd : o.dst = some d) (ht : d < N) (he : elA P t = some (e, sz)) (hz : zeroA P e = some zs) (hzl : zs.length = sz) (hsz : 0 < sz)
    (hs : ev τ s = .own id) (hH : H id = .arr e sz rows) (hsrc : Src τ H x sz rows2) (hm : rows.length + rows2.length ≤ maxLen) (hb : (rows.length + rows2.length) * P.bytesOf e ≤ 140737488355328) :
    St P o N τ H [id] (upd (fun s => kil (one? id) (τ s)) d (.own id)) (upd (fun j => (H j).kil (one? id)) id (.arr e sz (rows ++ rows2))) := by
  subst hzl
  obtain ⟨i, z, i1, i2, i3, i4, i5⟩ := info_of hz
  obtain ⟨q1, _, q3⟩ := elA_spec he
  have hsi : i.size = zs.length := i4.trans q3
  have this : St P o N τ H [id] (updo (fun s => kil (one? id) (τ s)) o.dst (.own id)) (upd (fun j => (H j).kil (one? id)) id (.arr e zs.length (rows ++ rows2))) := St.turn id (one? id) (.own id) _ [id] (fun s hs => by rw [hd] at hs; cases hs; exact ht) (fun {L O w0 ρ fp a w} hr => by
    have es := hr.ev s
    rw [hs, RV] at es
    have es := es.2 (by rw [hH]; rfl)
    have hob := hr.ob id
    rw [hH] at hob
    obtain ⟨xs, fr, b1, b2, b3, b4⟩ := hob
    obtain ⟨a2, cap, news, fr2, s1, s2, s3, s4⟩ := hsrc.run hr
    rw [← hsi] at b3
    obtain ⟨v', w', r1, r2, r3, r4, r5⟩ := append_run (P := P) (ty := o.type) q1 i1 i2 (by rw [i3, hsi]; simp) (by omega) b3 (c := cap) (by rw [s3.length, hsi]) s2 s3.ones hm (by rw [i5]; exact hb)
    refine ⟨w', v', (ρ id).ownBlock, v', _, ?_, .inl rfl, r3, fun b hb => ⟨by simp, by rw [hH]; rfl, hb⟩, r5, fun hk => (by simp [one?] at hk), fun b hb => ?_, fun E => ⟨?_, ?_⟩⟩
    · simp only [execOp, ho, resolve, invoke, builtin, Sem.run_bind, Sem.run_pure, Result.andThen_ok, List.map_toArray, List.map_cons, List.map_nil, es, s1, r1]
    · rcases r4 with q | q
      · exact .inr ⟨by rw [hH]; rfl, by rw [← q]; exact hb⟩
      · rw [q] at hb; injection hb with hb; exact .inl (Nat.le_of_eq hb)
    · obtain ⟨k1, k2⟩ := RWR.keep E b1 b2
      obtain ⟨k3, k4⟩ := RWR.keep E s3 s4
      refine ⟨xs ++ news, fr ++ fr2, RWR.append k1 k3, fun b hb => ?_, ?_, rfl⟩
      · rcases List.mem_append.1 hb with hb | hb
        · exact k2 b hb
        · exact k4 b hb
      · rw [List.length_append, ← hsi]
        exact r2
    · rw [RV, upd_same, upd_same]
      have : v'.oneCell' = true := by
        rcases r2.2 with ⟨q, _⟩ | ⟨g, cap, cur, q, _⟩ <;> rw [q] <;> rfl
      exact ⟨this, fun _ => rfl⟩)
  rw [hd] at this
  exact this
theorem St.app0 (id : Nat) {t e : TypeId} {s x : Operand} {d sz : Nat} {zs : List Value} {rows2 : List (List PV)} (ho : o.op = .call { callee := .builtin .append, args := #[s, x], argTypes := #[t, t] }) (hd : o.dst = some d) (ht : d < N) (he : elA P t = some (e, sz)) (hz : zeroA P e = some zs) (hzl : zs.length = sz) (hsz : 0 < sz)
    (hs : ev τ s = .p (.v (.slice none 0 0))) (hsrc : Src τ H x sz rows2) (hm : rows2.length ≤ maxLen) (hb : rows2.length * P.bytesOf e ≤ 140737488355328) :
    St P o N τ H [] (upd (fun s => kil (one? id) (τ s)) d (.own id)) (upd (fun j => (H j).kil (one? id)) id (.arr e sz rows2)) := by
  subst hzl
  obtain ⟨i, z, i1, i2, i3, i4, i5⟩ := info_of hz
  obtain ⟨q1, _, q3⟩ := elA_spec he
  have hsi : i.size = zs.length := i4.trans q3
  have this : St P o N τ H [] (updo (fun s => kil (one? id) (τ s)) o.dst (.own id)) (upd (fun j => (H j).kil (one? id)) id (.arr e zs.length rows2)) := St.turn id (one? id) (.own id) _ [] (fun s hs => by rw [hd] at hs; cases hs; exact ht) (fun {L O w0 ρ fp a w} hr => by
    have es := hr.ev s
    rw [hs] at es
    have es := es.v_eq
    obtain ⟨a2, cap, news, fr2, s1, s2, s3, s4⟩ := hsrc.run hr
    obtain ⟨v', w', r1, r2, r3, r4, r5⟩ := append_run (P := P) (ty := o.type) q1 i1 i2 (by rw [i3, hsi]; simp) (by omega) (World.ownsRow_nil w 0 e i.size) (c := cap) (by rw [s3.length, hsi]) s2 s3.ones (by omega) (by rw [i5, Nat.zero_add]; exact hb)
    refine ⟨w', v', none, v', _, ?_, .inl rfl, r3, fun b hb => (by cases hb), r5, fun hk => (by simp [one?] at hk), fun b hb => ?_, fun E => ⟨?_, ?_⟩⟩
    · simp only [execOp, ho, resolve, invoke, builtin, Sem.run_bind, Sem.run_pure, Result.andThen_ok, List.map_toArray, List.map_cons, List.map_nil, es, s1, r1]
    · rcases r4 with q | q
      · rw [q] at hb; cases hb
      · rw [q] at hb; injection hb with hb; exact .inl (Nat.le_of_eq hb)
    · obtain ⟨k3, k4⟩ := RWR.keep E s3 s4
      refine ⟨news, fr2, k3, k4, ?_, rfl⟩
      rw [← hsi]
      simpa using r2
    · rw [RV, upd_same, upd_same]
      have : v'.oneCell' = true := by
        rcases r2.2 with ⟨q, _⟩ | ⟨g, cap, cur, q, _⟩ <;> rw [q] <;> rfl
      exact ⟨this, fun _ => rfl⟩)
  rw [hd] at this
  exact this
end
end Go.Proofs.Ytbjnbhlpibadnaa
