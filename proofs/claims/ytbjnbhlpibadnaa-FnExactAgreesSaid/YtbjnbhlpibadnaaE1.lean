/- Values of programs as data: slices by what they hold. No program in sight. -/
import Derived.Test.YtbjnbhlpibadnaaSup
import Derived.Maps.AppendAt
import Derived.Deep.AppendLies
namespace Go.Proofs.Ytbjnbhlpibadnaa
open Go.RowKit
set_option linter.unusedSimpArgs false
set_option linter.unusedVariables false

/-- A readable value: a value of one cell, or a slice by its elements, each in sz cells of type e. -/
inductive PV where
  | v (x : Value)
  | lst (e : TypeId) (sz : Nat) (rows : List (List PV))
  deriving Inhabited

/-- The slice value c holds the cells xs in block b (st: from its head on, with room behind it as a call of ours made it). -/
def SlAt (w : World) (st : Bool) (e : TypeId) (sz : Nat) (c : Value) (n : Nat) (xs : List Value) (fp : List Nat) : Prop :=
  if st then w.ownsRow 0 e sz c n xs ∧ fp = c.ownBlock.toList
  else ∃ a cap, c = .slice a n cap ∧ n ≤ cap ∧ cap ≤ maxLen ∧ ((n = 0 ∧ fp = []) ∨ ∃ b off, a = some ⟨b, off, none⟩ ∧ CellsAt w b off xs ∧ b < w.heap.size ∧ fp = [b])

mutual
def RW (w : World) (st : Bool) : PV → Value → List Nat → Prop
  | .v x, c, fp => c = x ∧ fp = [] ∧ c.oneCell' = true
  | .lst e sz rows, c, fp => ∃ xs f1 f2, RWR w st sz rows xs f2 ∧ SlAt w st e sz c rows.length xs f1 ∧ fp = f1 ++ f2
def RWL (w : World) (st : Bool) : List PV → List Value → List Nat → Prop
  | [], cs, fp => cs = [] ∧ fp = []
  | x :: xs, cs, fp => ∃ c r f1 f2, cs = c :: r ∧ fp = f1 ++ f2 ∧ RW w st x c f1 ∧ RWL w st xs r f2
def RWR (w : World) (st : Bool) (sz : Nat) : List (List PV) → List Value → List Nat → Prop
  | [], cs, fp => cs = [] ∧ fp = []
  | row :: rows, cs, fp => row.length = sz ∧ ∃ c r f1 f2, cs = c ++ r ∧ fp = f1 ++ f2 ∧ RWL w st row c f1 ∧ RWR w st sz rows r f2
end

theorem SlAt.same {w w' : World} {st : Bool} {e : TypeId} {sz n : Nat} {c : Value} {xs : List Value} {fp : List Nat} (h : SlAt w st e sz c n xs fp) (hs : ∀ b ∈ fp, b < w.heap.size → w'.heap[b]? = w.heap[b]?) : SlAt w' st e sz c n xs fp := by
  unfold SlAt at *
  cases st with
  | true =>
    simp only [if_true] at *
    obtain ⟨h, rfl⟩ := h
    refine ⟨⟨h.1, ?_⟩, rfl⟩
    rcases h.2 with hn | ⟨g, cap, cur, rfl, hb, hg, rest⟩
    · exact .inl hn
    · refine .inr ⟨g, cap, cur, rfl, hb, ?_, rest⟩
      rw [hs g (by simp [Value.ownBlock]) (Array.getElem?_eq_some_iff.1 hg).1]; exact hg
  | false =>
    simp only [Bool.false_eq_true, if_false] at *
    obtain ⟨a, cap, rfl, h1, h2, h3⟩ := h
    refine ⟨a, cap, rfl, h1, h2, ?_⟩
    rcases h3 with h3 | ⟨b, off, rfl, hc, hb, rfl⟩
    · exact .inl h3
    · have hsb := hs b (by simp) hb
      have hb' : b < w'.heap.size := by
        rw [Array.getElem?_eq_getElem hb] at hsb
        exact (Array.getElem?_eq_some_iff.1 hsb).1
      exact .inr ⟨b, off, rfl, fun j v hj => by rw [World.cell?_of_block (w := w) (a := ⟨b, off + j, none⟩) hsb]; exact hc j v hj, hb', rfl⟩

mutual
theorem RW.same {w w' : World} {st : Bool} : ∀ (x : PV) {c : Value} {fp : List Nat}, RW w st x c fp → (∀ b ∈ fp, b < w.heap.size → w'.heap[b]? = w.heap[b]?) → RW w' st x c fp
  | .v x, c, fp, h, _ => by rw [RW] at *; exact h
  | .lst e sz rows, c, fp, h, hs => by
    rw [RW] at *
    obtain ⟨xs, f1, f2, h1, h2, rfl⟩ := h
    exact ⟨xs, f1, f2, RWR.same rows h1 (fun b hb => hs b (by simp [hb])), h2.same (fun b hb => hs b (by simp [hb])), rfl⟩
theorem RWL.same {w w' : World} {st : Bool} : ∀ (x : List PV) {c : List Value} {fp : List Nat}, RWL w st x c fp → (∀ b ∈ fp, b < w.heap.size → w'.heap[b]? = w.heap[b]?) → RWL w' st x c fp
  | [], c, fp, h, _ => by rw [RWL] at *; exact h
  | x :: xs, c, fp, h, hs => by
    rw [RWL] at *
    obtain ⟨c, r, f1, f2, rfl, rfl, h1, h2⟩ := h
    exact ⟨c, r, f1, f2, rfl, rfl, RW.same x h1 (fun b hb => hs b (by simp [hb])), RWL.same xs h2 (fun b hb => hs b (by simp [hb]))⟩
theorem RWR.same {w w' : World} {st : Bool} {sz : Nat} : ∀ (x : List (List PV)) {c : List Value} {fp : List Nat}, RWR w st sz x c fp → (∀ b ∈ fp, b < w.heap.size → w'.heap[b]? = w.heap[b]?) → RWR w' st sz x c fp
  | [], c, fp, h, _ => by rw [RWR] at *; exact h
  | x :: xs, c, fp, h, hs => by
    rw [RWR] at *
    obtain ⟨hl, c, r, f1, f2, rfl, rfl, h1, h2⟩ := h
    exact ⟨hl, c, r, f1, f2, rfl, rfl, RWL.same x h1 (fun b hb => hs b (by simp [hb])), RWR.same xs h2 (fun b hb => hs b (by simp [hb]))⟩
end

theorem SlAt.lt {w : World} {st : Bool} {e : TypeId} {sz n : Nat} {c : Value} {xs : List Value} {fp : List Nat} (h : SlAt w st e sz c n xs fp) : ∀ b ∈ fp, b < w.heap.size := by
  unfold SlAt at h
  cases st with
  | true =>
    simp only [if_true] at h
    obtain ⟨h, rfl⟩ := h
    intro b hb
    exact (h.lt b (by simpa [Option.mem_toList] using hb)).2
  | false =>
    simp only [Bool.false_eq_true, if_false] at h
    obtain ⟨a, cap, rfl, h1, h2, h3⟩ := h
    rcases h3 with ⟨_, rfl⟩ | ⟨b, off, rfl, hc, hb, rfl⟩
    · simp
    · simpa using hb
mutual
theorem RW.lt {w : World} {st : Bool} : ∀ (x : PV) {c : Value} {fp : List Nat}, RW w st x c fp → ∀ b ∈ fp, b < w.heap.size
  | .v x, c, fp, h => by rw [RW] at h; obtain ⟨_, rfl, _⟩ := h; simp
  | .lst e sz rows, c, fp, h => by
    rw [RW] at h
    obtain ⟨xs, f1, f2, h1, h2, rfl⟩ := h
    intro b hb
    rcases List.mem_append.1 hb with hb | hb
    · exact h2.lt b hb
    · exact RWR.lt rows h1 b hb
theorem RWL.lt {w : World} {st : Bool} : ∀ (x : List PV) {c : List Value} {fp : List Nat}, RWL w st x c fp → ∀ b ∈ fp, b < w.heap.size
  | [], c, fp, h => by rw [RWL] at h; obtain ⟨_, rfl⟩ := h; simp
  | x :: xs, c, fp, h => by
    rw [RWL] at h
    obtain ⟨c, r, f1, f2, rfl, rfl, h1, h2⟩ := h
    intro b hb
    rcases List.mem_append.1 hb with hb | hb
    · exact RW.lt x h1 b hb
    · exact RWL.lt xs h2 b hb
theorem RWR.lt {w : World} {st : Bool} {sz : Nat} : ∀ (x : List (List PV)) {c : List Value} {fp : List Nat}, RWR w st sz x c fp → ∀ b ∈ fp, b < w.heap.size
  | [], c, fp, h => by rw [RWR] at h; obtain ⟨_, rfl⟩ := h; simp
  | x :: xs, c, fp, h => by
    rw [RWR] at h
    obtain ⟨hl, c, r, f1, f2, rfl, rfl, h1, h2⟩ := h
    intro b hb
    rcases List.mem_append.1 hb with hb | hb
    · exact RWL.lt x h1 b hb
    · exact RWR.lt xs h2 b hb
end

theorem cellsAt_of_own {w : World} {base : Nat} {e : TypeId} {sz n : Nat} {g : Nat} {cap : Nat} {xs : List Value} (h : w.ownsRow base e sz (.slice (some ⟨g, 0, none⟩) n cap) n xs) : CellsAt w g 0 xs := fun j v hj => by
  have := h.cells (g := g) rfl j v hj
  rw [show (⟨g, 0, none⟩ : Addr).add j = ⟨g, 0 + j, none⟩ by unfold Addr.add; split <;> simp_all] at this
  exact this
theorem SlAt.weak {w : World} {e : TypeId} {sz n : Nat} {c : Value} {xs : List Value} {fp : List Nat} (h : SlAt w true e sz c n xs fp) : ∃ fp', SlAt w false e sz c n xs fp' ∧ fp' ⊆ fp := by
  unfold SlAt at *
  simp only [if_true, Bool.false_eq_true, if_false] at *
  obtain ⟨h, rfl⟩ := h
  have h0 := h
  rcases h.2 with ⟨rfl, rfl⟩ | ⟨g, cap, cur, rfl, hb, hg, hnc, hcm, rest⟩
  · exact ⟨[], ⟨none, 0, rfl, Nat.le_refl _, by simp [maxLen], .inl ⟨rfl, rfl⟩⟩, by simp⟩
  · exact ⟨[g], ⟨some ⟨g, 0, none⟩, cap, rfl, hnc, hcm, .inr ⟨g, 0, rfl, cellsAt_of_own h0, (Array.getElem?_eq_some_iff.1 hg).1, rfl⟩⟩, by simp [Value.ownBlock]⟩
mutual
theorem RW.weak {w : World} : ∀ (x : PV) {c : Value} {fp : List Nat}, RW w true x c fp → ∃ fp', RW w false x c fp' ∧ fp' ⊆ fp
  | .v x, c, fp, h => by rw [RW] at h; exact ⟨fp, by rw [RW]; exact h, fun _ h => h⟩
  | .lst e sz rows, c, fp, h => by
    rw [RW] at h
    obtain ⟨xs, f1, f2, h1, h2, rfl⟩ := h
    obtain ⟨g2, k1, k2⟩ := RWR.weak rows h1
    obtain ⟨g1, k3, k4⟩ := h2.weak
    exact ⟨g1 ++ g2, by rw [RW]; exact ⟨xs, g1, g2, k1, k3, rfl⟩, List.append_subset.2 ⟨fun b hb => List.mem_append_left _ (k4 hb), fun b hb => List.mem_append_right _ (k2 hb)⟩⟩
theorem RWL.weak {w : World} : ∀ (x : List PV) {c : List Value} {fp : List Nat}, RWL w true x c fp → ∃ fp', RWL w false x c fp' ∧ fp' ⊆ fp
  | [], c, fp, h => by rw [RWL] at h; exact ⟨fp, by rw [RWL]; exact h, fun _ h => h⟩
  | x :: xs, c, fp, h => by
    rw [RWL] at h
    obtain ⟨c, r, f1, f2, rfl, rfl, h1, h2⟩ := h
    obtain ⟨g1, k1, k2⟩ := RW.weak x h1
    obtain ⟨g2, k3, k4⟩ := RWL.weak xs h2
    exact ⟨g1 ++ g2, by rw [RWL]; exact ⟨c, r, g1, g2, rfl, rfl, k1, k3⟩, List.append_subset.2 ⟨fun b hb => List.mem_append_left _ (k2 hb), fun b hb => List.mem_append_right _ (k4 hb)⟩⟩
theorem RWR.weak {w : World} {sz : Nat} : ∀ (x : List (List PV)) {c : List Value} {fp : List Nat}, RWR w true sz x c fp → ∃ fp', RWR w false sz x c fp' ∧ fp' ⊆ fp
  | [], c, fp, h => by rw [RWR] at h; exact ⟨fp, by rw [RWR]; exact h, fun _ h => h⟩
  | x :: xs, c, fp, h => by
    rw [RWR] at h
    obtain ⟨hl, c, r, f1, f2, rfl, rfl, h1, h2⟩ := h
    obtain ⟨g1, k1, k2⟩ := RWL.weak x h1
    obtain ⟨g2, k3, k4⟩ := RWR.weak xs h2
    exact ⟨g1 ++ g2, by rw [RWR]; exact ⟨hl, c, r, g1, g2, rfl, rfl, k1, k3⟩, List.append_subset.2 ⟨fun b hb => List.mem_append_left _ (k2 hb), fun b hb => List.mem_append_right _ (k4 hb)⟩⟩
end

theorem RW.one {w : World} {st : Bool} {x : PV} {c : Value} {fp : List Nat} (h : RW w st x c fp) : c.oneCell' = true := by
  cases x with
  | v x => rw [RW] at h; exact h.2.2
  | lst e sz rows =>
    rw [RW] at h
    obtain ⟨xs, f1, f2, h1, h2, rfl⟩ := h
    unfold SlAt at h2
    cases st with
    | true =>
      simp only [if_true] at h2
      rcases h2.1.2 with ⟨rfl, _⟩ | ⟨g, cap, cur, rfl, _⟩ <;> rfl
    | false =>
      simp only [Bool.false_eq_true, if_false] at h2
      obtain ⟨a, cap, rfl, _⟩ := h2
      rfl
theorem RWL.length {w : World} {st : Bool} : ∀ {x : List PV} {c : List Value} {fp : List Nat}, RWL w st x c fp → c.length = x.length
  | [], c, fp, h => by rw [RWL] at h; simp [h.1]
  | x :: xs, c, fp, h => by
    rw [RWL] at h
    obtain ⟨c, r, f1, f2, rfl, rfl, h1, h2⟩ := h
    simp [RWL.length h2]
theorem RWL.ones {w : World} {st : Bool} : ∀ {x : List PV} {c : List Value} {fp : List Nat}, RWL w st x c fp → ∀ u ∈ c, u.oneCell' = true
  | [], c, fp, h => by rw [RWL] at h; simp [h.1]
  | x :: xs, c, fp, h => by
    rw [RWL] at h
    obtain ⟨c, r, f1, f2, rfl, rfl, h1, h2⟩ := h
    intro u hu
    rcases List.mem_cons.1 hu with rfl | hu
    · exact h1.one
    · exact h2.ones u hu
theorem RWR.length {w : World} {st : Bool} {sz : Nat} : ∀ {x : List (List PV)} {c : List Value} {fp : List Nat}, RWR w st sz x c fp → c.length = x.length * sz
  | [], c, fp, h => by rw [RWR] at h; simp [h.1]
  | x :: xs, c, fp, h => by
    rw [RWR] at h
    obtain ⟨hl, c, r, f1, f2, rfl, rfl, h1, h2⟩ := h
    rw [List.length_append, h1.length, h2.length, hl, List.length_cons, Nat.add_mul]; omega
theorem RWR.ones {w : World} {st : Bool} {sz : Nat} : ∀ {x : List (List PV)} {c : List Value} {fp : List Nat}, RWR w st sz x c fp → ∀ u ∈ c, u.oneCell' = true
  | [], c, fp, h => by rw [RWR] at h; simp [h.1]
  | x :: xs, c, fp, h => by
    rw [RWR] at h
    obtain ⟨hl, c, r, f1, f2, rfl, rfl, h1, h2⟩ := h
    intro u hu
    rcases List.mem_append.1 hu with hu | hu
    · exact h1.ones u hu
    · exact h2.ones u hu
theorem RWR.append {w : World} {st : Bool} {sz : Nat} : ∀ {x y : List (List PV)} {c d : List Value} {fp fq : List Nat}, RWR w st sz x c fp → RWR w st sz y d fq → RWR w st sz (x ++ y) (c ++ d) (fp ++ fq)
  | [], y, c, d, fp, fq, h, k => by
    rw [RWR] at h
    obtain ⟨rfl, rfl⟩ := h
    simpa using k
  | x :: xs, y, c, d, fp, fq, h, k => by
    rw [RWR] at h
    obtain ⟨hl, c, r, f1, f2, rfl, rfl, h1, h2⟩ := h
    rw [List.cons_append, RWR]
    exact ⟨hl, c, r ++ d, f1, f2 ++ fq, by simp, by simp, h1, RWR.append h2 k⟩
theorem RWR.single {w : World} {st : Bool} {x : List PV} {c : List Value} {fp : List Nat} (h : RWL w st x c fp) : RWR w st x.length [x] c fp := by
  rw [RWR]
  exact ⟨rfl, c, [], fp, [], by simp, by simp, h, by rw [RWR]; simp⟩
/-- One row out of many, and another in its place. -/
theorem RWR.row {w : World} {st : Bool} {sz : Nat} : ∀ {x : List (List PV)} {c : List Value} {fp : List Nat} {i : Nat} {row : List PV}, RWR w st sz x c fp → x[i]? = some row →
    ∃ c1 cr c2 f1 fr f2, c = c1 ++ cr ++ c2 ∧ fp = f1 ++ fr ++ f2 ∧ c1.length = i * sz ∧ cr.length = sz ∧ RWL w st row cr fr ∧
      ∀ row' cr' fr', row'.length = sz → RWL w st row' cr' fr' → RWR w st sz (x.set i row') (c1 ++ cr' ++ c2) (f1 ++ fr' ++ f2)
  | [], c, fp, i, row, h, hi => by simp at hi
  | x :: xs, c, fp, 0, row, h, hi => by
    rw [RWR] at h
    obtain ⟨hl, c, r, f1, f2, rfl, rfl, h1, h2⟩ := h
    simp at hi
    subst hi
    refine ⟨[], c, r, [], f1, f2, by simp, by simp, by simp, by rw [h1.length, hl], h1, fun row' cr' fr' hl' h' => ?_⟩
    rw [List.set_cons_zero, RWR]
    exact ⟨hl', cr', r, fr', f2, by simp, by simp, h', h2⟩
  | x :: xs, c, fp, i + 1, row, h, hi => by
    rw [RWR] at h
    obtain ⟨hl, c, r, f1, f2, rfl, rfl, h1, h2⟩ := h
    obtain ⟨c1, cr, c2, g1, gr, g2, rfl, rfl, k1, k2, k3, k4⟩ := RWR.row h2 (by simpa using hi)
    refine ⟨c ++ c1, cr, c2, f1 ++ g1, gr, g2, by simp, by simp, by rw [List.length_append, h1.length, hl, k1, Nat.add_mul]; omega, k2, k3, fun row' cr' fr' hl' h' => ?_⟩
    rw [List.set_cons_succ, RWR]
    exact ⟨hl, c, c1 ++ cr' ++ c2, f1, g1 ++ fr' ++ g2, by simp, by simp, h1, k4 row' cr' fr' hl' h'⟩
theorem RWR.drop {w : World} {st : Bool} {sz : Nat} : ∀ {x : List (List PV)} {c : List Value} {fp : List Nat} (i : Nat), RWR w st sz x c fp → ∃ f, RWR w st sz (x.drop i) (c.drop (i * sz)) f ∧ f ⊆ fp
  | x, c, fp, 0, h => ⟨fp, by simpa using h, fun _ h => h⟩
  | [], c, fp, i + 1, h => by
    rw [RWR] at h
    obtain ⟨rfl, rfl⟩ := h
    exact ⟨[], by simp [RWR], by simp⟩
  | x :: xs, c, fp, i + 1, h => by
    rw [RWR] at h
    obtain ⟨hl, c, r, f1, f2, rfl, rfl, h1, h2⟩ := h
    obtain ⟨f, k1, k2⟩ := RWR.drop i h2
    refine ⟨f, ?_, fun b hb => List.mem_append_right _ (k2 hb)⟩
    rw [List.drop_succ_cons, Nat.add_mul, Nat.one_mul, Nat.add_comm, ← List.drop_drop]
    rw [List.drop_left' (by rw [h1.length, hl])]
    exact k1
theorem RWR.take {w : World} {st : Bool} {sz : Nat} : ∀ {x : List (List PV)} {c : List Value} {fp : List Nat} (i : Nat), RWR w st sz x c fp → ∃ f, RWR w st sz (x.take i) (c.take (i * sz)) f ∧ f ⊆ fp
  | x, c, fp, 0, h => ⟨[], by simp [RWR], by simp⟩
  | [], c, fp, i + 1, h => by
    rw [RWR] at h
    obtain ⟨rfl, rfl⟩ := h
    exact ⟨[], by simp [RWR], by simp⟩
  | x :: xs, c, fp, i + 1, h => by
    rw [RWR] at h
    obtain ⟨hl, c, r, f1, f2, rfl, rfl, h1, h2⟩ := h
    obtain ⟨f, k1, k2⟩ := RWR.take i h2
    refine ⟨f1 ++ f, ?_, List.append_subset.2 ⟨List.subset_append_left _ _, fun b hb => List.mem_append_right _ (k2 hb)⟩⟩
    rw [List.take_succ_cons, RWR]
    refine ⟨hl, c, r.take (i * sz), f1, f, ?_, rfl, h1, k1⟩
    rw [List.take_append, h1.length, hl, List.take_of_length_le (by rw [h1.length, hl, Nat.add_mul]; omega), Nat.add_mul]
    congr 2; omega
/-- The elements of a row one by one. -/
theorem RWL.get {w : World} {st : Bool} : ∀ {x : List PV} {c : List Value} {fp : List Nat} {j : Nat} {y : PV}, RWL w st x c fp → x[j]? = some y →
    ∃ u f, c[j]? = some u ∧ RW w st y u f ∧ f ⊆ fp
  | [], c, fp, j, y, h, hj => by simp at hj
  | x :: xs, c, fp, 0, y, h, hj => by
    rw [RWL] at h
    obtain ⟨c, r, f1, f2, rfl, rfl, h1, h2⟩ := h
    simp at hj
    subst hj
    exact ⟨c, f1, by simp, h1, List.subset_append_left _ _⟩
  | x :: xs, c, fp, j + 1, y, h, hj => by
    rw [RWL] at h
    obtain ⟨c, r, f1, f2, rfl, rfl, h1, h2⟩ := h
    obtain ⟨u, f, k1, k2, k3⟩ := RWL.get h2 (by simpa using hj)
    exact ⟨u, f, by simpa using k1, k2, fun b hb => List.mem_append_right _ (k3 hb)⟩
theorem RWL.drop {w : World} {st : Bool} : ∀ {x : List PV} {c : List Value} {fp : List Nat} (i : Nat), RWL w st x c fp → ∃ f, RWL w st (x.drop i) (c.drop i) f ∧ f ⊆ fp
  | x, c, fp, 0, h => ⟨fp, by simpa using h, fun _ h => h⟩
  | [], c, fp, i + 1, h => by
    rw [RWL] at h
    obtain ⟨rfl, rfl⟩ := h
    exact ⟨[], by simp [RWL], by simp⟩
  | x :: xs, c, fp, i + 1, h => by
    rw [RWL] at h
    obtain ⟨c, r, f1, f2, rfl, rfl, h1, h2⟩ := h
    obtain ⟨f, k1, k2⟩ := RWL.drop i h2
    exact ⟨f, by simpa using k1, fun b hb => List.mem_append_right _ (k2 hb)⟩
theorem RWL.take {w : World} {st : Bool} : ∀ {x : List PV} {c : List Value} {fp : List Nat} (i : Nat), RWL w st x c fp → ∃ f, RWL w st (x.take i) (c.take i) f ∧ f ⊆ fp
  | x, c, fp, 0, h => ⟨[], by simp [RWL], by simp⟩
  | [], c, fp, i + 1, h => by
    rw [RWL] at h
    obtain ⟨rfl, rfl⟩ := h
    exact ⟨[], by simp [RWL], by simp⟩
  | x :: xs, c, fp, i + 1, h => by
    rw [RWL] at h
    obtain ⟨c, r, f1, f2, rfl, rfl, h1, h2⟩ := h
    obtain ⟨f, k1, k2⟩ := RWL.take i h2
    refine ⟨f1 ++ f, ?_, List.append_subset.2 ⟨List.subset_append_left _ _, fun b hb => List.mem_append_right _ (k2 hb)⟩⟩
    rw [List.take_succ_cons, RWL]
    exact ⟨c, r.take i, f1, f, rfl, rfl, h1, k1⟩
end Go.Proofs.Ytbjnbhlpibadnaa
