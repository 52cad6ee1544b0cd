/- Texts of the proof of FnExactMoves, joined: Sup, Dat, Opn, Sup2, Own, Num, Book0, Book1, Book2, Book3, Book4, Book5, Book6, Book7, Book8. -/
import Derived.WalkKit
import Derived.ProofKit
import Derived.WalkSpells
import Derived.Lib.Hide
import Derived.Carry
import Derived.Deep.LoopGhost
import Derived.Deep.QuietTactic
import Derived.BigQuiet
import Derived.StillTailTactics
import Derived.Test.YtbjnbhlpibadnaaProg
import Derived.Maps.AppendAt
import Derived.Deep.AppendLies
/- Support, no program in sight: how a slice's cells read as a list, and when such a reading stays. -/
namespace Go.Proofs.Ytbjnbhlpibadnaa
open Go.RowKit

def i64 (n : Int) : Prop := -9223372036854775808 ≤ n ∧ n ≤ 9223372036854775807

theorem i64_of_wf {n : Int} (h : (Lit.int .i64 n).wf = true) : i64 n := by
  simp [Lit.wf, IntKind.min, IntKind.max, IntKind.signed, IntKind.bits] at h
  unfold i64
  omega

/-- Between block numbers lo and hi the two worlds hold the same blocks. -/
def Same (lo hi : Nat) (w w' : World) : Prop := ∀ k, lo ≤ k → k < hi → w'.heap[k]? = w.heap[k]?

theorem Same.refl (lo hi : Nat) (w : World) : Same lo hi w w := fun _ _ _ => rfl
theorem Same.trans {lo hi : Nat} {a b c : World} (h : Same lo hi a b) (k : Same lo hi b c) : Same lo hi a c := fun i h1 h2 => (k i h1 h2).trans (h i h1 h2)
theorem Same.mono {lo hi lo' hi' : Nat} {a b : World} (h : Same lo hi a b) (h1 : lo ≤ lo') (h2 : hi' ≤ hi) : Same lo' hi' a b := fun i k1 k2 => h i (Nat.le_trans h1 k1) (Nat.lt_of_lt_of_le k2 h2)
theorem Same.of_below {B : Nat} {w w' : World} (h : Below B w w') : Same 0 B w w' := fun k _ hk => h.block k hk
theorem Same.below {B lo hi : Nat} {w w' : World} (h : Below B w w') (hB : hi ≤ B) : Same lo hi w w' := fun k _ hk => h.block k (Nat.lt_of_lt_of_le hk hB)
theorem Same.cell {lo hi : Nat} {w w' : World} (h : Same lo hi w w') {b o : Nat} {v : Value} (h1 : lo ≤ b) (h2 : b < hi) (hc : w.cell? ⟨b, o, none⟩ = some v) : w'.cell? ⟨b, o, none⟩ = some v := by
  rw [World.cell?_of_block (w := w) (h b h1 h2)]; exact hc

theorem cell_new {w : World} {c : Array Value} {T : TypeId} (o : Nat) {v : Value} (h : c[o]? = some v) : (w.alloc (.cells c T)).cell? ⟨w.heap.size, o, none⟩ = some v := by
  have : (w.alloc (.cells c T)).heap[w.heap.size]? = some (.cells c T) := (MapKept.heap_alloc w _).1
  unfold World.cell?
  rw [this]
  simpa using h

theorem cellIn {B : Nat} {w w' : World} (hb : Below B w w') {b o : Nat} {v : Value} (h : b < B) (hc : w.cell? ⟨b, o, none⟩ = some v) : w'.cell? ⟨b, o, none⟩ = some v := by
  rw [hb.cell (p := ⟨b, o, none⟩) h]; exact hc

theorem lt_of_cell {w : World} {b o : Nat} {v : Value} (h : w.cell? ⟨b, o, none⟩ = some v) : b < w.heap.size := World.block_lt_of_cell? w ⟨b, o, none⟩ h

/-- From offset off on block b holds the cells cs. -/
def CellsAt (w : World) (b off : Nat) (cs : List Value) : Prop := ∀ j v, cs[j]? = some v → w.cell? ⟨b, off + j, none⟩ = some v

theorem CellsAt.same {lo hi : Nat} {w w' : World} (h : Same lo hi w w') {b off : Nat} {cs : List Value} (h1 : lo ≤ b) (h2 : b < hi) (hc : CellsAt w b off cs) : CellsAt w' b off cs :=
  fun j v hj => h.cell h1 h2 (hc j v hj)

section
variable {α : Type}

/-- From offset off on, block b holds the elements of xs, each in sz cells. -/
def Elems (sz : Nat) (rep : World → Nat → Nat → List Value → α → Prop) (w : World) (lo hi b off : Nat) (xs : List α) : Prop :=
  ∀ i (h : i < xs.length), ∃ cs, rep w lo hi cs xs[i] ∧ CellsAt w b (off + i * sz) cs

/-- The slice value v reads as the list xs: its cells lie in a block from lo on, below hi. -/
def SlR (sz : Nat) (rep : World → Nat → Nat → List Value → α → Prop) (w : World) (lo hi : Nat) (v : Value) (xs : List α) : Prop :=
  ∃ a cap, v = .slice a xs.length cap ∧ xs.length ≤ cap ∧ cap ≤ maxLen ∧ (xs = [] ∨ ∃ b off, a = some ⟨b, off, none⟩ ∧ lo ≤ b ∧ b < hi ∧ Elems sz rep w lo hi b off xs)

/-- A reading that hangs on the blocks from lo on, below hi, alone. -/
def Stable (rep : World → Nat → Nat → List Value → α → Prop) : Prop :=
  ∀ w w' lo hi lo' hi' cs x, Same lo hi w w' → lo' ≤ lo → hi ≤ hi' → rep w lo hi cs x → rep w' lo' hi' cs x

theorem Elems.stable {sz : Nat} {rep : World → Nat → Nat → List Value → α → Prop} (hst : Stable rep) {w w' : World} {lo hi lo' hi' b off : Nat} {xs : List α}
    (hs : Same lo hi w w') (hl : lo' ≤ lo) (hh : hi ≤ hi') (hb1 : lo ≤ b) (hb2 : b < hi) (h : Elems sz rep w lo hi b off xs) : Elems sz rep w' lo' hi' b off xs :=
  fun i hi => let ⟨cs, hr, hc⟩ := h i hi; ⟨cs, hst _ _ _ _ _ _ _ _ hs hl hh hr, hc.same hs hb1 hb2⟩

theorem Elems.same {sz : Nat} {rep : World → Nat → Nat → List Value → α → Prop} (hst : Stable rep) {w w' : World} {lo hi b off : Nat} {xs : List α}
    (h : Elems sz rep w lo hi b off xs) (hs : Same lo hi w w') (hb1 : lo ≤ b) (hb2 : b < hi) : Elems sz rep w' lo hi b off xs := h.stable hst hs (Nat.le_refl _) (Nat.le_refl _) hb1 hb2

theorem SlR.stable {sz : Nat} {rep : World → Nat → Nat → List Value → α → Prop} (hst : Stable rep) {w w' : World} {lo hi lo' hi' : Nat} {v : Value} {xs : List α}
    (hs : Same lo hi w w') (hl : lo' ≤ lo) (hh : hi ≤ hi') (h : SlR sz rep w lo hi v xs) : SlR sz rep w' lo' hi' v xs := by
  obtain ⟨a, cap, rfl, h1, h2, h3⟩ := h
  refine ⟨a, cap, rfl, h1, h2, ?_⟩
  rcases h3 with h3 | ⟨b, off, rfl, hb1, hb2, h3⟩
  · exact .inl h3
  · exact .inr ⟨b, off, rfl, Nat.le_trans hl hb1, Nat.lt_of_lt_of_le hb2 hh, h3.stable hst hs hl hh hb1 hb2⟩

theorem SlR.same {sz : Nat} {rep : World → Nat → Nat → List Value → α → Prop} (hst : Stable rep) {w w' : World} {lo hi : Nat} {v : Value} {xs : List α}
    (h : SlR sz rep w lo hi v xs) (hs : Same lo hi w w') : SlR sz rep w' lo hi v xs := h.stable hst hs (Nat.le_refl _) (Nat.le_refl _)

theorem SlR.below {sz : Nat} {rep : World → Nat → Nat → List Value → α → Prop} (hst : Stable rep) {w w' : World} {lo hi B : Nat} {v : Value} {xs : List α}
    (h : SlR sz rep w lo hi v xs) (hs : Below B w w') (hB : hi ≤ B) : SlR sz rep w' lo hi v xs := h.same hst (Same.below hs hB)

theorem SlR.nil {sz : Nat} {rep : World → Nat → Nat → List Value → α → Prop} {w : World} {lo hi : Nat} : SlR sz rep w lo hi (.slice none 0 0) ([] : List α) :=
  ⟨none, 0, rfl, Nat.le_refl _, by simp [maxLen], .inl rfl⟩

/-- What the reader of data reads as a slice reads as a list. -/
theorem SlR.of_trod {H : Type} {enc : TypeId × Value → H} {P : Program} {w : World} {sp : Nat → Bool} {held : Bool} {t e : TypeId} {sz : Nat} {rep : World → Nat → Nat → List Value → α → Prop}
    (ht : P.underlying t = some (.slice e)) (hsz : P.cellsOf e = sz) (hpos : 0 < sz)
    (helem : ∀ fuel cs x, DataW.trod enc P w 0 sp held fuel e cs = some x → ∃ y : α, rep w 0 w.heap.size cs y)
    {fuel : Nat} {v : Value} {x : DataW H × List MemPlace} (h : DataW.trod enc P w 0 sp held fuel t [v] = some x) : ∃ xs : List α, SlR sz rep w 0 w.heap.size v xs := by
  rcases DataW.trod_slice ht h with ⟨hv, _⟩ | ⟨a, len, cap, elems, rest, n, _, hv, _, _, hlc, hcap, hel, he, _⟩
  · obtain rfl : v = .slice none 0 0 := by simpa using hv
    exact ⟨[], SlR.nil⟩
  · obtain rfl : v = .slice (some a) len cap := by simpa using hv
    rw [hsz] at he
    have key : ∀ i, i < len → ∃ (y : α) (cs : List Value), rep w 0 w.heap.size cs y ∧ (∀ j u, cs[j]? = some u → w.cell? ((a.add (i * sz)).add j) = some u) ∧ cs.length = sz := by
      intro i hi
      have h1 := he i hi
      have h2 : elems[i]? = some elems[i] := List.getElem?_eq_getElem (by omega)
      rw [h2] at h1
      cases hc : w.cells? 0 (a.add (i * sz)) sz with
      | none => rw [hc] at h1; simp at h1
      | some cs =>
        rw [hc] at h1
        obtain ⟨y, hy⟩ := helem _ _ _ h1
        unfold World.cells? at hc
        rw [if_pos (Nat.zero_le _)] at hc
        have hlen := mapM_some_length hc
        refine ⟨y, cs, hy, fun j u hj => ?_, by simpa using hlen⟩
        have hj' : j < sz := by
          have := (List.getElem?_eq_some_iff.1 hj).1
          simp at hlen; omega
        have := mapM_some_get hc j j (by simp [hj'])
        rw [this, hj]
    by_cases hl : len = 0
    · subst hl
      exact ⟨[], some a, cap, rfl, Nat.zero_le _, hcap, .inl rfl⟩
    · obtain ⟨y0, cs0, _, hc0, hl0⟩ := key 0 (by omega)
      have hsp : a.spot = none ∧ a.block < w.heap.size := by
        have h0 : cs0[0]? = some cs0[0] := List.getElem?_eq_getElem (by omega)
        have := hc0 0 _ h0
        simp [Addr.add] at this
        refine ⟨?_, World.block_lt_of_cell? w a this⟩
        unfold World.cell? at this
        cases hsp : a.spot with
        | none => rfl
        | some k => simp [hsp] at this; split at this <;> simp at this
      obtain ⟨b, off, sp'⟩ := a
      obtain ⟨rfl, hb⟩ := hsp
      have hex : ∀ i : Fin len, ∃ y : α, ∃ (cs : List Value), rep w 0 w.heap.size cs y ∧ (∀ j u, cs[j]? = some u → w.cell? (((⟨b, off, none⟩ : Addr).add (i.1 * sz)).add j) = some u) ∧ cs.length = sz :=
        fun i => key i.1 i.2
      let f : Fin len → α := fun i => Classical.choose (hex i)
      have hf : ∀ i, _ := fun i => Classical.choose_spec (hex i)
      refine ⟨List.ofFn f, some ⟨b, off, none⟩, cap, by simp, by simpa using hlc, hcap, .inr ⟨b, off, rfl, Nat.zero_le _, hb, ?_⟩⟩
      intro i hi
      have hi' : i < len := by simpa using hi
      obtain ⟨cs, hr, hc, _⟩ := hf ⟨i, hi'⟩
      refine ⟨cs, by simpa [f] using hr, fun j u hj => ?_⟩
      have := hc j u hj
      have e : ((⟨b, off, none⟩ : Addr).add (i * sz)).add j = ⟨b, off + i * sz + j, none⟩ := by
        unfold Addr.add
        by_cases h1 : i * sz = 0 <;> by_cases h2 : j = 0 <;> simp [h1, h2]
      rw [e] at this
      exact this

end

/-- What a size check leaves of a purse of l. -/
def szL (n : Nat) (l : Int) : Int := if l - n < 0 then -1 else l - n

/-- No cell of the blocks from lo on, below hi, is shared with a string. -/
def NF (lo hi : Nat) (w : World) : Prop := ∀ b o, lo ≤ b → b < hi → w.frozen? ⟨b, o, none⟩ = false

theorem NF.same {lo hi : Nat} {w w' : World} (h : NF lo hi w) (hs : Same lo hi w w') : NF lo hi w' := fun b o h1 h2 => by
  rw [World.frozen?_of_block (w := w) (hs b h1 h2)]; exact h b o h1 h2
theorem NF.mono {lo hi lo' hi' : Nat} {w : World} (h : NF lo hi w) (h1 : lo ≤ lo') (h2 : hi' ≤ hi) : NF lo' hi' w := fun b o k1 k2 => h b o (Nat.le_trans h1 k1) (Nat.lt_of_lt_of_le k2 h2)

/-- A reading goes on in a grown world. -/
theorem SlR.grow' {α : Type} {sz : Nat} {rep : World → Nat → Nat → List Value → α → Prop} (hst : Stable rep) {w w' : World} {v : Value} {xs : List α}
    (h : SlR sz rep w 0 w.heap.size v xs) (hb : Below w.heap.size w w') : SlR sz rep w' 0 w'.heap.size v xs := h.stable hst (Same.of_below hb) (Nat.le_refl _) hb.size

/-- w' is w with new blocks, none of them shared with a string: of what was there nothing has turned. -/
structure Grow (w w' : World) : Prop where
  below : Below w.heap.size w w'
  nf : NF w.heap.size w'.heap.size w'

theorem Grow.refl (w : World) : Grow w w := ⟨Below.refl _ _, fun _ _ h1 h2 => absurd h2 (by omega)⟩
theorem Grow.size {w w' : World} (h : Grow w w') : w.heap.size ≤ w'.heap.size := h.below.size
theorem Grow.trans {a b c : World} (h : Grow a b) (k : Grow b c) : Grow a c :=
  ⟨h.below.trans (k.below.mono h.size), fun x o h1 h2 => by
    by_cases hx : x < b.heap.size
    · rw [World.frozen?_of_block (w := b) (k.below.block x hx)]; exact h.nf x o h1 hx
    · exact k.nf x o (by omega) h2⟩
theorem Grow.alloc {a w : World} (h : Grow a w) (c : Array Value) (T : TypeId) : Grow a (w.alloc (.cells c T)) :=
  ⟨h.below.alloc h.size _, fun x o h1 h2 => by
    rw [frozen?_alloc_cells]
    by_cases hx : x < w.heap.size
    · exact h.nf x o h1 hx
    · unfold World.frozen?; simp [Array.getElem?_eq_none (show w.heap.size ≤ x by omega)]⟩
theorem Grow.setCell {a w : World} (h : Grow a w) {p : Addr} (hp : a.heap.size ≤ p.block) (u : Value) : Grow a (w.setCell p u) :=
  ⟨h.below.setCell hp u, fun x o h1 h2 => by
    rw [World.frozen?_setCell]; exact h.nf x o h1 (by simpa [World.setCell] using h2)⟩
theorem Grow.drew {a w : World} (h : Grow a w) : Grow a w.drew := ⟨h.below.drew, h.nf⟩
theorem Grow.drewN {a w : World} (h : Grow a w) (n : Nat) : Grow a (w.drewN n) := ⟨⟨h.below.os, h.below.tape, h.below.output, h.below.size, h.below.block⟩, h.nf⟩
theorem Grow.setCells {a : World} {g : Nat} (hp : a.heap.size ≤ g) : ∀ (vs : List Value) (o : Nat) {w : World}, Grow a w → Grow a (w.setCells g o vs)
  | [], _, _, h => h
  | _ :: r, o, _, h => Grow.setCells hp r (o + 1) (h.setCell hp _)
theorem bcell {W w1 : World} (hb : Grow W w1) : (∀ b o, b < W.heap.size → w1.cell? ⟨b, o, none⟩ = W.cell? ⟨b, o, none⟩) ∧ (∀ b o, b < W.heap.size → w1.frozen? ⟨b, o, none⟩ = W.frozen? ⟨b, o, none⟩) :=
  ⟨fun b o h => hb.below.cell (p := ⟨b, o, none⟩) h, fun b o h => hb.below.frozen (p := ⟨b, o, none⟩) h⟩
theorem Grow.same {w w' : World} (h : Grow w w') {lo hi : Nat} (hh : hi ≤ w.heap.size) : Same lo hi w w' := Same.below h.below hh

/-- Block g has room for n elements of sz cells; the first k of them hold what 'f' says. -/
structure Filled (w : World) (g sz n k : Nat) (f : Nat → List Value) : Prop where
  room : ∀ o, o < n * sz → (w.cell? ⟨g, o, none⟩).isSome = true
  held : ∀ i, i < k → CellsAt w g (i * sz) (f i)

theorem Filled.made (w : World) (z : Array Value) (sz n : Nat) (T : TypeId) (f : Nat → List Value) : Filled (w.alloc (.cells (madeCells z (n * sz)) T)) w.heap.size sz n 0 f :=
  ⟨fun o ho => by
    rw [cell_new (v := (madeCells z (n * sz))[o]'(by rw [size_madeCells]; exact ho)) o (by simp [size_madeCells, ho])]
    rfl, fun i hi => absurd hi (by omega)⟩

theorem Filled.some {w : World} {g sz n k : Nat} {f : Nat → List Value} (h : Filled w g sz n k f) {i : Nat} (hi : i < n) (j : Nat) (hj : j < sz) : ∃ u, w.cell? ⟨g, i * sz + j, none⟩ = Option.some u := by
  have h2 : (i + 1) * sz ≤ n * sz := Nat.mul_le_mul_right _ (by omega)
  rw [Nat.add_mul] at h2
  exact Option.isSome_iff_exists.1 (h.room _ (by omega))

theorem Filled.same {lo hi : Nat} {w w' : World} {g sz n k : Nat} {f : Nat → List Value} (h : Filled w g sz n k f) (hs : Same lo hi w w') (h1 : lo ≤ g) (h2 : g < hi) : Filled w' g sz n k f :=
  ⟨fun o ho => by rw [World.cell?_of_block (w := w) (hs g h1 h2)]; exact h.room o ho, fun i hi => (h.held i hi).same hs h1 h2⟩

theorem cell_setCells {g : Nat} : ∀ (vs : List Value) (o : Nat) (w : World) (x : Nat), (∀ j, j < vs.length → (w.cell? ⟨g, o + j, none⟩).isSome = true) →
    (w.setCells g o vs).cell? ⟨g, x, none⟩ = if o ≤ x ∧ x < o + vs.length then vs[x - o]? else w.cell? ⟨g, x, none⟩
  | [], o, w, x, _ => by rw [if_neg (by simp)]; rfl
  | v :: r, o, w, x, h => by
    have h0 : (w.cell? ⟨g, o, none⟩).isSome = true := h 0 (by simp)
    obtain ⟨u, hu⟩ := Option.isSome_iff_exists.1 h0
    have hsame : (w.setCell ⟨g, o, none⟩ v).cell? ⟨g, o, none⟩ = some v := World.cell?_setCell_same w ⟨g, o, none⟩ v hu
    have hother : ∀ y, y ≠ o → (w.setCell ⟨g, o, none⟩ v).cell? ⟨g, y, none⟩ = w.cell? ⟨g, y, none⟩ := fun y hy =>
      World.cell?_setCell_other w ⟨g, o, none⟩ ⟨g, y, none⟩ v (by intro e; injection e with _ e2; omega)
    have ih := cell_setCells r (o + 1) (w.setCell ⟨g, o, none⟩ v) x (fun j hj => by
      rw [hother _ (by omega)]
      have := h (j + 1) (by simpa using hj)
      rw [show o + 1 + j = o + (j + 1) from by omega]; exact this)
    show ((w.setCell ⟨g, o, none⟩ v).setCells g (o + 1) r).cell? ⟨g, x, none⟩ = _
    rw [ih]
    by_cases hx : x = o
    · subst hx
      rw [if_neg (by omega), if_pos (by simp), hsame]; simp
    · by_cases hx2 : o + 1 ≤ x ∧ x < o + 1 + r.length
      · rw [if_pos hx2, if_pos (by simp only [List.length_cons]; omega)]
        rw [show x - o = (x - (o + 1)) + 1 from by omega]; simp
      · rw [if_neg hx2, if_neg (by simp only [List.length_cons]; omega), hother _ hx]

theorem Filled.store {w : World} {g sz n k : Nat} {f : Nat → List Value} (h : Filled w g sz n k f) (hk : k < n) (hl : ∀ i, i ≤ k → (f i).length = sz) : Filled (w.setCells g (k * sz) (f k)) g sz n (k + 1) f := by
  have hlk := hl k (Nat.le_refl _)
  have hroom : ∀ j, j < (f k).length → (w.cell? ⟨g, k * sz + j, none⟩).isSome = true := fun j hj => h.room _ (by
    have : (k + 1) * sz ≤ n * sz := Nat.mul_le_mul_right _ (by omega)
    rw [Nat.add_mul] at this; omega)
  refine ⟨fun o ho => ?_, fun i hi j v hj => ?_⟩
  · rw [cell_setCells _ _ _ _ hroom]
    split
    · rw [List.getElem?_eq_getElem (by omega)]; rfl
    · exact h.room o ho
  · rw [cell_setCells _ _ _ _ hroom]
    by_cases hik : i = k
    · subst hik
      have := (List.getElem?_eq_some_iff.1 hj).1
      rw [if_pos (by omega), show i * sz + j - i * sz = j from by omega]; exact hj
    · have hik' : i < k := by omega
      have h2 : (i + 1) * sz ≤ k * sz := Nat.mul_le_mul_right _ (by omega)
      rw [Nat.add_mul] at h2
      have hjl := (List.getElem?_eq_some_iff.1 hj).1
      rw [hl i (by omega)] at hjl
      rw [if_neg (by omega)]; exact h.held i hik' j v hj

theorem SlR.of_filled {α : Type} {sz : Nat} {rep : World → Nat → Nat → List Value → α → Prop} {w : World} {lo hi g : Nat} {xs : List α} {f : Nat → List Value} (h : Filled w g sz xs.length xs.length f)
    (h1 : lo ≤ g) (h2 : g < hi) (hm : xs.length ≤ maxLen) (hr : ∀ i (hi' : i < xs.length), rep w lo hi (f i) xs[i]) : SlR sz rep w lo hi (.slice (some ⟨g, 0, none⟩) xs.length xs.length) xs :=
  ⟨_, _, rfl, Nat.le_refl _, hm, .inr ⟨g, 0, rfl, h1, h2, fun i hi' => ⟨f i, hr i hi', by rw [Nat.zero_add]; exact h.held i hi'⟩⟩⟩

theorem Same.setCell {lo hi : Nat} {a w : World} (h : Same lo hi a w) {p : Addr} (hp : p.block < lo ∨ hi ≤ p.block) (u : Value) : Same lo hi a (w.setCell p u) := fun k h1 h2 => by
  rw [Below.heap_setCell _ _ _ _ (by omega)]; exact h k h1 h2
theorem Same.alloc {lo hi : Nat} {a w : World} (h : Same lo hi a w) (hh : hi ≤ w.heap.size) (o : Obj) : Same lo hi a (w.alloc o) := fun k h1 h2 => by
  rw [Below.heap_alloc _ _ _ (by omega)]; exact h k h1 h2
theorem Same.grown {lo hi : Nat} {a w w' : World} (h : Same lo hi a w) (hg : Grow w w') (hh : hi ≤ w.heap.size) : Same lo hi a w' := h.trans (hg.same hh)
theorem Same.drew {lo hi : Nat} {a w : World} (h : Same lo hi a w) : Same lo hi a w.drew := h

/-- One size check behind another. -/
def szN (l : Int) (k : Int → Int) : Int := if l < 0 then -1 else k l
theorem szL_le (n : Nat) (l : Int) (h : 0 ≤ szL n l) : szL n l ≤ l ∧ (n : Int) ≤ l := by
  unfold szL at h ⊢; split at h <;> (try split) <;> omega
theorem szN_le {l : Int} {k : Int → Int} (h : 0 ≤ szN l k) : 0 ≤ l ∧ 0 ≤ k l ∧ szN l k = k l := by
  unfold szN at h ⊢; split at h <;> (try split) <;> omega

/-- The arguments read as before where the world has only grown. -/
theorem trodAll_below {H : Type} {enc : TypeId × Value → H} {P : Program} (hl : laidOutB P = true) {W W' : World} (hb : Below W.heap.size W W') : ∀ {ts : List TypeId} {vs : List Value} {ds : List (DataW H)} {ps : List MemPlace},
    (∀ t ∈ ts, P.readableRec t = true ∧ t < P.types.size) → DataW.TrodAll enc P W 0 (fun _ => true) true ts vs ds ps →
    DataW.TrodAll enc P W' 0 (fun b => decide (b < W.heap.size)) true ts vs ds ps
  | [], [], [], _, _, h => h
  | t :: ts, v :: vs, d :: ds, ps, ht, h => by
    have hlt := DataW.TrodAll.lt h
    obtain ⟨p, q, h1, h2, rfl⟩ := h
    exact ⟨p, q, Below.trod hl (ht t (by simp)).1 (ht t (by simp)).2 h1 hb (fun x hx => hlt x (by simp [hx])), trodAll_below hl hb (fun t' h' => ht t' (by simp [h'])) h2, rfl⟩
  | [], _ :: _, _, _, _, h => h.elim
  | [], [], _ :: _, _, _, h => h.elim
  | _ :: _, [], _, _, _, h => h.elim
  | _ :: _, _ :: _, [], _, _, h => h.elim

theorem getElem_some {α : Type} {l : List α} {i : Nat} (h : i < l.length) : ∃ y, l[i]? = some y := ⟨_, List.getElem?_eq_getElem h⟩

theorem list1 {α : Type} {l : List α} (h : l.length = 1) : ∃ a, l = [a] := List.length_eq_one_iff.1 h
theorem listS {α : Type} {l : List α} {n : Nat} (h : l.length = n + 1) : ∃ a r, l = a :: r ∧ r.length = n := by
  cases l with
  | nil => simp at h
  | cons a r => exact ⟨a, r, rfl, by simpa using h⟩

theorem cellGrow {w w' : World} (hg : Grow w w') {b o : Nat} {v : Value} (h : w.cell? ⟨b, o, none⟩ = some v) : w'.cell? ⟨b, o, none⟩ = some v := cellIn hg.below (lt_of_cell h) h
theorem cellAlloc {w : World} {b o : Nat} {v : Value} (h : w.cell? ⟨b, o, none⟩ = some v) (c : Obj) : (w.alloc c).cell? ⟨b, o, none⟩ = some v := by
  rw [World.cell?_alloc_lt w c ⟨b, o, none⟩ (lt_of_cell h)]; exact h

/-- From offset 0 on block g holds the integers s. -/
def IntsAt (w : World) (g : Nat) (s : List Int) : Prop := ∀ j (h : j < s.length), w.cell? ⟨g, j, none⟩ = some (.int .i64 s[j])

theorem IntsAt.made (w : World) (n : Nat) (T : TypeId) : IntsAt (w.alloc (.cells (madeCells #[.int .i64 0] n) T)) w.heap.size (List.replicate n 0) := fun j hj => by
  have hj' : j < n := by simpa using hj
  rw [cell_new (v := .int .i64 0) j (by simp [madeCells, hj', Nat.mod_one])]
  simp
theorem IntsAt.set {w : World} {g : Nat} {s : List Int} (h : IntsAt w g s) {i : Nat} (hi : i < s.length) (v : Int) : IntsAt (w.setCell ⟨g, i, none⟩ (.int .i64 v)) g (s.set i v) := fun j hj => by
  have hj' : j < s.length := by simpa using hj
  by_cases e : i = j
  · subst e
    rw [World.cell?_setCell_same w ⟨g, i, none⟩ _ (h i hi)]; simp
  · rw [World.cell?_setCell_other w ⟨g, i, none⟩ ⟨g, j, none⟩ _ (by intro e2; injection e2 with _ e3; exact e e3), h j hj']
    rw [List.getElem_set_ne e]
theorem IntsAt.same {lo hi : Nat} {w w' : World} {g : Nat} {s : List Int} (h : IntsAt w g s) (hs : Same lo hi w w') (h1 : lo ≤ g) (h2 : g < hi) : IntsAt w' g s := fun j hj => hs.cell h1 h2 (h j hj)
theorem IntsAt.slr {w : World} {g lo hi : Nat} {s : List Int} {rep : World → Nat → Nat → List Value → Int → Prop} (h : IntsAt w g s) (h1 : lo ≤ g) (h2 : g < hi) (hm : s.length ≤ maxLen)
    (hr : ∀ i (h : i < s.length), rep w lo hi [.int .i64 s[i]] s[i]) : SlR 1 rep w lo hi (.slice (some ⟨g, 0, none⟩) s.length s.length) s :=
  ⟨_, _, rfl, Nat.le_refl _, hm, .inr ⟨g, 0, rfl, h1, h2, fun i hi => ⟨_, hr i hi, fun j v hj => by
    cases j with
    | zero => simp at hj; subst hj; simpa using h i hi
    | succ j => simp at hj⟩⟩⟩
end Go.Proofs.Ytbjnbhlpibadnaa

/- The plain data types, and how values read as such data. No program in sight. -/
namespace Go.Proofs.Ytbjnbhlpibadnaa
open Go.RowKit

def encInt (x : Int) : List Value := [.int .i64 x]
def repInt (_ : World) (_ _ : Nat) (cs : List Value) (x : Int) : Prop := cs = encInt x ∧ i64 x
theorem repInt_stable : Stable repInt := fun _ _ _ _ _ _ _ _ _ _ _ h => h
theorem Int.atCell {w : World} {b off lo hi : Nat} {xs : List Int} (h : Elems 1 repInt w lo hi b off xs) (i : Nat) (hi' : i < xs.length) : w.cell? ⟨b, off + i, none⟩ = some (.int .i64 xs[i]) ∧ i64 xs[i] := by
  obtain ⟨cs, ⟨rfl, hw⟩, hc⟩ := h i hi'
  have := hc 0 _ rfl
  simp only [Nat.mul_one, Nat.add_zero] at this
  exact ⟨this, hw⟩

structure Acc where
  kind : Int
  ch : Int

def wfAcc (x : Acc) : Prop := i64 (x.kind) ∧ i64 (x.ch)
def encAcc (x : Acc) : List Value := [.int .i64 x.kind, .int .i64 x.ch]
def repAcc (_ : World) (_ _ : Nat) (cs : List Value) (x : Acc) : Prop := cs = encAcc x ∧ wfAcc x
theorem repAcc_stable : Stable repAcc := fun _ _ _ _ _ _ _ _ _ _ _ h => h
theorem Acc.atCell {w : World} {b off lo hi : Nat} {xs : List Acc} (h : Elems 2 repAcc w lo hi b off xs) (i : Nat) (hi' : i < xs.length) :
    w.cell? ⟨b, off + i * 2, none⟩ = some (.int .i64 xs[i].kind) ∧ w.cell? ⟨b, off + i * 2 + 1, none⟩ = some (.int .i64 xs[i].ch) ∧ wfAcc xs[i] := by
  obtain ⟨cs, ⟨rfl, hw⟩, hc⟩ := h i hi'
  exact ⟨hc 0 _ rfl, hc 1 _ rfl, hw⟩

structure Line where
  acc : Acc
  amt : Int

def wfLine (x : Line) : Prop := i64 (x.acc.kind) ∧ i64 (x.acc.ch) ∧ i64 (x.amt)
def encLine (x : Line) : List Value := [.int .i64 x.acc.kind, .int .i64 x.acc.ch, .int .i64 x.amt]
def repLine (_ : World) (_ _ : Nat) (cs : List Value) (x : Line) : Prop := cs = encLine x ∧ wfLine x
theorem repLine_stable : Stable repLine := fun _ _ _ _ _ _ _ _ _ _ _ h => h
theorem Line.atCell {w : World} {b off lo hi : Nat} {xs : List Line} (h : Elems 3 repLine w lo hi b off xs) (i : Nat) (hi' : i < xs.length) :
    w.cell? ⟨b, off + i * 3, none⟩ = some (.int .i64 xs[i].acc.kind) ∧ w.cell? ⟨b, off + i * 3 + 1, none⟩ = some (.int .i64 xs[i].acc.ch) ∧ w.cell? ⟨b, off + i * 3 + 2, none⟩ = some (.int .i64 xs[i].amt) ∧ wfLine xs[i] := by
  obtain ⟨cs, ⟨rfl, hw⟩, hc⟩ := h i hi'
  exact ⟨hc 0 _ rfl, hc 1 _ rfl, hc 2 _ rfl, hw⟩

structure Ledger where
  last : Int
  lines : List Line

def wfLedger (x : Ledger) : Prop := i64 (x.last)
def repLedger (w : World) (lo hi : Nat) (cs : List Value) (x : Ledger) : Prop := ∃ v0 : Value, cs = [.int .i64 x.last, v0] ∧ SlR 3 repLine w lo hi v0 x.lines ∧ wfLedger x
theorem repLedger_stable : Stable repLedger := fun _ _ _ _ _ _ _ _ hs hl hh ⟨v0, e, h0, hw⟩ => ⟨v0, e, h0.stable repLine_stable hs hl hh, hw⟩

structure Chan where
  id : Int
  size : Int
  loc : Int
  remote : Int
  base : Int
  ppm : Int
  score : Int

def wfChan (x : Chan) : Prop := i64 (x.id) ∧ i64 (x.size) ∧ i64 (x.loc) ∧ i64 (x.remote) ∧ i64 (x.base) ∧ i64 (x.ppm) ∧ i64 (x.score)
def encChan (x : Chan) : List Value := [.int .i64 x.id, .int .i64 x.size, .int .i64 x.loc, .int .i64 x.remote, .int .i64 x.base, .int .i64 x.ppm, .int .i64 x.score]
def repChan (_ : World) (_ _ : Nat) (cs : List Value) (x : Chan) : Prop := cs = encChan x ∧ wfChan x
theorem repChan_stable : Stable repChan := fun _ _ _ _ _ _ _ _ _ _ _ h => h
theorem Chan.atCell {w : World} {b off lo hi : Nat} {xs : List Chan} (h : Elems 7 repChan w lo hi b off xs) (i : Nat) (hi' : i < xs.length) :
    w.cell? ⟨b, off + i * 7, none⟩ = some (.int .i64 xs[i].id) ∧ w.cell? ⟨b, off + i * 7 + 1, none⟩ = some (.int .i64 xs[i].size) ∧ w.cell? ⟨b, off + i * 7 + 2, none⟩ = some (.int .i64 xs[i].loc) ∧ w.cell? ⟨b, off + i * 7 + 3, none⟩ = some (.int .i64 xs[i].remote) ∧ w.cell? ⟨b, off + i * 7 + 4, none⟩ = some (.int .i64 xs[i].base) ∧ w.cell? ⟨b, off + i * 7 + 5, none⟩ = some (.int .i64 xs[i].ppm) ∧ w.cell? ⟨b, off + i * 7 + 6, none⟩ = some (.int .i64 xs[i].score) ∧ wfChan xs[i] := by
  obtain ⟨cs, ⟨rfl, hw⟩, hc⟩ := h i hi'
  exact ⟨hc 0 _ rfl, hc 1 _ rfl, hc 2 _ rfl, hc 3 _ rfl, hc 4 _ rfl, hc 5 _ rfl, hc 6 _ rfl, hw⟩

structure Htlc where
  key : Int
  inn : Int
  out : Int
  amtIn : Int
  amtOut : Int
  kept : Bool
  age : Int

def wfHtlc (x : Htlc) : Prop := i64 (x.key) ∧ i64 (x.inn) ∧ i64 (x.out) ∧ i64 (x.amtIn) ∧ i64 (x.amtOut) ∧ i64 (x.age)
def encHtlc (x : Htlc) : List Value := [.int .i64 x.key, .int .i64 x.inn, .int .i64 x.out, .int .i64 x.amtIn, .int .i64 x.amtOut, .bool x.kept, .int .i64 x.age]
def repHtlc (_ : World) (_ _ : Nat) (cs : List Value) (x : Htlc) : Prop := cs = encHtlc x ∧ wfHtlc x
theorem repHtlc_stable : Stable repHtlc := fun _ _ _ _ _ _ _ _ _ _ _ h => h
theorem Htlc.atCell {w : World} {b off lo hi : Nat} {xs : List Htlc} (h : Elems 7 repHtlc w lo hi b off xs) (i : Nat) (hi' : i < xs.length) :
    w.cell? ⟨b, off + i * 7, none⟩ = some (.int .i64 xs[i].key) ∧ w.cell? ⟨b, off + i * 7 + 1, none⟩ = some (.int .i64 xs[i].inn) ∧ w.cell? ⟨b, off + i * 7 + 2, none⟩ = some (.int .i64 xs[i].out) ∧ w.cell? ⟨b, off + i * 7 + 3, none⟩ = some (.int .i64 xs[i].amtIn) ∧ w.cell? ⟨b, off + i * 7 + 4, none⟩ = some (.int .i64 xs[i].amtOut) ∧ w.cell? ⟨b, off + i * 7 + 5, none⟩ = some (.bool xs[i].kept) ∧ w.cell? ⟨b, off + i * 7 + 6, none⟩ = some (.int .i64 xs[i].age) ∧ wfHtlc xs[i] := by
  obtain ⟨cs, ⟨rfl, hw⟩, hc⟩ := h i hi'
  exact ⟨hc 0 _ rfl, hc 1 _ rfl, hc 2 _ rfl, hc 3 _ rfl, hc 4 _ rfl, hc 5 _ rfl, hc 6 _ rfl, hw⟩

structure Circle where
  key : Int
  frm : Int
  to : Int
  amt : Int
  fee : Int

def wfCircle (x : Circle) : Prop := i64 (x.key) ∧ i64 (x.frm) ∧ i64 (x.to) ∧ i64 (x.amt) ∧ i64 (x.fee)
def encCircle (x : Circle) : List Value := [.int .i64 x.key, .int .i64 x.frm, .int .i64 x.to, .int .i64 x.amt, .int .i64 x.fee]
def repCircle (_ : World) (_ _ : Nat) (cs : List Value) (x : Circle) : Prop := cs = encCircle x ∧ wfCircle x
theorem repCircle_stable : Stable repCircle := fun _ _ _ _ _ _ _ _ _ _ _ h => h
theorem Circle.atCell {w : World} {b off lo hi : Nat} {xs : List Circle} (h : Elems 5 repCircle w lo hi b off xs) (i : Nat) (hi' : i < xs.length) :
    w.cell? ⟨b, off + i * 5, none⟩ = some (.int .i64 xs[i].key) ∧ w.cell? ⟨b, off + i * 5 + 1, none⟩ = some (.int .i64 xs[i].frm) ∧ w.cell? ⟨b, off + i * 5 + 2, none⟩ = some (.int .i64 xs[i].to) ∧ w.cell? ⟨b, off + i * 5 + 3, none⟩ = some (.int .i64 xs[i].amt) ∧ w.cell? ⟨b, off + i * 5 + 4, none⟩ = some (.int .i64 xs[i].fee) ∧ wfCircle xs[i] := by
  obtain ⟨cs, ⟨rfl, hw⟩, hc⟩ := h i hi'
  exact ⟨hc 0 _ rfl, hc 1 _ rfl, hc 2 _ rfl, hc 3 _ rfl, hc 4 _ rfl, hw⟩

structure Book where
  tick : Int
  next : Int
  wallet : Int
  chans : List Chan
  htlcs : List Htlc
  circles : List Circle

def wfBook (x : Book) : Prop := i64 (x.tick) ∧ i64 (x.next) ∧ i64 (x.wallet)
def repBook (w : World) (lo hi : Nat) (cs : List Value) (x : Book) : Prop := ∃ v0 v1 v2 : Value, cs = [.int .i64 x.tick, .int .i64 x.next, .int .i64 x.wallet, v0, v1, v2] ∧ SlR 7 repChan w lo hi v0 x.chans ∧ SlR 7 repHtlc w lo hi v1 x.htlcs ∧ SlR 5 repCircle w lo hi v2 x.circles ∧ wfBook x
theorem repBook_stable : Stable repBook := fun _ _ _ _ _ _ _ _ hs hl hh ⟨v0, v1, v2, e, h0, h1, h2, hw⟩ => ⟨v0, v1, v2, e, h0.stable repChan_stable hs hl hh, h1.stable repHtlc_stable hs hl hh, h2.stable repCircle_stable hs hl hh, hw⟩

structure Edge where
  frm : Int
  to : Int
  cap : Int
  cost : Int

def wfEdge (x : Edge) : Prop := i64 (x.frm) ∧ i64 (x.to) ∧ i64 (x.cap) ∧ i64 (x.cost)
def encEdge (x : Edge) : List Value := [.int .i64 x.frm, .int .i64 x.to, .int .i64 x.cap, .int .i64 x.cost]
def repEdge (_ : World) (_ _ : Nat) (cs : List Value) (x : Edge) : Prop := cs = encEdge x ∧ wfEdge x
theorem repEdge_stable : Stable repEdge := fun _ _ _ _ _ _ _ _ _ _ _ h => h
theorem Edge.atCell {w : World} {b off lo hi : Nat} {xs : List Edge} (h : Elems 4 repEdge w lo hi b off xs) (i : Nat) (hi' : i < xs.length) :
    w.cell? ⟨b, off + i * 4, none⟩ = some (.int .i64 xs[i].frm) ∧ w.cell? ⟨b, off + i * 4 + 1, none⟩ = some (.int .i64 xs[i].to) ∧ w.cell? ⟨b, off + i * 4 + 2, none⟩ = some (.int .i64 xs[i].cap) ∧ w.cell? ⟨b, off + i * 4 + 3, none⟩ = some (.int .i64 xs[i].cost) ∧ wfEdge xs[i] := by
  obtain ⟨cs, ⟨rfl, hw⟩, hc⟩ := h i hi'
  exact ⟨hc 0 _ rfl, hc 1 _ rfl, hc 2 _ rfl, hc 3 _ rfl, hw⟩

structure Graph where
  n : Int
  edges : List Edge

def wfGraph (x : Graph) : Prop := i64 (x.n)
def repGraph (w : World) (lo hi : Nat) (cs : List Value) (x : Graph) : Prop := ∃ v0 : Value, cs = [.int .i64 x.n, v0] ∧ SlR 4 repEdge w lo hi v0 x.edges ∧ wfGraph x
theorem repGraph_stable : Stable repGraph := fun _ _ _ _ _ _ _ _ hs hl hh ⟨v0, e, h0, hw⟩ => ⟨v0, e, h0.stable repEdge_stable hs hl hh, hw⟩

structure Price where
  frm : Int
  to : Int
  ppm : Int

def wfPrice (x : Price) : Prop := i64 (x.frm) ∧ i64 (x.to) ∧ i64 (x.ppm)
def encPrice (x : Price) : List Value := [.int .i64 x.frm, .int .i64 x.to, .int .i64 x.ppm]
def repPrice (_ : World) (_ _ : Nat) (cs : List Value) (x : Price) : Prop := cs = encPrice x ∧ wfPrice x
theorem repPrice_stable : Stable repPrice := fun _ _ _ _ _ _ _ _ _ _ _ h => h
theorem Price.atCell {w : World} {b off lo hi : Nat} {xs : List Price} (h : Elems 3 repPrice w lo hi b off xs) (i : Nat) (hi' : i < xs.length) :
    w.cell? ⟨b, off + i * 3, none⟩ = some (.int .i64 xs[i].frm) ∧ w.cell? ⟨b, off + i * 3 + 1, none⟩ = some (.int .i64 xs[i].to) ∧ w.cell? ⟨b, off + i * 3 + 2, none⟩ = some (.int .i64 xs[i].ppm) ∧ wfPrice xs[i] := by
  obtain ⟨cs, ⟨rfl, hw⟩, hc⟩ := h i hi'
  exact ⟨hc 0 _ rfl, hc 1 _ rfl, hc 2 _ rfl, hw⟩

structure Move where
  frm : Int
  to : Int
  amt : Int
  ppm : Int

def wfMove (x : Move) : Prop := i64 (x.frm) ∧ i64 (x.to) ∧ i64 (x.amt) ∧ i64 (x.ppm)
def encMove (x : Move) : List Value := [.int .i64 x.frm, .int .i64 x.to, .int .i64 x.amt, .int .i64 x.ppm]
def repMove (_ : World) (_ _ : Nat) (cs : List Value) (x : Move) : Prop := cs = encMove x ∧ wfMove x
theorem repMove_stable : Stable repMove := fun _ _ _ _ _ _ _ _ _ _ _ h => h
theorem Move.atCell {w : World} {b off lo hi : Nat} {xs : List Move} (h : Elems 4 repMove w lo hi b off xs) (i : Nat) (hi' : i < xs.length) :
    w.cell? ⟨b, off + i * 4, none⟩ = some (.int .i64 xs[i].frm) ∧ w.cell? ⟨b, off + i * 4 + 1, none⟩ = some (.int .i64 xs[i].to) ∧ w.cell? ⟨b, off + i * 4 + 2, none⟩ = some (.int .i64 xs[i].amt) ∧ w.cell? ⟨b, off + i * 4 + 3, none⟩ = some (.int .i64 xs[i].ppm) ∧ wfMove xs[i] := by
  obtain ⟨cs, ⟨rfl, hw⟩, hc⟩ := h i hi'
  exact ⟨hc 0 _ rfl, hc 1 _ rfl, hc 2 _ rfl, hc 3 _ rfl, hw⟩

end Go.Proofs.Ytbjnbhlpibadnaa

/- What the reader of data reads of the laws' types, as plain data. -/
namespace Go.Proofs.Ytbjnbhlpibadnaa
open Go.RowKit
set_option linter.unusedSimpArgs false
set_option linter.unusedVariables false

theorem cellsIntL : Try.prog.cellsOf 25 = 1 := by kernel_rfl
theorem cellsLineL : Try.prog.cellsOf 48 = 1 := by kernel_rfl
theorem cellsChanL : Try.prog.cellsOf 43 = 1 := by kernel_rfl
theorem cellsHtlcL : Try.prog.cellsOf 44 = 1 := by kernel_rfl
theorem cellsCircleL : Try.prog.cellsOf 45 = 1 := by kernel_rfl
theorem cellsEdgeL : Try.prog.cellsOf 22 = 1 := by kernel_rfl
theorem cellsPriceL : Try.prog.cellsOf 67 = 1 := by kernel_rfl
theorem cellsBool : Try.prog.cellsOf 4 = 1 := by kernel_rfl
theorem u8_of_wf {n : Int} (h : (Lit.int .u8 n).wf = true) : 0 ≤ n ∧ n ≤ 255 := by
  simp [Lit.wf, IntKind.min, IntKind.max, IntKind.signed, IntKind.bits] at h
  omega

theorem cellsInt : Try.prog.cellsOf 3 = 1 := by kernel_rfl
theorem trodInt {H : Type} {enc : TypeId × Value → H} {w : World} {sp : Nat → Bool} {held : Bool} {fuel : Nat} {cs : List Value} {x : DataW H × List MemPlace} (h : DataW.trod enc Try.prog w 0 sp held fuel 3 cs = some x) : ∃ y : Int, repInt w 0 w.heap.size cs y := by
  obtain ⟨n, rfl, _, hw⟩ := DataW.trod_int Try.underlying3 h
  exact ⟨n, rfl, i64_of_wf hw⟩

theorem cellsAcc : Try.prog.cellsOf 155 = 2 := by kernel_rfl
theorem trodAcc {H : Type} {enc : TypeId × Value → H} {w : World} {sp : Nat → Bool} {held : Bool} {fuel : Nat} {cs : List Value} {x : DataW H × List MemPlace} (h : DataW.trod enc Try.prog w 0 sp held fuel 155 cs = some x) : ∃ y : Acc, repAcc w 0 w.heap.size cs y := by
  obtain ⟨xs, n, _, _, hl, hxs, hf⟩ := DataW.trod_struct Try.underlying155 h
  have hl := hl.trans cellsAcc
  have hxs : xs.length = 2 := hxs
  clear h
  obtain ⟨k0, cs0, rfl, hl0⟩ := listS hl
  obtain ⟨k1, rfl⟩ := list1 hl0
  obtain ⟨y0, e0⟩ := getElem_some (show 0 < xs.length by omega)
  have f0 := hf 0 ⟨_, _, _, _, _, _, _⟩ rfl
  rw [e0] at f0
  simp only [cellsInt, List.drop_zero, List.drop_succ_cons, List.take_succ_cons, List.take_zero] at f0
  obtain ⟨b0, q0, _, w0⟩ := DataW.trod_int Try.underlying3 f0
  obtain rfl : k0 = .int .i64 b0 := by simpa using q0
  obtain ⟨y1, e1⟩ := getElem_some (show 1 < xs.length by omega)
  have f1 := hf 1 ⟨_, _, _, _, _, _, _⟩ rfl
  rw [e1] at f1
  simp only [cellsInt, List.drop_zero, List.drop_succ_cons, List.take_succ_cons, List.take_zero] at f1
  obtain ⟨b1, q1, _, w1⟩ := DataW.trod_int Try.underlying3 f1
  obtain rfl : k1 = .int .i64 b1 := by simpa using q1
  exact ⟨⟨b0, b1⟩, rfl, ⟨i64_of_wf w0, i64_of_wf w1⟩⟩

theorem cellsLine : Try.prog.cellsOf 157 = 3 := by kernel_rfl
theorem trodLine {H : Type} {enc : TypeId × Value → H} {w : World} {sp : Nat → Bool} {held : Bool} {fuel : Nat} {cs : List Value} {x : DataW H × List MemPlace} (h : DataW.trod enc Try.prog w 0 sp held fuel 157 cs = some x) : ∃ y : Line, repLine w 0 w.heap.size cs y := by
  obtain ⟨xs, n, _, _, hl, hxs, hf⟩ := DataW.trod_struct Try.underlying157 h
  have hl := hl.trans cellsLine
  have hxs : xs.length = 2 := hxs
  clear h
  obtain ⟨k0, cs0, rfl, hl0⟩ := listS hl
  obtain ⟨k1, cs1, rfl, hl1⟩ := listS hl0
  obtain ⟨k2, rfl⟩ := list1 hl1
  obtain ⟨y0, e0⟩ := getElem_some (show 0 < xs.length by omega)
  have f0 := hf 0 ⟨_, _, _, _, _, _, _⟩ rfl
  rw [e0] at f0
  simp only [cellsAcc, List.drop_zero, List.drop_succ_cons, List.take_succ_cons, List.take_zero] at f0
  obtain ⟨b0, q0, w0⟩ := trodAcc f0
  simp only [encAcc, List.cons.injEq, and_true] at q0
  obtain ⟨rfl, rfl⟩ := q0
  obtain ⟨y1, e1⟩ := getElem_some (show 1 < xs.length by omega)
  have f1 := hf 1 ⟨_, _, _, _, _, _, _⟩ rfl
  rw [e1] at f1
  simp only [cellsInt, List.drop_zero, List.drop_succ_cons, List.take_succ_cons, List.take_zero] at f1
  obtain ⟨b1, q1, _, w1⟩ := DataW.trod_int Try.underlying3 f1
  obtain rfl : k2 = .int .i64 b1 := by simpa using q1
  exact ⟨⟨b0, b1⟩, rfl, ⟨w0.1, w0.2, i64_of_wf w1⟩⟩

theorem cellsLedger : Try.prog.cellsOf 50 = 2 := by kernel_rfl
theorem trodLedger {H : Type} {enc : TypeId × Value → H} {w : World} {sp : Nat → Bool} {held : Bool} {fuel : Nat} {cs : List Value} {x : DataW H × List MemPlace} (h : DataW.trod enc Try.prog w 0 sp held fuel 50 cs = some x) : ∃ y : Ledger, repLedger w 0 w.heap.size cs y := by
  obtain ⟨xs, n, _, _, hl, hxs, hf⟩ := DataW.trod_struct Try.underlying50 h
  have hl := hl.trans cellsLedger
  have hxs : xs.length = 2 := hxs
  clear h
  obtain ⟨k0, cs0, rfl, hl0⟩ := listS hl
  obtain ⟨k1, rfl⟩ := list1 hl0
  obtain ⟨y0, e0⟩ := getElem_some (show 0 < xs.length by omega)
  have f0 := hf 0 ⟨_, _, _, _, _, _, _⟩ rfl
  rw [e0] at f0
  simp only [cellsInt, List.drop_zero, List.drop_succ_cons, List.take_succ_cons, List.take_zero] at f0
  obtain ⟨b0, q0, _, w0⟩ := DataW.trod_int Try.underlying3 f0
  obtain rfl : k0 = .int .i64 b0 := by simpa using q0
  obtain ⟨y1, e1⟩ := getElem_some (show 1 < xs.length by omega)
  have f1 := hf 1 ⟨_, _, _, _, _, _, _⟩ rfl
  rw [e1] at f1
  simp only [cellsLineL, List.drop_zero, List.drop_succ_cons, List.take_succ_cons, List.take_zero] at f1
  obtain ⟨b1, r1⟩ := SlR.of_trod (rep := repLine) Try.underlying48 cellsLine (by decide) (fun _ _ _ h => trodLine h) f1
  exact ⟨⟨b0, b1⟩, k1, rfl, r1, i64_of_wf w0⟩

theorem cellsChan : Try.prog.cellsOf 149 = 7 := by kernel_rfl
theorem trodChan {H : Type} {enc : TypeId × Value → H} {w : World} {sp : Nat → Bool} {held : Bool} {fuel : Nat} {cs : List Value} {x : DataW H × List MemPlace} (h : DataW.trod enc Try.prog w 0 sp held fuel 149 cs = some x) : ∃ y : Chan, repChan w 0 w.heap.size cs y := by
  obtain ⟨xs, n, _, _, hl, hxs, hf⟩ := DataW.trod_struct Try.underlying149 h
  have hl := hl.trans cellsChan
  have hxs : xs.length = 7 := hxs
  clear h
  obtain ⟨k0, cs0, rfl, hl0⟩ := listS hl
  obtain ⟨k1, cs1, rfl, hl1⟩ := listS hl0
  obtain ⟨k2, cs2, rfl, hl2⟩ := listS hl1
  obtain ⟨k3, cs3, rfl, hl3⟩ := listS hl2
  obtain ⟨k4, cs4, rfl, hl4⟩ := listS hl3
  obtain ⟨k5, cs5, rfl, hl5⟩ := listS hl4
  obtain ⟨k6, rfl⟩ := list1 hl5
  obtain ⟨y0, e0⟩ := getElem_some (show 0 < xs.length by omega)
  have f0 := hf 0 ⟨_, _, _, _, _, _, _⟩ rfl
  rw [e0] at f0
  simp only [cellsInt, List.drop_zero, List.drop_succ_cons, List.take_succ_cons, List.take_zero] at f0
  obtain ⟨b0, q0, _, w0⟩ := DataW.trod_int Try.underlying3 f0
  obtain rfl : k0 = .int .i64 b0 := by simpa using q0
  obtain ⟨y1, e1⟩ := getElem_some (show 1 < xs.length by omega)
  have f1 := hf 1 ⟨_, _, _, _, _, _, _⟩ rfl
  rw [e1] at f1
  simp only [cellsInt, List.drop_zero, List.drop_succ_cons, List.take_succ_cons, List.take_zero] at f1
  obtain ⟨b1, q1, _, w1⟩ := DataW.trod_int Try.underlying3 f1
  obtain rfl : k1 = .int .i64 b1 := by simpa using q1
  obtain ⟨y2, e2⟩ := getElem_some (show 2 < xs.length by omega)
  have f2 := hf 2 ⟨_, _, _, _, _, _, _⟩ rfl
  rw [e2] at f2
  simp only [cellsInt, List.drop_zero, List.drop_succ_cons, List.take_succ_cons, List.take_zero] at f2
  obtain ⟨b2, q2, _, w2⟩ := DataW.trod_int Try.underlying3 f2
  obtain rfl : k2 = .int .i64 b2 := by simpa using q2
  obtain ⟨y3, e3⟩ := getElem_some (show 3 < xs.length by omega)
  have f3 := hf 3 ⟨_, _, _, _, _, _, _⟩ rfl
  rw [e3] at f3
  simp only [cellsInt, List.drop_zero, List.drop_succ_cons, List.take_succ_cons, List.take_zero] at f3
  obtain ⟨b3, q3, _, w3⟩ := DataW.trod_int Try.underlying3 f3
  obtain rfl : k3 = .int .i64 b3 := by simpa using q3
  obtain ⟨y4, e4⟩ := getElem_some (show 4 < xs.length by omega)
  have f4 := hf 4 ⟨_, _, _, _, _, _, _⟩ rfl
  rw [e4] at f4
  simp only [cellsInt, List.drop_zero, List.drop_succ_cons, List.take_succ_cons, List.take_zero] at f4
  obtain ⟨b4, q4, _, w4⟩ := DataW.trod_int Try.underlying3 f4
  obtain rfl : k4 = .int .i64 b4 := by simpa using q4
  obtain ⟨y5, e5⟩ := getElem_some (show 5 < xs.length by omega)
  have f5 := hf 5 ⟨_, _, _, _, _, _, _⟩ rfl
  rw [e5] at f5
  simp only [cellsInt, List.drop_zero, List.drop_succ_cons, List.take_succ_cons, List.take_zero] at f5
  obtain ⟨b5, q5, _, w5⟩ := DataW.trod_int Try.underlying3 f5
  obtain rfl : k5 = .int .i64 b5 := by simpa using q5
  obtain ⟨y6, e6⟩ := getElem_some (show 6 < xs.length by omega)
  have f6 := hf 6 ⟨_, _, _, _, _, _, _⟩ rfl
  rw [e6] at f6
  simp only [cellsInt, List.drop_zero, List.drop_succ_cons, List.take_succ_cons, List.take_zero] at f6
  obtain ⟨b6, q6, _, w6⟩ := DataW.trod_int Try.underlying3 f6
  obtain rfl : k6 = .int .i64 b6 := by simpa using q6
  exact ⟨⟨b0, b1, b2, b3, b4, b5, b6⟩, rfl, ⟨i64_of_wf w0, i64_of_wf w1, i64_of_wf w2, i64_of_wf w3, i64_of_wf w4, i64_of_wf w5, i64_of_wf w6⟩⟩

theorem cellsHtlc : Try.prog.cellsOf 151 = 7 := by kernel_rfl
theorem trodHtlc {H : Type} {enc : TypeId × Value → H} {w : World} {sp : Nat → Bool} {held : Bool} {fuel : Nat} {cs : List Value} {x : DataW H × List MemPlace} (h : DataW.trod enc Try.prog w 0 sp held fuel 151 cs = some x) : ∃ y : Htlc, repHtlc w 0 w.heap.size cs y := by
  obtain ⟨xs, n, _, _, hl, hxs, hf⟩ := DataW.trod_struct Try.underlying151 h
  have hl := hl.trans cellsHtlc
  have hxs : xs.length = 7 := hxs
  clear h
  obtain ⟨k0, cs0, rfl, hl0⟩ := listS hl
  obtain ⟨k1, cs1, rfl, hl1⟩ := listS hl0
  obtain ⟨k2, cs2, rfl, hl2⟩ := listS hl1
  obtain ⟨k3, cs3, rfl, hl3⟩ := listS hl2
  obtain ⟨k4, cs4, rfl, hl4⟩ := listS hl3
  obtain ⟨k5, cs5, rfl, hl5⟩ := listS hl4
  obtain ⟨k6, rfl⟩ := list1 hl5
  obtain ⟨y0, e0⟩ := getElem_some (show 0 < xs.length by omega)
  have f0 := hf 0 ⟨_, _, _, _, _, _, _⟩ rfl
  rw [e0] at f0
  simp only [cellsInt, List.drop_zero, List.drop_succ_cons, List.take_succ_cons, List.take_zero] at f0
  obtain ⟨b0, q0, _, w0⟩ := DataW.trod_int Try.underlying3 f0
  obtain rfl : k0 = .int .i64 b0 := by simpa using q0
  obtain ⟨y1, e1⟩ := getElem_some (show 1 < xs.length by omega)
  have f1 := hf 1 ⟨_, _, _, _, _, _, _⟩ rfl
  rw [e1] at f1
  simp only [cellsInt, List.drop_zero, List.drop_succ_cons, List.take_succ_cons, List.take_zero] at f1
  obtain ⟨b1, q1, _, w1⟩ := DataW.trod_int Try.underlying3 f1
  obtain rfl : k1 = .int .i64 b1 := by simpa using q1
  obtain ⟨y2, e2⟩ := getElem_some (show 2 < xs.length by omega)
  have f2 := hf 2 ⟨_, _, _, _, _, _, _⟩ rfl
  rw [e2] at f2
  simp only [cellsInt, List.drop_zero, List.drop_succ_cons, List.take_succ_cons, List.take_zero] at f2
  obtain ⟨b2, q2, _, w2⟩ := DataW.trod_int Try.underlying3 f2
  obtain rfl : k2 = .int .i64 b2 := by simpa using q2
  obtain ⟨y3, e3⟩ := getElem_some (show 3 < xs.length by omega)
  have f3 := hf 3 ⟨_, _, _, _, _, _, _⟩ rfl
  rw [e3] at f3
  simp only [cellsInt, List.drop_zero, List.drop_succ_cons, List.take_succ_cons, List.take_zero] at f3
  obtain ⟨b3, q3, _, w3⟩ := DataW.trod_int Try.underlying3 f3
  obtain rfl : k3 = .int .i64 b3 := by simpa using q3
  obtain ⟨y4, e4⟩ := getElem_some (show 4 < xs.length by omega)
  have f4 := hf 4 ⟨_, _, _, _, _, _, _⟩ rfl
  rw [e4] at f4
  simp only [cellsInt, List.drop_zero, List.drop_succ_cons, List.take_succ_cons, List.take_zero] at f4
  obtain ⟨b4, q4, _, w4⟩ := DataW.trod_int Try.underlying3 f4
  obtain rfl : k4 = .int .i64 b4 := by simpa using q4
  obtain ⟨y5, e5⟩ := getElem_some (show 5 < xs.length by omega)
  have f5 := hf 5 ⟨_, _, _, _, _, _, _⟩ rfl
  rw [e5] at f5
  simp only [cellsBool, List.drop_zero, List.drop_succ_cons, List.take_succ_cons, List.take_zero] at f5
  obtain ⟨b5, q5, _⟩ := DataW.trod_bool Try.underlying4 f5
  obtain rfl : k5 = .bool b5 := by simpa using q5
  obtain ⟨y6, e6⟩ := getElem_some (show 6 < xs.length by omega)
  have f6 := hf 6 ⟨_, _, _, _, _, _, _⟩ rfl
  rw [e6] at f6
  simp only [cellsInt, List.drop_zero, List.drop_succ_cons, List.take_succ_cons, List.take_zero] at f6
  obtain ⟨b6, q6, _, w6⟩ := DataW.trod_int Try.underlying3 f6
  obtain rfl : k6 = .int .i64 b6 := by simpa using q6
  exact ⟨⟨b0, b1, b2, b3, b4, b5, b6⟩, rfl, ⟨i64_of_wf w0, i64_of_wf w1, i64_of_wf w2, i64_of_wf w3, i64_of_wf w4, i64_of_wf w6⟩⟩

theorem cellsCircle : Try.prog.cellsOf 153 = 5 := by kernel_rfl
theorem trodCircle {H : Type} {enc : TypeId × Value → H} {w : World} {sp : Nat → Bool} {held : Bool} {fuel : Nat} {cs : List Value} {x : DataW H × List MemPlace} (h : DataW.trod enc Try.prog w 0 sp held fuel 153 cs = some x) : ∃ y : Circle, repCircle w 0 w.heap.size cs y := by
  obtain ⟨xs, n, _, _, hl, hxs, hf⟩ := DataW.trod_struct Try.underlying153 h
  have hl := hl.trans cellsCircle
  have hxs : xs.length = 5 := hxs
  clear h
  obtain ⟨k0, cs0, rfl, hl0⟩ := listS hl
  obtain ⟨k1, cs1, rfl, hl1⟩ := listS hl0
  obtain ⟨k2, cs2, rfl, hl2⟩ := listS hl1
  obtain ⟨k3, cs3, rfl, hl3⟩ := listS hl2
  obtain ⟨k4, rfl⟩ := list1 hl3
  obtain ⟨y0, e0⟩ := getElem_some (show 0 < xs.length by omega)
  have f0 := hf 0 ⟨_, _, _, _, _, _, _⟩ rfl
  rw [e0] at f0
  simp only [cellsInt, List.drop_zero, List.drop_succ_cons, List.take_succ_cons, List.take_zero] at f0
  obtain ⟨b0, q0, _, w0⟩ := DataW.trod_int Try.underlying3 f0
  obtain rfl : k0 = .int .i64 b0 := by simpa using q0
  obtain ⟨y1, e1⟩ := getElem_some (show 1 < xs.length by omega)
  have f1 := hf 1 ⟨_, _, _, _, _, _, _⟩ rfl
  rw [e1] at f1
  simp only [cellsInt, List.drop_zero, List.drop_succ_cons, List.take_succ_cons, List.take_zero] at f1
  obtain ⟨b1, q1, _, w1⟩ := DataW.trod_int Try.underlying3 f1
  obtain rfl : k1 = .int .i64 b1 := by simpa using q1
  obtain ⟨y2, e2⟩ := getElem_some (show 2 < xs.length by omega)
  have f2 := hf 2 ⟨_, _, _, _, _, _, _⟩ rfl
  rw [e2] at f2
  simp only [cellsInt, List.drop_zero, List.drop_succ_cons, List.take_succ_cons, List.take_zero] at f2
  obtain ⟨b2, q2, _, w2⟩ := DataW.trod_int Try.underlying3 f2
  obtain rfl : k2 = .int .i64 b2 := by simpa using q2
  obtain ⟨y3, e3⟩ := getElem_some (show 3 < xs.length by omega)
  have f3 := hf 3 ⟨_, _, _, _, _, _, _⟩ rfl
  rw [e3] at f3
  simp only [cellsInt, List.drop_zero, List.drop_succ_cons, List.take_succ_cons, List.take_zero] at f3
  obtain ⟨b3, q3, _, w3⟩ := DataW.trod_int Try.underlying3 f3
  obtain rfl : k3 = .int .i64 b3 := by simpa using q3
  obtain ⟨y4, e4⟩ := getElem_some (show 4 < xs.length by omega)
  have f4 := hf 4 ⟨_, _, _, _, _, _, _⟩ rfl
  rw [e4] at f4
  simp only [cellsInt, List.drop_zero, List.drop_succ_cons, List.take_succ_cons, List.take_zero] at f4
  obtain ⟨b4, q4, _, w4⟩ := DataW.trod_int Try.underlying3 f4
  obtain rfl : k4 = .int .i64 b4 := by simpa using q4
  exact ⟨⟨b0, b1, b2, b3, b4⟩, rfl, ⟨i64_of_wf w0, i64_of_wf w1, i64_of_wf w2, i64_of_wf w3, i64_of_wf w4⟩⟩

theorem cellsBook : Try.prog.cellsOf 47 = 6 := by kernel_rfl
theorem trodBook {H : Type} {enc : TypeId × Value → H} {w : World} {sp : Nat → Bool} {held : Bool} {fuel : Nat} {cs : List Value} {x : DataW H × List MemPlace} (h : DataW.trod enc Try.prog w 0 sp held fuel 47 cs = some x) : ∃ y : Book, repBook w 0 w.heap.size cs y := by
  obtain ⟨xs, n, _, _, hl, hxs, hf⟩ := DataW.trod_struct Try.underlying47 h
  have hl := hl.trans cellsBook
  have hxs : xs.length = 6 := hxs
  clear h
  obtain ⟨k0, cs0, rfl, hl0⟩ := listS hl
  obtain ⟨k1, cs1, rfl, hl1⟩ := listS hl0
  obtain ⟨k2, cs2, rfl, hl2⟩ := listS hl1
  obtain ⟨k3, cs3, rfl, hl3⟩ := listS hl2
  obtain ⟨k4, cs4, rfl, hl4⟩ := listS hl3
  obtain ⟨k5, rfl⟩ := list1 hl4
  obtain ⟨y0, e0⟩ := getElem_some (show 0 < xs.length by omega)
  have f0 := hf 0 ⟨_, _, _, _, _, _, _⟩ rfl
  rw [e0] at f0
  simp only [cellsInt, List.drop_zero, List.drop_succ_cons, List.take_succ_cons, List.take_zero] at f0
  obtain ⟨b0, q0, _, w0⟩ := DataW.trod_int Try.underlying3 f0
  obtain rfl : k0 = .int .i64 b0 := by simpa using q0
  obtain ⟨y1, e1⟩ := getElem_some (show 1 < xs.length by omega)
  have f1 := hf 1 ⟨_, _, _, _, _, _, _⟩ rfl
  rw [e1] at f1
  simp only [cellsInt, List.drop_zero, List.drop_succ_cons, List.take_succ_cons, List.take_zero] at f1
  obtain ⟨b1, q1, _, w1⟩ := DataW.trod_int Try.underlying3 f1
  obtain rfl : k1 = .int .i64 b1 := by simpa using q1
  obtain ⟨y2, e2⟩ := getElem_some (show 2 < xs.length by omega)
  have f2 := hf 2 ⟨_, _, _, _, _, _, _⟩ rfl
  rw [e2] at f2
  simp only [cellsInt, List.drop_zero, List.drop_succ_cons, List.take_succ_cons, List.take_zero] at f2
  obtain ⟨b2, q2, _, w2⟩ := DataW.trod_int Try.underlying3 f2
  obtain rfl : k2 = .int .i64 b2 := by simpa using q2
  obtain ⟨y3, e3⟩ := getElem_some (show 3 < xs.length by omega)
  have f3 := hf 3 ⟨_, _, _, _, _, _, _⟩ rfl
  rw [e3] at f3
  simp only [cellsChanL, List.drop_zero, List.drop_succ_cons, List.take_succ_cons, List.take_zero] at f3
  obtain ⟨b3, r3⟩ := SlR.of_trod (rep := repChan) Try.underlying43 cellsChan (by decide) (fun _ _ _ h => trodChan h) f3
  obtain ⟨y4, e4⟩ := getElem_some (show 4 < xs.length by omega)
  have f4 := hf 4 ⟨_, _, _, _, _, _, _⟩ rfl
  rw [e4] at f4
  simp only [cellsHtlcL, List.drop_zero, List.drop_succ_cons, List.take_succ_cons, List.take_zero] at f4
  obtain ⟨b4, r4⟩ := SlR.of_trod (rep := repHtlc) Try.underlying44 cellsHtlc (by decide) (fun _ _ _ h => trodHtlc h) f4
  obtain ⟨y5, e5⟩ := getElem_some (show 5 < xs.length by omega)
  have f5 := hf 5 ⟨_, _, _, _, _, _, _⟩ rfl
  rw [e5] at f5
  simp only [cellsCircleL, List.drop_zero, List.drop_succ_cons, List.take_succ_cons, List.take_zero] at f5
  obtain ⟨b5, r5⟩ := SlR.of_trod (rep := repCircle) Try.underlying45 cellsCircle (by decide) (fun _ _ _ h => trodCircle h) f5
  exact ⟨⟨b0, b1, b2, b3, b4, b5⟩, k3, k4, k5, rfl, r3, r4, r5, ⟨i64_of_wf w0, i64_of_wf w1, i64_of_wf w2⟩⟩

theorem cellsEdge : Try.prog.cellsOf 137 = 4 := by kernel_rfl
theorem trodEdge {H : Type} {enc : TypeId × Value → H} {w : World} {sp : Nat → Bool} {held : Bool} {fuel : Nat} {cs : List Value} {x : DataW H × List MemPlace} (h : DataW.trod enc Try.prog w 0 sp held fuel 137 cs = some x) : ∃ y : Edge, repEdge w 0 w.heap.size cs y := by
  obtain ⟨xs, n, _, _, hl, hxs, hf⟩ := DataW.trod_struct Try.underlying137 h
  have hl := hl.trans cellsEdge
  have hxs : xs.length = 4 := hxs
  clear h
  obtain ⟨k0, cs0, rfl, hl0⟩ := listS hl
  obtain ⟨k1, cs1, rfl, hl1⟩ := listS hl0
  obtain ⟨k2, cs2, rfl, hl2⟩ := listS hl1
  obtain ⟨k3, rfl⟩ := list1 hl2
  obtain ⟨y0, e0⟩ := getElem_some (show 0 < xs.length by omega)
  have f0 := hf 0 ⟨_, _, _, _, _, _, _⟩ rfl
  rw [e0] at f0
  simp only [cellsInt, List.drop_zero, List.drop_succ_cons, List.take_succ_cons, List.take_zero] at f0
  obtain ⟨b0, q0, _, w0⟩ := DataW.trod_int Try.underlying3 f0
  obtain rfl : k0 = .int .i64 b0 := by simpa using q0
  obtain ⟨y1, e1⟩ := getElem_some (show 1 < xs.length by omega)
  have f1 := hf 1 ⟨_, _, _, _, _, _, _⟩ rfl
  rw [e1] at f1
  simp only [cellsInt, List.drop_zero, List.drop_succ_cons, List.take_succ_cons, List.take_zero] at f1
  obtain ⟨b1, q1, _, w1⟩ := DataW.trod_int Try.underlying3 f1
  obtain rfl : k1 = .int .i64 b1 := by simpa using q1
  obtain ⟨y2, e2⟩ := getElem_some (show 2 < xs.length by omega)
  have f2 := hf 2 ⟨_, _, _, _, _, _, _⟩ rfl
  rw [e2] at f2
  simp only [cellsInt, List.drop_zero, List.drop_succ_cons, List.take_succ_cons, List.take_zero] at f2
  obtain ⟨b2, q2, _, w2⟩ := DataW.trod_int Try.underlying3 f2
  obtain rfl : k2 = .int .i64 b2 := by simpa using q2
  obtain ⟨y3, e3⟩ := getElem_some (show 3 < xs.length by omega)
  have f3 := hf 3 ⟨_, _, _, _, _, _, _⟩ rfl
  rw [e3] at f3
  simp only [cellsInt, List.drop_zero, List.drop_succ_cons, List.take_succ_cons, List.take_zero] at f3
  obtain ⟨b3, q3, _, w3⟩ := DataW.trod_int Try.underlying3 f3
  obtain rfl : k3 = .int .i64 b3 := by simpa using q3
  exact ⟨⟨b0, b1, b2, b3⟩, rfl, ⟨i64_of_wf w0, i64_of_wf w1, i64_of_wf w2, i64_of_wf w3⟩⟩

theorem cellsGraph : Try.prog.cellsOf 24 = 2 := by kernel_rfl
theorem trodGraph {H : Type} {enc : TypeId × Value → H} {w : World} {sp : Nat → Bool} {held : Bool} {fuel : Nat} {cs : List Value} {x : DataW H × List MemPlace} (h : DataW.trod enc Try.prog w 0 sp held fuel 24 cs = some x) : ∃ y : Graph, repGraph w 0 w.heap.size cs y := by
  obtain ⟨xs, n, _, _, hl, hxs, hf⟩ := DataW.trod_struct Try.underlying24 h
  have hl := hl.trans cellsGraph
  have hxs : xs.length = 2 := hxs
  clear h
  obtain ⟨k0, cs0, rfl, hl0⟩ := listS hl
  obtain ⟨k1, rfl⟩ := list1 hl0
  obtain ⟨y0, e0⟩ := getElem_some (show 0 < xs.length by omega)
  have f0 := hf 0 ⟨_, _, _, _, _, _, _⟩ rfl
  rw [e0] at f0
  simp only [cellsInt, List.drop_zero, List.drop_succ_cons, List.take_succ_cons, List.take_zero] at f0
  obtain ⟨b0, q0, _, w0⟩ := DataW.trod_int Try.underlying3 f0
  obtain rfl : k0 = .int .i64 b0 := by simpa using q0
  obtain ⟨y1, e1⟩ := getElem_some (show 1 < xs.length by omega)
  have f1 := hf 1 ⟨_, _, _, _, _, _, _⟩ rfl
  rw [e1] at f1
  simp only [cellsEdgeL, List.drop_zero, List.drop_succ_cons, List.take_succ_cons, List.take_zero] at f1
  obtain ⟨b1, r1⟩ := SlR.of_trod (rep := repEdge) Try.underlying22 cellsEdge (by decide) (fun _ _ _ h => trodEdge h) f1
  exact ⟨⟨b0, b1⟩, k1, rfl, r1, i64_of_wf w0⟩

theorem cellsPrice : Try.prog.cellsOf 127 = 3 := by kernel_rfl
theorem trodPrice {H : Type} {enc : TypeId × Value → H} {w : World} {sp : Nat → Bool} {held : Bool} {fuel : Nat} {cs : List Value} {x : DataW H × List MemPlace} (h : DataW.trod enc Try.prog w 0 sp held fuel 127 cs = some x) : ∃ y : Price, repPrice w 0 w.heap.size cs y := by
  obtain ⟨xs, n, _, _, hl, hxs, hf⟩ := DataW.trod_struct Try.underlying127 h
  have hl := hl.trans cellsPrice
  have hxs : xs.length = 3 := hxs
  clear h
  obtain ⟨k0, cs0, rfl, hl0⟩ := listS hl
  obtain ⟨k1, cs1, rfl, hl1⟩ := listS hl0
  obtain ⟨k2, rfl⟩ := list1 hl1
  obtain ⟨y0, e0⟩ := getElem_some (show 0 < xs.length by omega)
  have f0 := hf 0 ⟨_, _, _, _, _, _, _⟩ rfl
  rw [e0] at f0
  simp only [cellsInt, List.drop_zero, List.drop_succ_cons, List.take_succ_cons, List.take_zero] at f0
  obtain ⟨b0, q0, _, w0⟩ := DataW.trod_int Try.underlying3 f0
  obtain rfl : k0 = .int .i64 b0 := by simpa using q0
  obtain ⟨y1, e1⟩ := getElem_some (show 1 < xs.length by omega)
  have f1 := hf 1 ⟨_, _, _, _, _, _, _⟩ rfl
  rw [e1] at f1
  simp only [cellsInt, List.drop_zero, List.drop_succ_cons, List.take_succ_cons, List.take_zero] at f1
  obtain ⟨b1, q1, _, w1⟩ := DataW.trod_int Try.underlying3 f1
  obtain rfl : k1 = .int .i64 b1 := by simpa using q1
  obtain ⟨y2, e2⟩ := getElem_some (show 2 < xs.length by omega)
  have f2 := hf 2 ⟨_, _, _, _, _, _, _⟩ rfl
  rw [e2] at f2
  simp only [cellsInt, List.drop_zero, List.drop_succ_cons, List.take_succ_cons, List.take_zero] at f2
  obtain ⟨b2, q2, _, w2⟩ := DataW.trod_int Try.underlying3 f2
  obtain rfl : k2 = .int .i64 b2 := by simpa using q2
  exact ⟨⟨b0, b1, b2⟩, rfl, ⟨i64_of_wf w0, i64_of_wf w1, i64_of_wf w2⟩⟩

end Go.Proofs.Ytbjnbhlpibadnaa

/- Support over the types: one element of a slice, as the walk wants it. -/
namespace Go.Proofs.Ytbjnbhlpibadnaa
open Go.RowKit
theorem SlR.elems {α : Type} {sz : Nat} {rep : World → Nat → Nat → List Value → α → Prop} {w : World} {lo hi n c : Nat} {a : Option Addr} {xs : List α} (h : SlR sz rep w lo hi (.slice a n c) xs) (k : Nat) (hk : k < xs.length) :
    ∃ b off, a = some ⟨b, off, none⟩ ∧ lo ≤ b ∧ b < hi ∧ Elems sz rep w lo hi b off xs := by
  obtain ⟨a_, c_, heq, _, _, h⟩ := h
  injection heq with q1 q2 q3
  subst q1
  rcases h with h0 | h
  · rw [h0] at hk; exact absurd hk (by simp)
  · exact h
theorem elem_int {w : World} {lo hi n c : Nat} {a : Option Addr} {xs : List Int} (h : SlR 1 repInt w lo hi (.slice a n c) xs) (k : Nat) (hk : k < xs.length) :
    ∃ b off, w.cell? ⟨b, off + k, none⟩ = some (.int .i64 xs[k]) ∧ a = some ⟨b, off, none⟩ ∧ b < hi := by
  obtain ⟨b, off, ha, _, h2, he⟩ := h.elems k hk
  exact ⟨b, off, (Int.atCell he k hk).1, ha, h2⟩
theorem elem_edge {w : World} {lo hi n c : Nat} {a : Option Addr} {xs : List Edge} (h : SlR 4 repEdge w lo hi (.slice a n c) xs) (k : Nat) (hk : k < xs.length) :
    ∃ b off, w.cell? ⟨b, off + k * 4, none⟩ = some (.int .i64 xs[k].frm) ∧ w.cell? ⟨b, off + k * 4 + 1, none⟩ = some (.int .i64 xs[k].to) ∧
      w.cell? ⟨b, off + k * 4 + 2, none⟩ = some (.int .i64 xs[k].cap) ∧ w.cell? ⟨b, off + k * 4 + 3, none⟩ = some (.int .i64 xs[k].cost) ∧ a = some ⟨b, off, none⟩ ∧ b < hi := by
  obtain ⟨b, off, ha, _, h2, he⟩ := h.elems k hk
  obtain ⟨e0, e1, e2, e3, _⟩ := Edge.atCell he k hk
  exact ⟨b, off, e0, e1, e2, e3, ha, h2⟩
theorem cellSet {w : World} {b o : Nat} {v : Value} (h : w.cell? ⟨b, o, none⟩ = some v) {p : Addr} {u : Value} (hp : p.block ≠ b) : (w.setCell p u).cell? ⟨b, o, none⟩ = some v := by
  rw [World.cell?_setCell_other w p ⟨b, o, none⟩ u (by intro e; subst e; exact hp rfl)]; exact h
theorem cell_newAt {w : World} {c : Array Value} {T : TypeId} {n : Nat} (hn : n = w.heap.size) (o : Nat) {v : Value} (h : c[o]? = some v) : (w.alloc (.cells c T)).cell? ⟨n, o, none⟩ = some v := by
  subst hn; exact cell_new o h
end Go.Proofs.Ytbjnbhlpibadnaa

/- Rows that a call owns and appends to, and marks put into a region. No program in sight. -/
namespace Go.Proofs.Ytbjnbhlpibadnaa
open Go.RowKit

/-- w' is w but for the blocks from lo on, below hi, and new blocks, none of them shared with a string. -/
structure Put (lo hi : Nat) (w w' : World) : Prop where
  os : w'.os = w.os
  tape : w'.tape = w.tape
  output : w'.output = w.output
  size : w.heap.size ≤ w'.heap.size
  block : ∀ k, k < w.heap.size → (k < lo ∨ hi ≤ k) → w'.heap[k]? = w.heap[k]?
  nf : NF w.heap.size w'.heap.size w'
  frz : ∀ b o, b < w.heap.size → w'.frozen? ⟨b, o, none⟩ = w.frozen? ⟨b, o, none⟩

theorem Put.refl (lo hi : Nat) (w : World) : Put lo hi w w := ⟨rfl, rfl, rfl, Nat.le_refl _, fun _ _ _ => rfl, fun _ _ h1 h2 => absurd h2 (by omega), fun _ _ _ => rfl⟩
theorem Put.trans {lo hi : Nat} {a b c : World} (h : Put lo hi a b) (k : Put lo hi b c) : Put lo hi a c :=
  ⟨k.os.trans h.os, k.tape.trans h.tape, k.output.trans h.output, Nat.le_trans h.size k.size,
    fun i h1 h2 => (k.block i (Nat.lt_of_lt_of_le h1 h.size) h2).trans (h.block i h1 h2), fun x o h1 h2 => by
    by_cases hx : x < b.heap.size
    · rw [k.frz x o hx]; exact h.nf x o h1 hx
    · exact k.nf x o (by omega) h2, fun x o h1 => (k.frz x o (Nat.lt_of_lt_of_le h1 h.size)).trans (h.frz x o h1)⟩
theorem Put.wide {lo hi lo' hi' : Nat} {a b : World} (h : Put lo hi a b) (h1 : lo' ≤ lo) (h2 : hi ≤ hi') : Put lo' hi' a b :=
  ⟨h.os, h.tape, h.output, h.size, fun k k1 k2 => h.block k k1 (by omega), h.nf, h.frz⟩
theorem Put.setCell {lo hi : Nat} {a w : World} (h : Put lo hi a w) {p : Addr} (hp : lo ≤ p.block ∧ p.block < hi) (u : Value) : Put lo hi a (w.setCell p u) :=
  ⟨h.os, h.tape, h.output, by rw [World.size_setCell]; exact h.size, fun k h1 h2 => by
    rw [Below.heap_setCell _ _ _ _ (by omega)]; exact h.block k h1 h2, fun x o' h1 h2 => by
    rw [World.frozen?_setCell]; exact h.nf x o' h1 (by simpa [World.setCell] using h2), fun b o' hb => by rw [World.frozen?_setCell]; exact h.frz b o' hb⟩
theorem Put.drew {lo hi : Nat} {a w : World} (h : Put lo hi a w) : Put lo hi a w.drew := ⟨h.os, h.tape, h.output, h.size, h.block, h.nf, h.frz⟩
theorem Put.drewN {lo hi : Nat} {a w : World} (h : Put lo hi a w) (n : Nat) : Put lo hi a (w.drewN n) := ⟨h.os, h.tape, h.output, h.size, h.block, h.nf, h.frz⟩
theorem Put.grow {lo hi : Nat} {a w : World} (h : Grow a w) : Put lo hi a w :=
  ⟨h.below.os, h.below.tape, h.below.output, h.below.size, fun k h1 _ => h.below.block k h1, h.nf, fun b o hb => h.below.frozen (p := ⟨b, o, none⟩) hb⟩
theorem Put.alloc {lo hi : Nat} {a w : World} (h : Put lo hi a w) (c : Array Value) (T : TypeId) : Put lo hi a (w.alloc (.cells c T)) := h.trans (Put.grow ((Grow.refl w).alloc c T))
theorem Grow.put {lo hi : Nat} {a w w' : World} (h : Grow a w) (k : Put lo hi w w') (hl : a.heap.size ≤ lo) : Grow a w' :=
  ⟨⟨k.os.trans h.below.os, k.tape.trans h.below.tape, k.output.trans h.below.output, Nat.le_trans h.size k.size, fun i hi => (k.block i (Nat.lt_of_lt_of_le hi h.size) (.inl (by omega))).trans (h.below.block i hi)⟩, fun x o h1 h2 => by
    by_cases hx : x < w.heap.size
    · rw [k.frz x o hx]; exact h.nf x o h1 hx
    · exact k.nf x o (by omega) h2⟩
theorem Put.same {lo hi lo' hi' : Nat} {w w' : World} (h : Put lo hi w w') (h1 : hi' ≤ w.heap.size) (h2 : hi' ≤ lo ∨ hi ≤ lo') : Same lo' hi' w w' := fun k k1 k2 => h.block k (by omega) (by omega)
theorem NF.put {lo hi lo' hi' : Nat} {w w' : World} (h : NF lo' hi' w) (k : Put lo hi w w') (hh : hi' ≤ w.heap.size) : NF lo' hi' w' := fun b o h1 h2 => by rw [k.frz b o (by omega)]; exact h b o h1 h2

/-- Behind an append onto an own row the world has but grown. -/
theorem Grow.append {P : Program} {a w w' : World} (hg : Grow a w) (t ty e : TypeId) (i : TypeInfo) (z : Value) (ht : P.underlying t = some (.slice e)) (hi : P.info? e = some i) (hz : i.zero = some z)
    {v v' : Value} {n : Nat} {xs : List Value} (hown : w.ownsRow a.heap.size e i.size v n xs)
    {ad : Addr} {m c : Nat} {news : List Value} (hl : news.length = m * i.size) (hnews : ∀ j u, news[j]? = some u → w.cell? (ad.add j) = some u) (h1 : ∀ u ∈ news, u.oneCell' = true)
    (h63 : n + m ≤ maxLen) (hbytes : (n + m) * i.bytes ≤ 140737488355328)
    (hr : (Builtin.append_ #[t, t] ty #[v, .slice (some ad) m c]).run P w = .ok v' w') : Grow a w' := by
  have hsmall : n + m ≤ 9223372036854775807 := by simp only [maxLen] at h63; omega
  rcases hown.2 with ⟨rfl, rfl⟩ | ⟨g, cap, cur, rfl, hbg, hgg, hnc, hcm, hcs, htake⟩
  · by_cases hm : m = 0
    · subst hm
      have hn : news = [] := List.eq_nil_of_length_eq_zero (by simpa using hl)
      subst hn
      have : (Builtin.append_ #[t, t] ty #[.slice none 0 0, .slice (some ad) 0 c]).run P w = .ok (.slice none 0 0) w := by
        simp [Builtin.append_, run_underlying ht, sizeOf, typeInfo, hi, Builtin.lenOf, Builtin.firstCells, loadCells, loadCellsFrom]
      rw [this] at hr
      injection hr with _ hw
      subst hw
      exact hg
    · rw [run_append_nil (P := P) w t ty e i z ht hi hz ad m c news hl hnews (by omega) (by omega) (by have hb := hbytes; simp only [Nat.zero_add] at hb; omega)] at hr
      injection hr with _ hw
      subst hw
      exact hg.drew.alloc _ _
  · by_cases hroom : n + m ≤ cap
    · have hfit : n * i.size + news.length ≤ cur.size := by rw [hl, hcs, ← Nat.add_mul]; exact Nat.mul_le_mul_right _ hroom
      rw [run_append_room (P := P) w t ty e i ht hi g n cap cur hgg ad m c news hl hnews h1 hroom hfit] at hr
      injection hr with _ hw
      subst hw
      refine ⟨⟨hg.below.os, hg.below.tape, hg.below.output, by rw [setRow_size]; exact hg.size, fun k hk => ?_⟩, fun x o k1 k2 => ?_⟩
      · rw [setRow_other w g k _ (by omega)]; exact hg.below.block k hk
      · rw [setRow_size] at k2
        by_cases hx : x = g
        · subst hx
          simp [World.frozen?, setRow_heap w x cur _ e _ hgg]
        · rw [World.frozen?_of_block (w := w) (setRow_other w g x _ hx)]; exact hg.nf x o k1 k2
    · have holds : ∀ j u, xs[j]? = some u → w.cell? ((⟨g, 0, none⟩ : Addr).add j) = some u := hown.cells (g := g) rfl
      rw [run_append_grow (P := P) w t ty e i z ht hi hz ⟨g, 0, none⟩ n cap xs hown.1 holds ad m c news hl hnews (by omega) (by omega) (growslice_fits (by omega) hbytes)] at hr
      injection hr with _ hw
      subst hw
      exact hg.drew.alloc _ _

section
variable {P : Program}
/-- append onto an own row, at the operation. -/
theorem wp_append_g {o : Oper} {a : Act} {K : Act → World → Prop} {Q : Exit → Act → World → Prop} (s x : Operand) (t : TypeId)
    (ho : o.op = .call { callee := .builtin .append, args := #[s, x], argTypes := #[t, t] }) {w : World}
    (W : World) (hg : Grow W w) (e : TypeId) (i : TypeInfo) (z : Value) (size bytes : Nat) (ht : P.underlying t = some (.slice e)) (hi : P.info? e = some i) (hz : i.zero = some z)
    (hsize : i.size = size) (hby : i.bytes = bytes) (hzs : z.cells.size = size) (hsz : 0 < size)
    (v : Value) (n : Nat) (xs : List Value) (hs : a.eval s = v) (hown : w.ownsRow W.heap.size e size v n xs)
    (ad : Addr) (m c : Nat) (news : List Value) (hx : a.eval x = .slice (some ad) m c) (hl : news.length = m * size) (hnews : ∀ j u, news[j]? = some u → w.cell? (ad.add j) = some u) (h1 : ∀ u ∈ news, u.oneCell' = true)
    (h63 : n + m ≤ maxLen) (hbytes : (n + m) * bytes ≤ 140737488355328)
    (h : ∀ v' w', w'.ownsRow W.heap.size e size v' (n + m) (xs ++ news) → Grow W w' → w.grownBy w' v.ownBlock → (v'.ownBlock = v.ownBlock ∨ v'.ownBlock = some w.heap.size) → K (a.put o.dst v') w') : o.wp P a w K Q := by
  obtain ⟨v', w', hr, h2, h3, _, h5⟩ := run_append_own_at (P := P) w W.heap.size t o.type e i z size bytes ht hi hz hsize hby hzs hsz v n xs hown ad m c news hl hnews h1 h63 hbytes hg.size
  subst hsize
  subst hby
  have h4 := hg.append t o.type e i z ht hi hz hown hl hnews h1 h63 hbytes hr
  unfold Oper.wp execOp
  simp only [ho, resolve, invoke, builtin, Sem.run_bind, Sem.run_pure, Result.andThen_ok, List.map_toArray, List.map_cons, List.map_nil, hs, hx, hr]
  exact h v' w' h2 h4 h3 h5
theorem wpList_append_g {ops : Array Oper} {rest : List Oper} {o : Oper} {a : Act} {Q : Exit → Act → World → Prop} (hgd : o.guard = none) (s x : Operand) (t : TypeId)
    (ho : o.op = .call { callee := .builtin .append, args := #[s, x], argTypes := #[t, t] }) {w : World}
    (W : World) (hg : Grow W w) (e : TypeId) (i : TypeInfo) (z : Value) (size bytes : Nat) (ht : P.underlying t = some (.slice e)) (hi : P.info? e = some i) (hz : i.zero = some z)
    (hsize : i.size = size) (hby : i.bytes = bytes) (hzs : z.cells.size = size) (hsz : 0 < size)
    (v : Value) (n : Nat) (xs : List Value) (hs : a.eval s = v) (hown : w.ownsRow W.heap.size e size v n xs)
    (ad : Addr) (m c : Nat) (news : List Value) (hx : a.eval x = .slice (some ad) m c) (hl : news.length = m * size) (hnews : ∀ j u, news[j]? = some u → w.cell? (ad.add j) = some u) (h1 : ∀ u ∈ news, u.oneCell' = true)
    (h63 : n + m ≤ maxLen) (hbytes : (n + m) * bytes ≤ 140737488355328)
    (h : ∀ v' w', w'.ownsRow W.heap.size e size v' (n + m) (xs ++ news) → Grow W w' → w.grownBy w' v.ownBlock → (v'.ownBlock = v.ownBlock ∨ v'.ownBlock = some w.heap.size) → wpList P ops Q rest (a.put o.dst v') w') : wpList P ops Q (o :: rest) a w :=
  wpList_plain hgd fun _ hK => wp_append_g s x t ho W hg e i z size bytes ht hi hz hsize hby hzs hsz v n xs hs hown ad m c news hx hl hnews h1 h63 hbytes fun v' w' h2 h3 h4 h5 => hK _ _ (h v' w' h2 h3 h4 h5)
theorem step_append_g {ops : Array Oper} {o : Oper} {a : Act} {K : Act → World → Prop} {Q : Exit → Act → World → Prop} {E : Prop} (hgd : o.guard = none) (s x : Operand) (t : TypeId)
    (ho : o.op = .call { callee := .builtin .append, args := #[s, x], argTypes := #[t, t] }) {w : World}
    (W : World) (hg : Grow W w) (e : TypeId) (i : TypeInfo) (z : Value) (size bytes : Nat) (ht : P.underlying t = some (.slice e)) (hi : P.info? e = some i) (hz : i.zero = some z)
    (hsize : i.size = size) (hby : i.bytes = bytes) (hzs : z.cells.size = size) (hsz : 0 < size)
    (v : Value) (n : Nat) (xs : List Value) (hs : a.eval s = v) (hown : w.ownsRow W.heap.size e size v n xs)
    (ad : Addr) (m c : Nat) (news : List Value) (hx : a.eval x = .slice (some ad) m c) (hl : news.length = m * size) (hnews : ∀ j u, news[j]? = some u → w.cell? (ad.add j) = some u) (h1 : ∀ u ∈ news, u.oneCell' = true)
    (h63 : n + m ≤ maxLen) (hbytes : (n + m) * bytes ≤ 140737488355328)
    (h : ∀ v' w', w'.ownsRow W.heap.size e size v' (n + m) (xs ++ news) → Grow W w' → w.grownBy w' v.ownBlock → (v'.ownBlock = v.ownBlock ∨ v'.ownBlock = some w.heap.size) → K (a.put o.dst v') w') :
    if Region.wanted o (yielded ops a.tmps) = true then Oper.wp P o a w K Q else E := by
  have hw : Region.wanted o (yielded ops a.tmps) = true := by simp [Region.wanted, hgd]
  rw [if_pos hw]
  exact wp_append_g s x t ho W hg e i z size bytes ht hi hz hsize hby hzs hsz v n xs hs hown ad m c news hx hl hnews h1 h63 hbytes h
end

theorem getElem_flatMap {α : Type} {f : α → List Value} {sz : Nat} (hf : ∀ x, (f x).length = sz) : ∀ (xs : List α) (i j : Nat) (h : i < xs.length), j < sz → (xs.flatMap f)[i * sz + j]? = (f xs[i])[j]?
  | [], i, _, h, _ => absurd h (by simp)
  | x :: r, 0, j, _, hj => by
    rw [List.flatMap_cons, List.getElem?_append_left (by rw [hf]; omega)]; simp
  | x :: r, i + 1, j, h, hj => by
    rw [List.flatMap_cons, List.getElem?_append_right (by rw [hf, Nat.add_mul]; omega), hf]
    have e : (i + 1) * sz + j - sz = i * sz + j := by rw [Nat.add_mul]; omega
    rw [e, getElem_flatMap hf r i j (by simpa using h) hj]
    simp
theorem length_flatMap {α : Type} {f : α → List Value} {sz : Nat} (hf : ∀ x, (f x).length = sz) (xs : List α) : (xs.flatMap f).length = xs.length * sz := by
  induction xs with
  | nil => simp
  | cons x r ih => rw [List.flatMap_cons, List.length_append, hf, ih, List.length_cons, Nat.add_mul]; omega

/-- A row that the call owns reads as a list. -/
theorem SlR.of_own {α : Type} {f : α → List Value} {sz : Nat} (hf : ∀ x, (f x).length = sz) {rep : World → Nat → Nat → List Value → α → Prop} {w : World} {base : Nat} {e : TypeId} {v : Value} {xs : List α}
    (h : w.ownsRow base e sz v xs.length (xs.flatMap f)) (hr : ∀ x ∈ xs, rep w base w.heap.size (f x) x) : SlR sz rep w base w.heap.size v xs := by
  rcases h.2 with ⟨rfl, h0⟩ | ⟨g, cap, cur, rfl, hb, hg, hnc, hcm, hcs, htake⟩
  · have : xs = [] := List.eq_nil_of_length_eq_zero h0
    subst this
    exact SlR.nil
  · refine ⟨some ⟨g, 0, none⟩, cap, rfl, hnc, hcm, .inr ⟨g, 0, rfl, hb, (h.lt g rfl).2, fun i hi => ⟨f xs[i], hr _ (List.getElem_mem hi), fun j u hj => ?_⟩⟩⟩
    have hj' : j < sz := by
      have := (List.getElem?_eq_some_iff.1 hj).1
      rw [hf] at this; exact this
    have := h.cells (g := g) rfl (i * sz + j) u (by rw [getElem_flatMap hf xs i j hi hj']; exact hj)
    rw [show (⟨g, 0, none⟩ : Addr).add (i * sz + j) = ⟨g, 0 + i * sz + j, none⟩ by unfold Addr.add; split <;> simp_all] at this
    exact this

/-- The blocks of an own row are not shared with a string, and it stays in a grown world. -/
theorem own_grow {w w' : World} {base : Nat} {e : TypeId} {sz n : Nat} {v : Value} {xs : List Value} (h : w.ownsRow base e sz v n xs) (hg : Grow w w') : w'.ownsRow base e sz v n xs :=
  h.kept (row := none) ⟨hg.below.os, hg.below.tape, hg.below.output, hg.below.size, fun k h1 _ => hg.below.block k h1⟩ (by cases h' : v.ownBlock <;> simp)
theorem own_lower {w : World} {base base' : Nat} {e : TypeId} {sz n : Nat} {v : Value} {xs : List Value} (h : w.ownsRow base e sz v n xs) (hb : base' ≤ base) : w.ownsRow base' e sz v n xs :=
  ⟨h.1, match h.2 with
    | .inl h0 => .inl h0
    | .inr ⟨g, cap, cur, hv, h1, h2⟩ => .inr ⟨g, cap, cur, hv, Nat.le_trans hb h1, h2⟩⟩
theorem oneCell_ints (l : List Int) : ∀ u ∈ l.map (Value.int .i64), u.oneCell' = true := by
  intro u hu
  obtain ⟨n, _, rfl⟩ := List.mem_map.1 hu
  rfl

/-- From offset o on, block b holds in its first m cells the numbers k, k+1, .. -/
def Marked (w : World) (b off m : Nat) (k : Int) : Prop := ∀ o, o < m → w.cell? ⟨b, off + o, none⟩ = some (.int .i64 (k + o))
theorem Marked.step {w : World} {b off m : Nat} {k : Int} (h : Marked w b off m k) (hs : ∃ u, w.cell? ⟨b, off + m, none⟩ = some u) : Marked (w.setCell ⟨b, off + m, none⟩ (.int .i64 (k + m))) b off (m + 1) k := fun o ho => by
  by_cases e : o = m
  · subst e
    obtain ⟨u, hu⟩ := hs
    exact World.cell?_setCell_same w _ _ hu
  · rw [World.cell?_setCell_other w _ ⟨b, off + o, none⟩ _ (by intro e2; injection e2 with _ e3; omega)]
    exact h o (by omega)
end Go.Proofs.Ytbjnbhlpibadnaa

/- Contracts of small functions of numbers. -/
namespace Go.Proofs.Ytbjnbhlpibadnaa
open Go.RowKit
set_option linter.unusedSimpArgs false
set_option linter.unusedVariables false

def inB (n lo hi : Int) : Bool := decide (lo ≤ n) && decide (n ≤ hi)
theorem inB_true {n lo hi : Int} : inB n lo hi = true ↔ lo ≤ n ∧ n ≤ hi := by simp [inB]
theorem inB_false {n lo hi : Int} : inB n lo hi = false ↔ n < lo ∨ hi < n := by
  unfold inB; rw [Bool.and_eq_false_iff]; simp

theorem in_c (n lo hi : Int) (w : World) :
    Calls Try.prog 85 #[.int .i64 n, .int .i64 lo, .int .i64 hi] w fun e w' => e = .returned (.bool (inB n lo hi)) ∧ w = w' := by
  unfold inB
  by_cases h1 : lo ≤ n <;> by_cases h2 : n ≤ hi
  all_goals
    go_enter Try.func85, Try.ntmps85
    go_wp2
    go_ret
    exact ⟨by simp [h1, h2], rfl⟩

theorem in_q (n lo hi : Int) (w : World) :
    Calls Try.prog 85 #[.int .i64 n, .int .i64 lo, .int .i64 hi] w fun e w' => e = .returned (.bool (inB n lo hi)) ∧ w' = w :=
  (in_c n lo hi w).mono fun _ _ h => ⟨h.1, h.2.symm⟩

def amtOk (n : Int) : Bool := inB n 0 1125899906842624
theorem amtOk_true {n : Int} : amtOk n = true ↔ 0 ≤ n ∧ n ≤ 1125899906842624 := inB_true

theorem impl_AmtOk_c (n : Int) (w : World) :
    Calls Try.prog 105 #[.int .i64 n] w fun e w' => e = .returned (.bool (amtOk n)) ∧ w = w' := by
  go_enter Try.func105, Try.ntmps105
  go_wp2_with fail
  refine (in_c _ _ _ _).mono ?_
  rintro e w' ⟨rfl, rfl⟩
  go_wp2_with fail
  go_ret
  exact ⟨rfl, rfl⟩

theorem spec_AmtOk_c (n : Int) (w : World) :
    Calls Try.prog 95 #[.int .i64 n] w fun e w' => e = .returned (.bool (amtOk n)) ∧ w = w' := by
  unfold amtOk inB
  by_cases h1 : 0 ≤ n <;> by_cases h2 : n ≤ 1125899906842624
  all_goals
    go_enter Try.func95, Try.ntmps95
    go_wp2
    go_ret
    exact ⟨by simp [h1, h2], rfl⟩
end Go.Proofs.Ytbjnbhlpibadnaa

/- A book: where a channel lies, of the program and of the reference. -/
namespace Go.Proofs.Ytbjnbhlpibadnaa
open Go.RowKit
set_option linter.unusedSimpArgs false
set_option linter.unusedVariables false

def chanAt (l : List Chan) (ch : Int) : Int := match l.findIdx? (fun c => c.id == ch) with | some i => (i : Int) | none => -1
theorem chanAt_at {l : List Chan} {ch : Int} {k : Nat} (hk : k < l.length) (h : ∀ j (h : j < l.length), j < k → l[j].id ≠ ch) (h2 : l[k].id = ch) : chanAt l ch = (k : Int) := by
  unfold chanAt
  rw [List.findIdx?_eq_some_iff_getElem.2 ⟨hk, by simpa using h2, fun j hj => by simpa using h j (by omega) hj⟩]
theorem chanAt_no {l : List Chan} {ch : Int} (h : ∀ j (h : j < l.length), l[j].id ≠ ch) : chanAt l ch = -1 := by
  unfold chanAt
  rw [List.findIdx?_eq_none_iff.2 (fun x hx => by
    obtain ⟨j, hj, rfl⟩ := List.getElem_of_mem hx
    simpa using h j hj)]
theorem chanAt_cases (l : List Chan) (ch : Int) : chanAt l ch = -1 ∨ ∃ k, ∃ h : k < l.length, chanAt l ch = (k : Int) ∧ l[k].id = ch := by
  unfold chanAt
  cases h : l.findIdx? (fun c => c.id == ch) with
  | none => exact .inl rfl
  | some i =>
    obtain ⟨h1, h2, _⟩ := List.findIdx?_eq_some_iff_getElem.1 h
    exact .inr ⟨i, h1, rfl, by simpa using h2⟩

set_option maxHeartbeats 1000000 in
set_option maxRecDepth 100000 in
theorem impl_chanAt_c (x : Book) (a0 : Option Addr) (c0 : Nat) (a1 : Option Addr) (c1 : Nat) (a2 : Option Addr) (c2 : Nat) (ch : Int) (w : World) (h0 : SlR 7 repChan w 0 w.heap.size (.slice a0 x.chans.length c0) x.chans) (hn : x.chans.length ≤ 1048576) :
    Calls Try.prog 72 #[.agg #[.int .i64 x.tick, .int .i64 x.next, .int .i64 x.wallet, .slice a0 x.chans.length c0, .slice a1 x.htlcs.length c1, .slice a2 x.circles.length c2], .int .i64 ch] w fun e w' => e = .returned (.int .i64 (chanAt x.chans ch)) ∧ Grow w w' := by
  have HS := Lib.hid h0; clear h0
  go_enter Try.func72, Try.ntmps72
  go_wp2
  have hg0 : Grow w (w.alloc (.cells #[.int .i64 x.tick, .int .i64 x.next, .int .i64 x.wallet, .slice a0 x.chans.length c0, .slice a1 x.htlcs.length c1, .slice a2 x.circles.length c2] 58)) := (Grow.refl _).alloc _ _
  go_loopg [10] x.chans.length (fun g i wr => ∃ k : Nat, k + g = x.chans.length ∧ i = .int .i64 k ∧ (∀ j (h : j < x.chans.length), j < k → x.chans[j].id ≠ ch) ∧ Grow w wr)
  case atStart => exact ⟨0, by simp, rfl, fun j _ h => absurd h (by omega), hg0⟩
  case round =>
    obtain ⟨k, hk, rfl, hall, hg⟩ := hrel
    have HALL := Lib.hid hall; clear hall hg0
    by_cases hlt : k < x.chans.length
    · obtain ⟨b, off, rfl, hb1, hb2, hel⟩ := HS.out.elems k hlt
      obtain ⟨e0, e1, e2, e3, e4, e5, e6, _⟩ := Chan.atCell (hel.same repChan_stable (hg.same (Nat.le_refl _)) hb1 hb2) k hlt
      have hz2 : b < wr.heap.size := by have := hg.size; omega
      have HG := Lib.hid hg; have HK := Lib.hid hk
      have HE : Hid (x.chans[k].id = ch → chanAt x.chans ch = (k : Int)) := fun h => chanAt_at hlt (fun j h1 h2 => HALL.out j h1 h2) h
      have HT : Hid (x.chans[k].id ≠ ch → ∀ j (h : j < x.chans.length), j < k + 1 → x.chans[j].id ≠ ch) := fun h j h1 h2 => by
        by_cases e : j = k
        · subst e; exact h
        · exact HALL.out j h1 (by omega)
      clear hg hk hel
      generalize x.chans[k] = e at *
      by_cases t : e.id = ch
      · have HTT := Lib.hid t
        go_wp2
        go_ret
        exact ⟨by rw [HE.out HTT.out]; rfl, HG.out.alloc _ _⟩
      · have HTT := Lib.hid t
        go_wp2
        go_roundg (x.chans.length - (k + 1))
        case measure => have := HK.out; omega
        case rel => exact ⟨k + 1, by have := HK.out; omega, by go_num, HT.out HTT.out, HG.out.alloc _ _⟩
    · have hr : chanAt x.chans ch = -1 := chanAt_no (fun j h => HALL.out j h (by omega))
      have HR := Lib.hid hr; have HG := Lib.hid hg; clear hr hg
      go_wp2
      go_ret
      exact ⟨by rw [HR.out]; rfl, HG.out⟩
end Go.Proofs.Ytbjnbhlpibadnaa

/- A book: two channels that are there; keys that are new. -/
namespace Go.Proofs.Ytbjnbhlpibadnaa
open Go.RowKit
set_option linter.unusedSimpArgs false
set_option linter.unusedVariables false

set_option maxHeartbeats 1000000 in
set_option maxRecDepth 100000 in
theorem spec_At_c (x : Book) (a0 : Option Addr) (c0 : Nat) (a1 : Option Addr) (c1 : Nat) (a2 : Option Addr) (c2 : Nat) (ch : Int) (w : World) (h0 : SlR 7 repChan w 0 w.heap.size (.slice a0 x.chans.length c0) x.chans) (hn : x.chans.length ≤ 1048576) :
    Calls Try.prog 63 #[.agg #[.int .i64 x.tick, .int .i64 x.next, .int .i64 x.wallet, .slice a0 x.chans.length c0, .slice a1 x.htlcs.length c1, .slice a2 x.circles.length c2], .int .i64 ch] w fun e w' => e = .returned (.int .i64 (chanAt x.chans ch)) ∧ Grow w w' := by
  have HS := Lib.hid h0; clear h0
  go_enter Try.func63, Try.ntmps63
  go_wp2
  have hg0 : Grow w (w.alloc (.cells #[.int .i64 x.tick, .int .i64 x.next, .int .i64 x.wallet, .slice a0 x.chans.length c0, .slice a1 x.htlcs.length c1, .slice a2 x.circles.length c2] 58)) := (Grow.refl _).alloc _ _
  have k3 : (w.alloc (.cells #[.int .i64 x.tick, .int .i64 x.next, .int .i64 x.wallet, .slice a0 x.chans.length c0, .slice a1 x.htlcs.length c1, .slice a2 x.circles.length c2] 58)).cell? ⟨w.heap.size, 3, none⟩ = some (.slice a0 x.chans.length c0) := cell_new 3 rfl
  obtain ⟨W, hW⟩ : ∃ W, W = w.alloc (.cells #[.int .i64 x.tick, .int .i64 x.next, .int .i64 x.wallet, .slice a0 x.chans.length c0, .slice a1 x.htlcs.length c1, .slice a2 x.circles.length c2] 58) := ⟨_, rfl⟩
  rw [← hW] at hg0 k3 ⊢
  clear hW
  go_loopg [9] x.chans.length (fun g i wr => ∃ k : Nat, k + g = x.chans.length ∧ i = .int .i64 k ∧ (∀ j (h : j < x.chans.length), j < k → x.chans[j].id ≠ ch) ∧ wr = W)
  case atStart => exact ⟨0, by simp, rfl, fun j _ h => absurd h (by omega), rfl⟩
  case round =>
    obtain ⟨k, hk, rfl, hall, rfl⟩ := hrel
    have HALL := Lib.hid hall; clear hall
    by_cases hlt : k < x.chans.length
    · obtain ⟨b, off, rfl, hb1, hb2, hel⟩ := HS.out.elems k hlt
      obtain ⟨e0, e1, e2, e3, e4, e5, e6, _⟩ := Chan.atCell (hel.same repChan_stable (hg0.same (Nat.le_refl _)) hb1 hb2) k hlt
      have HK := Lib.hid hk
      have HE : Hid (x.chans[k].id = ch → chanAt x.chans ch = (k : Int)) := fun h => chanAt_at hlt (fun j h1 h2 => HALL.out j h1 h2) h
      have HT : Hid (x.chans[k].id ≠ ch → ∀ j (h : j < x.chans.length), j < k + 1 → x.chans[j].id ≠ ch) := fun h j h1 h2 => by
        by_cases e : j = k
        · subst e; exact h
        · exact HALL.out j h1 (by omega)
      have HG := Lib.hid hg0
      clear hk hel hg0 e1 e2 e3 e4 e5 e6
      generalize x.chans[k] = e at *
      by_cases t : e.id = ch
      · have HTT := Lib.hid t
        go_wp2
        go_ret
        exact ⟨by rw [HE.out HTT.out]; rfl, HG.out⟩
      · have HTT := Lib.hid t
        go_wp2
        go_roundg (x.chans.length - (k + 1))
        case measure => have := HK.out; omega
        case rel => exact ⟨k + 1, by have := HK.out; omega, by go_num, HT.out HTT.out, rfl⟩
    · have hr : chanAt x.chans ch = -1 := chanAt_no (fun j h => HALL.out j h (by omega))
      have HR := Lib.hid hr; have HG := Lib.hid hg0; clear hr hg0
      go_wp2
      go_ret
      exact ⟨by rw [HR.out]; rfl, HG.out⟩

/-- Two channels are there, and differ. -/
def two (l : List Chan) (a b : Int) : Bool := !(a == b) && decide (0 ≤ chanAt l a) && decide (0 ≤ chanAt l b)

set_option maxHeartbeats 1000000 in
set_option maxRecDepth 100000 in
theorem spec_Two_c (x : Book) (a0 : Option Addr) (c0 : Nat) (a1 : Option Addr) (c1 : Nat) (a2 : Option Addr) (c2 : Nat) (a b : Int) (w : World) (h0 : SlR 7 repChan w 0 w.heap.size (.slice a0 x.chans.length c0) x.chans) (hn : x.chans.length ≤ 1048576) :
    Calls Try.prog 115 #[.agg #[.int .i64 x.tick, .int .i64 x.next, .int .i64 x.wallet, .slice a0 x.chans.length c0, .slice a1 x.htlcs.length c1, .slice a2 x.circles.length c2], .int .i64 a, .int .i64 b] w fun e w' => e = .returned (.bool (two x.chans a b)) ∧ Grow w w' := by
  have hg0 : Grow w (w.alloc (.cells #[.int .i64 x.tick, .int .i64 x.next, .int .i64 x.wallet, .slice a0 x.chans.length c0, .slice a1 x.htlcs.length c1, .slice a2 x.circles.length c2] 58)) := (Grow.refl _).alloc _ _
  by_cases t : a = b
  · have hr : two x.chans a b = false := by simp [two, t]
    have HR := Lib.hid hr; clear hr
    have HG := Lib.hid hg0; clear hg0
    go_enter Try.func115, Try.ntmps115
    go_wp2_with fail
    all_goals
      go_ret
      exact ⟨by rw [HR.out]; rfl, HG.out⟩
  · have hr : two x.chans a b = (decide (0 ≤ chanAt x.chans a) && decide (0 ≤ chanAt x.chans b)) := by
      have tb : (a == b) = false := by simpa using t
      unfold two; rw [tb]; rfl
    have HR := Lib.hid hr; clear hr
    have HG := Lib.hid hg0
    have h0' : SlR 7 repChan (w.alloc (.cells #[.int .i64 x.tick, .int .i64 x.next, .int .i64 x.wallet, .slice a0 x.chans.length c0, .slice a1 x.htlcs.length c1, .slice a2 x.circles.length c2] 58)) 0 (w.alloc (.cells #[.int .i64 x.tick, .int .i64 x.next, .int .i64 x.wallet, .slice a0 x.chans.length c0, .slice a1 x.htlcs.length c1, .slice a2 x.circles.length c2] 58)).heap.size (.slice a0 x.chans.length c0) x.chans := h0.grow' repChan_stable hg0.below
    have H0 := Lib.hid h0; have H0' := Lib.hid h0'; clear h0 h0' hg0
    go_enter Try.func115, Try.ntmps115
    go_wp2_with fail
    refine (spec_At_c x a0 c0 a1 c1 a2 c2 a _ H0'.out hn).mono ?_
    rintro e w1 ⟨rfl, g1⟩
    have G1 := HG.out.trans g1
    obtain ⟨k0, k1, k2, k3, k4, k5⟩ : w1.cell? ⟨w.heap.size, 0, none⟩ = some (.int .i64 x.tick) ∧ w1.cell? ⟨w.heap.size, 1, none⟩ = some (.int .i64 x.next) ∧ w1.cell? ⟨w.heap.size, 2, none⟩ = some (.int .i64 x.wallet) ∧ w1.cell? ⟨w.heap.size, 3, none⟩ = some (.slice a0 x.chans.length c0) ∧ w1.cell? ⟨w.heap.size, 4, none⟩ = some (.slice a1 x.htlcs.length c1) ∧ w1.cell? ⟨w.heap.size, 5, none⟩ = some (.slice a2 x.circles.length c2) :=
      ⟨cellGrow g1 (cell_new 0 rfl), cellGrow g1 (cell_new 1 rfl), cellGrow g1 (cell_new 2 rfl), cellGrow g1 (cell_new 3 rfl), cellGrow g1 (cell_new 4 rfl), cellGrow g1 (cell_new 5 rfl)⟩
    have h1' : SlR 7 repChan w1 0 w1.heap.size (.slice a0 x.chans.length c0) x.chans := H0.out.grow' repChan_stable G1.below
    have H1 := Lib.hid h1'; have HG1 := Lib.hid G1; clear h1' G1 g1
    by_cases t1 : 0 ≤ chanAt x.chans a
    · have T1 := Lib.hid t1
      generalize chanAt x.chans a = p at *
      go_wp2_with fail
      refine (spec_At_c x a0 c0 a1 c1 a2 c2 b _ H1.out hn).mono ?_
      rintro e w2 ⟨rfl, g2⟩
      have HG2 := Lib.hid g2; clear g2
      generalize chanAt x.chans b = q at *
      go_wp2_with fail
      all_goals
        go_ret
        exact ⟨by rw [HR.out]; simp [T1.out, t], HG1.out.trans HG2.out⟩
    · have T1 := Lib.hid t1
      generalize chanAt x.chans a = p at *
      go_wp2_with fail
      all_goals
        go_ret
        exact ⟨by rw [HR.out, show decide (0 ≤ p) = false by simpa using T1.out]; rfl, HG1.out⟩

def hasI (l : List Int) (n : Int) : Bool := l.any (fun x => x == n)
theorem hasI_yes {l : List Int} {n : Int} {k : Nat} (hk : k < l.length) (h : l[k] = n) : hasI l n = true := by
  unfold hasI; rw [List.any_eq_true]; exact ⟨l[k], List.getElem_mem hk, by simpa using h⟩
theorem hasI_no {l : List Int} {n : Int} (h : ∀ j (h : j < l.length), l[j] ≠ n) : hasI l n = false := by
  unfold hasI; rw [List.any_eq_false]
  intro x hx
  obtain ⟨j, hj, rfl⟩ := List.getElem_of_mem hx
  simpa using h j hj

set_option maxHeartbeats 1000000 in
theorem impl_hasInt_c (xs : List Int) (a : Option Addr) (c : Nat) (n : Int) (lo hi : Nat) (w : World) (h0 : SlR 1 repInt w lo hi (.slice a xs.length c) xs) (hn : xs.length ≤ 1048576) :
    Calls Try.prog 50 #[.slice a xs.length c, .int .i64 n] w fun e w' => e = .returned (.bool (hasI xs n)) ∧ w = w' := by
  have HS := Lib.hid h0; clear h0
  go_enter Try.func50, Try.ntmps50
  go_wp2
  go_loopg [9] xs.length (fun g i wr => ∃ k : Nat, k + g = xs.length ∧ i = .int .i64 k ∧ (∀ j (h : j < xs.length), j < k → xs[j] ≠ n) ∧ wr = w)
  case atStart => exact ⟨0, by simp, rfl, fun j _ h => absurd h (by omega), rfl⟩
  case round =>
    obtain ⟨k, hk, rfl, hall, rfl⟩ := hrel
    have HALL := Lib.hid hall; clear hall
    by_cases hlt : k < xs.length
    · obtain ⟨b, off, rfl, hb1, hb2, hel⟩ := HS.out.elems k hlt
      obtain ⟨e0, _⟩ := Int.atCell hel k hlt
      have HK := Lib.hid hk
      have HE : Hid (xs[k] = n → hasI xs n = true) := fun h => hasI_yes hlt h
      have HT : Hid (xs[k] ≠ n → ∀ j (h : j < xs.length), j < k + 1 → xs[j] ≠ n) := fun h j h1 h2 => by
        by_cases e : j = k
        · subst e; exact h
        · exact HALL.out j h1 (by omega)
      clear hk hel
      generalize xs[k] = e at *
      by_cases t : e = n
      · have HTT := Lib.hid t
        go_wp2
        go_ret
        exact ⟨by rw [HE.out HTT.out]; rfl, rfl⟩
      · have HTT := Lib.hid t
        go_wp2
        go_roundg (xs.length - (k + 1))
        case measure => have := HK.out; omega
        case rel => exact ⟨k + 1, by have := HK.out; omega, by go_num, HT.out HTT.out, rfl⟩
    · have hr : hasI xs n = false := hasI_no (fun j h => HALL.out j h (by omega))
      have HR := Lib.hid hr; clear hr
      go_wp2
      go_ret
      exact ⟨by rw [HR.out]; rfl, rfl⟩
set_option maxHeartbeats 1000000 in
theorem spec_HasInt_c (xs : List Int) (a : Option Addr) (c : Nat) (n : Int) (lo hi : Nat) (w : World) (h0 : SlR 1 repInt w lo hi (.slice a xs.length c) xs) (hn : xs.length ≤ 1048576) :
    Calls Try.prog 120 #[.slice a xs.length c, .int .i64 n] w fun e w' => e = .returned (.bool (hasI xs n)) ∧ w = w' := by
  have HS := Lib.hid h0; clear h0
  go_enter Try.func120, Try.ntmps120
  go_wp2
  go_loopg [9] xs.length (fun g i wr => ∃ k : Nat, k + g = xs.length ∧ i = .int .i64 k ∧ (∀ j (h : j < xs.length), j < k → xs[j] ≠ n) ∧ wr = w)
  case atStart => exact ⟨0, by simp, rfl, fun j _ h => absurd h (by omega), rfl⟩
  case round =>
    obtain ⟨k, hk, rfl, hall, rfl⟩ := hrel
    have HALL := Lib.hid hall; clear hall
    by_cases hlt : k < xs.length
    · obtain ⟨b, off, rfl, hb1, hb2, hel⟩ := HS.out.elems k hlt
      obtain ⟨e0, _⟩ := Int.atCell hel k hlt
      have HK := Lib.hid hk
      have HE : Hid (xs[k] = n → hasI xs n = true) := fun h => hasI_yes hlt h
      have HT : Hid (xs[k] ≠ n → ∀ j (h : j < xs.length), j < k + 1 → xs[j] ≠ n) := fun h j h1 h2 => by
        by_cases e : j = k
        · subst e; exact h
        · exact HALL.out j h1 (by omega)
      clear hk hel
      generalize xs[k] = e at *
      by_cases t : e = n
      · have HTT := Lib.hid t
        go_wp2
        go_ret
        exact ⟨by rw [HE.out HTT.out]; rfl, rfl⟩
      · have HTT := Lib.hid t
        go_wp2
        go_roundg (xs.length - (k + 1))
        case measure => have := HK.out; omega
        case rel => exact ⟨k + 1, by have := HK.out; omega, by go_num, HT.out HTT.out, rfl⟩
    · have hr : hasI xs n = false := hasI_no (fun j h => HALL.out j h (by omega))
      have HR := Lib.hid hr; clear hr
      go_wp2
      go_ret
      exact ⟨by rw [HR.out]; rfl, rfl⟩
end Go.Proofs.Ytbjnbhlpibadnaa

/- A book: the closure over two channels; what is under way out of a channel and into it. -/
namespace Go.Proofs.Ytbjnbhlpibadnaa
open Go.RowKit
set_option linter.unusedSimpArgs false
set_option linter.unusedVariables false

/-- Block p holds the book x. -/
structure BookAt (w : World) (p : Nat) (x : Book) (a0 : Option Addr) (c0 : Nat) (a1 : Option Addr) (c1 : Nat) (a2 : Option Addr) (c2 : Nat) : Prop where
  k0 : w.cell? ⟨p, 0, none⟩ = some (.int .i64 x.tick)
  k1 : w.cell? ⟨p, 1, none⟩ = some (.int .i64 x.next)
  k2 : w.cell? ⟨p, 2, none⟩ = some (.int .i64 x.wallet)
  k3 : w.cell? ⟨p, 3, none⟩ = some (.slice a0 x.chans.length c0)
  k4 : w.cell? ⟨p, 4, none⟩ = some (.slice a1 x.htlcs.length c1)
  k5 : w.cell? ⟨p, 5, none⟩ = some (.slice a2 x.circles.length c2)
theorem BookAt.new (x : Book) (a0 : Option Addr) (c0 : Nat) (a1 : Option Addr) (c1 : Nat) (a2 : Option Addr) (c2 : Nat) (w : World) : BookAt (w.alloc (.cells #[.int .i64 x.tick, .int .i64 x.next, .int .i64 x.wallet, .slice a0 x.chans.length c0, .slice a1 x.htlcs.length c1, .slice a2 x.circles.length c2] 58)) w.heap.size x a0 c0 a1 c1 a2 c2 :=
  ⟨cell_new 0 rfl, cell_new 1 rfl, cell_new 2 rfl, cell_new 3 rfl, cell_new 4 rfl, cell_new 5 rfl⟩
theorem BookAt.grow {w w' : World} {p : Nat} {x : Book} {a0 : Option Addr} {c0 : Nat} {a1 : Option Addr} {c1 : Nat} {a2 : Option Addr} {c2 : Nat} (h : BookAt w p x a0 c0 a1 c1 a2 c2) (g : Grow w w') : BookAt w' p x a0 c0 a1 c1 a2 c2 :=
  ⟨cellGrow g h.k0, cellGrow g h.k1, cellGrow g h.k2, cellGrow g h.k3, cellGrow g h.k4, cellGrow g h.k5⟩

set_option maxHeartbeats 1000000 in
set_option maxRecDepth 100000 in
theorem apart_c (x : Book) (a0 : Option Addr) (c0 : Nat) (a1 : Option Addr) (c1 : Nat) (a2 : Option Addr) (c2 : Nat) (a b : Int) (p : Nat) (w : World) (hb : BookAt w p x a0 c0 a1 c1 a2 c2) (h0 : SlR 7 repChan w 0 w.heap.size (.slice a0 x.chans.length c0) x.chans) (hn : x.chans.length ≤ 1048576) :
    Calls Try.prog 124 #[.int .i64 a, .int .i64 b, .pointer (some ⟨p, 0, none⟩)] w fun e w' => e = .returned (.bool (two x.chans a b)) ∧ Grow w w' := by
  have HB := Lib.hid hb
  obtain ⟨k0, k1, k2, k3, k4, k5⟩ := hb
  by_cases t : a = b
  · have hr : two x.chans a b = false := by simp [two, t]
    have HR := Lib.hid hr; clear hr
    clear h0
    go_enter Try.func124, Try.ntmps124
    go_wp2_with fail
    all_goals
      go_ret
      exact ⟨by rw [HR.out]; rfl, Grow.refl _⟩
  · have hr : two x.chans a b = (decide (0 ≤ chanAt x.chans a) && decide (0 ≤ chanAt x.chans b)) := by
      have tb : (a == b) = false := by simpa using t
      unfold two; rw [tb]; rfl
    have HR := Lib.hid hr; clear hr
    have H0 := Lib.hid h0; clear h0
    go_enter Try.func124, Try.ntmps124
    go_wp2_with fail
    refine (impl_chanAt_c x a0 c0 a1 c1 a2 c2 a _ H0.out hn).mono ?_
    rintro e w1 ⟨rfl, g1⟩
    clear k0 k1 k2 k3 k4 k5
    obtain ⟨k0, k1, k2, k3, k4, k5⟩ := HB.out.grow g1
    have h1' : SlR 7 repChan w1 0 w1.heap.size (.slice a0 x.chans.length c0) x.chans := H0.out.grow' repChan_stable g1.below
    have H1 := Lib.hid h1'; have HG1 := Lib.hid g1; clear h1' g1
    by_cases t1 : 0 ≤ chanAt x.chans a
    · have T1 := Lib.hid t1
      generalize chanAt x.chans a = p at *
      go_wp2_with fail
      refine (impl_chanAt_c x a0 c0 a1 c1 a2 c2 b _ H1.out hn).mono ?_
      rintro e w2 ⟨rfl, g2⟩
      have HG2 := Lib.hid g2; clear g2
      generalize chanAt x.chans b = q at *
      go_wp2_with fail
      all_goals
        go_ret
        exact ⟨by rw [HR.out]; simp [T1.out, t], HG1.out.trans HG2.out⟩
    · have T1 := Lib.hid t1
      generalize chanAt x.chans a = p at *
      go_wp2_with fail
      all_goals
        go_ret
        exact ⟨by rw [HR.out, show decide (0 ≤ p) = false by simpa using T1.out]; rfl, HG1.out⟩

def keyOk (n : Int) : Bool := inB n 1 1000000
def chOk (n : Int) : Bool := inB n 1 99
theorem isKey_c (n : Int) (w : World) : Calls Try.prog 125 #[.int .i64 n] w fun e w' => e = .returned (.bool (keyOk n)) ∧ w = w' := by
  go_enter Try.func125, Try.ntmps125
  go_wp2_with fail
  refine (in_c _ _ _ _).mono ?_
  rintro e w' ⟨rfl, rfl⟩
  go_wp2_with fail
  go_ret
  exact ⟨rfl, rfl⟩
theorem isChan_c (n : Int) (w : World) : Calls Try.prog 107 #[.int .i64 n] w fun e w' => e = .returned (.bool (chOk n)) ∧ w = w' := by
  go_enter Try.func107, Try.ntmps107
  go_wp2_with fail
  refine (in_c _ _ _ _).mono ?_
  rintro e w' ⟨rfl, rfl⟩
  go_wp2_with fail
  go_ret
  exact ⟨rfl, rfl⟩

def tot {α : Type} (f : α → Int) (l : List α) : Int := (l.map f).sum
theorem tot_nil {α : Type} (f : α → Int) : tot f [] = 0 := rfl
theorem tot_succ {α : Type} (f : α → Int) (l : List α) {k : Nat} (hk : k < l.length) : tot f (l.take (k + 1)) = tot f (l.take k) + f l[k] := by
  unfold tot
  rw [List.take_succ_eq_append_getElem hk, List.map_append, List.sum_append]; simp
theorem tot_le {α : Type} (f : α → Int) (M : Int) (hM : 0 ≤ M) : ∀ (l : List α), (∀ x ∈ l, 0 ≤ f x ∧ f x ≤ M) → 0 ≤ tot f l ∧ tot f l ≤ l.length * M
  | [], _ => by simp [tot]
  | x :: r, h => by
    have h1 := h x (by simp)
    have h2 := tot_le f M hM r (fun y hy => h y (by simp [hy]))
    have e : tot f (x :: r) = f x + tot f r := by simp [tot]
    rw [e, List.length_cons]
    have : ((r.length + 1 : Nat) : Int) * M = r.length * M + M := by rw [Int.natCast_add, Int.add_mul]; simp
    rw [this]
    omega
theorem tot_take_le {α : Type} (f : α → Int) (M : Int) (hM : 0 ≤ M) (l : List α) (h : ∀ x ∈ l, 0 ≤ f x ∧ f x ≤ M) (k : Nat) : 0 ≤ tot f (l.take k) ∧ tot f (l.take k) ≤ l.length * M := by
  obtain ⟨h1, h2⟩ := tot_le f M hM (l.take k) (fun x hx => h x (List.mem_of_mem_take hx))
  refine ⟨h1, Int.le_trans h2 (Int.mul_le_mul_of_nonneg_right ?_ hM)⟩
  have : (l.take k).length ≤ l.length := by rw [List.length_take]; omega
  omega

def hOut (ch : Int) (h : Htlc) : Int := if h.out = ch then h.amtOut else 0
def hIn (ch : Int) (h : Htlc) : Int := if h.inn = ch then h.amtIn else 0
def cOut (ch : Int) (c : Circle) : Int := if c.frm = ch then c.amt + c.fee else 0
def cIn (ch : Int) (c : Circle) : Int := if c.to = ch then c.amt else 0
def outOf (x : Book) (ch : Int) : Int := tot (hOut ch) x.htlcs + tot (cOut ch) x.circles
def intoOf (x : Book) (ch : Int) : Int := tot (hIn ch) x.htlcs + tot (cIn ch) x.circles

/-- The numbers of what is under way are small. -/
structure Small (x : Book) : Prop where
  nh : x.htlcs.length ≤ 60
  nc : x.circles.length ≤ 20
  h : ∀ h ∈ x.htlcs, 0 ≤ h.amtIn ∧ h.amtIn ≤ 1125899906842624 ∧ 0 ≤ h.amtOut ∧ h.amtOut ≤ 1125899906842624
  c : ∀ c ∈ x.circles, 0 ≤ c.amt ∧ c.amt ≤ 1125899906842624 ∧ 0 ≤ c.fee ∧ c.fee ≤ 1125899906842624

theorem Small.hOut {x : Book} (s : Small x) (ch : Int) : ∀ h ∈ x.htlcs, 0 ≤ hOut ch h ∧ hOut ch h ≤ 1125899906842624 := fun h hh => by
  have := s.h h hh
  unfold Go.Proofs.Ytbjnbhlpibadnaa.hOut; split <;> omega
theorem Small.hIn {x : Book} (s : Small x) (ch : Int) : ∀ h ∈ x.htlcs, 0 ≤ hIn ch h ∧ hIn ch h ≤ 1125899906842624 := fun h hh => by
  have := s.h h hh
  unfold Go.Proofs.Ytbjnbhlpibadnaa.hIn; split <;> omega
theorem Small.cOut {x : Book} (s : Small x) (ch : Int) : ∀ c ∈ x.circles, 0 ≤ cOut ch c ∧ cOut ch c ≤ 2251799813685248 := fun c hc => by
  have := s.c c hc
  unfold Go.Proofs.Ytbjnbhlpibadnaa.cOut; split <;> omega
theorem Small.cIn {x : Book} (s : Small x) (ch : Int) : ∀ c ∈ x.circles, 0 ≤ cIn ch c ∧ cIn ch c ≤ 2251799813685248 := fun c hc => by
  have := s.c c hc
  unfold Go.Proofs.Ytbjnbhlpibadnaa.cIn; split <;> omega
theorem tot_lim {α : Type} {f : α → Int} {M : Int} {l : List α} (N : Nat) (hM : 0 ≤ M) (h : ∀ x ∈ l, 0 ≤ f x ∧ f x ≤ M) (hl : l.length ≤ N) (k : Nat) : 0 ≤ tot f (l.take k) ∧ tot f (l.take k) ≤ N * M := by
  obtain ⟨h1, h2⟩ := tot_take_le f M hM l h k
  exact ⟨h1, Int.le_trans h2 (Int.mul_le_mul_of_nonneg_right (by omega) hM)⟩
end Go.Proofs.Ytbjnbhlpibadnaa

/- A book: the sums of what is under way, walked. -/
namespace Go.Proofs.Ytbjnbhlpibadnaa
open Go.RowKit
set_option linter.unusedSimpArgs false
set_option linter.unusedVariables false

set_option maxHeartbeats 2000000 in
set_option maxRecDepth 100000 in
theorem spec_Out_c (x : Book) (a0 : Option Addr) (c0 : Nat) (a1 : Option Addr) (c1 : Nat) (a2 : Option Addr) (c2 : Nat) (ch : Int) (w : World) (h1 : SlR 7 repHtlc w 0 w.heap.size (.slice a1 x.htlcs.length c1) x.htlcs) (h2 : SlR 5 repCircle w 0 w.heap.size (.slice a2 x.circles.length c2) x.circles) (sm : Small x) :
    Calls Try.prog 64 #[.agg #[.int .i64 x.tick, .int .i64 x.next, .int .i64 x.wallet, .slice a0 x.chans.length c0, .slice a1 x.htlcs.length c1, .slice a2 x.circles.length c2], .int .i64 ch] w fun e w' => e = .returned (.int .i64 (outOf x ch)) ∧ Grow w w' := by
  have H1 := Lib.hid h1; have H2 := Lib.hid h2; have SM := Lib.hid sm
  have nh := sm.nh
  have nc := sm.nc
  clear h1 h2 sm
  go_enter Try.func64, Try.ntmps64
  go_wp2
  have hg0 : Grow w (w.alloc (.cells #[.int .i64 x.tick, .int .i64 x.next, .int .i64 x.wallet, .slice a0 x.chans.length c0, .slice a1 x.htlcs.length c1, .slice a2 x.circles.length c2] 58)) := (Grow.refl _).alloc _ _
  have hb : BookAt (w.alloc (.cells #[.int .i64 x.tick, .int .i64 x.next, .int .i64 x.wallet, .slice a0 x.chans.length c0, .slice a1 x.htlcs.length c1, .slice a2 x.circles.length c2] 58)) w.heap.size x a0 c0 a1 c1 a2 c2 := BookAt.new x a0 c0 a1 c1 a2 c2 w
  obtain ⟨W, hW⟩ : ∃ W, W = w.alloc (.cells #[.int .i64 x.tick, .int .i64 x.next, .int .i64 x.wallet, .slice a0 x.chans.length c0, .slice a1 x.htlcs.length c1, .slice a2 x.circles.length c2] 58) := ⟨_, rfl⟩
  rw [← hW] at hg0 hb ⊢
  have HB := Lib.hid hb; have HG0 := Lib.hid hg0
  clear hW hb hg0
  go_loopg [5, 13] x.htlcs.length (fun g n i wr => ∃ k : Nat, k + g = x.htlcs.length ∧ i = .int .i64 k ∧ n = .int .i64 (tot (hOut ch) (x.htlcs.take k)) ∧ Grow W wr)
  case atStart => exact ⟨0, by simp, rfl, rfl, Grow.refl _⟩
  case round =>
    obtain ⟨k, hk, rfl, rfl, hg⟩ := hrel
    by_cases hlt : k < x.htlcs.length
    · obtain ⟨b, off, rfl, hb1, hb2, hel⟩ := H1.out.elems k hlt
      obtain ⟨e0, e1, e2, e3, e4, e5, e6, _⟩ := Htlc.atCell (hel.same repHtlc_stable ((HG0.out.trans hg).same (Nat.le_refl _)) hb1 hb2) k hlt
      have HT : Hid (tot (hOut ch) (x.htlcs.take (k + 1)) = tot (hOut ch) (x.htlcs.take k) + hOut ch x.htlcs[k]) := tot_succ _ _ hlt
      obtain ⟨s1, s2⟩ := tot_lim 60 (by omega) (SM.out.hOut ch) nh k
      obtain ⟨v1, v2⟩ := SM.out.hOut ch x.htlcs[k] (List.getElem_mem hlt)
      have HG := Lib.hid hg; have HK := Lib.hid hk
      clear hg hk hel
      generalize x.htlcs[k] = e at *
      generalize tot (hOut ch) (x.htlcs.take k) = s at *
      by_cases t : e.out = ch
      · have hv : hOut ch e = e.amtOut := if_pos t
        rw [hv] at v1 v2
        have HV := Lib.hid hv; clear hv
        go_wp2
        go_roundg (x.htlcs.length - (k + 1))
        case measure => have := HK.out; omega
        case rel => exact ⟨k + 1, by have := HK.out; omega, by go_num, by rw [HT.out, HV.out]; try go_num, HG.out.alloc _ _⟩
      · have hv : hOut ch e = 0 := if_neg t
        have HV := Lib.hid hv; clear hv v1 v2
        go_wp2
        go_roundg (x.htlcs.length - (k + 1))
        case measure => have := HK.out; omega
        case rel => exact ⟨k + 1, by have := HK.out; omega, by go_num, by rw [HT.out, HV.out]; simp, HG.out.alloc _ _⟩
    · have hke : k = x.htlcs.length := by omega
      have hs : tot (hOut ch) (x.htlcs.take k) = tot (hOut ch) x.htlcs := by rw [hke, List.take_length]
      obtain ⟨s1, s2⟩ := tot_lim 60 (by omega) (SM.out.hOut ch) nh k
      rw [hs] at s1 s2 ⊢
      have HP : Hid (outOf x ch = tot (hOut ch) x.htlcs + tot (cOut ch) x.circles) := rfl
      generalize tot (hOut ch) x.htlcs = s at *
      obtain ⟨k0, k1, k2, k3, k4, k5⟩ := HB.out.grow hg
      have HGW := Lib.hid (HG0.out.trans hg)
      clear hke hs hg hk
      go_wp2
      clear k0 k1 k2 k3 k4 k5
      go_loopg [5, 29] x.circles.length (fun g n i wr' => ∃ k : Nat, k + g = x.circles.length ∧ i = .int .i64 k ∧ n = .int .i64 (s + tot (cOut ch) (x.circles.take k)) ∧ Grow w wr')
      case atStart => exact ⟨0, by simp, rfl, by simp [tot], HGW.out⟩
      case round =>
        obtain ⟨k, hk, rfl, rfl, hg⟩ := hrel
        by_cases hlt : k < x.circles.length
        · obtain ⟨b, off, rfl, hb1, hb2, hel⟩ := H2.out.elems k hlt
          obtain ⟨e0, e1, e2, e3, e4, _⟩ := Circle.atCell (hel.same repCircle_stable (hg.same (Nat.le_refl _)) hb1 hb2) k hlt
          have HT : Hid (tot (cOut ch) (x.circles.take (k + 1)) = tot (cOut ch) (x.circles.take k) + cOut ch x.circles[k]) := tot_succ _ _ hlt
          obtain ⟨s3, s4⟩ := tot_lim 20 (by omega) (SM.out.cOut ch) nc k
          obtain ⟨v1, v2, v3, v4⟩ := SM.out.c x.circles[k] (List.getElem_mem hlt)
          have HG := Lib.hid hg; have HK := Lib.hid hk
          clear hg hk hel
          generalize x.circles[k] = e at *
          generalize tot (cOut ch) (x.circles.take k) = r at *
          by_cases t : e.frm = ch
          · have hv : cOut ch e = e.amt + e.fee := if_pos t
            have HV := Lib.hid hv; clear hv
            go_wp2
            go_roundg (x.circles.length - (k + 1))
            case measure => have := HK.out; omega
            case rel => exact ⟨k + 1, by have := HK.out; omega, by go_num, by rw [HT.out, HV.out]; try go_num, HG.out.alloc _ _⟩
          · have hv : cOut ch e = 0 := if_neg t
            have HV := Lib.hid hv; clear hv
            go_wp2
            go_roundg (x.circles.length - (k + 1))
            case measure => have := HK.out; omega
            case rel => exact ⟨k + 1, by have := HK.out; omega, by go_num, by rw [HT.out, HV.out]; simp, HG.out.alloc _ _⟩
        · have hke : k = x.circles.length := by omega
          have hs : tot (cOut ch) (x.circles.take k) = tot (cOut ch) x.circles := by rw [hke, List.take_length]
          rw [hs]
          have HG := Lib.hid hg; clear hke hs hg hk
          generalize tot (cOut ch) x.circles = r at *
          go_wp2
          go_ret
          exact ⟨by rw [HP.out]; first | rfl | (congr 1; done) | go_num, HG.out⟩

set_option maxHeartbeats 2000000 in
set_option maxRecDepth 100000 in
theorem spec_In_c (x : Book) (a0 : Option Addr) (c0 : Nat) (a1 : Option Addr) (c1 : Nat) (a2 : Option Addr) (c2 : Nat) (ch : Int) (w : World) (h1 : SlR 7 repHtlc w 0 w.heap.size (.slice a1 x.htlcs.length c1) x.htlcs) (h2 : SlR 5 repCircle w 0 w.heap.size (.slice a2 x.circles.length c2) x.circles) (sm : Small x) :
    Calls Try.prog 98 #[.agg #[.int .i64 x.tick, .int .i64 x.next, .int .i64 x.wallet, .slice a0 x.chans.length c0, .slice a1 x.htlcs.length c1, .slice a2 x.circles.length c2], .int .i64 ch] w fun e w' => e = .returned (.int .i64 (intoOf x ch)) ∧ Grow w w' := by
  have H1 := Lib.hid h1; have H2 := Lib.hid h2; have SM := Lib.hid sm
  have nh := sm.nh
  have nc := sm.nc
  clear h1 h2 sm
  go_enter Try.func98, Try.ntmps98
  go_wp2
  have hg0 : Grow w (w.alloc (.cells #[.int .i64 x.tick, .int .i64 x.next, .int .i64 x.wallet, .slice a0 x.chans.length c0, .slice a1 x.htlcs.length c1, .slice a2 x.circles.length c2] 58)) := (Grow.refl _).alloc _ _
  have hb : BookAt (w.alloc (.cells #[.int .i64 x.tick, .int .i64 x.next, .int .i64 x.wallet, .slice a0 x.chans.length c0, .slice a1 x.htlcs.length c1, .slice a2 x.circles.length c2] 58)) w.heap.size x a0 c0 a1 c1 a2 c2 := BookAt.new x a0 c0 a1 c1 a2 c2 w
  obtain ⟨W, hW⟩ : ∃ W, W = w.alloc (.cells #[.int .i64 x.tick, .int .i64 x.next, .int .i64 x.wallet, .slice a0 x.chans.length c0, .slice a1 x.htlcs.length c1, .slice a2 x.circles.length c2] 58) := ⟨_, rfl⟩
  rw [← hW] at hg0 hb ⊢
  have HB := Lib.hid hb; have HG0 := Lib.hid hg0
  clear hW hb hg0
  go_loopg [5, 13] x.htlcs.length (fun g n i wr => ∃ k : Nat, k + g = x.htlcs.length ∧ i = .int .i64 k ∧ n = .int .i64 (tot (hIn ch) (x.htlcs.take k)) ∧ Grow W wr)
  case atStart => exact ⟨0, by simp, rfl, rfl, Grow.refl _⟩
  case round =>
    obtain ⟨k, hk, rfl, rfl, hg⟩ := hrel
    by_cases hlt : k < x.htlcs.length
    · obtain ⟨b, off, rfl, hb1, hb2, hel⟩ := H1.out.elems k hlt
      obtain ⟨e0, e1, e2, e3, e4, e5, e6, _⟩ := Htlc.atCell (hel.same repHtlc_stable ((HG0.out.trans hg).same (Nat.le_refl _)) hb1 hb2) k hlt
      have HT : Hid (tot (hIn ch) (x.htlcs.take (k + 1)) = tot (hIn ch) (x.htlcs.take k) + hIn ch x.htlcs[k]) := tot_succ _ _ hlt
      obtain ⟨s1, s2⟩ := tot_lim 60 (by omega) (SM.out.hIn ch) nh k
      obtain ⟨v1, v2⟩ := SM.out.hIn ch x.htlcs[k] (List.getElem_mem hlt)
      have HG := Lib.hid hg; have HK := Lib.hid hk
      clear hg hk hel
      generalize x.htlcs[k] = e at *
      generalize tot (hIn ch) (x.htlcs.take k) = s at *
      by_cases t : e.inn = ch
      · have hv : hIn ch e = e.amtIn := if_pos t
        rw [hv] at v1 v2
        have HV := Lib.hid hv; clear hv
        go_wp2
        go_roundg (x.htlcs.length - (k + 1))
        case measure => have := HK.out; omega
        case rel => exact ⟨k + 1, by have := HK.out; omega, by go_num, by rw [HT.out, HV.out]; try go_num, HG.out.alloc _ _⟩
      · have hv : hIn ch e = 0 := if_neg t
        have HV := Lib.hid hv; clear hv v1 v2
        go_wp2
        go_roundg (x.htlcs.length - (k + 1))
        case measure => have := HK.out; omega
        case rel => exact ⟨k + 1, by have := HK.out; omega, by go_num, by rw [HT.out, HV.out]; simp, HG.out.alloc _ _⟩
    · have hke : k = x.htlcs.length := by omega
      have hs : tot (hIn ch) (x.htlcs.take k) = tot (hIn ch) x.htlcs := by rw [hke, List.take_length]
      obtain ⟨s1, s2⟩ := tot_lim 60 (by omega) (SM.out.hIn ch) nh k
      rw [hs] at s1 s2 ⊢
      have HP : Hid (intoOf x ch = tot (hIn ch) x.htlcs + tot (cIn ch) x.circles) := rfl
      generalize tot (hIn ch) x.htlcs = s at *
      obtain ⟨k0, k1, k2, k3, k4, k5⟩ := HB.out.grow hg
      have HGW := Lib.hid (HG0.out.trans hg)
      clear hke hs hg hk
      go_wp2
      clear k0 k1 k2 k3 k4 k5
      go_loopg [5, 29] x.circles.length (fun g n i wr' => ∃ k : Nat, k + g = x.circles.length ∧ i = .int .i64 k ∧ n = .int .i64 (s + tot (cIn ch) (x.circles.take k)) ∧ Grow w wr')
      case atStart => exact ⟨0, by simp, rfl, by simp [tot], HGW.out⟩
      case round =>
        obtain ⟨k, hk, rfl, rfl, hg⟩ := hrel
        by_cases hlt : k < x.circles.length
        · obtain ⟨b, off, rfl, hb1, hb2, hel⟩ := H2.out.elems k hlt
          obtain ⟨e0, e1, e2, e3, e4, _⟩ := Circle.atCell (hel.same repCircle_stable (hg.same (Nat.le_refl _)) hb1 hb2) k hlt
          have HT : Hid (tot (cIn ch) (x.circles.take (k + 1)) = tot (cIn ch) (x.circles.take k) + cIn ch x.circles[k]) := tot_succ _ _ hlt
          obtain ⟨s3, s4⟩ := tot_lim 20 (by omega) (SM.out.cIn ch) nc k
          obtain ⟨v1, v2, v3, v4⟩ := SM.out.c x.circles[k] (List.getElem_mem hlt)
          have HG := Lib.hid hg; have HK := Lib.hid hk
          clear hg hk hel
          generalize x.circles[k] = e at *
          generalize tot (cIn ch) (x.circles.take k) = r at *
          by_cases t : e.to = ch
          · have hv : cIn ch e = e.amt := if_pos t
            have HV := Lib.hid hv; clear hv
            go_wp2
            go_roundg (x.circles.length - (k + 1))
            case measure => have := HK.out; omega
            case rel => exact ⟨k + 1, by have := HK.out; omega, by go_num, by rw [HT.out, HV.out]; try go_num, HG.out.alloc _ _⟩
          · have hv : cIn ch e = 0 := if_neg t
            have HV := Lib.hid hv; clear hv
            go_wp2
            go_roundg (x.circles.length - (k + 1))
            case measure => have := HK.out; omega
            case rel => exact ⟨k + 1, by have := HK.out; omega, by go_num, by rw [HT.out, HV.out]; simp, HG.out.alloc _ _⟩
        · have hke : k = x.circles.length := by omega
          have hs : tot (cIn ch) (x.circles.take k) = tot (cIn ch) x.circles := by rw [hke, List.take_length]
          rw [hs]
          have HG := Lib.hid hg; clear hke hs hg hk
          generalize tot (cIn ch) x.circles = r at *
          go_wp2
          go_ret
          exact ⟨by rw [HP.out]; first | rfl | (congr 1; done) | go_num, HG.out⟩

set_option maxHeartbeats 4000000 in
set_option maxRecDepth 100000 in
theorem transit_c (x : Book) (a0 : Option Addr) (c0 : Nat) (a1 : Option Addr) (c1 : Nat) (a2 : Option Addr) (c2 : Nat) (ch : Int) (w : World) (h1 : SlR 7 repHtlc w 0 w.heap.size (.slice a1 x.htlcs.length c1) x.htlcs) (h2 : SlR 5 repCircle w 0 w.heap.size (.slice a2 x.circles.length c2) x.circles) (sm : Small x) :
    Calls Try.prog 73 #[.agg #[.int .i64 x.tick, .int .i64 x.next, .int .i64 x.wallet, .slice a0 x.chans.length c0, .slice a1 x.htlcs.length c1, .slice a2 x.circles.length c2], .int .i64 ch] w fun e w' => e = .returned (.tuple #[.int .i64 (outOf x ch), .int .i64 (intoOf x ch)]) ∧ Grow w w' := by
  have H1 := Lib.hid h1; have H2 := Lib.hid h2; have SM := Lib.hid sm
  have nh := sm.nh
  have nc := sm.nc
  clear h1 h2 sm
  go_enter Try.func73, Try.ntmps73
  go_wp2
  have hg0 : Grow w (w.alloc (.cells #[.int .i64 x.tick, .int .i64 x.next, .int .i64 x.wallet, .slice a0 x.chans.length c0, .slice a1 x.htlcs.length c1, .slice a2 x.circles.length c2] 58)) := (Grow.refl _).alloc _ _
  have hb : BookAt (w.alloc (.cells #[.int .i64 x.tick, .int .i64 x.next, .int .i64 x.wallet, .slice a0 x.chans.length c0, .slice a1 x.htlcs.length c1, .slice a2 x.circles.length c2] 58)) w.heap.size x a0 c0 a1 c1 a2 c2 := BookAt.new x a0 c0 a1 c1 a2 c2 w
  obtain ⟨W, hW⟩ : ∃ W, W = w.alloc (.cells #[.int .i64 x.tick, .int .i64 x.next, .int .i64 x.wallet, .slice a0 x.chans.length c0, .slice a1 x.htlcs.length c1, .slice a2 x.circles.length c2] 58) := ⟨_, rfl⟩
  rw [← hW] at hg0 hb ⊢
  have HB := Lib.hid hb; have HG0 := Lib.hid hg0
  clear hW hb hg0
  go_loopg [6, 7, 15] x.htlcs.length (fun g n m i wr => ∃ k : Nat, k + g = x.htlcs.length ∧ i = .int .i64 k ∧ n = .int .i64 (tot (hOut ch) (x.htlcs.take k)) ∧ m = .int .i64 (tot (hIn ch) (x.htlcs.take k)) ∧ Grow W wr)
  case atStart => exact ⟨0, by simp, rfl, rfl, rfl, Grow.refl _⟩
  case round =>
    obtain ⟨k, hk, rfl, rfl, rfl, hg⟩ := hrel
    by_cases hlt : k < x.htlcs.length
    · obtain ⟨b, off, rfl, hb1, hb2, hel⟩ := H1.out.elems k hlt
      obtain ⟨e0, e1, e2, e3, e4, e5, e6, _⟩ := Htlc.atCell (hel.same repHtlc_stable ((HG0.out.trans hg).same (Nat.le_refl _)) hb1 hb2) k hlt
      have HT : Hid (tot (hOut ch) (x.htlcs.take (k + 1)) = tot (hOut ch) (x.htlcs.take k) + hOut ch x.htlcs[k]) := tot_succ _ _ hlt
      have HT2 : Hid (tot (hIn ch) (x.htlcs.take (k + 1)) = tot (hIn ch) (x.htlcs.take k) + hIn ch x.htlcs[k]) := tot_succ _ _ hlt
      obtain ⟨s1, s2⟩ := tot_lim 60 (by omega) (SM.out.hOut ch) nh k
      obtain ⟨s3, s4⟩ := tot_lim 60 (by omega) (SM.out.hIn ch) nh k
      obtain ⟨v1, v2, v3, v4⟩ := SM.out.h x.htlcs[k] (List.getElem_mem hlt)
      have HG := Lib.hid hg; have HK := Lib.hid hk
      clear hg hk hel
      generalize x.htlcs[k] = e at *
      generalize tot (hOut ch) (x.htlcs.take k) = s at *
      generalize tot (hIn ch) (x.htlcs.take k) = r at *
      by_cases t : e.out = ch <;> by_cases t2 : e.inn = ch
      all_goals
        have HV : Hid (hOut ch e = _) := (by first | exact if_pos t | exact if_neg t)
        have HV2 : Hid (hIn ch e = _) := (by first | exact if_pos t2 | exact if_neg t2)
        go_wp2
        go_roundg (x.htlcs.length - (k + 1))
        case measure => have := HK.out; omega
        case rel => exact ⟨k + 1, by have := HK.out; omega, by go_num, by rw [HT.out, HV.out]; try first | go_num | simp, by rw [HT2.out, HV2.out]; try first | go_num | simp, HG.out.alloc _ _⟩
    · have hke : k = x.htlcs.length := by omega
      have hs : tot (hOut ch) (x.htlcs.take k) = tot (hOut ch) x.htlcs := by rw [hke, List.take_length]
      have hs2 : tot (hIn ch) (x.htlcs.take k) = tot (hIn ch) x.htlcs := by rw [hke, List.take_length]
      obtain ⟨s1, s2⟩ := tot_lim 60 (by omega) (SM.out.hOut ch) nh k
      obtain ⟨s3, s4⟩ := tot_lim 60 (by omega) (SM.out.hIn ch) nh k
      rw [hs] at s1 s2 ⊢
      rw [hs2] at s3 s4 ⊢
      have HP : Hid (outOf x ch = tot (hOut ch) x.htlcs + tot (cOut ch) x.circles) := rfl
      have HP2 : Hid (intoOf x ch = tot (hIn ch) x.htlcs + tot (cIn ch) x.circles) := rfl
      generalize tot (hOut ch) x.htlcs = s at *
      generalize tot (hIn ch) x.htlcs = r at *
      obtain ⟨k0, k1, k2, k3, k4, k5⟩ := HB.out.grow hg
      have HGW := Lib.hid (HG0.out.trans hg)
      clear hke hs hs2 hg hk
      go_wp2
      clear k0 k1 k2 k3 k4 k5
      go_loopg [6, 7, 39] x.circles.length (fun g n m i wr' => ∃ k : Nat, k + g = x.circles.length ∧ i = .int .i64 k ∧ n = .int .i64 (s + tot (cOut ch) (x.circles.take k)) ∧ m = .int .i64 (r + tot (cIn ch) (x.circles.take k)) ∧ Grow w wr')
      case atStart => exact ⟨0, by simp, rfl, by simp [tot], by simp [tot], HGW.out⟩
      case round =>
        obtain ⟨k, hk, rfl, rfl, rfl, hg⟩ := hrel
        by_cases hlt : k < x.circles.length
        · obtain ⟨b, off, rfl, hb1, hb2, hel⟩ := H2.out.elems k hlt
          obtain ⟨e0, e1, e2, e3, e4, _⟩ := Circle.atCell (hel.same repCircle_stable (hg.same (Nat.le_refl _)) hb1 hb2) k hlt
          have HT : Hid (tot (cOut ch) (x.circles.take (k + 1)) = tot (cOut ch) (x.circles.take k) + cOut ch x.circles[k]) := tot_succ _ _ hlt
          have HT2 : Hid (tot (cIn ch) (x.circles.take (k + 1)) = tot (cIn ch) (x.circles.take k) + cIn ch x.circles[k]) := tot_succ _ _ hlt
          obtain ⟨s5, s6⟩ := tot_lim 20 (by omega) (SM.out.cOut ch) nc k
          obtain ⟨s7, s8⟩ := tot_lim 20 (by omega) (SM.out.cIn ch) nc k
          obtain ⟨v1, v2, v3, v4⟩ := SM.out.c x.circles[k] (List.getElem_mem hlt)
          have HG := Lib.hid hg; have HK := Lib.hid hk
          clear hg hk hel
          generalize x.circles[k] = e at *
          generalize tot (cOut ch) (x.circles.take k) = p at *
          generalize tot (cIn ch) (x.circles.take k) = q at *
          by_cases t : e.frm = ch <;> by_cases t2 : e.to = ch
          all_goals
            have HV : Hid (cOut ch e = _) := (by first | exact if_pos t | exact if_neg t)
            have HV2 : Hid (cIn ch e = _) := (by first | exact if_pos t2 | exact if_neg t2)
            go_wp2
            go_roundg (x.circles.length - (k + 1))
            case measure => have := HK.out; omega
            case rel => exact ⟨k + 1, by have := HK.out; omega, by go_num, by rw [HT.out, HV.out]; try first | go_num | simp, by rw [HT2.out, HV2.out]; try first | go_num | simp, HG.out.alloc _ _⟩
        · have hke : k = x.circles.length := by omega
          have hs : tot (cOut ch) (x.circles.take k) = tot (cOut ch) x.circles := by rw [hke, List.take_length]
          have hs2 : tot (cIn ch) (x.circles.take k) = tot (cIn ch) x.circles := by rw [hke, List.take_length]
          rw [hs, hs2]
          have HG := Lib.hid hg; clear hke hs hs2 hg hk
          generalize tot (cOut ch) x.circles = p at *
          generalize tot (cIn ch) x.circles = q at *
          go_wp2
          go_ret2
          exact ⟨by rw [HP.out, HP2.out]; first | rfl | (congr 1; done) | go_num, HG.out⟩
end Go.Proofs.Ytbjnbhlpibadnaa

/- A book: what is under way is valid, of the program. -/
namespace Go.Proofs.Ytbjnbhlpibadnaa
open Go.RowKit
set_option linter.unusedSimpArgs false
set_option linter.unusedVariables false

def hOk (l : List Chan) (h : Htlc) : Bool := amtOk h.amtIn && decide (1 ≤ h.amtOut) && decide (h.amtOut ≤ h.amtIn) && amtOk h.age && two l h.inn h.out
def cOk (l : List Chan) (c : Circle) : Bool := amtOk c.amt && decide (1 ≤ c.amt) && amtOk c.fee && two l c.frm c.to
def keysOf (x : Book) : List Int := x.htlcs.map (·.key) ++ x.circles.map (·.key)
def keyAt (ks : List Int) (i : Nat) : Bool := keyOk (ks.getD i 0) && !hasI (ks.take i) (ks.getD i 0)
def keysOk (ks : List Int) : Bool := (List.range ks.length).all (keyAt ks)
def partsOk (x : Book) : Bool := decide (x.htlcs.length ≤ 60) && decide (x.circles.length ≤ 20) && x.htlcs.all (hOk x.chans) && x.circles.all (cOk x.chans) && keysOk (keysOf x)

theorem hOk_iff {l : List Chan} {h : Htlc} : hOk l h = true ↔ amtOk h.amtIn = true ∧ 1 ≤ h.amtOut ∧ h.amtOut ≤ h.amtIn ∧ amtOk h.age = true ∧ two l h.inn h.out = true := by
  simp [hOk, and_assoc]
theorem cOk_iff {l : List Chan} {c : Circle} : cOk l c = true ↔ amtOk c.amt = true ∧ 1 ≤ c.amt ∧ amtOk c.fee = true ∧ two l c.frm c.to = true := by
  simp [cOk, and_assoc]
theorem all_take_succ {α : Type} {p : α → Bool} {l : List α} {k : Nat} (hk : k < l.length) : (l.take (k+1)).all p = ((l.take k).all p && p l[k]) := by
  rw [List.take_succ_eq_append_getElem hk, List.all_append]; simp
theorem all_false_of {α : Type} {p : α → Bool} {l : List α} {k : Nat} (hk : k < l.length) (h : p l[k] = false) : l.all p = false := by
  rw [List.all_eq_false]; exact ⟨l[k], List.getElem_mem hk, by simp [h]⟩
theorem keysOk_no {ks : List Int} {k : Nat} (hk : k < ks.length) (h : keyAt ks k = false) : keysOk ks = false := by
  unfold keysOk; rw [List.all_eq_false]; exact ⟨k, by simpa using hk, by simp [h]⟩
theorem keysOk_yes {ks : List Int} (h : ∀ j, j < ks.length → keyAt ks j = true) : keysOk ks = true := by
  unfold keysOk; rw [List.all_eq_true]; intro j hj; exact h j (by simpa using hj)
theorem SlR.take {α : Type} {sz : Nat} {rep : World → Nat → Nat → List Value → α → Prop} {w : World} {lo hi c : Nat} {a : Option Addr} {xs : List α} (h : SlR sz rep w lo hi (.slice a xs.length c) xs) (k : Nat) (hk : k ≤ xs.length) :
    SlR sz rep w lo hi (.slice a (xs.take k).length c) (xs.take k) := by
  obtain ⟨a_, c_, heq, h1, h2, h3⟩ := h
  injection heq with q1 q2 q3
  subst q1 q3
  have hl : (xs.take k).length = k := by rw [List.length_take]; omega
  refine ⟨_, _, rfl, by omega, h2, ?_⟩
  rcases h3 with h3 | ⟨b, off, ha, hb1, hb2, he⟩
  · exact .inl (by rw [h3]; simp)
  · exact .inr ⟨b, off, ha, hb1, hb2, fun i hi' => by
      obtain ⟨cs, hr, hc⟩ := he i (by omega)
      exact ⟨cs, by simpa using hr, hc⟩⟩

theorem infoInt : (Try.prog.info? 3).map (fun i => (i.zero, i.size, i.bytes)) = some (some (.int .i64 0), 1, 8) := by kernel_rfl
theorem SlR.wfAll {α : Type} {sz : Nat} {rep : World → Nat → Nat → List Value → α → Prop} {w : World} {lo hi : Nat} {v : Value} {xs : List α} {P : α → Prop} (h : SlR sz rep w lo hi v xs) (hp : ∀ cs x, rep w lo hi cs x → P x) : ∀ x ∈ xs, P x := fun x hx => by
  obtain ⟨i, hi', rfl⟩ := List.getElem_of_mem hx
  obtain ⟨a_, c_, heq, _, _, h3⟩ := h
  rcases h3 with h3 | ⟨b, off, _, _, _, he⟩
  · subst h3; exact absurd hi' (by simp)
  · obtain ⟨cs, hr, _⟩ := he i hi'
    exact hp _ _ hr
theorem keys_i64 {x : Book} {w : World} {v1 v2 : Value} {lo hi lo' hi' : Nat} (h1 : SlR 7 repHtlc w lo hi v1 x.htlcs) (h2 : SlR 5 repCircle w lo' hi' v2 x.circles) : ∀ y ∈ keysOf x, i64 y := fun y hy => by
  unfold keysOf at hy
  rcases List.mem_append.1 hy with hy | hy
  · obtain ⟨e, he, rfl⟩ := List.mem_map.1 hy
    exact h1.wfAll (P := fun e => i64 e.key) (fun _ _ hr => hr.2.1) e he
  · obtain ⟨e, he, rfl⟩ := List.mem_map.1 hy
    exact h2.wfAll (P := fun e => i64 e.key) (fun _ _ hr => hr.2.1) e he
theorem hasTake_c (xs : List Int) (a : Option Addr) (c k : Nat) (n : Int) (lo hi : Nat) (w : World) (h0 : SlR 1 repInt w lo hi (.slice a xs.length c) xs) (hk : k ≤ xs.length) (hn : xs.length ≤ 1048576) :
    Calls Try.prog 50 #[.slice a k c, .int .i64 n] w fun e w' => e = .returned (.bool (hasI (xs.take k) n)) ∧ w = w' := by
  have hl : (xs.take k).length = k := by rw [List.length_take]; omega
  have := impl_hasInt_c (xs.take k) a c n lo hi w (h0.take k hk) (by omega)
  rw [hl] at this
  exact this
theorem length_encInt (x : Int) : (encInt x).length = 1 := rfl
/-- One element more on an own row of integers. -/
theorem own_snoc {w : World} {base : Nat} {e : TypeId} {v : Value} {l : List Int} {y : Int} (h : w.ownsRow base e 1 v (l.length + 1) (l.flatMap encInt ++ [.int .i64 y])) :
    w.ownsRow base e 1 v (l ++ [y]).length ((l ++ [y]).flatMap encInt) := by
  rw [List.flatMap_append, List.length_append]; exact h
theorem one_int (y : Int) : ∀ u ∈ [Value.int .i64 y], u.oneCell' = true := by
  intro u hu; rw [List.mem_singleton] at hu; subst hu; rfl

set_option maxHeartbeats 8000000 in
set_option maxRecDepth 100000 in
theorem impl_partsOk_c (x : Book) (a0 : Option Addr) (c0 : Nat) (a1 : Option Addr) (c1 : Nat) (a2 : Option Addr) (c2 : Nat) (w : World) (h0 : SlR 7 repChan w 0 w.heap.size (.slice a0 x.chans.length c0) x.chans) (h1 : SlR 7 repHtlc w 0 w.heap.size (.slice a1 x.htlcs.length c1) x.htlcs) (h2 : SlR 5 repCircle w 0 w.heap.size (.slice a2 x.circles.length c2) x.circles) (hn : x.chans.length ≤ 1048576) :
    Calls Try.prog 106 #[.agg #[.int .i64 x.tick, .int .i64 x.next, .int .i64 x.wallet, .slice a0 x.chans.length c0, .slice a1 x.htlcs.length c1, .slice a2 x.circles.length c2]] w fun e w' => e = .returned (.bool (partsOk x)) ∧ Grow w w' := by
  obtain ⟨i0, hi0, hz0, hz1, hz2⟩ := info_parts infoInt
  have hg0 : Grow w (w.alloc (.cells #[.int .i64 x.tick, .int .i64 x.next, .int .i64 x.wallet, .slice a0 x.chans.length c0, .slice a1 x.htlcs.length c1, .slice a2 x.circles.length c2] 58)) := (Grow.refl _).alloc _ _
  have H0 := Lib.hid h0; have H1 := Lib.hid h1; have H2 := Lib.hid h2
  clear h0 h1 h2
  by_cases nh : x.htlcs.length ≤ 60
  rotate_left
  · have q : decide ((60 : Int) < (x.htlcs.length : Int)) = true := by simp; omega
    have hr : partsOk x = false := by simp [partsOk, nh]
    have HR := Lib.hid hr; have HG := Lib.hid hg0; clear hr nh hg0
    go_enter Try.func106, Try.ntmps106
    go_wp2
    all_goals
      go_ret
      exact ⟨by rw [HR.out]; rfl, HG.out⟩
  have q : decide ((60 : Int) < (x.htlcs.length : Int)) = false := by simp; omega
  by_cases nc : x.circles.length ≤ 20
  rotate_left
  · have q : decide ((20 : Int) < (x.circles.length : Int)) = true := by simp; omega
    have hr : partsOk x = false := by simp [partsOk, nc]
    have HR := Lib.hid hr; have HG := Lib.hid hg0; clear hr nc hg0
    go_enter Try.func106, Try.ntmps106
    go_wp2
    all_goals
      go_ret
      exact ⟨by rw [HR.out]; rfl, HG.out⟩
  have q2 : decide ((20 : Int) < (x.circles.length : Int)) = false := by simp; omega
  have hmf : ∀ (fn : Fn) (first cap : Array Value) (w : World), (Instr.makeFunc fn first cap).run Try.prog w = .ok (.func fn first cap) w := fun _ _ _ _ => rfl
  have hb : BookAt (w.alloc (.cells #[.int .i64 x.tick, .int .i64 x.next, .int .i64 x.wallet, .slice a0 x.chans.length c0, .slice a1 x.htlcs.length c1, .slice a2 x.circles.length c2] 58)) w.heap.size x a0 c0 a1 c1 a2 c2 := BookAt.new x a0 c0 a1 c1 a2 c2 w
  have HB := Lib.hid hb; have HG0 := Lib.hid hg0
  clear hb hg0
  go_enter Try.func106, Try.ntmps106
  go_wp2
  obtain ⟨W, hW⟩ : ∃ W, W = w.alloc (.cells #[.int .i64 x.tick, .int .i64 x.next, .int .i64 x.wallet, .slice a0 x.chans.length c0, .slice a1 x.htlcs.length c1, .slice a2 x.circles.length c2] 58) := ⟨_, rfl⟩
  rw [← hW] at HB HG0 ⊢
  clear hW
  go_loopg [4, 25] x.htlcs.length (fun g v i wr => ∃ k : Nat, k + g = x.htlcs.length ∧ i = .int .i64 k ∧ (x.htlcs.take k).all (hOk x.chans) = true ∧ Grow W wr ∧ wr.ownsRow W.heap.size 3 1 v ((x.htlcs.take k).map (·.key)).length (((x.htlcs.take k).map (·.key)).flatMap encInt))
  case atStart => exact ⟨0, by simp, rfl, by simp, Grow.refl _, World.ownsRow_nil _ _ _ _⟩
  case round =>
    obtain ⟨k, hk, rfl, hall, hg, hown⟩ := hrel
    have HALL := Lib.hid hall; have HOWN := Lib.hid hown; clear hall hown
    by_cases hlt : k < x.htlcs.length
    · obtain ⟨b, off, rfl, hb1, hb2, hel⟩ := H1.out.elems k hlt
      obtain ⟨e0, e1, e2, e3, e4, e5, e6, _⟩ := Htlc.atCell (hel.same repHtlc_stable ((HG0.out.trans hg).same (Nat.le_refl _)) hb1 hb2) k hlt
      have HE : Hid (hOk x.chans x.htlcs[k] = false → partsOk x = false) := fun h => by
        unfold partsOk; rw [all_false_of hlt h]; simp
      have HT : Hid ((x.htlcs.take (k+1)).all (hOk x.chans) = ((x.htlcs.take k).all (hOk x.chans) && hOk x.chans x.htlcs[k])) := all_take_succ hlt
      have HM : Hid ((x.htlcs.take (k+1)).map (·.key) = (x.htlcs.take k).map (·.key) ++ [x.htlcs[k].key]) := by
        show _ = _
        rw [List.take_succ_eq_append_getElem hlt, List.map_append]; rfl
      have HL : Hid (((x.htlcs.take k).map (·.key)).length ≤ 60) := by
        show _ ≤ _
        rw [List.length_map, List.length_take]; omega
      have HG := Lib.hid hg; have HK := Lib.hid hk
      have hwz : W.heap.size ≤ wr.heap.size := hg.size
      have hz0' : b < wr.heap.size := by have := (HG0.out.trans hg).size; omega
      clear hg hk hel
      generalize x.htlcs[k] = e at *
      generalize (x.htlcs.take k).map (·.key) = ks at *
      by_cases hok : hOk x.chans e = true
      · obtain ⟨d1, d2, d3, d4, d5⟩ := hOk_iff.1 hok
        have HOK := Lib.hid hok; clear hok
        go_wp2_with (first
          | (go_at_call 105; refine (impl_AmtOk_c _ _).mono ?_; rintro e w' ⟨rfl, rfl⟩)
          | (go_at_call 124; refine (apart_c x _ _ _ _ _ _ _ _ w.heap.size _ (HB.out.grow (HG.out.alloc _ _)) (H0.out.grow' repChan_stable ((HG0.out.trans HG.out).alloc _ _).below) hn).mono ?_; rintro e wc ⟨rfl, gc⟩
             have kc : wc.cell? ⟨wr.heap.size, 0, none⟩ = some (.int .i64 e.key) := cellGrow gc (cell_new 0 rfl)
             have hgc := (HG.out.alloc _ _).trans gc
             have hoc := own_grow HOWN.out (((Grow.refl _).alloc _ _).trans gc)
             have HGC := Lib.hid hgc; have HOC := Lib.hid hoc; clear hgc hoc gc)
          | (at_builtin
             refine wpList_append_g rfl (.tmp 60) (.tmp 63) 25 rfl W (HGC.out.alloc _ _) 3 i0 _ 1 8 Try.underlying25 hi0 hz0 hz1 hz2 rfl (by omega) u4 ks.length (ks.flatMap encInt) rfl (own_grow HOC.out ((Grow.refl _).alloc _ _)) ⟨wc.heap.size, 0, none⟩ 1 1 [.int .i64 e.key] rfl rfl (cell_one_new _ _ _) (one_int _) (by have := HL.out; simp only [maxLen]; omega) (by have := HL.out; omega) ?_
             intro v' w' hown' hg' hgb hat
             have HOWN' := Lib.hid (own_snoc hown'); have HG' := Lib.hid hg'; clear hown' hg' hgb hat))
        go_roundg (x.htlcs.length - (k + 1))
        case measure => have := HK.out; omega
        case rel => exact ⟨k + 1, by have := HK.out; omega, by go_num, by rw [HT.out, HALL.out, HOK.out]; rfl, HG'.out, by rw [HM.out]; exact HOWN'.out⟩
      · have hr := HE.out (by simpa using hok)
        have HR := Lib.hid hr; have HOK := Lib.hid hok; clear hr hok
        cases d5 : two x.chans e.inn e.out
        all_goals
          go_wp2_with (first
            | (go_at_call 105; refine (impl_AmtOk_c _ _).mono ?_; rintro e w' ⟨rfl, rfl⟩)
            | (go_at_call 124; refine (apart_c x _ _ _ _ _ _ _ _ w.heap.size _ (HB.out.grow (HG.out.alloc _ _)) (H0.out.grow' repChan_stable ((HG0.out.trans HG.out).alloc _ _).below) hn).mono ?_; rintro e wc ⟨rfl, gc⟩
               have kc : wc.cell? ⟨wr.heap.size, 0, none⟩ = some (.int .i64 e.key) := cellGrow gc (cell_new 0 rfl)
               have hgc := (HG.out.alloc _ _).trans gc
               have hoc := own_grow HOWN.out (((Grow.refl _).alloc _ _).trans gc)
               have HGC := Lib.hid hgc; have HOC := Lib.hid hoc; clear hgc hoc gc)
            | (at_builtin
               refine wpList_append_g rfl (.tmp 60) (.tmp 63) 25 rfl W (HGC.out.alloc _ _) 3 i0 _ 1 8 Try.underlying25 hi0 hz0 hz1 hz2 rfl (by omega) u4 ks.length (ks.flatMap encInt) rfl (own_grow HOC.out ((Grow.refl _).alloc _ _)) ⟨wc.heap.size, 0, none⟩ 1 1 [.int .i64 e.key] rfl rfl (cell_one_new _ _ _) (one_int _) (by have := HL.out; simp only [maxLen]; omega) (by have := HL.out; omega) ?_
               intro v' w' hown' hg' hgb hat
               have HOWN' := Lib.hid (own_snoc hown'); have HG' := Lib.hid hg'; clear hown' hg' hgb hat))
          all_goals first
            | (go_ret
               exact ⟨by rw [HR.out]; rfl, HG0.out.trans HGC.out⟩)
            | (go_ret
               exact ⟨by rw [HR.out]; rfl, HG0.out.trans (HG.out.alloc _ _)⟩)
            | (exfalso; exact HOK.out (hOk_iff.2 ⟨by assumption, by omega, by omega, by assumption, by assumption⟩))
    · have hke : k = x.htlcs.length := by omega
      have HAH := HALL.out
      rw [hke, List.take_length] at HAH
      have hown := HOWN.out
      rw [hke, List.take_length] at hown
      have hl0 : (x.htlcs.map (·.key)).length ≤ 60 := by rw [List.length_map]; omega
      have HKO : Hid (keysOf x = x.htlcs.map (·.key) ++ x.circles.map (·.key)) := rfl
      generalize x.htlcs.map (·.key) = ks0 at *
      obtain ⟨k0, k1, k2, k3, k4, k5⟩ := HB.out.grow hg
      have HG0 := HG0
      have HGA := Lib.hid hg; have HOWN0 := Lib.hid hown; have HAH' := Lib.hid HAH
      clear hke hk hg hown HAH HALL HOWN
      go_wp2
      clear k0 k1 k2 k3 k4 k5
      go_loopg [4, 69] x.circles.length (fun g v i wr' => ∃ k : Nat, k + g = x.circles.length ∧ i = .int .i64 k ∧ (x.circles.take k).all (cOk x.chans) = true ∧ Grow W wr' ∧ wr'.ownsRow W.heap.size 3 1 v (ks0 ++ (x.circles.take k).map (·.key)).length ((ks0 ++ (x.circles.take k).map (·.key)).flatMap encInt))
      case atStart => exact ⟨0, by simp, rfl, by simp, HGA.out, by simpa using HOWN0.out⟩
      case round =>
        obtain ⟨k, hk, rfl, hall, hg, hown⟩ := hrel
        have HALL := Lib.hid hall; have HOWN := Lib.hid hown; clear hall hown
        by_cases hlt : k < x.circles.length
        · obtain ⟨b, off, rfl, hb1, hb2, hel⟩ := H2.out.elems k hlt
          obtain ⟨e0, e1, e2, e3, e4, _⟩ := Circle.atCell (hel.same repCircle_stable ((HG0.out.trans hg).same (Nat.le_refl _)) hb1 hb2) k hlt
          have HE : Hid (cOk x.chans x.circles[k] = false → partsOk x = false) := fun h => by
            unfold partsOk; rw [all_false_of hlt h]; simp
          have HT : Hid ((x.circles.take (k+1)).all (cOk x.chans) = ((x.circles.take k).all (cOk x.chans) && cOk x.chans x.circles[k])) := all_take_succ hlt
          have HM : Hid (ks0 ++ (x.circles.take (k+1)).map (·.key) = (ks0 ++ (x.circles.take k).map (·.key)) ++ [x.circles[k].key]) := by
            show _ = _
            rw [List.take_succ_eq_append_getElem hlt, List.map_append, List.append_assoc]; rfl
          have HL : Hid ((ks0 ++ (x.circles.take k).map (·.key)).length ≤ 80) := by
            show _ ≤ _
            rw [List.length_append, List.length_map, List.length_take]; omega
          have HG := Lib.hid hg; have HK := Lib.hid hk
          have hwz : W.heap.size ≤ wr.heap.size := hg.size
          have hz0' : b < wr.heap.size := by have := (HG0.out.trans hg).size; omega
          clear hg hk hel
          generalize x.circles[k] = e at *
          generalize hks : ks0 ++ (x.circles.take k).map (·.key) = ks at *
          have HKS := Lib.hid hks; clear hks
          by_cases hok : cOk x.chans e = true
          · obtain ⟨d1, d2, d3, d5⟩ := cOk_iff.1 hok
            have HOK := Lib.hid hok; clear hok
            go_wp2_with (first
              | (go_at_call 105; refine (impl_AmtOk_c _ _).mono ?_; rintro e w' ⟨rfl, rfl⟩)
              | (go_at_call 124; refine (apart_c x _ _ _ _ _ _ _ _ w.heap.size _ (HB.out.grow (HG.out.alloc _ _)) (H0.out.grow' repChan_stable ((HG0.out.trans HG.out).alloc _ _).below) hn).mono ?_; rintro e wc ⟨rfl, gc⟩
                 have kc : wc.cell? ⟨wr.heap.size, 0, none⟩ = some (.int .i64 e.key) := cellGrow gc (cell_new 0 rfl)
                 have hgc := (HG.out.alloc _ _).trans gc
                 have hoc := own_grow HOWN.out (((Grow.refl _).alloc _ _).trans gc)
                 have HGC := Lib.hid hgc; have HOC := Lib.hid hoc; clear hgc hoc gc)
              | (at_builtin
                 refine wpList_append_g rfl (.tmp 97) (.tmp 100) 25 rfl W (HGC.out.alloc _ _) 3 i0 _ 1 8 Try.underlying25 hi0 hz0 hz1 hz2 rfl (by omega) u4 ks.length (ks.flatMap encInt) rfl (own_grow HOC.out ((Grow.refl _).alloc _ _)) ⟨wc.heap.size, 0, none⟩ 1 1 [.int .i64 e.key] rfl rfl (cell_one_new _ _ _) (one_int _) (by have := HL.out; simp only [maxLen]; omega) (by have := HL.out; omega) ?_
                 intro v' w' hown' hg' hgb hat
                 have HOWN' := Lib.hid (own_snoc hown'); have HG' := Lib.hid hg'; clear hown' hg' hgb hat))
            go_roundg (x.circles.length - (k + 1))
            case measure => have := HK.out; omega
            case rel => exact ⟨k + 1, by have := HK.out; omega, by go_num, by rw [HT.out, HALL.out, HOK.out]; rfl, HG'.out, by rw [HM.out]; exact HOWN'.out⟩
          · have hr := HE.out (by simpa using hok)
            have HR := Lib.hid hr; have HOK := Lib.hid hok; clear hr hok
            cases d5 : two x.chans e.frm e.to
            all_goals
              go_wp2_with (first
                | (go_at_call 105; refine (impl_AmtOk_c _ _).mono ?_; rintro e w' ⟨rfl, rfl⟩)
                | (go_at_call 124; refine (apart_c x _ _ _ _ _ _ _ _ w.heap.size _ (HB.out.grow (HG.out.alloc _ _)) (H0.out.grow' repChan_stable ((HG0.out.trans HG.out).alloc _ _).below) hn).mono ?_; rintro e wc ⟨rfl, gc⟩
                   have kc : wc.cell? ⟨wr.heap.size, 0, none⟩ = some (.int .i64 e.key) := cellGrow gc (cell_new 0 rfl)
                   have hgc := (HG.out.alloc _ _).trans gc
                   have hoc := own_grow HOWN.out (((Grow.refl _).alloc _ _).trans gc)
                   have HGC := Lib.hid hgc; have HOC := Lib.hid hoc; clear hgc hoc gc)
                | (at_builtin
                   refine wpList_append_g rfl (.tmp 97) (.tmp 100) 25 rfl W (HGC.out.alloc _ _) 3 i0 _ 1 8 Try.underlying25 hi0 hz0 hz1 hz2 rfl (by omega) u4 ks.length (ks.flatMap encInt) rfl (own_grow HOC.out ((Grow.refl _).alloc _ _)) ⟨wc.heap.size, 0, none⟩ 1 1 [.int .i64 e.key] rfl rfl (cell_one_new _ _ _) (one_int _) (by have := HL.out; simp only [maxLen]; omega) (by have := HL.out; omega) ?_
                   intro v' w' hown' hg' hgb hat
                   have HOWN' := Lib.hid (own_snoc hown'); have HG' := Lib.hid hg'; clear hown' hg' hgb hat))
              all_goals first
                | (go_ret
                   exact ⟨by rw [HR.out]; rfl, HG0.out.trans HGC.out⟩)
                | (go_ret
                   exact ⟨by rw [HR.out]; rfl, HG0.out.trans (HG.out.alloc _ _)⟩)
                | (exfalso; exact HOK.out (cOk_iff.2 ⟨by assumption, by omega, by assumption, by assumption⟩))
        · have hke : k = x.circles.length := by omega
          have HAC := HALL.out
          rw [hke, List.take_length] at HAC
          have hown := HOWN.out
          rw [hke, List.take_length, ← HKO.out] at hown
          have hki := keys_i64 H1.out H2.out
          obtain ⟨V, rfl⟩ : ∃ V, V = wr := ⟨_, rfl⟩
          have hsl : SlR 1 repInt V W.heap.size V.heap.size u4 (keysOf x) := SlR.of_own length_encInt hown (fun y hy => ⟨rfl, hki y hy⟩)
          have hlen : (keysOf x).length ≤ 80 := by unfold keysOf; rw [List.length_append, List.length_map, List.length_map]; omega
          have HNO : Hid (∀ j, j < (keysOf x).length → keyAt (keysOf x) j = false → partsOk x = false) := fun j h1 h2 => by
            unfold partsOk; rw [keysOk_no h1 h2]; simp
          have HYES : Hid ((∀ j, j < (keysOf x).length → keyAt (keysOf x) j = true) → partsOk x = true) := fun h => by
            unfold partsOk; rw [keysOk_yes h, HAH'.out, HAC]; simp [nh, nc]
          have HG := Lib.hid (HG0.out.trans hg)
          clear hke hk hg hown HAC HALL HOWN hki HKO HAH' HGA
          generalize keysOf x = K at *
          have hsl' := hsl
          obtain ⟨av, cv, rfl, hc1, hc2, _⟩ := hsl'
          have HSL := Lib.hid hsl; clear hsl
          go_wp2
          go_loopg [105] K.length (fun g i wq => ∃ k : Nat, k + g = K.length ∧ i = .int .i64 k ∧ (∀ j, j < k → keyAt K j = true) ∧ wq = V)
          case atStart => exact ⟨0, by simp, rfl, fun j h => absurd h (by omega), rfl⟩
          case round =>
            obtain ⟨k, hk, rfl, hall, rfl⟩ := hrel
            have HALL := Lib.hid hall; clear hall
            by_cases hlt : k < K.length
            · obtain ⟨b, off, rfl, hb1, hb2, hel⟩ := HSL.out.elems k hlt
              obtain ⟨e0, _⟩ := Int.atCell hel k hlt
              have HKA : Hid (keyAt K k = (keyOk K[k] && !hasI (K.take k) K[k])) := by
                show _ = _
                unfold keyAt
                rw [List.getD_eq_getElem?_getD, List.getElem?_eq_getElem hlt]; rfl
              have HK := Lib.hid hk
              clear hk hel
              generalize K[k] = y at *
              have hkc : (k : Int) ≤ (cv : Int) := by omega
              cases q1 : keyOk y <;> cases q2 : hasI (K.take k) y
              all_goals
                have Q1 := Lib.hid q1; have Q2 := Lib.hid q2
                go_wp2_with (first
                  | (go_at_call 125; refine (isKey_c _ _).mono ?_; rintro e w' ⟨rfl, rfl⟩)
                  | (go_at_call 50; refine (hasTake_c K _ cv k y _ _ _ HSL.out (by omega) (by omega)).mono ?_; rintro e w' ⟨rfl, rfl⟩))
                first
                  | (go_ret
                     exact ⟨by rw [HNO.out k hlt (by rw [HKA.out, Q1.out, Q2.out]; rfl)]; rfl, HG.out⟩)
                  | (go_roundg (K.length - (k + 1))
                     case measure => have := HK.out; omega
                     case rel => exact ⟨k + 1, by have := HK.out; omega, by go_num, fun j hj => by
                       by_cases e : j = k
                       · subst e; rw [HKA.out, Q1.out, Q2.out]; rfl
                       · exact HALL.out j (by omega), rfl⟩)
            · have hr : partsOk x = true := HYES.out (fun j hj => HALL.out j (by omega))
              have HR := Lib.hid hr; clear hr
              go_wp2
              go_ret
              exact ⟨by rw [HR.out]; rfl, HG.out⟩
end Go.Proofs.Ytbjnbhlpibadnaa

/- A book: the keys, of the reference. -/
namespace Go.Proofs.Ytbjnbhlpibadnaa
open Go.RowKit
set_option linter.unusedSimpArgs false
set_option linter.unusedVariables false

theorem one_at (w : World) (c : Array Value) (T : TypeId) (y : Int) : ∀ j u, [Value.int .i64 y][j]? = some u → ((w.alloc (.cells c T)).alloc (.cells #[.int .i64 y] 3)).cell? ((⟨w.heap.size + 1, 0, none⟩ : Addr).add j) = some u := by
  have := cell_one_new (w.alloc (.cells c T)) (.int .i64 y) 3
  rw [show (w.alloc (.cells c T)).heap.size = w.heap.size + 1 by simp] at this
  exact this

set_option maxHeartbeats 4000000 in
set_option maxRecDepth 100000 in
theorem spec_Keys_c (x : Book) (a0 : Option Addr) (c0 : Nat) (a1 : Option Addr) (c1 : Nat) (a2 : Option Addr) (c2 : Nat) (w : World) (h1 : SlR 7 repHtlc w 0 w.heap.size (.slice a1 x.htlcs.length c1) x.htlcs) (h2 : SlR 5 repCircle w 0 w.heap.size (.slice a2 x.circles.length c2) x.circles) (nh : x.htlcs.length ≤ 60) (nc : x.circles.length ≤ 20) :
    Calls Try.prog 119 #[.agg #[.int .i64 x.tick, .int .i64 x.next, .int .i64 x.wallet, .slice a0 x.chans.length c0, .slice a1 x.htlcs.length c1, .slice a2 x.circles.length c2]] w fun e w' => ∃ a c, e = .returned (.slice a (keysOf x).length c) ∧ Grow w w' ∧ SlR 1 repInt w' w.heap.size w'.heap.size (.slice a (keysOf x).length c) (keysOf x) := by
  obtain ⟨i0, hi0, hz0, hz1, hz2⟩ := info_parts infoInt
  have hki := keys_i64 h1 h2
  have HKI := Lib.hid hki; clear hki
  have H1 := Lib.hid h1; have H2 := Lib.hid h2
  clear h1 h2
  have hg0 : Grow w (w.alloc (.cells #[.int .i64 x.tick, .int .i64 x.next, .int .i64 x.wallet, .slice a0 x.chans.length c0, .slice a1 x.htlcs.length c1, .slice a2 x.circles.length c2] 58)) := (Grow.refl _).alloc _ _
  have hb : BookAt (w.alloc (.cells #[.int .i64 x.tick, .int .i64 x.next, .int .i64 x.wallet, .slice a0 x.chans.length c0, .slice a1 x.htlcs.length c1, .slice a2 x.circles.length c2] 58)) w.heap.size x a0 c0 a1 c1 a2 c2 := BookAt.new x a0 c0 a1 c1 a2 c2 w
  have HB := Lib.hid hb; have HG0 := Lib.hid hg0
  clear hb hg0
  go_enter Try.func119, Try.ntmps119
  go_wp2
  have hsz : (w.alloc (.cells #[.int .i64 x.tick, .int .i64 x.next, .int .i64 x.wallet, .slice a0 x.chans.length c0, .slice a1 x.htlcs.length c1, .slice a2 x.circles.length c2] 58)).heap.size = w.heap.size + 1 := by simp
  obtain ⟨W, hW⟩ : ∃ W, W = w.alloc (.cells #[.int .i64 x.tick, .int .i64 x.next, .int .i64 x.wallet, .slice a0 x.chans.length c0, .slice a1 x.htlcs.length c1, .slice a2 x.circles.length c2] 58) := ⟨_, rfl⟩
  rw [← hW] at HB HG0 hsz ⊢
  clear hW
  have hmade := World.ownsRow_made (base := W.heap.size) (e := 3) (size := 1) W #[] 0 (Nat.le_refl _) (by simp [maxLen]) (by simp)
  rw [hsz] at hmade
  rw [← hsz] at hmade
  have HMADE := Lib.hid hmade; clear hmade
  rw [← hsz]
  clear hsz
  go_loopg [3, 12] x.htlcs.length (fun g v i wr => ∃ k : Nat, k + g = x.htlcs.length ∧ i = .int .i64 k ∧ Grow W wr ∧ wr.ownsRow W.heap.size 3 1 v ((x.htlcs.take k).map (·.key)).length (((x.htlcs.take k).map (·.key)).flatMap encInt))
  case atStart => exact ⟨0, by simp, rfl, (Grow.refl _).alloc _ _, HMADE.out⟩
  case round =>
    obtain ⟨k, hk, rfl, hg, hown⟩ := hrel
    have HOWN := Lib.hid hown; clear hown
    by_cases hlt : k < x.htlcs.length
    · obtain ⟨b, off, rfl, hb1, hb2, hel⟩ := H1.out.elems k hlt
      obtain ⟨e0, e1, e2, e3, e4, e5, e6, _⟩ := Htlc.atCell (hel.same repHtlc_stable ((HG0.out.trans hg).same (Nat.le_refl _)) hb1 hb2) k hlt
      have HM : Hid ((x.htlcs.take (k+1)).map (·.key) = ((x.htlcs.take k).map (·.key)) ++ [x.htlcs[k].key]) := by
        show _ = _
        rw [List.take_succ_eq_append_getElem hlt, List.map_append]; rfl
      have HL : Hid (((x.htlcs.take k).map (·.key)).length ≤ 60) := by
        show _ ≤ _
        rw [List.length_map, List.length_take]; omega
      have HG := Lib.hid hg; have HK := Lib.hid hk
      have hz0' : b < wr.heap.size := by have := (HG0.out.trans hg).size; omega
      clear hg hk hel
      generalize x.htlcs[k] = e at *
      generalize hks : (x.htlcs.take k).map (·.key) = ks at *
      have HKS := Lib.hid hks; clear hks
      go_wp2_with (at_builtin
                   refine wpList_append_g rfl (.tmp 16) (.tmp 19) 25 rfl W ((HG.out.alloc _ _).alloc _ _) 3 i0 _ 1 8 Try.underlying25 hi0 hz0 hz1 hz2 rfl (by omega) u3 ks.length (ks.flatMap encInt) rfl (own_grow HOWN.out (((Grow.refl _).alloc _ _).alloc _ _)) ⟨wr.heap.size + 1, 0, none⟩ 1 1 [.int .i64 e.key] rfl rfl (one_at wr _ _ e.key) (one_int _) (by have := HL.out; simp only [maxLen]; omega) (by have := HL.out; omega) ?_
                   intro v' w' hown' hg' hgb hat
                   have HOWN' := Lib.hid (own_snoc hown'); have HG' := Lib.hid hg'; clear hown' hg' hgb hat)
      go_roundg (x.htlcs.length - (k + 1))
      case measure => have := HK.out; omega
      case rel => exact ⟨k + 1, by have := HK.out; omega, by go_num, HG'.out, by rw [HM.out]; exact HOWN'.out⟩
    · have hke : k = x.htlcs.length := by omega
      have hown := HOWN.out
      rw [hke, List.take_length] at hown
      have hl0 : (x.htlcs.map (·.key)).length ≤ 60 := by rw [List.length_map]; omega
      have HKO : Hid (keysOf x = x.htlcs.map (·.key) ++ x.circles.map (·.key)) := rfl
      generalize x.htlcs.map (·.key) = ks0 at *
      obtain ⟨k0, k1, k2, k3, k4, k5⟩ := HB.out.grow hg
      have HGA := Lib.hid hg; have HOWN0 := Lib.hid hown
      clear hke hk hg hown HOWN
      go_wp2
      clear k0 k1 k2 k3 k4 k5
      go_loopg [3, 25] x.circles.length (fun g v i wr => ∃ k : Nat, k + g = x.circles.length ∧ i = .int .i64 k ∧ Grow W wr ∧ wr.ownsRow W.heap.size 3 1 v (ks0 ++ (x.circles.take k).map (·.key)).length ((ks0 ++ (x.circles.take k).map (·.key)).flatMap encInt))
      case atStart => exact ⟨0, by simp, rfl, HGA.out, by simpa using HOWN0.out⟩
      case round =>
        obtain ⟨k, hk, rfl, hg, hown⟩ := hrel
        have HOWN := Lib.hid hown; clear hown
        by_cases hlt : k < x.circles.length
        · obtain ⟨b, off, rfl, hb1, hb2, hel⟩ := H2.out.elems k hlt
          obtain ⟨e0, e1, e2, e3, e4, _⟩ := Circle.atCell (hel.same repCircle_stable ((HG0.out.trans hg).same (Nat.le_refl _)) hb1 hb2) k hlt
          have HM : Hid (ks0 ++ (x.circles.take (k+1)).map (·.key) = (ks0 ++ (x.circles.take k).map (·.key)) ++ [x.circles[k].key]) := by
            show _ = _
            rw [List.take_succ_eq_append_getElem hlt, List.map_append, List.append_assoc]; rfl
          have HL : Hid ((ks0 ++ (x.circles.take k).map (·.key)).length ≤ 80) := by
            show _ ≤ _
            rw [List.length_append, List.length_map, List.length_take]; omega
          have HG := Lib.hid hg; have HK := Lib.hid hk
          have hz0' : b < wr.heap.size := by have := (HG0.out.trans hg).size; omega
          clear hg hk hel
          generalize x.circles[k] = e at *
          generalize hks : ks0 ++ (x.circles.take k).map (·.key) = ks at *
          have HKS := Lib.hid hks; clear hks
          go_wp2_with (at_builtin
                       refine wpList_append_g rfl (.tmp 29) (.tmp 32) 25 rfl W ((HG.out.alloc _ _).alloc _ _) 3 i0 _ 1 8 Try.underlying25 hi0 hz0 hz1 hz2 rfl (by omega) u3 ks.length (ks.flatMap encInt) rfl (own_grow HOWN.out (((Grow.refl _).alloc _ _).alloc _ _)) ⟨wr.heap.size + 1, 0, none⟩ 1 1 [.int .i64 e.key] rfl rfl (one_at wr _ _ e.key) (one_int _) (by have := HL.out; simp only [maxLen]; omega) (by have := HL.out; omega) ?_
                       intro v' w' hown' hg' hgb hat
                       have HOWN' := Lib.hid (own_snoc hown'); have HG' := Lib.hid hg'; clear hown' hg' hgb hat)
          go_roundg (x.circles.length - (k + 1))
          case measure => have := HK.out; omega
          case rel => exact ⟨k + 1, by have := HK.out; omega, by go_num, HG'.out, by rw [HM.out]; exact HOWN'.out⟩
        · have hke : k = x.circles.length := by omega
          have hown := HOWN.out
          rw [hke, List.take_length, ← HKO.out] at hown
          have hsl : SlR 1 repInt wr W.heap.size wr.heap.size u3 (keysOf x) := SlR.of_own length_encInt hown (fun y hy => ⟨rfl, HKI.out y hy⟩)
          have hsl := hsl.stable repInt_stable (Same.refl _ _ _) (lo' := w.heap.size) (by have := HG0.out.size; omega) (Nat.le_refl _)
          have hsl' := hsl
          obtain ⟨av, cv, rfl, _, _, _⟩ := hsl'
          have HSL := Lib.hid hsl; have HG := Lib.hid (HG0.out.trans hg)
          clear hke hk hg hown HOWN hsl HKO HKI
          go_wp2
          go_ret
          exact ⟨av, cv, rfl, HG.out, HSL.out⟩
end Go.Proofs.Ytbjnbhlpibadnaa

/- A book: what is under way is valid, of the reference. -/
namespace Go.Proofs.Ytbjnbhlpibadnaa
open Go.RowKit
set_option linter.unusedSimpArgs false
set_option linter.unusedVariables false

theorem hasTake2_c (xs : List Int) (a : Option Addr) (c k : Nat) (n : Int) (lo hi : Nat) (w : World) (h0 : SlR 1 repInt w lo hi (.slice a xs.length c) xs) (hk : k ≤ xs.length) (hn : xs.length ≤ 1048576) :
    Calls Try.prog 120 #[.slice a k c, .int .i64 n] w fun e w' => e = .returned (.bool (hasI (xs.take k) n)) ∧ w = w' := by
  have hl : (xs.take k).length = k := by rw [List.length_take]; omega
  have := spec_HasInt_c (xs.take k) a c n lo hi w (h0.take k hk) (by omega)
  rw [hl] at this
  exact this

set_option maxHeartbeats 8000000 in
set_option maxRecDepth 100000 in
theorem spec_Under_c (x : Book) (a0 : Option Addr) (c0 : Nat) (a1 : Option Addr) (c1 : Nat) (a2 : Option Addr) (c2 : Nat) (w : World) (h0 : SlR 7 repChan w 0 w.heap.size (.slice a0 x.chans.length c0) x.chans) (h1 : SlR 7 repHtlc w 0 w.heap.size (.slice a1 x.htlcs.length c1) x.htlcs) (h2 : SlR 5 repCircle w 0 w.heap.size (.slice a2 x.circles.length c2) x.circles) (hn : x.chans.length ≤ 1048576) (nh : x.htlcs.length ≤ 60) (nc : x.circles.length ≤ 20) :
    Calls Try.prog 96 #[.agg #[.int .i64 x.tick, .int .i64 x.next, .int .i64 x.wallet, .slice a0 x.chans.length c0, .slice a1 x.htlcs.length c1, .slice a2 x.circles.length c2]] w fun e w' => e = .returned (.bool (partsOk x)) ∧ Grow w w' := by
  have hlen : (keysOf x).length ≤ 80 := by unfold keysOf; rw [List.length_append, List.length_map, List.length_map]; omega
  have HLEN := Lib.hid hlen; clear hlen
  have H0 := Lib.hid h0; have H1 := Lib.hid h1; have H2 := Lib.hid h2
  clear h0 h1 h2
  have hg0 : Grow w (w.alloc (.cells #[.int .i64 x.tick, .int .i64 x.next, .int .i64 x.wallet, .slice a0 x.chans.length c0, .slice a1 x.htlcs.length c1, .slice a2 x.circles.length c2] 58)) := (Grow.refl _).alloc _ _
  have hb : BookAt (w.alloc (.cells #[.int .i64 x.tick, .int .i64 x.next, .int .i64 x.wallet, .slice a0 x.chans.length c0, .slice a1 x.htlcs.length c1, .slice a2 x.circles.length c2] 58)) w.heap.size x a0 c0 a1 c1 a2 c2 := BookAt.new x a0 c0 a1 c1 a2 c2 w
  have HB := Lib.hid hb; have HG0 := Lib.hid hg0
  clear hb hg0
  go_enter Try.func96, Try.ntmps96
  go_wp2
  obtain ⟨W, hW⟩ : ∃ W, W = w.alloc (.cells #[.int .i64 x.tick, .int .i64 x.next, .int .i64 x.wallet, .slice a0 x.chans.length c0, .slice a1 x.htlcs.length c1, .slice a2 x.circles.length c2] 58) := ⟨_, rfl⟩
  rw [← hW] at HB HG0 ⊢
  clear hW
  go_loopg [13] x.htlcs.length (fun g i wr => ∃ k : Nat, k + g = x.htlcs.length ∧ i = .int .i64 k ∧ (x.htlcs.take k).all (hOk x.chans) = true ∧ Grow W wr)
  case atStart => exact ⟨0, by simp, rfl, by simp, Grow.refl _⟩
  case round =>
    obtain ⟨k, hk, rfl, hall, hg⟩ := hrel
    have HALL := Lib.hid hall; clear hall
    by_cases hlt : k < x.htlcs.length
    · obtain ⟨b, off, rfl, hb1, hb2, hel⟩ := H1.out.elems k hlt
      obtain ⟨e0, e1, e2, e3, e4, e5, e6, _⟩ := Htlc.atCell (hel.same repHtlc_stable ((HG0.out.trans hg).same (Nat.le_refl _)) hb1 hb2) k hlt
      obtain ⟨k0, k1, k2, k3, k4, k5⟩ := HB.out.grow hg
      have hzw : w.heap.size < wr.heap.size := lt_of_cell k0
      have hz0' : b < wr.heap.size := by have := (HG0.out.trans hg).size; omega
      have HE : Hid (hOk x.chans x.htlcs[k] = false → partsOk x = false) := fun h => by
        unfold partsOk; rw [all_false_of hlt h]; simp
      have HT : Hid ((x.htlcs.take (k+1)).all (hOk x.chans) = ((x.htlcs.take k).all (hOk x.chans) && hOk x.chans x.htlcs[k])) := all_take_succ hlt
      have HG := Lib.hid hg; have HK := Lib.hid hk
      clear hg hk hel
      generalize x.htlcs[k] = e at *
      by_cases hok : hOk x.chans e = true
      · obtain ⟨d1, d2, d3, d4, d5⟩ := hOk_iff.1 hok
        have d6 : amtOk e.amtOut = true := by have := amtOk_true.1 d1; exact amtOk_true.2 ⟨by omega, by omega⟩
        have HOK := Lib.hid hok; clear hok
        go_wp2_with (first
          | (go_at_call 95; refine (spec_AmtOk_c _ _).mono ?_; rintro e w' ⟨rfl, rfl⟩)
          | (go_at_call 115; refine (spec_Two_c x _ _ _ _ _ _ _ _ _ (H0.out.grow' repChan_stable ((HG0.out.trans HG.out).alloc _ _).below) hn).mono ?_; rintro e wc ⟨rfl, gc⟩
             have kc0 : wc.cell? ⟨wr.heap.size, 0, none⟩ = some (.int .i64 e.key) := cellGrow gc (cell_new 0 rfl)
             have kc1 : wc.cell? ⟨wr.heap.size, 1, none⟩ = some (.int .i64 e.inn) := cellGrow gc (cell_new 1 rfl)
             have kc2 : wc.cell? ⟨wr.heap.size, 2, none⟩ = some (.int .i64 e.out) := cellGrow gc (cell_new 2 rfl)
             have kc3 : wc.cell? ⟨wr.heap.size, 3, none⟩ = some (.int .i64 e.amtIn) := cellGrow gc (cell_new 3 rfl)
             have kc4 : wc.cell? ⟨wr.heap.size, 4, none⟩ = some (.int .i64 e.amtOut) := cellGrow gc (cell_new 4 rfl)
             have kc5 : wc.cell? ⟨wr.heap.size, 5, none⟩ = some (.bool e.kept) := cellGrow gc (cell_new 5 rfl)
             have kc6 : wc.cell? ⟨wr.heap.size, 6, none⟩ = some (.int .i64 e.age) := cellGrow gc (cell_new 6 rfl)
             have hgc := (HG.out.alloc _ _).trans gc
             have HGC := Lib.hid hgc; clear hgc gc))
        go_roundg (x.htlcs.length - (k + 1))
        case measure => have := HK.out; omega
        case rel => exact ⟨k + 1, by have := HK.out; omega, by go_num, by rw [HT.out, HALL.out, HOK.out]; rfl, HGC.out⟩
      · have hr := HE.out (by simpa using hok)
        have HR := Lib.hid hr; have HOK := Lib.hid hok; clear hr hok
        cases d5 : two x.chans e.inn e.out <;> cases d4 : amtOk e.age
        all_goals
          go_wp2_with (first
            | (go_at_call 95; refine (spec_AmtOk_c _ _).mono ?_; rintro e w' ⟨rfl, rfl⟩)
            | (go_at_call 115; refine (spec_Two_c x _ _ _ _ _ _ _ _ _ (H0.out.grow' repChan_stable ((HG0.out.trans HG.out).alloc _ _).below) hn).mono ?_; rintro e wc ⟨rfl, gc⟩
               have kc0 : wc.cell? ⟨wr.heap.size, 0, none⟩ = some (.int .i64 e.key) := cellGrow gc (cell_new 0 rfl)
               have kc1 : wc.cell? ⟨wr.heap.size, 1, none⟩ = some (.int .i64 e.inn) := cellGrow gc (cell_new 1 rfl)
               have kc2 : wc.cell? ⟨wr.heap.size, 2, none⟩ = some (.int .i64 e.out) := cellGrow gc (cell_new 2 rfl)
               have kc3 : wc.cell? ⟨wr.heap.size, 3, none⟩ = some (.int .i64 e.amtIn) := cellGrow gc (cell_new 3 rfl)
               have kc4 : wc.cell? ⟨wr.heap.size, 4, none⟩ = some (.int .i64 e.amtOut) := cellGrow gc (cell_new 4 rfl)
               have kc5 : wc.cell? ⟨wr.heap.size, 5, none⟩ = some (.bool e.kept) := cellGrow gc (cell_new 5 rfl)
               have kc6 : wc.cell? ⟨wr.heap.size, 6, none⟩ = some (.int .i64 e.age) := cellGrow gc (cell_new 6 rfl)
               have hgc := (HG.out.alloc _ _).trans gc
               have HGC := Lib.hid hgc; clear hgc gc))
          all_goals first
            | (go_ret
               exact ⟨by rw [HR.out]; rfl, HG0.out.trans HGC.out⟩)
            | (exfalso; exact HOK.out (hOk_iff.2 ⟨by assumption, by omega, by omega, by assumption, by assumption⟩))
    · have hke : k = x.htlcs.length := by omega
      have HAH := HALL.out
      rw [hke, List.take_length] at HAH
      obtain ⟨k0, k1, k2, k3, k4, k5⟩ := HB.out.grow hg
      have HGA := Lib.hid hg; have HAH' := Lib.hid HAH
      clear hke hk hg HAH HALL
      go_wp2
      clear k0 k1 k2 k3 k4 k5
      go_loopg [58] x.circles.length (fun g i wr => ∃ k : Nat, k + g = x.circles.length ∧ i = .int .i64 k ∧ (x.circles.take k).all (cOk x.chans) = true ∧ Grow W wr)
      case atStart => exact ⟨0, by simp, rfl, by simp, HGA.out⟩
      case round =>
        obtain ⟨k, hk, rfl, hall, hg⟩ := hrel
        have HALL := Lib.hid hall; clear hall
        by_cases hlt : k < x.circles.length
        · obtain ⟨b, off, rfl, hb1, hb2, hel⟩ := H2.out.elems k hlt
          obtain ⟨e0, e1, e2, e3, e4, _⟩ := Circle.atCell (hel.same repCircle_stable ((HG0.out.trans hg).same (Nat.le_refl _)) hb1 hb2) k hlt
          obtain ⟨k0, k1, k2, k3, k4, k5⟩ := HB.out.grow hg
          have hzw : w.heap.size < wr.heap.size := lt_of_cell k0
          have hz0' : b < wr.heap.size := by have := (HG0.out.trans hg).size; omega
          have HE : Hid (cOk x.chans x.circles[k] = false → partsOk x = false) := fun h => by
            unfold partsOk; rw [all_false_of hlt h]; simp
          have HT : Hid ((x.circles.take (k+1)).all (cOk x.chans) = ((x.circles.take k).all (cOk x.chans) && cOk x.chans x.circles[k])) := all_take_succ hlt
          have HG := Lib.hid hg; have HK := Lib.hid hk
          clear hg hk hel
          generalize x.circles[k] = e at *
          by_cases hok : cOk x.chans e = true
          · obtain ⟨d1, d2, d3, d5⟩ := cOk_iff.1 hok
            have HOK := Lib.hid hok; clear hok
            go_wp2_with (first
              | (go_at_call 95; refine (spec_AmtOk_c _ _).mono ?_; rintro e w' ⟨rfl, rfl⟩)
              | (go_at_call 115; refine (spec_Two_c x _ _ _ _ _ _ _ _ _ (H0.out.grow' repChan_stable ((HG0.out.trans HG.out).alloc _ _).below) hn).mono ?_; rintro e wc ⟨rfl, gc⟩
                 have kc0 : wc.cell? ⟨wr.heap.size, 0, none⟩ = some (.int .i64 e.key) := cellGrow gc (cell_new 0 rfl)
                 have kc1 : wc.cell? ⟨wr.heap.size, 1, none⟩ = some (.int .i64 e.frm) := cellGrow gc (cell_new 1 rfl)
                 have kc2 : wc.cell? ⟨wr.heap.size, 2, none⟩ = some (.int .i64 e.to) := cellGrow gc (cell_new 2 rfl)
                 have kc3 : wc.cell? ⟨wr.heap.size, 3, none⟩ = some (.int .i64 e.amt) := cellGrow gc (cell_new 3 rfl)
                 have kc4 : wc.cell? ⟨wr.heap.size, 4, none⟩ = some (.int .i64 e.fee) := cellGrow gc (cell_new 4 rfl)
                 have hgc := (HG.out.alloc _ _).trans gc
                 have HGC := Lib.hid hgc; clear hgc gc))
            go_roundg (x.circles.length - (k + 1))
            case measure => have := HK.out; omega
            case rel => exact ⟨k + 1, by have := HK.out; omega, by go_num, by rw [HT.out, HALL.out, HOK.out]; rfl, HGC.out⟩
          · have hr := HE.out (by simpa using hok)
            have HR := Lib.hid hr; have HOK := Lib.hid hok; clear hr hok
            cases d5 : two x.chans e.frm e.to <;> cases d4 : amtOk e.fee
            all_goals
              go_wp2_with (first
                | (go_at_call 95; refine (spec_AmtOk_c _ _).mono ?_; rintro e w' ⟨rfl, rfl⟩)
                | (go_at_call 115; refine (spec_Two_c x _ _ _ _ _ _ _ _ _ (H0.out.grow' repChan_stable ((HG0.out.trans HG.out).alloc _ _).below) hn).mono ?_; rintro e wc ⟨rfl, gc⟩
                   have kc0 : wc.cell? ⟨wr.heap.size, 0, none⟩ = some (.int .i64 e.key) := cellGrow gc (cell_new 0 rfl)
                   have kc1 : wc.cell? ⟨wr.heap.size, 1, none⟩ = some (.int .i64 e.frm) := cellGrow gc (cell_new 1 rfl)
                   have kc2 : wc.cell? ⟨wr.heap.size, 2, none⟩ = some (.int .i64 e.to) := cellGrow gc (cell_new 2 rfl)
                   have kc3 : wc.cell? ⟨wr.heap.size, 3, none⟩ = some (.int .i64 e.amt) := cellGrow gc (cell_new 3 rfl)
                   have kc4 : wc.cell? ⟨wr.heap.size, 4, none⟩ = some (.int .i64 e.fee) := cellGrow gc (cell_new 4 rfl)
                   have hgc := (HG.out.alloc _ _).trans gc
                   have HGC := Lib.hid hgc; clear hgc gc))
              all_goals first
                | (go_ret
                   exact ⟨by rw [HR.out]; rfl, HG0.out.trans HGC.out⟩)
                | (exfalso; exact HOK.out (cOk_iff.2 ⟨by assumption, by omega, by assumption, by assumption⟩))
        · have hke : k = x.circles.length := by omega
          have HAC := HALL.out
          rw [hke, List.take_length] at HAC
          obtain ⟨k0, k1, k2, k3, k4, k5⟩ := HB.out.grow hg
          have HNO : Hid (∀ j, j < (keysOf x).length → keyAt (keysOf x) j = false → partsOk x = false) := fun j h1 h2 => by
            unfold partsOk; rw [keysOk_no h1 h2]; simp
          have HYES : Hid ((∀ j, j < (keysOf x).length → keyAt (keysOf x) j = true) → partsOk x = true) := fun h => by
            unfold partsOk; rw [keysOk_yes h, HAH'.out, HAC]; simp [nh, nc]
          have HG := Lib.hid (HG0.out.trans hg)
          clear hke hk hg HAC HALL HAH' HGA
          go_wp2_with fail
          refine (spec_Keys_c x _ _ _ _ _ _ _ (H1.out.grow' repHtlc_stable HG.out.below) (H2.out.grow' repCircle_stable HG.out.below) nh nc).mono ?_
          rintro e V ⟨av, cv, rfl, gv, hsl⟩
          have HGV := Lib.hid (HG.out.trans gv)
          have HSL := Lib.hid hsl
          have hc1 : (keysOf x).length ≤ cv := by
            obtain ⟨_, _, hq, hc1, _, _⟩ := hsl
            injection hq with _ _ q3
            omega
          clear hsl
          have hlen := HLEN.out
          clear k0 k1 k2 k3 k4 k5 gv HG HG0 HB HLEN
          generalize keysOf x = K at *
          go_wp2
          go_loopg [91] K.length (fun g i wq => ∃ k : Nat, k + g = K.length ∧ i = .int .i64 k ∧ (∀ j, j < k → keyAt K j = true) ∧ wq = V)
          case atStart => exact ⟨0, by simp, rfl, fun j h => absurd h (by omega), rfl⟩
          case round =>
            obtain ⟨k, hk, rfl, hall, rfl⟩ := hrel
            have HALL := Lib.hid hall; clear hall
            by_cases hlt : k < K.length
            · obtain ⟨b, off, rfl, hb1, hb2, hel⟩ := HSL.out.elems k hlt
              obtain ⟨e0, _⟩ := Int.atCell hel k hlt
              have HKA : Hid (keyAt K k = (keyOk K[k] && !hasI (K.take k) K[k])) := by
                show _ = _
                unfold keyAt
                rw [List.getD_eq_getElem?_getD, List.getElem?_eq_getElem hlt]; rfl
              have HK := Lib.hid hk
              clear hk hel
              generalize K[k] = y at *
              have hkc : (k : Int) ≤ (cv : Int) := by omega
              by_cases u1 : 1 ≤ y <;> by_cases u2 : y ≤ 1000000 <;> cases q2 : hasI (K.take k) y
              all_goals
                have HQ : Hid (keyOk y = (decide (1 ≤ y) && decide (y ≤ 1000000))) := rfl
                have U1 := Lib.hid u1; have U2 := Lib.hid u2; have Q2 := Lib.hid q2
                go_wp2_with (first
                  | (go_at_call 120; refine (hasTake2_c K _ cv k y _ _ _ HSL.out (by omega) (by omega)).mono ?_; rintro e w' ⟨rfl, rfl⟩))
                first
                  | (go_ret
                     exact ⟨by rw [HNO.out k hlt (by rw [HKA.out, HQ.out, Q2.out]; have := U1.out; have := U2.out; simp; try omega)]; rfl, HGV.out⟩)
                  | (go_roundg (K.length - (k + 1))
                     case measure => have := HK.out; omega
                     case rel => exact ⟨k + 1, by have := HK.out; omega, by go_num, fun j hj => by
                       by_cases e : j = k
                       · subst e; rw [HKA.out, HQ.out, Q2.out]; have := U1.out; have := U2.out; simp; omega
                       · exact HALL.out j (by omega), rfl⟩)
            · have hr : partsOk x = true := HYES.out (fun j hj => HALL.out j (by omega))
              have HR := Lib.hid hr; clear hr
              go_wp2
              go_ret
              exact ⟨by rw [HR.out]; rfl, HGV.out⟩
end Go.Proofs.Ytbjnbhlpibadnaa

/- BookOk, as a plain definition, and its parts. -/
namespace Go.Proofs.Ytbjnbhlpibadnaa
open Go.RowKit
set_option linter.unusedSimpArgs false
set_option linter.unusedVariables false

def scOk (n : Int) : Bool := inB n (-100) 100
def chanOk1 (c : Chan) : Bool := chOk c.id && amtOk c.loc && amtOk c.remote && amtOk c.base && inB c.ppm 0 1000000 && scOk c.score && amtOk c.size
def chanSum (x : Book) (c : Chan) : Bool := c.size == c.loc + c.remote + outOf x c.id + intoOf x c.id
def ascAt (l : List Chan) (i : Nat) : Bool := match i with | 0 => true | j + 1 => match l[j]?, l[j + 1]? with | some a, some b => decide (a.id < b.id) | _, _ => true
def chanAtOk (x : Book) (i : Nat) : Bool := match x.chans[i]? with | some c => chanOk1 c && ascAt x.chans i && chanSum x c | none => true
def chansOk (x : Book) : Bool := (List.range x.chans.length).all (chanAtOk x)
def bookOk (x : Book) : Bool := amtOk x.tick && amtOk x.wallet && inB x.next 1 1125899906842624 && decide (x.chans.length ≤ 20) && partsOk x && chansOk x

theorem chansOk_no {x : Book} {k : Nat} (hk : k < x.chans.length) (h : chanAtOk x k = false) : chansOk x = false := by
  unfold chansOk; rw [List.all_eq_false]; exact ⟨k, by simpa using hk, by simp [h]⟩
theorem chansOk_yes {x : Book} (h : ∀ j, j < x.chans.length → chanAtOk x j = true) : chansOk x = true := by
  unfold chansOk; rw [List.all_eq_true]; intro j hj; exact h j (by simpa using hj)
theorem Small.of_parts {x : Book} (h : partsOk x = true) : Small x := by
  unfold partsOk at h
  simp only [Bool.and_eq_true, decide_eq_true_eq, List.all_eq_true] at h
  obtain ⟨⟨⟨⟨h1, h2⟩, h3⟩, h4⟩, _⟩ := h
  refine ⟨h1, h2, fun e he => ?_, fun e he => ?_⟩
  · obtain ⟨d1, d2, d3, _, _⟩ := hOk_iff.1 (h3 e he)
    have := amtOk_true.1 d1
    omega
  · obtain ⟨d1, d2, d3, _⟩ := cOk_iff.1 (h4 e he)
    have := amtOk_true.1 d1
    have := amtOk_true.1 d3
    omega

theorem impl_scOk_c (n : Int) (w : World) : Calls Try.prog 108 #[.int .i64 n] w fun e w' => e = .returned (.bool (scOk n)) ∧ w = w' := by
  go_enter Try.func108, Try.ntmps108
  go_wp2_with (go_at_call 85; refine (in_c _ _ _ _).mono ?_; rintro e w' ⟨rfl, rfl⟩)
  go_ret
  exact ⟨rfl, rfl⟩
theorem spec_scOk_c (n : Int) (w : World) : Calls Try.prog 97 #[.int .i64 n] w fun e w' => e = .returned (.bool (scOk n)) ∧ w = w' := by
  unfold scOk inB
  by_cases h1 : -100 ≤ n <;> by_cases h2 : n ≤ 100
  all_goals
    go_enter Try.func97, Try.ntmps97
    go_wp2
    go_ret
    exact ⟨by simp [h1, h2], rfl⟩
/-- The quiet calls, as go_quiet wants them. -/
theorem impl_AmtOk_q (n : Int) (w : World) : Calls Try.prog 105 #[.int .i64 n] w fun e w' => e = .returned (.bool (amtOk n)) ∧ w' = w := (impl_AmtOk_c n w).mono fun _ _ h => ⟨h.1, h.2.symm⟩
theorem spec_AmtOk_q (n : Int) (w : World) : Calls Try.prog 95 #[.int .i64 n] w fun e w' => e = .returned (.bool (amtOk n)) ∧ w' = w := (spec_AmtOk_c n w).mono fun _ _ h => ⟨h.1, h.2.symm⟩
theorem impl_scOk_q (n : Int) (w : World) : Calls Try.prog 108 #[.int .i64 n] w fun e w' => e = .returned (.bool (scOk n)) ∧ w' = w := (impl_scOk_c n w).mono fun _ _ h => ⟨h.1, h.2.symm⟩
theorem spec_scOk_q (n : Int) (w : World) : Calls Try.prog 97 #[.int .i64 n] w fun e w' => e = .returned (.bool (scOk n)) ∧ w' = w := (spec_scOk_c n w).mono fun _ _ h => ⟨h.1, h.2.symm⟩
theorem isChan_q (n : Int) (w : World) : Calls Try.prog 107 #[.int .i64 n] w fun e w' => e = .returned (.bool (chOk n)) ∧ w' = w := (isChan_c n w).mono fun _ _ h => ⟨h.1, h.2.symm⟩
end Go.Proofs.Ytbjnbhlpibadnaa

/- BookOk of the program. -/
namespace Go.Proofs.Ytbjnbhlpibadnaa
open Go.RowKit
set_option linter.unusedSimpArgs false
set_option linter.unusedVariables false

theorem sums_le {x : Book} (s : Small x) (ch : Int) : 0 ≤ outOf x ch ∧ outOf x ch ≤ 112589990684262400 ∧ 0 ≤ intoOf x ch ∧ intoOf x ch ≤ 112589990684262400 := by
  have a := tot_lim 60 (by omega) (s.hOut ch) s.nh x.htlcs.length
  have b := tot_lim 60 (by omega) (s.hIn ch) s.nh x.htlcs.length
  have c := tot_lim 20 (by omega) (s.cOut ch) s.nc x.circles.length
  have d := tot_lim 20 (by omega) (s.cIn ch) s.nc x.circles.length
  rw [List.take_length] at a b c d
  unfold outOf intoOf
  omega

set_option maxHeartbeats 8000000 in
set_option maxRecDepth 100000 in
theorem impl_BookOk_c (x : Book) (a0 : Option Addr) (c0 : Nat) (a1 : Option Addr) (c1 : Nat) (a2 : Option Addr) (c2 : Nat) (w : World) (h0 : SlR 7 repChan w 0 w.heap.size (.slice a0 x.chans.length c0) x.chans) (h1 : SlR 7 repHtlc w 0 w.heap.size (.slice a1 x.htlcs.length c1) x.htlcs) (h2 : SlR 5 repCircle w 0 w.heap.size (.slice a2 x.circles.length c2) x.circles) (hn : x.chans.length ≤ 1048576) :
    Calls Try.prog 69 #[.agg #[.int .i64 x.tick, .int .i64 x.next, .int .i64 x.wallet, .slice a0 x.chans.length c0, .slice a1 x.htlcs.length c1, .slice a2 x.circles.length c2]] w fun e w' => e = .returned (.bool (bookOk x)) ∧ Grow w w' := by
  have hg0 : Grow w (w.alloc (.cells #[.int .i64 x.tick, .int .i64 x.next, .int .i64 x.wallet, .slice a0 x.chans.length c0, .slice a1 x.htlcs.length c1, .slice a2 x.circles.length c2] 58)) := (Grow.refl _).alloc _ _
  have hb : BookAt (w.alloc (.cells #[.int .i64 x.tick, .int .i64 x.next, .int .i64 x.wallet, .slice a0 x.chans.length c0, .slice a1 x.htlcs.length c1, .slice a2 x.circles.length c2] 58)) w.heap.size x a0 c0 a1 c1 a2 c2 := BookAt.new x a0 c0 a1 c1 a2 c2 w
  have HB := Lib.hid hb; have HG0 := Lib.hid hg0
  clear hb hg0
  have H0 := Lib.hid h0; have H1 := Lib.hid h1; have H2 := Lib.hid h2
  clear h0 h1 h2
  have HP : Hid (bookOk x = (amtOk x.tick && amtOk x.wallet && inB x.next 1 1125899906842624 && decide (x.chans.length ≤ 20) && partsOk x && chansOk x)) := rfl
  by_cases c1 : amtOk x.tick = true
  rotate_left
  · have HR : Hid (bookOk x = false) := by
      show _ = _
      rw [HP.out]; simp [c1]
    have c1 : amtOk x.tick = false := by simpa using c1
    go_enter Try.func69, Try.ntmps69
    go_wp2_with (first
      | (go_at_call 105; refine (impl_AmtOk_c _ _).mono ?_; rintro e w' ⟨rfl, rfl⟩)
      | (go_at_call 85; refine (in_c _ _ _ _).mono ?_; rintro e w' ⟨rfl, rfl⟩)
      | (go_at_call 106; refine (impl_partsOk_c x _ _ _ _ _ _ _ (H0.out.grow' repChan_stable HG0.out.below) (H1.out.grow' repHtlc_stable HG0.out.below) (H2.out.grow' repCircle_stable HG0.out.below) hn).mono ?_; rintro e wp ⟨rfl, gp⟩
         have HGP := Lib.hid gp; have bp := HB.out.grow gp; have HBP := Lib.hid bp; obtain ⟨kp0, kp1, kp2, kp3, kp4, kp5⟩ := bp; clear gp))
    all_goals first
      | (go_ret
         exact ⟨by rw [HR.out]; rfl, HG0.out.trans HGP.out⟩)
      | (go_ret
         exact ⟨by rw [HR.out]; rfl, HG0.out⟩)
  by_cases c2 : amtOk x.wallet = true
  rotate_left
  · have HR : Hid (bookOk x = false) := by
      show _ = _
      rw [HP.out]; simp [c2]
    have c2 : amtOk x.wallet = false := by simpa using c2
    go_enter Try.func69, Try.ntmps69
    go_wp2_with (first
      | (go_at_call 105; refine (impl_AmtOk_c _ _).mono ?_; rintro e w' ⟨rfl, rfl⟩)
      | (go_at_call 85; refine (in_c _ _ _ _).mono ?_; rintro e w' ⟨rfl, rfl⟩)
      | (go_at_call 106; refine (impl_partsOk_c x _ _ _ _ _ _ _ (H0.out.grow' repChan_stable HG0.out.below) (H1.out.grow' repHtlc_stable HG0.out.below) (H2.out.grow' repCircle_stable HG0.out.below) hn).mono ?_; rintro e wp ⟨rfl, gp⟩
         have HGP := Lib.hid gp; have bp := HB.out.grow gp; have HBP := Lib.hid bp; obtain ⟨kp0, kp1, kp2, kp3, kp4, kp5⟩ := bp; clear gp))
    all_goals first
      | (go_ret
         exact ⟨by rw [HR.out]; rfl, HG0.out.trans HGP.out⟩)
      | (go_ret
         exact ⟨by rw [HR.out]; rfl, HG0.out⟩)
  by_cases c3 : inB x.next 1 1125899906842624 = true
  rotate_left
  · have HR : Hid (bookOk x = false) := by
      show _ = _
      rw [HP.out]; simp [c3]
    have c3 : inB x.next 1 1125899906842624 = false := by simpa using c3
    go_enter Try.func69, Try.ntmps69
    go_wp2_with (first
      | (go_at_call 105; refine (impl_AmtOk_c _ _).mono ?_; rintro e w' ⟨rfl, rfl⟩)
      | (go_at_call 85; refine (in_c _ _ _ _).mono ?_; rintro e w' ⟨rfl, rfl⟩)
      | (go_at_call 106; refine (impl_partsOk_c x _ _ _ _ _ _ _ (H0.out.grow' repChan_stable HG0.out.below) (H1.out.grow' repHtlc_stable HG0.out.below) (H2.out.grow' repCircle_stable HG0.out.below) hn).mono ?_; rintro e wp ⟨rfl, gp⟩
         have HGP := Lib.hid gp; have bp := HB.out.grow gp; have HBP := Lib.hid bp; obtain ⟨kp0, kp1, kp2, kp3, kp4, kp5⟩ := bp; clear gp))
    all_goals first
      | (go_ret
         exact ⟨by rw [HR.out]; rfl, HG0.out.trans HGP.out⟩)
      | (go_ret
         exact ⟨by rw [HR.out]; rfl, HG0.out⟩)
  by_cases c4 : x.chans.length ≤ 20
  rotate_left
  · have HR : Hid (bookOk x = false) := by
      show _ = _
      rw [HP.out]; simp [c4]
    have q4 : decide ((20 : Int) < (x.chans.length : Int)) = true := by simp; omega
    go_enter Try.func69, Try.ntmps69
    go_wp2_with (first
      | (go_at_call 105; refine (impl_AmtOk_c _ _).mono ?_; rintro e w' ⟨rfl, rfl⟩)
      | (go_at_call 85; refine (in_c _ _ _ _).mono ?_; rintro e w' ⟨rfl, rfl⟩)
      | (go_at_call 106; refine (impl_partsOk_c x _ _ _ _ _ _ _ (H0.out.grow' repChan_stable HG0.out.below) (H1.out.grow' repHtlc_stable HG0.out.below) (H2.out.grow' repCircle_stable HG0.out.below) hn).mono ?_; rintro e wp ⟨rfl, gp⟩
         have HGP := Lib.hid gp; have bp := HB.out.grow gp; have HBP := Lib.hid bp; obtain ⟨kp0, kp1, kp2, kp3, kp4, kp5⟩ := bp; clear gp))
    all_goals first
      | (go_ret
         exact ⟨by rw [HR.out]; rfl, HG0.out.trans HGP.out⟩)
      | (go_ret
         exact ⟨by rw [HR.out]; rfl, HG0.out⟩)
  have q4 : decide ((20 : Int) < (x.chans.length : Int)) = false := by simp; omega
  by_cases c5 : partsOk x = true
  rotate_left
  · have HR : Hid (bookOk x = false) := by
      show _ = _
      rw [HP.out]; simp [c5]
    have c5 : partsOk x = false := by simpa using c5
    go_enter Try.func69, Try.ntmps69
    go_wp2_with (first
      | (go_at_call 105; refine (impl_AmtOk_c _ _).mono ?_; rintro e w' ⟨rfl, rfl⟩)
      | (go_at_call 85; refine (in_c _ _ _ _).mono ?_; rintro e w' ⟨rfl, rfl⟩)
      | (go_at_call 106; refine (impl_partsOk_c x _ _ _ _ _ _ _ (H0.out.grow' repChan_stable HG0.out.below) (H1.out.grow' repHtlc_stable HG0.out.below) (H2.out.grow' repCircle_stable HG0.out.below) hn).mono ?_; rintro e wp ⟨rfl, gp⟩
         have HGP := Lib.hid gp; have bp := HB.out.grow gp; have HBP := Lib.hid bp; obtain ⟨kp0, kp1, kp2, kp3, kp4, kp5⟩ := bp; clear gp))
    all_goals first
      | (go_ret
         exact ⟨by rw [HR.out]; rfl, HG0.out.trans HGP.out⟩)
      | (go_ret
         exact ⟨by rw [HR.out]; rfl, HG0.out⟩)
  have SM := Lib.hid (Small.of_parts c5)
  go_enter Try.func69, Try.ntmps69
  go_wp2_with (first
    | (go_at_call 105; refine (impl_AmtOk_c _ _).mono ?_; rintro e w' ⟨rfl, rfl⟩)
    | (go_at_call 85; refine (in_c _ _ _ _).mono ?_; rintro e w' ⟨rfl, rfl⟩)
    | (go_at_call 106; refine (impl_partsOk_c x _ _ _ _ _ _ _ (H0.out.grow' repChan_stable HG0.out.below) (H1.out.grow' repHtlc_stable HG0.out.below) (H2.out.grow' repCircle_stable HG0.out.below) hn).mono ?_; rintro e wp ⟨rfl, gp⟩
       have HGP := Lib.hid gp; have bp := HB.out.grow gp; have HBP := Lib.hid bp; obtain ⟨kp0, kp1, kp2, kp3, kp4, kp5⟩ := bp; clear gp))
  clear kp0 kp1 kp2 kp3 kp4 kp5
  have HHEAD : Hid (bookOk x = chansOk x) := by
    show _ = _
    rw [HP.out]; simp [c1, c2, c3, c4, c5]
  go_loopg [37] x.chans.length (fun g i wr => ∃ k : Nat, k + g = x.chans.length ∧ i = .int .i64 k ∧ (∀ j, j < k → chanAtOk x j = true) ∧ Grow wp wr)
  case atStart => exact ⟨0, by simp, rfl, fun j h => absurd h (by omega), Grow.refl _⟩
  case round =>
    obtain ⟨k, hk, rfl, hall, hg⟩ := hrel
    have HALL := Lib.hid hall; clear hall
    have hgw := (HG0.out.trans HGP.out).trans hg
    by_cases hlt : k < x.chans.length
    · have HEL := Lib.hid (H0.out.elems k hlt)
      obtain ⟨b, off, ha, hb1, hb2, hel⟩ := HEL.out
      obtain ⟨e0, e1, e2, e3, e4, e5, e6, _⟩ := Chan.atCell (hel.same repChan_stable (hgw.same (Nat.le_refl _)) hb1 hb2) k hlt
      subst ha
      have hgs := hg.size
      have HG := Lib.hid hg; have HGW := Lib.hid hgw; have HK := Lib.hid hk
      clear hg hgw hk hel
      have HCA : Hid (chanAtOk x k = (chanOk1 x.chans[k] && ascAt x.chans k && chanSum x x.chans[k])) := by
        show _ = _
        unfold chanAtOk; rw [List.getElem?_eq_getElem hlt]
      have HPREV : Hid (∀ j (h : j < x.chans.length), k = j + 1 → ascAt x.chans k = decide (x.chans[j].id < x.chans[k].id) ∧ wp.heap.size ≤ wr.heap.size) := fun j h he => by
        subst he
        refine ⟨?_, hgs⟩
        unfold ascAt
        simp [List.getElem?_eq_getElem h, List.getElem?_eq_getElem hlt]
      generalize x.chans[k] = e at *
      go_wp2_with fail
      obtain ⟨V, hV⟩ : ∃ V, V = wr.alloc (.cells #[.int .i64 e.id, .int .i64 e.size, .int .i64 e.loc, .int .i64 e.remote, .int .i64 e.base, .int .i64 e.ppm, .int .i64 e.score] 107) := ⟨_, rfl⟩
      have gV : Grow wr V := by rw [hV]; exact (Grow.refl _).alloc _ _
      have v0 : V.cell? ⟨wr.heap.size, 0, none⟩ = some (.int .i64 e.id) := by rw [hV]; exact cell_new 0 rfl
      have v1 : V.cell? ⟨wr.heap.size, 1, none⟩ = some (.int .i64 e.size) := by rw [hV]; exact cell_new 1 rfl
      have v2 : V.cell? ⟨wr.heap.size, 2, none⟩ = some (.int .i64 e.loc) := by rw [hV]; exact cell_new 2 rfl
      have v3 : V.cell? ⟨wr.heap.size, 3, none⟩ = some (.int .i64 e.remote) := by rw [hV]; exact cell_new 3 rfl
      have v4 : V.cell? ⟨wr.heap.size, 4, none⟩ = some (.int .i64 e.base) := by rw [hV]; exact cell_new 4 rfl
      have v5 : V.cell? ⟨wr.heap.size, 5, none⟩ = some (.int .i64 e.ppm) := by rw [hV]; exact cell_new 5 rfl
      have v6 : V.cell? ⟨wr.heap.size, 6, none⟩ = some (.int .i64 e.score) := by rw [hV]; exact cell_new 6 rfl
      obtain ⟨k0, k1, k2, k3, k4, k5⟩ := HB.out.grow ((HGP.out.trans HG.out).trans gV)
      rw [← hV]
      clear hV e0 e1 e2 e3 e4 e5 e6
      have HGV := Lib.hid gV; clear gV
      have HNO : Hid (chanAtOk x k = false → chansOk x = false) := fun h => chansOk_no hlt h
      rcases k with _ | j
      · have HCA : Hid (chanAtOk x 0 = (chanOk1 e && true && chanSum x e)) := HCA
        by_cases t1 : chOk e.id = true
        rotate_left
        · have t1 : chOk e.id = false := by simpa using t1
          have HR : Hid (bookOk x = false) := by
            show _ = _
            rw [HHEAD.out]; exact HNO.out (by rw [HCA.out]; simp [chanOk1, t1])
          go_quiet (first
            | (go_at_call 107; exact Calls.quiet_of_same (isChan_q _ _))
            | (go_at_call 105; exact Calls.quiet_of_same (impl_AmtOk_q _ _))
            | (go_at_call 85; exact Calls.quiet_of_same (in_q _ _ _ _))
            | (go_at_call 108; exact Calls.quiet_of_same (impl_scOk_q _ _)))
          go_wp2_with fail
          go_ret
          exact ⟨by rw [HR.out]; rfl, HGW.out.trans (HGV.out.drewN _)⟩
        by_cases t3 : amtOk e.loc = true
        rotate_left
        · have t3 : amtOk e.loc = false := by simpa using t3
          have HR : Hid (bookOk x = false) := by
            show _ = _
            rw [HHEAD.out]; exact HNO.out (by rw [HCA.out]; simp [chanOk1, t3])
          go_quiet (first
            | (go_at_call 107; exact Calls.quiet_of_same (isChan_q _ _))
            | (go_at_call 105; exact Calls.quiet_of_same (impl_AmtOk_q _ _))
            | (go_at_call 85; exact Calls.quiet_of_same (in_q _ _ _ _))
            | (go_at_call 108; exact Calls.quiet_of_same (impl_scOk_q _ _)))
          go_wp2_with fail
          go_ret
          exact ⟨by rw [HR.out]; rfl, HGW.out.trans (HGV.out.drewN _)⟩
        by_cases t4 : amtOk e.remote = true
        rotate_left
        · have t4 : amtOk e.remote = false := by simpa using t4
          have HR : Hid (bookOk x = false) := by
            show _ = _
            rw [HHEAD.out]; exact HNO.out (by rw [HCA.out]; simp [chanOk1, t4])
          go_quiet (first
            | (go_at_call 107; exact Calls.quiet_of_same (isChan_q _ _))
            | (go_at_call 105; exact Calls.quiet_of_same (impl_AmtOk_q _ _))
            | (go_at_call 85; exact Calls.quiet_of_same (in_q _ _ _ _))
            | (go_at_call 108; exact Calls.quiet_of_same (impl_scOk_q _ _)))
          go_wp2_with fail
          go_ret
          exact ⟨by rw [HR.out]; rfl, HGW.out.trans (HGV.out.drewN _)⟩
        by_cases t5 : amtOk e.base = true
        rotate_left
        · have t5 : amtOk e.base = false := by simpa using t5
          have HR : Hid (bookOk x = false) := by
            show _ = _
            rw [HHEAD.out]; exact HNO.out (by rw [HCA.out]; simp [chanOk1, t5])
          go_quiet (first
            | (go_at_call 107; exact Calls.quiet_of_same (isChan_q _ _))
            | (go_at_call 105; exact Calls.quiet_of_same (impl_AmtOk_q _ _))
            | (go_at_call 85; exact Calls.quiet_of_same (in_q _ _ _ _))
            | (go_at_call 108; exact Calls.quiet_of_same (impl_scOk_q _ _)))
          go_wp2_with fail
          go_ret
          exact ⟨by rw [HR.out]; rfl, HGW.out.trans (HGV.out.drewN _)⟩
        by_cases t6 : inB e.ppm 0 1000000 = true
        rotate_left
        · have t6 : inB e.ppm 0 1000000 = false := by simpa using t6
          have HR : Hid (bookOk x = false) := by
            show _ = _
            rw [HHEAD.out]; exact HNO.out (by rw [HCA.out]; simp [chanOk1, t6])
          go_quiet (first
            | (go_at_call 107; exact Calls.quiet_of_same (isChan_q _ _))
            | (go_at_call 105; exact Calls.quiet_of_same (impl_AmtOk_q _ _))
            | (go_at_call 85; exact Calls.quiet_of_same (in_q _ _ _ _))
            | (go_at_call 108; exact Calls.quiet_of_same (impl_scOk_q _ _)))
          go_wp2_with fail
          go_ret
          exact ⟨by rw [HR.out]; rfl, HGW.out.trans (HGV.out.drewN _)⟩
        by_cases t7 : scOk e.score = true
        rotate_left
        · have t7 : scOk e.score = false := by simpa using t7
          have HR : Hid (bookOk x = false) := by
            show _ = _
            rw [HHEAD.out]; exact HNO.out (by rw [HCA.out]; simp [chanOk1, t7])
          go_quiet (first
            | (go_at_call 107; exact Calls.quiet_of_same (isChan_q _ _))
            | (go_at_call 105; exact Calls.quiet_of_same (impl_AmtOk_q _ _))
            | (go_at_call 85; exact Calls.quiet_of_same (in_q _ _ _ _))
            | (go_at_call 108; exact Calls.quiet_of_same (impl_scOk_q _ _)))
          go_wp2_with fail
          go_ret
          exact ⟨by rw [HR.out]; rfl, HGW.out.trans (HGV.out.drewN _)⟩
        by_cases t8 : amtOk e.size = true
        rotate_left
        · have t8 : amtOk e.size = false := by simpa using t8
          have HR : Hid (bookOk x = false) := by
            show _ = _
            rw [HHEAD.out]; exact HNO.out (by rw [HCA.out]; simp [chanOk1, t8])
          go_quiet (first
            | (go_at_call 107; exact Calls.quiet_of_same (isChan_q _ _))
            | (go_at_call 105; exact Calls.quiet_of_same (impl_AmtOk_q _ _))
            | (go_at_call 85; exact Calls.quiet_of_same (in_q _ _ _ _))
            | (go_at_call 108; exact Calls.quiet_of_same (impl_scOk_q _ _)))
          go_wp2_with fail
          go_ret
          exact ⟨by rw [HR.out]; rfl, HGW.out.trans (HGV.out.drewN _)⟩
        go_quiet (first
          | (go_at_call 107; exact Calls.quiet_of_same (isChan_q _ _))
          | (go_at_call 105; exact Calls.quiet_of_same (impl_AmtOk_q _ _))
          | (go_at_call 85; exact Calls.quiet_of_same (in_q _ _ _ _))
          | (go_at_call 108; exact Calls.quiet_of_same (impl_scOk_q _ _)))
        go_wp2_with fail
        have HGN := Lib.hid (HGW.out.trans (HGV.out.drewN nq))
        refine (transit_c x _ _ _ _ _ _ e.id _ (H1.out.grow' repHtlc_stable HGN.out.below) (H2.out.grow' repCircle_stable HGN.out.below) SM.out).mono ?_
        rintro e' w9 ⟨rfl, g9⟩
        have y0 : w9.cell? ⟨wr.heap.size, 0, none⟩ = some (.int .i64 e.id) := cellGrow (w := V.drewN nq) g9 v0
        have y1 : w9.cell? ⟨wr.heap.size, 1, none⟩ = some (.int .i64 e.size) := cellGrow (w := V.drewN nq) g9 v1
        have y2 : w9.cell? ⟨wr.heap.size, 2, none⟩ = some (.int .i64 e.loc) := cellGrow (w := V.drewN nq) g9 v2
        have y3 : w9.cell? ⟨wr.heap.size, 3, none⟩ = some (.int .i64 e.remote) := cellGrow (w := V.drewN nq) g9 v3
        have y4 : w9.cell? ⟨wr.heap.size, 4, none⟩ = some (.int .i64 e.base) := cellGrow (w := V.drewN nq) g9 v4
        have y5 : w9.cell? ⟨wr.heap.size, 5, none⟩ = some (.int .i64 e.ppm) := cellGrow (w := V.drewN nq) g9 v5
        have y6 : w9.cell? ⟨wr.heap.size, 6, none⟩ = some (.int .i64 e.score) := cellGrow (w := V.drewN nq) g9 v6
        have HG9 := Lib.hid (HGN.out.trans g9)
        have HG9' := Lib.hid ((HG.out.trans (HGV.out.drewN nq)).trans g9)
        have b3 := amtOk_true.1 t3
        have b4 := amtOk_true.1 t4
        obtain ⟨o1, o2, o3, o4⟩ := sums_le SM.out e.id
        have HCS : Hid (chanSum x e = (e.size == e.loc + e.remote + outOf x e.id + intoOf x e.id)) := rfl
        clear v0 v1 v2 v3 v4 v5 v6 k0 k1 k2 k3 k4 k5 g9
        generalize outOf x e.id = po at *
        generalize intoOf x e.id = pi at *
        by_cases ts : e.size = e.loc + e.remote + po + pi
        · have TS := Lib.hid ts
          go_wp2
          go_roundg (x.chans.length - (0 + 1))
          case measure => have := HK.out; omega
          case rel => exact ⟨0 + 1, by have := HK.out; omega, by go_num, fun i hi => by
            by_cases he : i = 0
            · have h8 := t8; rw [TS.out] at h8; rw [he, HCA.out, HCS.out]; simp [chanOk1, TS.out, t1, t3, t4, t5, t6, t7, h8]
            · exact HALL.out i (by omega), HG9'.out⟩
        · have TS := Lib.hid ts
          go_wp2
          go_ret
          exact ⟨by rw [HHEAD.out, HNO.out (by rw [HCA.out, HCS.out]; simp [TS.out])]; rfl, HG9.out⟩
      · have hj : j < x.chans.length := by omega
        obtain ⟨b_, off_, ha_, _, _, hel⟩ := HEL.out
        injection ha_ with ha_
        injection ha_ with qb qo
        subst qb qo
        have HASC := Lib.hid (HPREV.out j hj rfl).1
        obtain ⟨f0, _⟩ := Chan.atCell (hel.same repChan_stable ((HGW.out.trans HGV.out).same (Nat.le_refl _)) hb1 hb2) j hj
        clear hel
        generalize x.chans[j].id = p at *
        have ej : ((j + 1 : Nat) : Int) - 1 = (j : Int) := by omega
        by_cases t1 : chOk e.id = true
        rotate_left
        · have t1 : chOk e.id = false := by simpa using t1
          have HR : Hid (bookOk x = false) := by
            show _ = _
            rw [HHEAD.out]; exact HNO.out (by rw [HCA.out]; simp [chanOk1, t1])
          go_quiet (first
            | (go_at_call 107; exact Calls.quiet_of_same (isChan_q _ _))
            | (go_at_call 105; exact Calls.quiet_of_same (impl_AmtOk_q _ _))
            | (go_at_call 85; exact Calls.quiet_of_same (in_q _ _ _ _))
            | (go_at_call 108; exact Calls.quiet_of_same (impl_scOk_q _ _)))
          go_wp2_with fail
          go_ret
          exact ⟨by rw [HR.out]; rfl, HGW.out.trans (HGV.out.drewN _)⟩
        by_cases t2 : p < e.id
        rotate_left
        · have q2 : decide (e.id ≤ p) = true := by simp; omega
          have HR : Hid (bookOk x = false) := by
            show _ = _
            rw [HHEAD.out]; exact HNO.out (by rw [HCA.out]; simp [HASC.out, t2])
          go_quiet (first
            | (go_at_call 107; exact Calls.quiet_of_same (isChan_q _ _))
            | (go_at_call 105; exact Calls.quiet_of_same (impl_AmtOk_q _ _))
            | (go_at_call 85; exact Calls.quiet_of_same (in_q _ _ _ _))
            | (go_at_call 108; exact Calls.quiet_of_same (impl_scOk_q _ _)))
          go_wp2_with fail
          go_ret
          exact ⟨by rw [HR.out]; rfl, HGW.out.trans (HGV.out.drewN _)⟩
        have q2 : decide (e.id ≤ p) = false := by simp; omega
        by_cases t3 : amtOk e.loc = true
        rotate_left
        · have t3 : amtOk e.loc = false := by simpa using t3
          have HR : Hid (bookOk x = false) := by
            show _ = _
            rw [HHEAD.out]; exact HNO.out (by rw [HCA.out]; simp [chanOk1, t3])
          go_quiet (first
            | (go_at_call 107; exact Calls.quiet_of_same (isChan_q _ _))
            | (go_at_call 105; exact Calls.quiet_of_same (impl_AmtOk_q _ _))
            | (go_at_call 85; exact Calls.quiet_of_same (in_q _ _ _ _))
            | (go_at_call 108; exact Calls.quiet_of_same (impl_scOk_q _ _)))
          go_wp2_with fail
          go_ret
          exact ⟨by rw [HR.out]; rfl, HGW.out.trans (HGV.out.drewN _)⟩
        by_cases t4 : amtOk e.remote = true
        rotate_left
        · have t4 : amtOk e.remote = false := by simpa using t4
          have HR : Hid (bookOk x = false) := by
            show _ = _
            rw [HHEAD.out]; exact HNO.out (by rw [HCA.out]; simp [chanOk1, t4])
          go_quiet (first
            | (go_at_call 107; exact Calls.quiet_of_same (isChan_q _ _))
            | (go_at_call 105; exact Calls.quiet_of_same (impl_AmtOk_q _ _))
            | (go_at_call 85; exact Calls.quiet_of_same (in_q _ _ _ _))
            | (go_at_call 108; exact Calls.quiet_of_same (impl_scOk_q _ _)))
          go_wp2_with fail
          go_ret
          exact ⟨by rw [HR.out]; rfl, HGW.out.trans (HGV.out.drewN _)⟩
        by_cases t5 : amtOk e.base = true
        rotate_left
        · have t5 : amtOk e.base = false := by simpa using t5
          have HR : Hid (bookOk x = false) := by
            show _ = _
            rw [HHEAD.out]; exact HNO.out (by rw [HCA.out]; simp [chanOk1, t5])
          go_quiet (first
            | (go_at_call 107; exact Calls.quiet_of_same (isChan_q _ _))
            | (go_at_call 105; exact Calls.quiet_of_same (impl_AmtOk_q _ _))
            | (go_at_call 85; exact Calls.quiet_of_same (in_q _ _ _ _))
            | (go_at_call 108; exact Calls.quiet_of_same (impl_scOk_q _ _)))
          go_wp2_with fail
          go_ret
          exact ⟨by rw [HR.out]; rfl, HGW.out.trans (HGV.out.drewN _)⟩
        by_cases t6 : inB e.ppm 0 1000000 = true
        rotate_left
        · have t6 : inB e.ppm 0 1000000 = false := by simpa using t6
          have HR : Hid (bookOk x = false) := by
            show _ = _
            rw [HHEAD.out]; exact HNO.out (by rw [HCA.out]; simp [chanOk1, t6])
          go_quiet (first
            | (go_at_call 107; exact Calls.quiet_of_same (isChan_q _ _))
            | (go_at_call 105; exact Calls.quiet_of_same (impl_AmtOk_q _ _))
            | (go_at_call 85; exact Calls.quiet_of_same (in_q _ _ _ _))
            | (go_at_call 108; exact Calls.quiet_of_same (impl_scOk_q _ _)))
          go_wp2_with fail
          go_ret
          exact ⟨by rw [HR.out]; rfl, HGW.out.trans (HGV.out.drewN _)⟩
        by_cases t7 : scOk e.score = true
        rotate_left
        · have t7 : scOk e.score = false := by simpa using t7
          have HR : Hid (bookOk x = false) := by
            show _ = _
            rw [HHEAD.out]; exact HNO.out (by rw [HCA.out]; simp [chanOk1, t7])
          go_quiet (first
            | (go_at_call 107; exact Calls.quiet_of_same (isChan_q _ _))
            | (go_at_call 105; exact Calls.quiet_of_same (impl_AmtOk_q _ _))
            | (go_at_call 85; exact Calls.quiet_of_same (in_q _ _ _ _))
            | (go_at_call 108; exact Calls.quiet_of_same (impl_scOk_q _ _)))
          go_wp2_with fail
          go_ret
          exact ⟨by rw [HR.out]; rfl, HGW.out.trans (HGV.out.drewN _)⟩
        by_cases t8 : amtOk e.size = true
        rotate_left
        · have t8 : amtOk e.size = false := by simpa using t8
          have HR : Hid (bookOk x = false) := by
            show _ = _
            rw [HHEAD.out]; exact HNO.out (by rw [HCA.out]; simp [chanOk1, t8])
          go_quiet (first
            | (go_at_call 107; exact Calls.quiet_of_same (isChan_q _ _))
            | (go_at_call 105; exact Calls.quiet_of_same (impl_AmtOk_q _ _))
            | (go_at_call 85; exact Calls.quiet_of_same (in_q _ _ _ _))
            | (go_at_call 108; exact Calls.quiet_of_same (impl_scOk_q _ _)))
          go_wp2_with fail
          go_ret
          exact ⟨by rw [HR.out]; rfl, HGW.out.trans (HGV.out.drewN _)⟩
        go_quiet (first
          | (go_at_call 107; exact Calls.quiet_of_same (isChan_q _ _))
          | (go_at_call 105; exact Calls.quiet_of_same (impl_AmtOk_q _ _))
          | (go_at_call 85; exact Calls.quiet_of_same (in_q _ _ _ _))
          | (go_at_call 108; exact Calls.quiet_of_same (impl_scOk_q _ _)))
        go_wp2_with fail
        have HGN := Lib.hid (HGW.out.trans (HGV.out.drewN nq))
        refine (transit_c x _ _ _ _ _ _ e.id _ (H1.out.grow' repHtlc_stable HGN.out.below) (H2.out.grow' repCircle_stable HGN.out.below) SM.out).mono ?_
        rintro e' w9 ⟨rfl, g9⟩
        have y0 : w9.cell? ⟨wr.heap.size, 0, none⟩ = some (.int .i64 e.id) := cellGrow (w := V.drewN nq) g9 v0
        have y1 : w9.cell? ⟨wr.heap.size, 1, none⟩ = some (.int .i64 e.size) := cellGrow (w := V.drewN nq) g9 v1
        have y2 : w9.cell? ⟨wr.heap.size, 2, none⟩ = some (.int .i64 e.loc) := cellGrow (w := V.drewN nq) g9 v2
        have y3 : w9.cell? ⟨wr.heap.size, 3, none⟩ = some (.int .i64 e.remote) := cellGrow (w := V.drewN nq) g9 v3
        have y4 : w9.cell? ⟨wr.heap.size, 4, none⟩ = some (.int .i64 e.base) := cellGrow (w := V.drewN nq) g9 v4
        have y5 : w9.cell? ⟨wr.heap.size, 5, none⟩ = some (.int .i64 e.ppm) := cellGrow (w := V.drewN nq) g9 v5
        have y6 : w9.cell? ⟨wr.heap.size, 6, none⟩ = some (.int .i64 e.score) := cellGrow (w := V.drewN nq) g9 v6
        have HG9 := Lib.hid (HGN.out.trans g9)
        have HG9' := Lib.hid ((HG.out.trans (HGV.out.drewN nq)).trans g9)
        have b3 := amtOk_true.1 t3
        have b4 := amtOk_true.1 t4
        obtain ⟨o1, o2, o3, o4⟩ := sums_le SM.out e.id
        have TT2 := Lib.hid t2
        have HCS : Hid (chanSum x e = (e.size == e.loc + e.remote + outOf x e.id + intoOf x e.id)) := rfl
        clear v0 v1 v2 v3 v4 v5 v6 k0 k1 k2 k3 k4 k5 g9
        generalize outOf x e.id = po at *
        generalize intoOf x e.id = pi at *
        by_cases ts : e.size = e.loc + e.remote + po + pi
        · have TS := Lib.hid ts
          go_wp2
          go_roundg (x.chans.length - (j + 1 + 1))
          case measure => have := HK.out; omega
          case rel => exact ⟨j + 1 + 1, by have := HK.out; omega, by go_num, fun i hi => by
            by_cases he : i = j + 1
            · have h8 := t8; rw [TS.out] at h8; rw [he, HCA.out, HCS.out]; simp [chanOk1, TS.out, t1, t3, t4, t5, t6, t7, h8, HASC.out, TT2.out]
            · exact HALL.out i (by omega), HG9'.out⟩
        · have TS := Lib.hid ts
          go_wp2
          go_ret
          exact ⟨by rw [HHEAD.out, HNO.out (by rw [HCA.out, HCS.out]; simp [TS.out])]; rfl, HG9.out⟩
    · have hr : chansOk x = true := chansOk_yes (fun j hj => HALL.out j (by omega))
      have HR : Hid (bookOk x = true) := HHEAD.out.trans hr
      have HGW := Lib.hid hgw; clear hr hgw hg
      go_wp2
      go_ret
      exact ⟨by rw [HR.out]; rfl, HGW.out⟩
end Go.Proofs.Ytbjnbhlpibadnaa
