/- A cursor over the bytes of a draw: what is kept of it, and what its moves leave alone. No program in sight. -/
import Derived.Test.YteklopbnkclfaaaSup2
namespace Go.Proofs.Yteklopbnkclfaaa
open Go.RowKit

theorem bits_and_le (x : Int) (m : Nat) (hm : m < 9223372036854775808) : 0 ≤ bits BinOp.and IntKind.i64 x (m : Int) ∧ bits BinOp.and IntKind.i64 x (m : Int) ≤ m := by
  have h1 : (BitVec.ofInt 64 x &&& BitVec.ofInt 64 (m : Int)).toNat ≤ m := by
    rw [BitVec.toNat_and]
    have h2 : (BitVec.ofInt 64 (m : Int)).toNat = m := by
      rw [BitVec.toNat_ofInt]
      omega
    rw [h2]
    exact Nat.and_le_right
  have h3 : bits BinOp.and IntKind.i64 x (m : Int) = IntKind.i64.wrap ((BitVec.ofInt 64 x &&& BitVec.ofInt 64 (m : Int)).toNat : Int) := rfl
  rw [h3]
  generalize (BitVec.ofInt 64 x &&& BitVec.ofInt 64 (m : Int)).toNat = z at *
  have h4 : IntKind.i64.wrap (z : Int) = z := by
    simp [IntKind.wrap, IntKind.bits, IntKind.signed]
    omega
  rw [h4]
  omega

/-- w' is w but for block p and new blocks, none of them shared with a string. -/
structure Mv (p : Nat) (w w' : World) : Prop where
  os : w'.os = w.os
  tape : w'.tape = w.tape
  output : w'.output = w.output
  size : w.heap.size ≤ w'.heap.size
  block : ∀ k, k < w.heap.size → k ≠ p → w'.heap[k]? = w.heap[k]?
  nf : NF w.heap.size w'.heap.size w'
  frp : ∀ o, w'.frozen? ⟨p, o, none⟩ = w.frozen? ⟨p, o, none⟩

theorem Mv.refl (p : Nat) (w : World) : Mv p w w := ⟨rfl, rfl, rfl, Nat.le_refl _, fun _ _ _ => rfl, fun _ _ h1 h2 => absurd h2 (by omega), fun _ => rfl⟩
theorem Mv.trans {p : Nat} {a b c : World} (h : Mv p a b) (k : Mv p b c) (hp : p < a.heap.size) : Mv p a c :=
  ⟨k.os.trans h.os, k.tape.trans h.tape, k.output.trans h.output, Nat.le_trans h.size k.size,
    fun i h1 h2 => (k.block i (Nat.lt_of_lt_of_le h1 h.size) h2).trans (h.block i h1 h2), fun x o h1 h2 => by
    by_cases hx : x < b.heap.size
    · rw [World.frozen?_of_block (w := b) (k.block x hx (by omega))]; exact h.nf x o h1 hx
    · exact k.nf x o (by omega) h2, fun o => (k.frp o).trans (h.frp o)⟩
theorem Mv.setCell {p : Nat} {a w : World} (h : Mv p a w) (o : Nat) (u : Value) : Mv p a (w.setCell ⟨p, o, none⟩ u) :=
  ⟨h.os, h.tape, h.output, by rw [World.size_setCell]; exact h.size, fun k h1 h2 => by
    rw [Below.heap_setCell _ _ _ _ h2]; exact h.block k h1 h2, fun x o' h1 h2 => by
    rw [World.frozen?_setCell]; exact h.nf x o' h1 (by simpa [World.setCell] using h2), fun o' => by rw [World.frozen?_setCell]; exact h.frp o'⟩
theorem Mv.drew {p : Nat} {a w : World} (h : Mv p a w) : Mv p a w.drew := ⟨h.os, h.tape, h.output, h.size, h.block, h.nf, h.frp⟩
theorem Mv.drewN {p : Nat} {a w : World} (h : Mv p a w) (n : Nat) : Mv p a (w.drewN n) := ⟨h.os, h.tape, h.output, h.size, h.block, h.nf, h.frp⟩
theorem Mv.grow {p : Nat} {a w : World} (h : Grow a w) (hp : p < a.heap.size) : Mv p a w := ⟨h.below.os, h.below.tape, h.below.output, h.below.size, fun k h1 _ => h.below.block k h1, h.nf, fun o => h.below.frozen (p := ⟨p, o, none⟩) hp⟩
theorem Mv.alloc {p : Nat} {a w : World} (h : Mv p a w) (hp : p < a.heap.size) (c : Array Value) (T : TypeId) : Mv p a (w.alloc (.cells c T)) := h.trans (Mv.grow ((Grow.refl w).alloc c T) (Nat.lt_of_lt_of_le hp h.size)) hp
theorem Grow.mv {p : Nat} {a w w' : World} (h : Grow a w) (k : Mv p w w') (hp : a.heap.size ≤ p) : Grow a w' :=
  ⟨⟨k.os.trans h.below.os, k.tape.trans h.below.tape, k.output.trans h.below.output, Nat.le_trans h.size k.size, fun i hi => (k.block i (Nat.lt_of_lt_of_le hi h.size) (by omega)).trans (h.below.block i hi)⟩, fun x o h1 h2 => by
    by_cases hx : x < w.heap.size
    · by_cases hxp : x = p
      · subst hxp
        rw [k.frp o]; exact h.nf x o h1 hx
      · rw [World.frozen?_of_block (w := w) (k.block x hx hxp)]; exact h.nf x o h1 hx
    · exact k.nf x o (by omega) h2⟩
theorem Mv.cell {p : Nat} {w w' : World} (h : Mv p w w') {b o : Nat} {v : Value} (hb : b ≠ p) (hc : w.cell? ⟨b, o, none⟩ = some v) : w'.cell? ⟨b, o, none⟩ = some v := by
  rw [World.cell?_of_block (w := w) (h.block b (lt_of_cell hc) hb)]; exact hc

/-- Block p holds a cursor over the bytes xs: the slice, a place in it, a number. -/
def Cur (w : World) (p : Nat) (xs : List Int) : Prop := ∃ (a : Option Addr) (c : Nat) (i : Nat) (h : Int), w.cell? ⟨p, 0, none⟩ = some (.slice a xs.length c) ∧ w.cell? ⟨p, 1, none⟩ = some (.int .i64 i) ∧ w.cell? ⟨p, 2, none⟩ = some (.int .i64 h) ∧
  i ≤ xs.length ∧ xs.length ≤ 1048576 ∧ (∀ o, w.frozen? ⟨p, o, none⟩ = false) ∧ (xs = [] ∨ ∃ b off, a = some ⟨b, off, none⟩ ∧ b ≠ p ∧ Elems 1 repByte w 0 w.heap.size b off xs)

theorem Elems.mv {p : Nat} {w w' : World} (h : Mv p w w') {b off : Nat} {xs : List Int} (hb : b ≠ p) (he : Elems 1 repByte w 0 w.heap.size b off xs) : Elems 1 repByte w' 0 w'.heap.size b off xs :=
  fun i hi => let ⟨cs, hr, hc⟩ := he i hi; ⟨cs, hr, fun j v hj => h.cell hb (hc j v hj)⟩
/-- A cursor stays where something else has grown. -/
theorem Cur.grow {w w' : World} {p : Nat} {xs : List Int} (h : Cur w p xs) (hg : Grow w w') : Cur w' p xs := by
  obtain ⟨a, c, i, n, h0, h1, h2, h3, h4, h5, h6⟩ := h
  have hp := lt_of_cell h0
  refine ⟨a, c, i, n, cellGrow hg h0, cellGrow hg h1, cellGrow hg h2, h3, h4, fun o => by rw [hg.below.frozen (p := ⟨p, o, none⟩) hp]; exact h5 o, ?_⟩
  rcases h6 with h6 | ⟨b, off, ha, hb, he⟩
  · exact .inl h6
  · exact .inr ⟨b, off, ha, hb, he.mv (Mv.grow hg hp) hb⟩

theorem cellSet2 {w : World} {b o o' : Nat} {v u : Value} (h : w.cell? ⟨b, o, none⟩ = some v) (hne : o' ≠ o) : (w.setCell ⟨b, o', none⟩ u).cell? ⟨b, o, none⟩ = some v := by
  rw [World.cell?_setCell_other w ⟨b, o', none⟩ ⟨b, o, none⟩ u (by intro e; injection e with _ e2; exact hne e2)]; exact h
theorem wrap64_i64 (x : Int) : i64 (wrap64 x) := by
  unfold i64 wrap64
  omega
end Go.Proofs.Yteklopbnkclfaaa
