/- The plain data types, and how values read as such data. No program in sight. -/
import Derived.Test.YteklopbnkclfaaaSup
namespace Go.Proofs.Yteklopbnkclfaaa
open Go.RowKit

def encByte (x : Int) : List Value := [.int .u8 x]
def repByte (_ : World) (_ _ : Nat) (cs : List Value) (x : Int) : Prop := cs = encByte x ∧ (0 ≤ x ∧ x ≤ 255)
theorem repByte_stable : Stable repByte := fun _ _ _ _ _ _ _ _ _ _ _ h => h
theorem Byte.atCell {w : World} {b off lo hi : Nat} {xs : List Int} (h : Elems 1 repByte w lo hi b off xs) (i : Nat) (hi' : i < xs.length) : w.cell? ⟨b, off + i, none⟩ = some (.int .u8 xs[i]) ∧ 0 ≤ xs[i] ∧ xs[i] ≤ 255 := by
  obtain ⟨cs, ⟨rfl, hw⟩, hc⟩ := h i hi'
  have := hc 0 _ rfl
  simp only [Nat.mul_one, Nat.add_zero] at this
  exact ⟨this, hw⟩

def encInt (x : Int) : List Value := [.int .i64 x]
def repInt (_ : World) (_ _ : Nat) (cs : List Value) (x : Int) : Prop := cs = encInt x ∧ i64 x
theorem repInt_stable : Stable repInt := fun _ _ _ _ _ _ _ _ _ _ _ h => h
theorem Int.atCell {w : World} {b off lo hi : Nat} {xs : List Int} (h : Elems 1 repInt w lo hi b off xs) (i : Nat) (hi' : i < xs.length) : w.cell? ⟨b, off + i, none⟩ = some (.int .i64 xs[i]) ∧ i64 xs[i] := by
  obtain ⟨cs, ⟨rfl, hw⟩, hc⟩ := h i hi'
  have := hc 0 _ rfl
  simp only [Nat.mul_one, Nat.add_zero] at this
  exact ⟨this, hw⟩

structure Chan where
  id : Int
  size : Int
  loc : Int
  remote : Int
  base : Int
  ppm : Int
  score : Int

def wfChan (x : Chan) : Prop := i64 (x.id) ∧ i64 (x.size) ∧ i64 (x.loc) ∧ i64 (x.remote) ∧ i64 (x.base) ∧ i64 (x.ppm) ∧ i64 (x.score)
def encChan (x : Chan) : List Value := [.int .i64 x.id, .int .i64 x.size, .int .i64 x.loc, .int .i64 x.remote, .int .i64 x.base, .int .i64 x.ppm, .int .i64 x.score]
def repChan (_ : World) (_ _ : Nat) (cs : List Value) (x : Chan) : Prop := cs = encChan x ∧ wfChan x
theorem repChan_stable : Stable repChan := fun _ _ _ _ _ _ _ _ _ _ _ h => h
theorem Chan.atCell {w : World} {b off lo hi : Nat} {xs : List Chan} (h : Elems 7 repChan w lo hi b off xs) (i : Nat) (hi' : i < xs.length) :
    w.cell? ⟨b, off + i * 7, none⟩ = some (.int .i64 xs[i].id) ∧ w.cell? ⟨b, off + i * 7 + 1, none⟩ = some (.int .i64 xs[i].size) ∧ w.cell? ⟨b, off + i * 7 + 2, none⟩ = some (.int .i64 xs[i].loc) ∧ w.cell? ⟨b, off + i * 7 + 3, none⟩ = some (.int .i64 xs[i].remote) ∧ w.cell? ⟨b, off + i * 7 + 4, none⟩ = some (.int .i64 xs[i].base) ∧ w.cell? ⟨b, off + i * 7 + 5, none⟩ = some (.int .i64 xs[i].ppm) ∧ w.cell? ⟨b, off + i * 7 + 6, none⟩ = some (.int .i64 xs[i].score) ∧ wfChan xs[i] := by
  obtain ⟨cs, ⟨rfl, hw⟩, hc⟩ := h i hi'
  exact ⟨hc 0 _ rfl, hc 1 _ rfl, hc 2 _ rfl, hc 3 _ rfl, hc 4 _ rfl, hc 5 _ rfl, hc 6 _ rfl, hw⟩

structure Edge where
  frm : Int
  to : Int
  cap : Int
  cost : Int

def wfEdge (x : Edge) : Prop := i64 (x.frm) ∧ i64 (x.to) ∧ i64 (x.cap) ∧ i64 (x.cost)
def encEdge (x : Edge) : List Value := [.int .i64 x.frm, .int .i64 x.to, .int .i64 x.cap, .int .i64 x.cost]
def repEdge (_ : World) (_ _ : Nat) (cs : List Value) (x : Edge) : Prop := cs = encEdge x ∧ wfEdge x
theorem repEdge_stable : Stable repEdge := fun _ _ _ _ _ _ _ _ _ _ _ h => h
theorem Edge.atCell {w : World} {b off lo hi : Nat} {xs : List Edge} (h : Elems 4 repEdge w lo hi b off xs) (i : Nat) (hi' : i < xs.length) :
    w.cell? ⟨b, off + i * 4, none⟩ = some (.int .i64 xs[i].frm) ∧ w.cell? ⟨b, off + i * 4 + 1, none⟩ = some (.int .i64 xs[i].to) ∧ w.cell? ⟨b, off + i * 4 + 2, none⟩ = some (.int .i64 xs[i].cap) ∧ w.cell? ⟨b, off + i * 4 + 3, none⟩ = some (.int .i64 xs[i].cost) ∧ wfEdge xs[i] := by
  obtain ⟨cs, ⟨rfl, hw⟩, hc⟩ := h i hi'
  exact ⟨hc 0 _ rfl, hc 1 _ rfl, hc 2 _ rfl, hc 3 _ rfl, hw⟩

structure Graph where
  n : Int
  edges : List Edge

def wfGraph (x : Graph) : Prop := i64 (x.n)
def repGraph (w : World) (lo hi : Nat) (cs : List Value) (x : Graph) : Prop := ∃ v0 : Value, cs = [.int .i64 x.n, v0] ∧ SlR 4 repEdge w lo hi v0 x.edges ∧ wfGraph x
theorem repGraph_stable : Stable repGraph := fun _ _ _ _ _ _ _ _ hs hl hh ⟨v0, e, h0, hw⟩ => ⟨v0, e, h0.stable repEdge_stable hs hl hh, hw⟩

structure Move where
  frm : Int
  to : Int
  amt : Int
  ppm : Int

def wfMove (x : Move) : Prop := i64 (x.frm) ∧ i64 (x.to) ∧ i64 (x.amt) ∧ i64 (x.ppm)
def encMove (x : Move) : List Value := [.int .i64 x.frm, .int .i64 x.to, .int .i64 x.amt, .int .i64 x.ppm]
def repMove (_ : World) (_ _ : Nat) (cs : List Value) (x : Move) : Prop := cs = encMove x ∧ wfMove x
theorem repMove_stable : Stable repMove := fun _ _ _ _ _ _ _ _ _ _ _ h => h
theorem Move.atCell {w : World} {b off lo hi : Nat} {xs : List Move} (h : Elems 4 repMove w lo hi b off xs) (i : Nat) (hi' : i < xs.length) :
    w.cell? ⟨b, off + i * 4, none⟩ = some (.int .i64 xs[i].frm) ∧ w.cell? ⟨b, off + i * 4 + 1, none⟩ = some (.int .i64 xs[i].to) ∧ w.cell? ⟨b, off + i * 4 + 2, none⟩ = some (.int .i64 xs[i].amt) ∧ w.cell? ⟨b, off + i * 4 + 3, none⟩ = some (.int .i64 xs[i].ppm) ∧ wfMove xs[i] := by
  obtain ⟨cs, ⟨rfl, hw⟩, hc⟩ := h i hi'
  exact ⟨hc 0 _ rfl, hc 1 _ rfl, hc 2 _ rfl, hc 3 _ rfl, hw⟩

structure Rule where
  lo : Int
  hi : Int
  step : Int
  min : Int
  max : Int

def wfRule (x : Rule) : Prop := i64 (x.lo) ∧ i64 (x.hi) ∧ i64 (x.step) ∧ i64 (x.min) ∧ i64 (x.max)
def encRule (x : Rule) : List Value := [.int .i64 x.lo, .int .i64 x.hi, .int .i64 x.step, .int .i64 x.min, .int .i64 x.max]
def repRule (_ : World) (_ _ : Nat) (cs : List Value) (x : Rule) : Prop := cs = encRule x ∧ wfRule x
theorem repRule_stable : Stable repRule := fun _ _ _ _ _ _ _ _ _ _ _ h => h
theorem Rule.atCell {w : World} {b off lo hi : Nat} {xs : List Rule} (h : Elems 5 repRule w lo hi b off xs) (i : Nat) (hi' : i < xs.length) :
    w.cell? ⟨b, off + i * 5, none⟩ = some (.int .i64 xs[i].lo) ∧ w.cell? ⟨b, off + i * 5 + 1, none⟩ = some (.int .i64 xs[i].hi) ∧ w.cell? ⟨b, off + i * 5 + 2, none⟩ = some (.int .i64 xs[i].step) ∧ w.cell? ⟨b, off + i * 5 + 3, none⟩ = some (.int .i64 xs[i].min) ∧ w.cell? ⟨b, off + i * 5 + 4, none⟩ = some (.int .i64 xs[i].max) ∧ wfRule xs[i] := by
  obtain ⟨cs, ⟨rfl, hw⟩, hc⟩ := h i hi'
  exact ⟨hc 0 _ rfl, hc 1 _ rfl, hc 2 _ rfl, hc 3 _ rfl, hc 4 _ rfl, hw⟩

end Go.Proofs.Yteklopbnkclfaaa
