/- The plain data types, and how values read as such data. No program in sight. -/
import Derived.Test.YtofdmjaceghmbaaSup
namespace Go.Proofs.Ytofdmjaceghmbaa
open Go.RowKit

def encInt (x : Int) : List Value := [.int .i64 x]
def repInt (_ : World) (_ _ : Nat) (cs : List Value) (x : Int) : Prop := cs = encInt x ∧ i64 x
theorem repInt_stable : Stable repInt := fun _ _ _ _ _ _ _ _ _ _ _ h => h
theorem Int.atCell {w : World} {b off lo hi : Nat} {xs : List Int} (h : Elems 1 repInt w lo hi b off xs) (i : Nat) (hi' : i < xs.length) : w.cell? ⟨b, off + i, none⟩ = some (.int .i64 xs[i]) ∧ i64 xs[i] := by
  obtain ⟨cs, ⟨rfl, hw⟩, hc⟩ := h i hi'
  have := hc 0 _ rfl
  simp only [Nat.mul_one, Nat.add_zero] at this
  exact ⟨this, hw⟩

structure Rule where
  lo : Int
  hi : Int
  step : Int
  min : Int
  max : Int

def wfRule (x : Rule) : Prop := i64 (x.lo) ∧ i64 (x.hi) ∧ i64 (x.step) ∧ i64 (x.min) ∧ i64 (x.max)
def encRule (x : Rule) : List Value := [.int .i64 x.lo, .int .i64 x.hi, .int .i64 x.step, .int .i64 x.min, .int .i64 x.max]
def repRule (_ : World) (_ _ : Nat) (cs : List Value) (x : Rule) : Prop := cs = encRule x ∧ wfRule x
theorem repRule_stable : Stable repRule := fun _ _ _ _ _ _ _ _ _ _ _ h => h
theorem Rule.atCell {w : World} {b off lo hi : Nat} {xs : List Rule} (h : Elems 5 repRule w lo hi b off xs) (i : Nat) (hi' : i < xs.length) :
    w.cell? ⟨b, off + i * 5, none⟩ = some (.int .i64 xs[i].lo) ∧ w.cell? ⟨b, off + i * 5 + 1, none⟩ = some (.int .i64 xs[i].hi) ∧ w.cell? ⟨b, off + i * 5 + 2, none⟩ = some (.int .i64 xs[i].step) ∧ w.cell? ⟨b, off + i * 5 + 3, none⟩ = some (.int .i64 xs[i].min) ∧ w.cell? ⟨b, off + i * 5 + 4, none⟩ = some (.int .i64 xs[i].max) ∧ wfRule xs[i] := by
  obtain ⟨cs, ⟨rfl, hw⟩, hc⟩ := h i hi'
  exact ⟨hc 0 _ rfl, hc 1 _ rfl, hc 2 _ rfl, hc 3 _ rfl, hc 4 _ rfl, hw⟩

end Go.Proofs.Ytofdmjaceghmbaa
