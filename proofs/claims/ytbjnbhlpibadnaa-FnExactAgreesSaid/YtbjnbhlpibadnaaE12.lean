/- Structs of numbers and truth values compared, over data. No program in sight. -/
import Derived.Test.YtbjnbhlpibadnaaE11
import Derived.Laws.StructEq
namespace Go.Proofs.Ytbjnbhlpibadnaa
open Go.RowKit
set_option linter.unusedSimpArgs false
set_option linter.unusedVariables false

/-- Whether flat cells are the same. -/
def eqVals : List Value → List Value → Bool
  | .int _ a :: r, .int _ b :: r' => a == b && eqVals r r'
  | .bool a :: r, .bool b :: r' => a == b && eqVals r r'
  | [], [] => true
  | _, _ => false
/-- Fields of one cell each, numbers and truth values, one behind the other. -/
def flatF (P : Program) : List Field → Nat → List Value → List Value → Prop
  | [], _, [], [] => True
  | f :: fs, i, .int k _ :: r, .int k' _ :: r' => k = k' ∧ f.name ≠ "_" ∧ f.offset = i ∧ (∃ k, P.underlying f.type = some (.int k)) ∧ flatF P fs (i + 1) r r'
  | f :: fs, i, .bool _ :: r, .bool _ :: r' => f.name ≠ "_" ∧ f.offset = i ∧ P.underlying f.type = some .bool ∧ flatF P fs (i + 1) r r'
  | _, _, _, _ => False
section
variable {P : Program}
theorem part_run {t : TypeId} {d : TypeDesc} (ht : P.underlying t = some d) (h1 : ∀ fs, d ≠ .struct fs) (h2 : ∀ n e, d ≠ .array n e) {xs : Array Value} {i : Nat} {v : Value} (hv : xs[i]? = some v) (W : World) : (part t xs i).run P W = .ok v W := by
  simp only [part, Sem.run_bind, isAgg_not ht h1 h2, Result.andThen_ok, Bool.false_eq_true, if_false]
  simp [hv]
theorem eqFields_flat (d : Nat) (W : World) : ∀ (fs : List Field) (i : Nat) (pre pre' vs vs' : List Value), pre.length = i → pre'.length = i → flatF P fs i vs vs' →
    (Op.eqFields (d + 1) (pre ++ vs).toArray (pre' ++ vs').toArray fs).run P W = .ok (eqVals vs vs') W
  | [], i, pre, pre', vs, vs', _, _, h => by
    cases vs <;> cases vs' <;> first | rfl | exact h.elim | (rename_i v _; cases v <;> exact h.elim)
  | f :: fs, i, pre, pre', [], vs', _, _, h => by cases vs' <;> exact h.elim
  | f :: fs, i, pre, pre', v :: r, [], _, _, h => by cases v <;> exact h.elim
  | f :: fs, i, pre, pre', v :: r, v' :: r', h1, h2, h => by
    have e1 : (pre ++ v :: r).toArray[i]? = some v := by rw [List.getElem?_toArray, List.getElem?_append_right (by omega), h1]; simp
    have e2 : (pre' ++ v' :: r').toArray[i]? = some v' := by rw [List.getElem?_toArray, List.getElem?_append_right (by omega), h2]; simp
    cases v <;> cases v' <;> first | exact h.elim | skip
    case int.int k a k' b =>
      obtain ⟨rfl, q1, q2, ⟨kk, q3⟩, q4⟩ := h
      have ih := eqFields_flat d W fs (i + 1) (pre ++ [.int k a]) (pre' ++ [.int k b]) r r' (by simp [h1]) (by simp [h2]) q4
      rw [List.append_assoc, List.append_assoc, List.singleton_append, List.singleton_append] at ih
      unfold Op.eqFields
      rw [if_pos q1, Sem.run_bind, q2, part_run q3 (by simp) (by simp) e1, Result.andThen_ok, Sem.run_bind, part_run q3 (by simp) (by simp) e2, Result.andThen_ok, Sem.run_bind, run_equalIn_int W d f.type k kk a b q3, Result.andThen_ok]
      unfold eqVals
      cases hab : (a == b)
      · simp
      · simpa using ih
    case bool.bool a b =>
      obtain ⟨q1, q2, q3, q4⟩ := h
      have ih := eqFields_flat d W fs (i + 1) (pre ++ [.bool a]) (pre' ++ [.bool b]) r r' (by simp [h1]) (by simp [h2]) q4
      rw [List.append_assoc, List.append_assoc, List.singleton_append, List.singleton_append] at ih
      unfold Op.eqFields
      rw [if_pos q1, Sem.run_bind, q2, part_run q3 (by simp) (by simp) e1, Result.andThen_ok, Sem.run_bind, part_run q3 (by simp) (by simp) e2, Result.andThen_ok, Sem.run_bind, run_equalIn_bool' W d f.type a b q3, Result.andThen_ok]
      unfold eqVals
      cases hab : (a == b)
      · simp
      · simpa using ih
variable {o : Oper} {τ : Nat → AV} {H : Nat → AO} {X : Nat → Bool}
theorem rd_eqS {op : BinOp} {T yT : TypeId} {x y : Operand} {xs ys : List Value} {fs : List Field} (ho : o.op = .binOp op T x y yT) (hop : op = .eql ∨ op = .neq) (hx : valA (ev τ x) = some (.agg xs.toArray)) (hy : valA (ev τ y) = some (.agg ys.toArray))
    (hf : P.fieldsOf T = fs.toArray) (ht : P.underlying T = some (.struct (P.fieldsOf T))) (hp : P.stoodInHeld T = false) (hg : P.eqGuardType P.depth T = false) (hfl : flatF P fs 0 xs ys) : Rd P o τ H X (boo (match op with | .eql => eqVals xs ys | _ => !eqVals xs ys)) := by
  have he : ∀ W, (Op.equal T (.agg xs.toArray) (.agg ys.toArray)).run P W = .ok (eqVals xs ys) W := fun W => by
    have h1 := run_equalIn_struct (P := P) W (Op.maxDepth - 1) T xs.toArray ys.toArray ht hp
    have h2 := eqFields_flat (P := P) (Op.maxDepth - 2) W fs 0 [] [] xs ys rfl rfl hfl
    rw [hf] at h1
    exact h1.trans h2
  apply rd_eqv ho hx hy
  intro W
  rcases hop with rfl | rfl
  · simp [eqGuard, binOp, hg, he]
  · simp [eqGuard, binOp, hg, he]
end
end Go.Proofs.Ytbjnbhlpibadnaa
