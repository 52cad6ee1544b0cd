/- The operations that read or reckon alone, over data. No program in sight. -/
import Derived.Test.YtbjnbhlpibadnaaE3
import Derived.Laws.MakeOwn
import Derived.Great.BuildSlice
namespace Go.Proofs.Ytbjnbhlpibadnaa
open Go.RowKit
set_option linter.unusedSimpArgs false
set_option linter.unusedVariables false

abbrev int (n : Int) : AV := .p (.v (.int .i64 n))
abbrev boo (b : Bool) : AV := .p (.v (.bool b))
def Fits (k : IntKind) (n : Int) : Prop := k.wrap n = n
theorem fits_i64 {n : Int} (h : i64 n) : Fits .i64 n := by unfold Fits; rw [IntKind.wrap_i64]; unfold i64 at h; omega

/-- What two values yield, and under which condition. -/
def binv (op : BinOp) (x y : AV) : Option (Prop × AV) :=
  match x, y with
  | .p (.v (.int k a)), .p (.v (.int k' b)) =>
    match op with
    | .add => some (k = k' ∧ Fits k (a + b), .p (.v (.int k (a + b))))
    | .sub => some (k = k' ∧ Fits k (a - b), .p (.v (.int k (a - b))))
    | .mul => some (k = k' ∧ Fits k (a * b), .p (.v (.int k (a * b))))
    | .quo => some (k = k' ∧ b ≠ 0 ∧ Fits k (a.tdiv b), .p (.v (.int k (a.tdiv b))))
    | .rem => some (k = k' ∧ b ≠ 0, .p (.v (.int k (a.tmod b))))
    | .shl => some (k = .i64 ∧ 0 ≤ b ∧ b ≤ 64 ∧ Fits k (a * 2 ^ b.toNat), .p (.v (.int k (a * 2 ^ b.toNat))))
    | .shr => some (k = .i64 ∧ 0 ≤ b ∧ b ≤ 64, .p (.v (.int k (a / 2 ^ b.toNat))))
    | .or => some (k = .i64 ∧ k' = .i64 ∧ 0 ≤ a ∧ a < 2 ^ 62 ∧ a % 256 = 0 ∧ 0 ≤ b ∧ b < 256, .p (.v (.int k (a + b))))
    | .eql => some (k = k', boo (decide (a = b)))
    | .neq => some (k = k', boo (!decide (a = b)))
    | .lss => some (k = k', boo (decide (a < b)))
    | .leq => some (k = k', boo (decide (a ≤ b)))
    | .gtr => some (k = k', boo (decide (b < a)))
    | .geq => some (k = k', boo (decide (b ≤ a)))
    | _ => none
  | _, _ => none
def unv (op : UnOp) (x : AV) : Option (Prop × AV) :=
  match op, x with
  | .not, .p (.v (.bool b)) => some (True, boo (!b))
  | .neg, .p (.v (.int k a)) => some (Fits k (-a), .p (.v (.int k (-a))))
  | _, _ => none
def convv (k : IntKind) (x : AV) : Option AV :=
  match x with
  | .p (.v (.int _ a)) => some (.p (.v (.int k (k.wrap a))))
  | _ => none
def lenv (H : Nat → AO) (x : AV) : Option AV :=
  match x with
  | .p (.lst _ _ rows) => some (int rows.length)
  | .p (.v (.slice _ n _)) => some (int n)
  | .own id => match H id with
    | .arr _ _ rows => some (int rows.length)
    | _ => none
  | .sub id _ k => match H id with
    | .arr _ _ _ => some (int k)
    | _ => none
  | _ => none
def extv (x : AV) (k : Nat) : Option AV :=
  match x with
  | .tup l => l[k]?
  | _ => none
/-- What is read in one go: one cell, or a struct of n cells. -/
def ldA (n : Option Nat) (cells : List AV) : Option AV :=
  match n with
  | none => cells[0]?
  | some n => if n ≤ cells.length then some (.agg (cells.take n)) else none
def fieldv (off : Nat) (n : Option Nat) (x : AV) : Option AV :=
  match x with
  | .agg l => ldA n (l.drop off)
  | _ => none
def mmv (mx : Bool) (x y : AV) : Option AV :=
  match x, y with
  | .p (.v (.int k a)), .p (.v (.int _ b)) => some (.p (.v (.int k (if mx then max a b else min a b))))
  | _, _ => none
def pickv (c a b : AV) : Option AV :=
  match c with
  | .p (.v (.bool t)) => some (match t with | true => a | false => b)
  | _ => none
/-- The cells of a value. -/
def cellsA : AV → Option (List AV)
  | .agg l => if l.all AV.cell = true then some l else none
  | .tup _ | .bad => none
  | x => some [x]
/-- The parts of a struct laid over its zero value. -/
def buildv : List AV → List (Nat × Nat × AV) → Option (List AV)
  | cs, [] => some cs
  | cs, (off, n, x) :: r => match cellsA x with
    | some l => if l.length = n ∧ off + n ≤ cs.length then buildv (cs.take off ++ l ++ cs.drop (off + n)) r else none
    | none => none

/-- The cells of a type: none: one cell; some n: a struct of n cells. -/
def kindA (P : Program) (t : TypeId) : Option (Option Nat) :=
  match P.underlying t with
  | some (.struct _) => some (some (P.cellsOf t))
  | some (.array _ _) => none
  | some _ => some none
  | none => none
/-- Where field k lies, and its type. -/
def fldA (P : Program) (T : TypeId) (k : Nat) : Option (Nat × TypeId) :=
  match P.underlying T with
  | some (.struct fs) => (fs[k]?).map fun f => (f.offset, f.type)
  | _ => none
def intKind (P : Program) (t : TypeId) : Option IntKind :=
  match P.underlying t with
  | some (.int k) => some k
  | _ => none
def isSlice (P : Program) (t : TypeId) : Bool :=
  match P.underlying t with
  | some (.slice _) => true
  | _ => false

section
variable {P : Program} {o : Oper} {τ : Nat → AV} {H : Nat → AO} {X : Nat → Bool}
theorem Rd.pure {x : AV} (h : ∀ {L : Nat → Prop} {ρ : Nat → Value} {a : Act} {w : World}, (∀ y, RV L ρ H w (ev τ y) (a.eval y)) → (∀ id, ∃ fp, OB L ρ H w (ρ id) fp (H id)) → ∃ c, RV L ρ H w x c ∧ ∀ W, (execOp a.eval o).run P W = .ok (.value c) W) : Rd P o τ H X x :=
  ⟨fun hr => let ⟨c, h1, h2⟩ := h (fun y => hr.ev y) (fun id => ⟨_, hr.ob id⟩); ⟨c, h1, fun W _ => h2 W⟩⟩

theorem rd_mv {x : Operand} (ho : o.op = .move x ∨ o.op = .assign x) : Rd P o τ H X (ev τ x) := by
  refine Rd.pure fun {L ρ a w} he _ => ⟨a.eval x, he x, fun W => ?_⟩
  rcases ho with ho | ho <;> simp [execOp, ho]
theorem rd_pick {c x y : Operand} {r : AV} (ho : o.op = .pick c x y) (h : pickv (ev τ c) (ev τ x) (ev τ y) = some r) : Rd P o τ H X r := by
  apply Rd.pure; intro L ρ a w he _
  have hc := he c
  generalize ev τ c = vc at *
  unfold pickv at h
  split at h
  · rename_i t
    injection h with h
    subst h
    have e := hc.v_eq
    cases t
    · exact ⟨a.eval y, he y, fun W => by simp [execOp, ho, e, asBool]⟩
    · exact ⟨a.eval x, he x, fun W => by simp [execOp, ho, e, asBool]⟩
  · cases h
theorem or_byte {a b : Int} (p1 : 0 ≤ a) (p2 : a < 2 ^ 62) (p3 : a % 256 = 0) (p4 : 0 ≤ b) (p5 : b < 256) : IntKind.i64.wrap (((a % 2 ^ IntKind.i64.bits).toNat ||| (b % 2 ^ IntKind.i64.bits).toNat : Nat) : Int) = a + b := by
  have e : IntKind.i64.bits = 64 := rfl
  rw [e]
  obtain ⟨m, rfl⟩ : ∃ m : Nat, a = ((2 ^ 8 * m : Nat) : Int) := ⟨(a / 256).toNat, by omega⟩
  obtain ⟨n, rfl⟩ : ∃ n : Nat, b = (n : Int) := ⟨b.toNat, by omega⟩
  have h1 : (((2 ^ 8 * m : Nat) : Int) % 2 ^ 64).toNat = 2 ^ 8 * m := by omega
  have h2 : ((n : Int) % 2 ^ 64).toNat = n := by omega
  rw [h1, h2, ← Nat.two_pow_add_eq_or_of_lt (i := 8) (b := n) (by omega) m, IntKind.wrap_i64]
  omega
theorem binv_run {L : Nat → Prop} {ρ : Nat → Value} {w : World} {op : BinOp} {T : TypeId} {x y : Operand} {vx vy : AV} {cx cy : Value} {pre : Prop} {r : AV} (h : binv op vx vy = some (pre, r)) (hp : pre) (hx : RV L ρ H w vx cx) (hy : RV L ρ H w vy cy) :
    ∃ c, RV L ρ H w r c ∧ ∀ W, (do eqGuard op T x y cx cy; binOp op T cx cy : Sem Value).run P W = .ok c W := by
  unfold binv at h
  split at h
  · rw [hx.v_eq, hy.v_eq]
    cases op <;> first | (cases h; done) | skip
    all_goals
      injection h with h
      injection h with h1 h2
      subst h1 h2
    case add => obtain ⟨rfl, hp⟩ := hp; exact ⟨_, RV.v_mk rfl, fun W => by unfold Fits at hp; simp [eqGuard, binOp, Op.intArith, hp]⟩
    case sub => obtain ⟨rfl, hp⟩ := hp; exact ⟨_, RV.v_mk rfl, fun W => by unfold Fits at hp; simp [eqGuard, binOp, Op.intArith, hp]⟩
    case mul => obtain ⟨rfl, hp⟩ := hp; exact ⟨_, RV.v_mk rfl, fun W => by unfold Fits at hp; simp [eqGuard, binOp, Op.intArith, hp]⟩
    case quo => obtain ⟨rfl, hb, hp⟩ := hp; exact ⟨_, RV.v_mk rfl, fun W => by unfold Fits at hp; simp [eqGuard, binOp, Op.intDiv, hb, hp]⟩
    case rem => obtain ⟨rfl, hb⟩ := hp; exact ⟨_, RV.v_mk rfl, fun W => by simp [eqGuard, binOp, Op.intDiv, hb]⟩
    case shl k a k' b =>
      obtain ⟨rfl, p1, p2, p3⟩ := hp
      have q1 : ¬ b < 0 := by omega
      have q2 : min b.toNat 64 = b.toNat := by omega
      exact ⟨_, RV.v_mk rfl, fun W => by unfold Fits at p3; simp [eqGuard, binOp, Op.shift, q1, IntKind.bits, q2, p3]⟩
    case shr k a k' b =>
      obtain ⟨rfl, p1, p2⟩ := hp
      have q1 : ¬ b < 0 := by omega
      have q2 : min b.toNat 64 = b.toNat := by omega
      exact ⟨_, RV.v_mk rfl, fun W => by simp [eqGuard, binOp, Op.shift, q1, IntKind.bits, q2]⟩
    case or k a k' b =>
      obtain ⟨rfl, rfl, p1, p2, p3, p4, p5⟩ := hp
      refine ⟨_, RV.v_mk rfl, fun W => ?_⟩
      have := or_byte p1 p2 p3 p4 p5
      simp [eqGuard, binOp, Op.intBits, this]
    case eql => subst hp; exact ⟨_, RV.v_mk rfl, fun W => by first | (simp [eqGuard, binOp, Op.intCmp]; done) | (simp [eqGuard, binOp, Op.intCmp]; rfl)⟩
    case neq => subst hp; exact ⟨_, RV.v_mk rfl, fun W => by first | (simp [eqGuard, binOp, Op.intCmp]; done) | (simp [eqGuard, binOp, Op.intCmp]; rfl)⟩
    case lss => subst hp; exact ⟨_, RV.v_mk rfl, fun W => by first | (simp [eqGuard, binOp, Op.intCmp]; done) | (simp [eqGuard, binOp, Op.intCmp]; rfl)⟩
    case leq => subst hp; exact ⟨_, RV.v_mk rfl, fun W => by first | (simp [eqGuard, binOp, Op.intCmp]; done) | (simp [eqGuard, binOp, Op.intCmp]; rfl)⟩
    case gtr => subst hp; exact ⟨_, RV.v_mk rfl, fun W => by first | (simp [eqGuard, binOp, Op.intCmp]; done) | (simp [eqGuard, binOp, Op.intCmp]; rfl)⟩
    case geq => subst hp; exact ⟨_, RV.v_mk rfl, fun W => by first | (simp [eqGuard, binOp, Op.intCmp]; done) | (simp [eqGuard, binOp, Op.intCmp]; rfl)⟩
  · cases h
theorem rd_bin {op : BinOp} {T yT : TypeId} {x y : Operand} {pre : Prop} {r : AV} (ho : o.op = .binOp op T x y yT) (h : binv op (ev τ x) (ev τ y) = some (pre, r)) (hp : pre) : Rd P o τ H X r := by
  apply Rd.pure; intro L ρ a w he _
  obtain ⟨c, h1, h2⟩ := binv_run (P := P) (T := T) (x := x) (y := y) h hp (he x) (he y)
  refine ⟨c, h1, fun W => ?_⟩
  have : execOp a.eval o = (do let v ← (do eqGuard op T x y (a.eval x) (a.eval y); binOp op T (a.eval x) (a.eval y)); pure (.value v)) := by simp only [execOp, ho]
  rw [this, Sem.run_bind, h2]
  rfl
theorem rd_un {op : UnOp} {T : TypeId} {x : Operand} {pre : Prop} {r : AV} (ho : o.op = .unOp op T x) (h : unv op (ev τ x) = some (pre, r)) (hp : pre) : Rd P o τ H X r := by
  apply Rd.pure; intro L ρ a w he _
  have hx := he x
  generalize ev τ x = vx at *
  unfold unv at h
  split at h
  case h_3 => cases h
  all_goals
    injection h with h
    injection h with h1 h2
    subst h1 h2
    have ex := hx.v_eq
    refine ⟨_, RV.v_mk rfl, fun W => ?_⟩
  case h_1 => simp [execOp, ho, ex, Op.unary]
  case h_2 =>
    unfold Fits at hp
    simp [execOp, ho, ex, Op.unary, Op.intArith, hp]
theorem rd_conv {s d : TypeId} {x : Operand} {k k' : IntKind} {r : AV} (ho : o.op = .convert s d x) (hs : intKind P s = some k') (hd : intKind P d = some k) (h : convv k (ev τ x) = some r) : Rd P o τ H X r := by
  have hs' : P.underlying s = some (.int k') := by unfold intKind at hs; split at hs <;> simp_all
  have hd' : P.underlying d = some (.int k) := by unfold intKind at hd; split at hd <;> simp_all
  apply Rd.pure; intro L ρ a w he _
  have hx := he x
  generalize ev τ x = vx at *
  unfold convv at h
  split at h
  · injection h with h
    subst h
    have ex := hx.v_eq
    refine ⟨_, RV.v_mk rfl, fun W => ?_⟩
    simp [execOp, ho, ex, convert, run_underlying hs', run_underlying hd', Conv.intToInt]
  · cases h
theorem rd_ext {x : Operand} {k : Nat} {r : AV} (ho : o.op = .extract x k) (h : extv (ev τ x) k = some r) : Rd P o τ H X r := by
  apply Rd.pure; intro L ρ a w he _
  have hx := he x
  generalize ev τ x = vx at *
  unfold extv at h
  split at h
  · rw [RV] at hx
    obtain ⟨cs, e, hl⟩ := hx
    obtain ⟨u, k1, k2⟩ := RVL.get hl h
    refine ⟨u, k2, fun W => ?_⟩
    simp [execOp, ho, e, Instr.extract, k1]
  · cases h
theorem own_slice {L : Nat → Prop} {ρ : Nat → Value} {w : World} {fp : List Nat} {v : Value} {e : TypeId} {sz : Nat} {rows : List (List PV)} (h : OB L ρ H w v fp (.arr e sz rows)) : ∃ b c, v = .slice b rows.length c := by
  obtain ⟨xs, fr, _, _, hown, _⟩ := h
  rcases hown.2 with ⟨q, q2⟩ | ⟨g, cap, cur, q, _⟩
  · exact ⟨none, 0, by rw [q, q2]⟩
  · exact ⟨some ⟨g, 0, none⟩, cap, q⟩
theorem rd_len {x : Operand} {t : TypeId} {r : AV} (ho : o.op = .call { callee := .builtin .len, args := #[x], argTypes := #[t] }) (ht : isSlice P t = true) (h : lenv H (ev τ x) = some r) : Rd P o τ H X r := by
  have hse : P.underlying t = some (.slice (P.elem t)) := by
    unfold isSlice at ht
    split at ht
    · rename_i e q; simp [Program.elem, q]
    · cases ht
  apply Rd.pure; intro L ρ a w he hob
  have hx := he x
  have base : ∀ b n cp, a.eval x = .slice b n cp → ∃ c, RV L ρ H w (int n) c ∧ ∀ W, (execOp a.eval o).run P W = .ok (.value c) W := fun b n cp h1 =>
    ⟨.int .i64 n, RV.v_mk rfl, fun W => by
      have := run_len_slice W t o.type b n cp hse
      simp [execOp, ho, resolve, invoke, builtin, h1, this, goInt]⟩
  generalize hv : ev τ x = vx at *
  unfold lenv at h
  split at h
  · rename_i e' s rows
    injection h with h
    subst h
    rw [RV] at hx
    obtain ⟨fp, h1, _⟩ := hx
    rw [RW] at h1
    obtain ⟨xs, f1, f2, h1, h2, _⟩ := h1
    unfold SlAt at h2
    simp only [Bool.false_eq_true, if_false] at h2
    obtain ⟨b, cap, e2, _⟩ := h2
    exact base _ _ _ e2
  · injection h with h
    subst h
    exact base _ _ _ hx.v_eq
  · rename_i id
    split at h
    · rename_i e2 s2 rows hid
      injection h with h
      subst h
      rw [RV] at hx
      obtain ⟨fp, hO⟩ := hob id
      rw [hid] at hO
      obtain ⟨b, c, e4⟩ := own_slice hO
      exact base _ _ _ ((hx.2 (by rw [hid]; rfl)).trans e4)
    · cases h
  · rename_i id off k
    split at h
    · rename_i e2 s2 rows hid
      injection h with h
      subst h
      rw [RV] at hx
      obtain ⟨_, b, c, e3, _⟩ := hx.2 (by rw [hid]; rfl)
      exact base _ _ _ e3
    · cases h
  · cases h

theorem isAgg_struct {t : TypeId} {fs : Array Field} (ht : P.underlying t = some (.struct fs)) (w : World) : (isAgg t).run P w = .ok true w := by simp [isAgg, run_underlying ht]
theorem isAgg_not {t : TypeId} {d : TypeDesc} (ht : P.underlying t = some d) (h1 : ∀ fs, d ≠ .struct fs) (h2 : ∀ n e, d ≠ .array n e) (w : World) : (isAgg t).run P w = .ok false w := by
  simp only [isAgg, Sem.run_bind, run_underlying ht, Result.andThen_ok]
  cases d <;> first | rfl | exact absurd rfl (h1 _) | exact absurd rfl (h2 _ _)
theorem sizeOf_run {t : TypeId} {d : TypeDesc} (ht : P.underlying t = some d) (w : World) : (sizeOf t).run P w = .ok (P.cellsOf t) w := by
  unfold Program.underlying at ht
  cases hi : P.info? t with
  | none => rw [hi] at ht; cases ht
  | some i => simp [sizeOf, typeInfo, hi, Program.cellsOf]
theorem kindA_some {t : TypeId} {n : Nat} (h : kindA P t = some (some n)) : (∀ w, (isAgg t).run P w = .ok true w) ∧ (∀ w, (sizeOf t).run P w = .ok n w) := by
  unfold kindA at h
  split at h
  · rename_i fs q
    injection h with h
    injection h with h
    subst h
    exact ⟨isAgg_struct q, sizeOf_run q⟩
  · cases h
  · injection h with h; cases h
  · cases h
theorem kindA_none {t : TypeId} (h : kindA P t = some none) : (∀ w, (isAgg t).run P w = .ok false w) ∧ ∃ d, P.underlying t = some d := by
  unfold kindA at h
  split at h
  · injection h with h; cases h
  · cases h
  · rename_i d q1 q2 q3
    exact ⟨isAgg_not q3 (fun fs e => q1 fs (by rw [← q3] at *; first | exact e | (rw [e]) | rw [q3, e])) (fun n el e => q2 n el (by first | exact e | rw [q3, e])), d, q3⟩
  · cases h

/-- What is read in one go of cells that lie there. -/
theorem ldA_run {L : Nat → Prop} {ρ : Nat → Value} {w : World} {t : TypeId} {n : Option Nat} (hk : kindA P t = some n) {b off : Nat} {cs : List Value} {l : List AV} {r : AV} (hl : RVL L ρ H w l cs) (h : ldA n l = some r) :
    ∃ c, RV L ρ H w r c ∧ ∀ W, CellsAt W b off cs → (Instr.loadAt t (.pointer (some ⟨b, off, none⟩))).run P W = .ok c W := by
  cases n with
  | some n =>
    obtain ⟨k1, k2⟩ := kindA_some hk
    unfold ldA at h
    dsimp only at h
    split at h
    · rename_i hle
      injection h with h
      subst h
      have hll := RVL.length hl
      refine ⟨.agg (cs.take n).toArray, by rw [RV]; exact ⟨_, rfl, RVL.take _ hl⟩, fun W hc => ?_⟩
      have h1 := run_loadCells_list (P := P) W ⟨b, off, none⟩ (cs.take n) (fun j v hj => by
        have e : (⟨b, off, none⟩ : Addr).add j = ⟨b, off + j, none⟩ := by unfold Addr.add; split <;> simp_all
        rw [e]
        rw [List.getElem?_take] at hj
        split at hj
        · exact hc j v hj
        · cases hj)
      rw [List.length_take, Nat.min_eq_left (by omega)] at h1
      simp only [Instr.loadAt, Instr.sureAddr, loadVar, Sem.run_bind, Sem.run_pure, Result.andThen_ok, k1, if_true, k2, h1]
    · cases h
  | none =>
    obtain ⟨k1, _⟩ := kindA_none hk
    unfold ldA at h
    dsimp only at h
    obtain ⟨u, q1, q2⟩ := RVL.get hl h
    refine ⟨u, q2, fun W hc => ?_⟩
    have k3 := hc 0 u q1
    simp only [Instr.loadAt, Instr.sureAddr, loadVar, Sem.run_bind, Sem.run_pure, Result.andThen_ok, k1, Bool.false_eq_true, if_false]
    rw [run_load]
    simpa using by rw [show W.cell? ⟨b, off, none⟩ = some u by simpa using k3]

theorem RVL.of_pv {L : Nat → Prop} {ρ : Nat → Value} {w : World} : ∀ {l : List PV} {cs : List Value} {fp : List Nat}, RWL w false l cs fp → (∀ b ∈ fp, ¬ live L ρ H b) → RVL L ρ H w (l.map AV.p) cs
  | [], cs, fp, h, _ => by rw [RWL] at h; simp [RVL, h.1]
  | x :: xs, cs, fp, h, hl => by
    rw [RWL] at h
    obtain ⟨c, r, f1, f2, rfl, rfl, h1, h2⟩ := h
    rw [List.map_cons, RVL]
    exact ⟨c, r, rfl, by rw [RV]; exact ⟨f1, h1, fun b hb => hl b (by simp [hb])⟩, RVL.of_pv h2 (fun b hb => hl b (by simp [hb]))⟩
theorem CellsAt.drop {w : World} {b off : Nat} {cs : List Value} (h : CellsAt w b off cs) (k : Nat) : CellsAt w b (off + k) (cs.drop k) := fun j v hj => by
  rw [List.getElem?_drop] at hj
  rw [Nat.add_assoc]; exact h (k + j) v hj
theorem CellsAt.mid {w : World} {b off : Nat} {c1 cr c2 : List Value} (h : CellsAt w b off (c1 ++ cr ++ c2)) {i : Nat} (hi : c1.length = i) : CellsAt w b (off + i) cr := fun j v hj => by
  rw [Nat.add_assoc]
  refine h (i + j) v ?_
  have hjl := (List.getElem?_eq_some_iff.1 hj).1
  rw [List.append_assoc, List.getElem?_append_right (by omega), hi, Nat.add_sub_cancel_left, List.getElem?_append_left hjl]
  exact hj
theorem CellsAt.kept' {w W : World} {b off : Nat} {cs : List Value} (h : CellsAt w b off cs) (hb : W.heap[b]? = w.heap[b]?) : CellsAt W b off cs := fun j v hj => by
  rw [World.cell?_of_block (w := w) (a := ⟨b, off + j, none⟩) hb]; exact h j v hj
/-- A load, of cells that no object in X has. -/
theorem rd_load_core {t : TypeId} {x : Operand} {n : Option Nat} {l : List AV} {r : AV} (ho : o.op = .load t x) (hk : kindA P t = some n) (h2 : ldA n l = some r)
    (h : ∀ {L O : Nat → Prop} {w0 : World} {N : Nat} {ρ : Nat → Value} {fp : Nat → List Nat} {a : Act} {w : World}, RR L O w0 N τ H ρ fp a w → ∃ b off cs, a.eval x = .pointer (some ⟨b, off, none⟩) ∧ CellsAt w b off cs ∧ RVL L ρ H w l cs ∧ b < w.heap.size ∧ ∀ id, X id = true → (H id).here = true → (ρ id).ownBlock ≠ some b) : Rd P o τ H X r := by
  refine ⟨fun {L O w0 N ρ fp a w} hr => ?_⟩
  obtain ⟨b, off, cs, e, hc, hl, hb, hx⟩ := h hr
  obtain ⟨c, k1, k2⟩ := ldA_run (b := b) (off := off) hk hl h2
  refine ⟨c, k1, fun W hW => ?_⟩
  have := k2 W (hc.kept' (hW.2 b hb hx))
  rw [← e] at this
  simp [execOp, ho, this]
theorem rd_load_rp {t : TypeId} {x : Operand} {n : Option Nat} {cells : List PV} {r : AV} (ho : o.op = .load t x) (hk : kindA P t = some n) (hx : ev τ x = .rp cells) (h2 : ldA n (cells.map AV.p) = some r) : Rd P o τ H X r :=
  rd_load_core ho hk h2 fun hr => by
    have h := hr.ev x
    rw [hx, RV] at h
    obtain ⟨b, off, cs, fp, e, h1, h2, h3, h4, h5⟩ := h
    exact ⟨b, off, cs, e, h2, RVL.of_pv h1 h5, h3, fun id _ q1 q2 => h4 (.inr ⟨id, q1, q2⟩)⟩
theorem own_at {ρ : Nat → Value} {w : World} {fp : List Nat} {id : Nat} {g m cap : Nat} {e : TypeId} {sz n : Nat} {xs : List Value} (h : w.ownsRow 0 e sz (ρ id) n xs) (hg : ρ id = .slice (some ⟨g, 0, none⟩) m cap) : CellsAt w g 0 xs ∧ g < w.heap.size := by
  rw [hg] at h
  have hm : m = n := by
    rcases h.2 with ⟨q, _⟩ | ⟨g', cap', cur, q, _⟩
    · cases q
    · injection q
  subst hm
  exact ⟨cellsAt_of_own h, (h.lt g rfl).2⟩
theorem rd_load_box {t : TypeId} {x : Operand} {n : Option Nat} {id k : Nat} {T : TypeId} {p : Option Nat} {cells : List AV} {r : AV} (ho : o.op = .load t x) (hk : kindA P t = some n) (hx : ev τ x = .ptr id 0 k) (hH : H id = .box T p cells) (hX : X id = false) (h2 : ldA n (cells.drop k) = some r) : Rd P o τ H X r :=
  rd_load_core ho hk h2 fun {L O w0 N ρ fp a w} hr => by
    have h := hr.ev x
    rw [hx, RV] at h
    obtain ⟨_, g, m, cap, hg, e⟩ := h.2 (by rw [hH]; rfl)
    have hob := hr.ob id
    rw [hH] at hob
    obtain ⟨xs, k1, k2, k3, k4, _⟩ := hob
    obtain ⟨hc, hlt⟩ := own_at (fp := fp id) k3 hg
    refine ⟨g, 0 + k, xs.drop k, by rw [e]; simp, hc.drop k, RVL.drop k k1, hlt, fun j hj q1 q2 => ?_⟩
    have hne : j ≠ id := fun q => by subst q; rw [hX] at hj; cases hj
    exact hr.dj j id hne g ((hr.ob j).top q1 q2) (by rw [k4, hg]; simp [Value.ownBlock])
theorem rd_load_arr {t : TypeId} {x : Operand} {n : Option Nat} {id i k : Nat} {e : TypeId} {sz : Nat} {rows : List (List PV)} {row : List PV} {r : AV} (ho : o.op = .load t x) (hk : kindA P t = some n) (hx : ev τ x = .ptr id i k) (hH : H id = .arr e sz rows) (hX : X id = false)
    (hrow : rows[i]? = some row) (h2 : ldA n ((row.drop k).map AV.p) = some r) : Rd P o τ H X r :=
  rd_load_core ho hk h2 fun {L O w0 N ρ fp a w} hr => by
    have h := hr.ev x
    rw [hx, RV] at h
    obtain ⟨_, g, m, cap, hg, e⟩ := h.2 (by rw [hH]; rfl)
    have hob := hr.ob id
    rw [hH] at hob e
    obtain ⟨xs, fr, k1, k2, k3, k4⟩ := hob
    obtain ⟨hc, hlt⟩ := own_at (fp := fp id) k3 hg
    obtain ⟨c1, cr, c2, f1, f2, f3, e1, e2, e3, e4, e5, _⟩ := RWR.row k1 hrow
    rw [e1] at hc
    have hc2 := (hc.mid e3).drop k
    obtain ⟨fd, d1, d2⟩ := RWL.drop k e5
    refine ⟨g, 0 + i * sz + k, cr.drop k, by rw [e]; simp [AO.sz], hc2, RVL.of_pv d1 (fun b hb => k2 b (by rw [e2]; simp [d2 hb])), hlt, fun j hj q1 q2 => ?_⟩
    have hne : j ≠ id := fun q => by subst q; rw [hX] at hj; cases hj
    exact hr.dj j id hne g ((hr.ob j).top q1 q2) (by rw [k4, hg]; simp [Value.ownBlock])

theorem rd_field {t : TypeId} {x : Operand} {k off : Nat} {ft : TypeId} {n : Option Nat} {r : AV} (ho : o.op = .field t x k) (hf : fldA P t k = some (off, ft)) (hk : kindA P ft = some n) (h : fieldv off n (ev τ x) = some r) : Rd P o τ H X r := by
  apply Rd.pure; intro L ρ a w he _
  have hx := he x
  generalize ev τ x = vx at *
  unfold fldA at hf
  split at hf
  case h_2 => cases hf
  rename_i fs ht
  cases hfk : fs[k]? with
  | none => rw [hfk] at hf; cases hf
  | some f =>
    rw [hfk] at hf
    simp only [Option.map_some, Option.some.injEq, Prod.mk.injEq] at hf
    obtain ⟨rfl, rfl⟩ := hf
    unfold fieldv at h
    split at h
    · rename_i l
      rw [RV] at hx
      obtain ⟨cs, e, hl⟩ := hx
      have hl2 := RVL.drop f.offset hl
      cases n with
      | some n =>
        obtain ⟨k1, k2⟩ := kindA_some hk
        unfold ldA at h
        dsimp only at h
        split at h
        · injection h with h
          subst h
          rename_i hle
          refine ⟨.agg ((cs.drop f.offset).take n).toArray, by rw [RV]; exact ⟨_, rfl, RVL.take _ hl2⟩, fun W => ?_⟩
          simp only [execOp, ho, Instr.field, Sem.run_bind, run_underlying ht, Result.andThen_ok, hfk, part, k1, e, asAgg, Sem.run_pure, if_true, k2]
          congr 2
          simp [List.extract_eq_take_drop]
        · cases h
      | none =>
        obtain ⟨k1, _⟩ := kindA_none hk
        unfold ldA at h
        dsimp only at h
        obtain ⟨u, q1, q2⟩ := RVL.get hl2 h
        refine ⟨u, q2, fun W => ?_⟩
        have k3 : cs[f.offset]? = some u := by simpa [List.getElem?_drop] using q1
        simp only [execOp, ho, Instr.field, Sem.run_bind, run_underlying ht, Result.andThen_ok, hfk, part, k1, e, asAgg, Sem.run_pure, Bool.false_eq_true, if_false]
        simp [k3]
    · cases h
theorem faddr_run {t : TypeId} {x : Operand} {k off : Nat} {ft : TypeId} {a : Act} (ho : o.op = .fieldAddr t x k) (hf : fldA P t k = some (off, ft)) (h0 : P.cellsOf ft ≠ 0) (hd : (P.underlying ft).isSome = true) {b c : Nat} (e : a.eval x = .pointer (some ⟨b, c, none⟩)) (W : World) : (execOp a.eval o).run P W = .ok (.value (.pointer (some ⟨b, c + off, none⟩))) W := by
  unfold fldA at hf
  split at hf
  case h_2 => cases hf
  rename_i fs ht
  cases hfk : fs[k]? with
  | none => rw [hfk] at hf; cases hf
  | some f =>
    rw [hfk] at hf
    simp only [Option.map_some, Option.some.injEq, Prod.mk.injEq] at hf
    obtain ⟨rfl, rfl⟩ := hf
    obtain ⟨d, hd⟩ := Option.isSome_iff_exists.1 hd
    have ea : (⟨b, c, none⟩ : Addr).add f.offset = ⟨b, c + f.offset, none⟩ := by unfold Addr.add; split <;> simp_all
    simp only [execOp, ho, Instr.fieldAt, Sem.run_bind, run_underlying ht, Result.andThen_ok, hfk, e, Instr.sureAddr, Sem.run_pure, fieldPlace, sizeOf_run hd, h0, if_false, ea]
theorem rd_faddr_rp {t : TypeId} {x : Operand} {k off : Nat} {ft : TypeId} {cells : List PV} (ho : o.op = .fieldAddr t x k) (hf : fldA P t k = some (off, ft)) (h0 : P.cellsOf ft ≠ 0) (hd : (P.underlying ft).isSome = true) (hx : ev τ x = .rp cells) : Rd P o τ H X (.rp (cells.drop off)) := by
  apply Rd.pure; intro L ρ a w he _
  have h := he x
  rw [hx, RV] at h
  obtain ⟨b, c, cs, fp, e, p1, p2, p3, p4, p5⟩ := h
  obtain ⟨f2, q1, q2⟩ := RWL.drop off p1
  exact ⟨_, by rw [RV]; exact ⟨b, _, _, f2, rfl, q1, p2.drop off, p3, p4, fun b hb => p5 b (q2 hb)⟩, faddr_run ho hf h0 hd e⟩
theorem rd_faddr {t : TypeId} {x : Operand} {k off : Nat} {ft : TypeId} {id i j : Nat} (ho : o.op = .fieldAddr t x k) (hf : fldA P t k = some (off, ft)) (h0 : P.cellsOf ft ≠ 0) (hd : (P.underlying ft).isSome = true) (hx : ev τ x = .ptr id i j) (hH : (H id).here = true) : Rd P o τ H X (.ptr id i (j + off)) := by
  apply Rd.pure; intro L ρ a w he _
  have h := he x
  rw [hx, RV] at h
  obtain ⟨p1, g, m, cap, p2, p3⟩ := h.2 hH
  refine ⟨_, ?_, faddr_run ho hf h0 hd p3⟩
  rw [RV]
  exact ⟨rfl, fun _ => ⟨p1, g, m, cap, p2, by rw [Nat.add_assoc]⟩⟩

/-! ## Places of elements, parts of slices -/
theorem iaddr_run {t e : TypeId} {x y : Operand} {a : Act} {k : IntKind} {sz n i : Nat} {b off cap : Nat} {d : TypeDesc} (ho : o.op = .indexAddr t x y) (ht : P.underlying t = some (.slice e)) (hd : P.underlying e = some d) (hsz : P.cellsOf e = sz)
    (e1 : a.eval x = .slice (some ⟨b, off, none⟩) n cap) (e2 : a.eval y = .int k i) (hi : i < n) (W : World) : (execOp a.eval o).run P W = .ok (.value (.pointer (some ⟨b, off + i * sz, none⟩))) W := by
  have ea : (⟨b, off, none⟩ : Addr).add (i * sz) = ⟨b, off + i * sz, none⟩ := by unfold Addr.add; split <;> simp_all
  have hle : (0 : Int) ≤ (i : Int) ∧ (i : Int) < (n : Int) := ⟨by omega, by omega⟩
  simp only [execOp, ho, Instr.indexAt, Sem.run_bind, e2, asIntOf, Sem.run_pure, Result.andThen_ok, run_underlying ht, e1, hle, and_self, if_true, Int.toNat_natCast, sizeOf_run hd, hsz, ea]
end
end Go.Proofs.Ytbjnbhlpibadnaa
