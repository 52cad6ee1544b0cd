/- The law FnExactTurns returns true for every input, and each argument reads afterwards as before. No condition. -/
import Derived.Test.YtigbjpllckgilaaRows
import Derived.Test.YtigbjpllckgilaaOpn
import Derived.Test.YtigbjpllckgilaaLFnExactTurns
namespace Go.Proofs.Ytigbjpllckgilaa.fnExactTurns
open Go.ChangeShapes Go.WideShapes Go.ChangeAt Go.RowKit Go.Proofs.Ytigbjpllckgilaa
set_option linter.unusedVariables false

theorem own : ownKnob Try.prog.godebug = none := by kernel_rfl
theorem laid : laidOutB Try.prog = true := by kernel_rfl

theorem readable : ∀ t ∈ [35, 66], Try.prog.readableRec t = true ∧ t < Try.prog.types.size := by
  intro t ht
  simp only [List.mem_cons, List.not_mem_nil, or_false] at ht
  rcases ht with rfl | rfl
  all_goals exact ⟨by kernel_rfl, of_decide_eq_true (by kernel_rfl)⟩

set_option maxRecDepth 100000 in
theorem lifted (os : Os) (started : os.Started) (H : Type) (enc : TypeId × Value → H) :
    ReturnsInHanded {} Try.checked os 10 .any (Rows.fnExactTurnsSpec.pre6 enc Try.prog Try.f10 Rows.fnExactTurnsRow.domain false) (Rows.fnExactTurnsSpec.post enc Try.prog Try.f10 false true false false) := by
  refine returnsInHanded_of_change (C := Try.checked) own started (by kernel_rfl) Try.func10
    (ChangeSpec.witness6 (enc := enc) (C := Try.checked) false ⟨#[], #[.agg #[.int .i64 0, .int .i64 0, .int .i64 0, .slice none 0 0, .slice none 0 0, .slice none 0 0], .agg #[.int .i64 0, .int .i64 0, .int .i64 0, .int .i64 0, .int .i64 0]], []⟩ 8 (by kernel_rfl) (by kernel_rfl) (by kernel_rfl) (by kernel_rfl)) ?_
  intro W base args ds gs before hval0 hW hcnd _
  have hval : ∀ (j : Nat) t v, Try.f10.params[j]? = some t → args[j]? = some v → Value.okWide Try.prog W .any base t v := hval0
  have hW' := hW
  obtain ⟨p, q, hA0, hV, rfl, hfz, hnd⟩ := hW
  have hA : DataW.TrodAll enc Try.prog W 0 (fun _ => true) true Try.f10.params.toList args.toList ds p := hA0
  rw [Try.params10] at hA hval
  have hB := hA
  obtain ⟨v0, vs0, d0, ds0, p0, q0, hargs, rfl, rfl, h0, r0⟩ := trodAll_cons hA
  obtain ⟨v1, vs1, d1, ds1, p1, q1, rfl, rfl, rfl, h1, r1⟩ := trodAll_cons r0
  obtain ⟨rfl, rfl, rfl⟩ := trodAll_nil r1
  obtain rfl : args = #[v0, v1] := by cases args; simp_all
  obtain ⟨rfl, rfl⟩ := trodVars_none hV
  obtain ⟨cs0, rfl, _⟩ := okWide_struct Try.underlying35 (hval 0 35 v0 rfl rfl)
  obtain ⟨fu0, t0⟩ := h0
  obtain ⟨x0, u0_0, u0_1, u0_2, e0, s0_0, s0_1, s0_2, w0⟩ := trodBook t0
  have e0 : cs0 = #[.int .i64 x0.tick, .int .i64 x0.next, .int .i64 x0.wallet, u0_0, u0_1, u0_2] := Array.ext' (by simpa [Value.cells] using e0)
  subst e0
  obtain ⟨a0_0, c0_0, rfl⟩ : ∃ a c, u0_0 = Value.slice a x0.chans.length c := let ⟨a, c, h, _⟩ := s0_0; ⟨a, c, h⟩
  obtain ⟨a0_1, c0_1, rfl⟩ : ∃ a c, u0_1 = Value.slice a x0.htlcs.length c := let ⟨a, c, h, _⟩ := s0_1; ⟨a, c, h⟩
  obtain ⟨a0_2, c0_2, rfl⟩ : ∃ a c, u0_2 = Value.slice a x0.circles.length c := let ⟨a, c, h, _⟩ := s0_2; ⟨a, c, h⟩
  obtain ⟨cs1, rfl, _⟩ := okWide_struct Try.underlying66 (hval 1 66 v1 rfl rfl)
  obtain ⟨fu1, t1⟩ := h1
  obtain ⟨x1, e1, w1⟩ := trodRule t1
  have e1 : cs1 = #[.int .i64 x1.lo, .int .i64 x1.hi, .int .i64 x1.step, .int .i64 x1.min, .int .i64 x1.max] := Array.ext' (by simpa [Value.cells, encRule] using e1)
  subst e1
  clear hA0 hval0
  simp only [List.append_nil] at hW'
  refine (FnExactTurns_walk x0 a0_0 c0_0 a0_1 c0_1 a0_2 c0_2 x1 W s0_0 s0_1 s0_2 w0 w1).mono fun e W' ⟨he, hg⟩ => ?_
  subst he
  exact ⟨_, rfl, _, _, _, _, _, [], hW', trodAll_mk1 (shut_bool Try.underlying4 true),
    trodAll_below laid hg.below (readable) hB, rfl, hg.below.frame _, fun h => by cases h⟩

theorem over : Rows.fnExactTurnsRow.holds Try.pinned (OpenSpec.ofChange Rows.fnExactTurnsSpec) :=
  OpenClaim.holds_of_wide 10 Try.f10 rfl rfl rfl rfl rfl rfl rfl ⟨rfl, rfl, rfl, rfl, rfl⟩ rfl rfl rfl rfl rfl (by kernel_rfl) Try.func10 (by kernel_rfl)
    (of_decide_eq_true (by kernel_rfl)) (by unfold Func.isWrapper; first | (rw [if_pos (by decide +kernel)]; kernel_rfl) | (rw [if_neg (by decide +kernel)]; exact ⟨rfl, rfl⟩))
    (fun os started H enc _ => lifted os started H enc)

/-- The statement. -/
theorem proved : Rows.FnExactTurnsSaid :=
  over
#print axioms proved
end Go.Proofs.Ytigbjpllckgilaa.fnExactTurns
