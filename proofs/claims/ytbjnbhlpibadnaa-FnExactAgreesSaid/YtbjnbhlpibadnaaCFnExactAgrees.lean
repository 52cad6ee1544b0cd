/- The law FnExactAgrees returns true for every input, and each argument reads afterwards as before. No condition. -/
import Derived.Test.YtbjnbhlpibadnaaRows
import Derived.Test.YtbjnbhlpibadnaaOpn
import Derived.Test.YtbjnbhlpibadnaaLFnExactAgrees
namespace Go.Proofs.Ytbjnbhlpibadnaa.fnExactAgrees
open Go.ChangeShapes Go.WideShapes Go.ChangeAt Go.RowKit Go.Proofs.Ytbjnbhlpibadnaa
set_option linter.unusedVariables false

theorem own : ownKnob Try.prog.godebug = none := by kernel_rfl
theorem laid : laidOutB Try.prog = true := by kernel_rfl

theorem readable : ∀ t ∈ [47, 50], Try.prog.readableRec t = true ∧ t < Try.prog.types.size := by
  intro t ht
  simp only [List.mem_cons, List.not_mem_nil, or_false] at ht
  rcases ht with rfl | rfl
  all_goals exact ⟨by kernel_rfl, of_decide_eq_true (by kernel_rfl)⟩

set_option maxRecDepth 100000 in
theorem lifted (os : Os) (started : os.Started) (H : Type) (enc : TypeId × Value → H) :
    ReturnsInHanded {} Try.checked os 6 .any (Rows.fnExactAgreesSpec.pre6 enc Try.prog Try.f6 Rows.fnExactAgreesRow.domain false) (Rows.fnExactAgreesSpec.post enc Try.prog Try.f6 false true false false) := by
  refine returnsInHanded_of_change (C := Try.checked) own started (by kernel_rfl) Try.func6
    (ChangeSpec.witness6 (enc := enc) (C := Try.checked) false ⟨#[], #[.agg #[.int .i64 0, .int .i64 0, .int .i64 0, .slice none 0 0, .slice none 0 0, .slice none 0 0], .agg #[.int .i64 0, .slice none 0 0]], []⟩ 8 (by kernel_rfl) (by kernel_rfl) (by kernel_rfl) (by kernel_rfl)) ?_
  intro W base args ds gs before hval0 hW hcnd _
  have hval : ∀ (j : Nat) t v, Try.f6.params[j]? = some t → args[j]? = some v → Value.okWide Try.prog W .any base t v := hval0
  have hW' := hW
  obtain ⟨p, q, hA0, hV, rfl, hfz, hnd⟩ := hW
  have hA : DataW.TrodAll enc Try.prog W 0 (fun _ => true) true Try.f6.params.toList args.toList ds p := hA0
  rw [Try.params6] at hA hval
  have hB := hA
  obtain ⟨v0, vs0, d0, ds0, p0, q0, hargs, rfl, rfl, h0, r0⟩ := trodAll_cons hA
  obtain ⟨v1, vs1, d1, ds1, p1, q1, rfl, rfl, rfl, h1, r1⟩ := trodAll_cons r0
  obtain ⟨rfl, rfl, rfl⟩ := trodAll_nil r1
  obtain rfl : args = #[v0, v1] := by cases args; simp_all
  obtain ⟨rfl, rfl⟩ := trodVars_none hV
  obtain ⟨cs0, rfl, _⟩ := okWide_struct Try.underlying47 (hval 0 47 v0 rfl rfl)
  obtain ⟨fu0, t0⟩ := h0
  obtain ⟨x0, u0_0, u0_1, u0_2, e0, s0_0, s0_1, s0_2, w0⟩ := trodBook t0
  have e0 : cs0 = #[.int .i64 x0.tick, .int .i64 x0.next, .int .i64 x0.wallet, u0_0, u0_1, u0_2] := Array.ext' (by simpa [Value.cells] using e0)
  subst e0
  obtain ⟨a0_0, c0_0, rfl⟩ : ∃ a c, u0_0 = Value.slice a x0.chans.length c := let ⟨a, c, h, _⟩ := s0_0; ⟨a, c, h⟩
  obtain ⟨a0_1, c0_1, rfl⟩ : ∃ a c, u0_1 = Value.slice a x0.htlcs.length c := let ⟨a, c, h, _⟩ := s0_1; ⟨a, c, h⟩
  obtain ⟨a0_2, c0_2, rfl⟩ : ∃ a c, u0_2 = Value.slice a x0.circles.length c := let ⟨a, c, h, _⟩ := s0_2; ⟨a, c, h⟩
  obtain ⟨cs1, rfl, _⟩ := okWide_struct Try.underlying50 (hval 1 50 v1 rfl rfl)
  obtain ⟨fu1, t1⟩ := h1
  obtain ⟨x1, u1_0, e1, s1_0, w1⟩ := trodLedger t1
  have e1 : cs1 = #[.int .i64 x1.last, u1_0] := Array.ext' (by simpa [Value.cells] using e1)
  subst e1
  obtain ⟨a1_0, c1_0, rfl⟩ : ∃ a c, u1_0 = Value.slice a x1.lines.length c := let ⟨a, c, h, _⟩ := s1_0; ⟨a, c, h⟩
  clear hA0 hval0
  simp only [List.append_nil] at hW'
  refine (FnExactAgrees_walk x0 a0_0 c0_0 a0_1 c0_1 a0_2 c0_2 x1 a1_0 c1_0 W s0_0 s0_1 s0_2 w0 s1_0 w1).mono fun e W' ⟨he, hg⟩ => ?_
  subst he
  exact ⟨_, rfl, _, _, _, _, _, [], hW', trodAll_mk1 (shut_bool Try.underlying4 true),
    trodAll_below laid hg.below (readable) hB, rfl, hg.below.frame _, fun h => by cases h⟩

theorem over : Rows.fnExactAgreesRow.holds Try.pinned (OpenSpec.ofChange Rows.fnExactAgreesSpec) :=
  OpenClaim.holds_of_wide 6 Try.f6 rfl rfl rfl rfl rfl rfl rfl ⟨rfl, rfl, rfl, rfl, rfl⟩ rfl rfl rfl rfl rfl (by kernel_rfl) Try.func6 (by kernel_rfl)
    (of_decide_eq_true (by kernel_rfl)) (by unfold Func.isWrapper; first | (rw [if_pos (by decide +kernel)]; kernel_rfl) | (rw [if_neg (by decide +kernel)]; exact ⟨rfl, rfl⟩))
    (fun os started H enc _ => lifted os started H enc)

/-- The statement. -/
theorem proved : Rows.FnExactAgreesSaid :=
  over
#print axioms proved
end Go.Proofs.Ytbjnbhlpibadnaa.fnExactAgrees
