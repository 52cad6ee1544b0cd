/- The law FnExactCheapest returns true for every input, and each argument reads afterwards as before. No condition. -/
import Derived.Test.YtbjnbhlpibadnaaRows
import Derived.Test.YtbjnbhlpibadnaaOpn
import Derived.Test.YtbjnbhlpibadnaaLFnExactCheapest
namespace Go.Proofs.Ytbjnbhlpibadnaa.fnExactCheapest
open Go.ChangeShapes Go.WideShapes Go.ChangeAt Go.RowKit Go.Proofs.Ytbjnbhlpibadnaa
set_option linter.unusedVariables false

theorem own : ownKnob Try.prog.godebug = none := by kernel_rfl
theorem laid : laidOutB Try.prog = true := by kernel_rfl

theorem readable : ∀ t ∈ [24], Try.prog.readableRec t = true ∧ t < Try.prog.types.size := by
  intro t ht
  simp only [List.mem_cons, List.not_mem_nil, or_false] at ht
  rcases ht with rfl
  all_goals exact ⟨by kernel_rfl, of_decide_eq_true (by kernel_rfl)⟩

set_option maxRecDepth 100000 in
theorem lifted (os : Os) (started : os.Started) (H : Type) (enc : TypeId × Value → H) :
    ReturnsInHanded {} Try.checked os 5 .any (Rows.fnExactCheapestSpec.pre6 enc Try.prog Try.f5 Rows.fnExactCheapestRow.domain false) (Rows.fnExactCheapestSpec.post enc Try.prog Try.f5 false true false false) := by
  refine returnsInHanded_of_change (C := Try.checked) own started (by kernel_rfl) Try.func5
    (ChangeSpec.witness6 (enc := enc) (C := Try.checked) false ⟨#[], #[.agg #[.int .i64 0, .slice none 0 0]], []⟩ 8 (by kernel_rfl) (by kernel_rfl) (by kernel_rfl) (by kernel_rfl)) ?_
  intro W base args ds gs before hval0 hW hcnd _
  have hval : ∀ (j : Nat) t v, Try.f5.params[j]? = some t → args[j]? = some v → Value.okWide Try.prog W .any base t v := hval0
  have hW' := hW
  obtain ⟨p, q, hA0, hV, rfl, hfz, hnd⟩ := hW
  have hA : DataW.TrodAll enc Try.prog W 0 (fun _ => true) true Try.f5.params.toList args.toList ds p := hA0
  rw [Try.params5] at hA hval
  have hB := hA
  obtain ⟨v0, vs0, d0, ds0, p0, q0, hargs, rfl, rfl, h0, r0⟩ := trodAll_cons hA
  obtain ⟨rfl, rfl, rfl⟩ := trodAll_nil r0
  obtain rfl : args = #[v0] := by cases args; simp_all
  obtain ⟨rfl, rfl⟩ := trodVars_none hV
  obtain ⟨cs0, rfl, _⟩ := okWide_struct Try.underlying24 (hval 0 24 v0 rfl rfl)
  obtain ⟨fu0, t0⟩ := h0
  obtain ⟨x0, u0_0, e0, s0_0, w0⟩ := trodGraph t0
  have e0 : cs0 = #[.int .i64 x0.n, u0_0] := Array.ext' (by simpa [Value.cells] using e0)
  subst e0
  obtain ⟨a0_0, c0_0, rfl⟩ : ∃ a c, u0_0 = Value.slice a x0.edges.length c := let ⟨a, c, h, _⟩ := s0_0; ⟨a, c, h⟩
  clear hA0 hval0
  simp only [List.append_nil] at hW'
  refine (FnExactCheapest_walk x0 a0_0 c0_0 W s0_0 w0).mono fun e W' ⟨he, hg⟩ => ?_
  subst he
  exact ⟨_, rfl, _, _, _, _, _, [], hW', trodAll_mk1 (shut_bool Try.underlying4 true),
    trodAll_below laid hg.below (readable) hB, rfl, hg.below.frame _, fun h => by cases h⟩

theorem over : Rows.fnExactCheapestRow.holds Try.pinned (OpenSpec.ofChange Rows.fnExactCheapestSpec) :=
  OpenClaim.holds_of_wide 5 Try.f5 rfl rfl rfl rfl rfl rfl rfl ⟨rfl, rfl, rfl, rfl, rfl⟩ rfl rfl rfl rfl rfl (by kernel_rfl) Try.func5 (by kernel_rfl)
    (of_decide_eq_true (by kernel_rfl)) (by unfold Func.isWrapper; first | (rw [if_pos (by decide +kernel)]; kernel_rfl) | (rw [if_neg (by decide +kernel)]; exact ⟨rfl, rfl⟩))
    (fun os started H enc _ => lifted os started H enc)

/-- The statement. -/
theorem proved : Rows.FnExactCheapestSaid :=
  over
#print axioms proved
end Go.Proofs.Ytbjnbhlpibadnaa.fnExactCheapest
