/- Bands and rules, of the program and of the reference. -/
import Derived.Test.YtogkbcmfoalpiaaGreatKNum
namespace Go.Proofs.YtogkbcmfoalpiaaGreat
open Go.RowKit
set_option maxHeartbeats 16000000
set_option maxRecDepth 100000
set_option linter.unusedSimpArgs false
set_option linter.unusedVariables false
def band (lo hi : Int) : Bool := inB lo 0 100 && inB hi lo 100
theorem band_iff {lo hi : Int} : band lo hi = true ↔ 0 ≤ lo ∧ lo ≤ hi ∧ hi ≤ 100 := by simp [band,inB];omega
def part (n : Int) : Bool := inB n 0 1000000
def ruleOk (r : Rule) : Bool := band r.lo r.hi && part r.step && part r.min && inB r.max r.min 1000000
theorem ruleOk_iff {r : Rule} : ruleOk r = true ↔ 0 ≤ r.lo ∧ r.lo ≤ r.hi ∧ r.hi ≤ 100 ∧ 0 ≤ r.step ∧ r.step ≤ 1000000 ∧ 0 ≤ r.min ∧ r.min ≤ r.max ∧ r.max ≤ 1000000 := by
 simp [ruleOk,part,band,inB];omega
theorem impl_isBand_c (lo hi : Int) (w : World) :
 Calls Tryz.prog 124 #[.int .i64 lo,.int .i64 hi] w fun e w' => e = .returned (.bool (band lo hi)) ∧ w = w' := by
 unfold band
 cases h1 : inB lo 0 100
 all_goals
  go_enter Tryz.func124,Tryz.ntmps124
  go_wp2_with (go_at_call 63;refine (in_c _ _ _ _).mono ?_;rintro e w' ⟨rfl,rfl⟩)
  go_ret
  exact ⟨by simp,rfl⟩
theorem spec_Band_c (lo hi : Int) (w : World) :
 Calls Tryz.prog 81 #[.int .i64 lo,.int .i64 hi] w fun e w' => e = .returned (.bool (band lo hi)) ∧ w = w' := by
 by_cases h1 : 0 ≤ lo <;> by_cases h2 : lo ≤ hi <;> by_cases h3 : hi ≤ 100
 all_goals
  have hr : band lo hi = (decide (0 ≤ lo) && decide (lo ≤ hi) && decide (hi ≤ 100)) := by
   unfold band inB;rw [Bool.eq_iff_iff];simp;omega
  simp only [h1,h2,h3,decide_true,decide_false,Bool.and_true,Bool.and_false,Bool.true_and,Bool.false_and] at hr
  have HR := Lib.hid hr;clear hr
  go_enter Tryz.func81,Tryz.ntmps81
  go_wp2
  go_ret
  exact ⟨by rw [HR.out];rfl,rfl⟩
theorem spec_Part_c (n : Int) (w : World) :
 Calls Tryz.prog 82 #[.int .i64 n] w fun e w' => e = .returned (.bool (part n)) ∧ w = w' := by
 unfold part inB
 by_cases h1 : 0 ≤ n <;> by_cases h2 : n ≤ 1000000
 all_goals
  go_enter Tryz.func82,Tryz.ntmps82
  go_wp2
  go_ret
  exact ⟨by simp [h1,h2],rfl⟩
theorem impl_RuleOk_c (r : Rule) (w : World) :
 Calls Tryz.prog 83 #[.agg #[.int .i64 r.lo,.int .i64 r.hi,.int .i64 r.step,.int .i64 r.min,.int .i64 r.max]] w fun e w' => e = .returned (.bool (ruleOk r)) ∧ Grow w w' := by
 obtain ⟨lo,hi,step,mn,mx⟩ := r
 have hr : ruleOk ⟨lo,hi,step,mn,mx⟩ = (band lo hi && inB step 0 1000000 && inB mn 0 1000000 && inB mx mn 1000000) := rfl
 rw [hr]
 clear hr
 cases h1 : band lo hi <;> cases h2 : inB step 0 1000000 <;> cases h3 : inB mn 0 1000000
 all_goals
  go_enter Tryz.func83,Tryz.ntmps83
  go_wp2_with (first
   | (go_at_call 63;refine (in_c _ _ _ _).mono ?_;rintro e w' ⟨rfl,rfl⟩)
   | (go_at_call 124;refine (impl_isBand_c _ _ _).mono ?_;rintro e w' ⟨rfl,rfl⟩))
  go_ret
  exact ⟨by simp,(Grow.refl _).alloc _ _⟩
theorem spec_RuleOk_c (r : Rule) (w : World) :
 Calls Tryz.prog 23 #[.agg #[.int .i64 r.lo,.int .i64 r.hi,.int .i64 r.step,.int .i64 r.min,.int .i64 r.max]] w fun e w' => e = .returned (.bool (ruleOk r)) ∧ Grow w w' := by
 obtain ⟨lo,hi,step,mn,mx⟩ := r
 have hr : ruleOk ⟨lo,hi,step,mn,mx⟩ = (band lo hi && part step && part mn && part mx && decide (mn ≤ mx)) := by
  rw [Bool.eq_iff_iff,ruleOk_iff];simp [part,band,inB];omega
 have HR := Lib.hid hr;clear hr
 cases h1 : band lo hi <;> cases h2 : part step <;> cases h3 : part mn <;> cases h4 : part mx
 all_goals
  go_enter Tryz.func23,Tryz.ntmps23
  go_wp2_with (first
   | (go_at_call 82;refine (spec_Part_c _ _).mono ?_;rintro e w' ⟨rfl,rfl⟩)
   | (go_at_call 81;refine (spec_Band_c _ _ _).mono ?_;rintro e w' ⟨rfl,rfl⟩))
  go_ret
  exact ⟨by rw [HR.out];simp [*],(Grow.refl _).alloc _ _⟩
end Go.Proofs.YtogkbcmfoalpiaaGreat
