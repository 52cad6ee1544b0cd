/- NextPpm, of the program and of the reference. -/
import Derived.Test.YtogkbcmfoalpiaaGreatKPrice1
namespace Go.Proofs.YtogkbcmfoalpiaaGreat
open Go.RowKit
set_option maxHeartbeats 16000000
set_option maxRecDepth 100000
set_option linter.unusedSimpArgs false
set_option linter.unusedVariables false
theorem impl_NextPpm_c (c : Chan) (r : Rule) (w : World) :
 Calls Tryz.prog 84 #[.agg #[.int .i64 c.id,.int .i64 c.size,.int .i64 c.loc,.int .i64 c.remote,.int .i64 c.base,.int .i64 c.ppm,.int .i64 c.score],.agg #[.int .i64 r.lo,.int .i64 r.hi,.int .i64 r.step,.int .i64 r.min,.int .i64 r.max]] w fun e w' => e = .returned (.int .i64 (nextPpm c r)) ∧ Grow w w' := by
 obtain ⟨id,size,loc,remote,base,ppm,score⟩ := c
 by_cases h0 : ruleOk r = true ∧ amtOk size = true ∧ amtOk loc = true ∧ part ppm = true
 rotate_left
 ·have hr : nextPpm ⟨id,size,loc,remote,base,ppm,score⟩ r = -1 := by
   unfold nextPpm;rw [if_neg (by simp only [Bool.and_eq_true];intro h;exact h0 ⟨h.1.1.1,h.1.1.2,h.1.2,h.2⟩)]
  have HR := Lib.hid hr;clear hr
  have hc : ruleOk r = false ∨ (ruleOk r = true ∧ amtOk size = false) ∨ (ruleOk r = true ∧ amtOk size = true ∧ amtOk loc = false) ∨ (ruleOk r = true ∧ amtOk size = true ∧ amtOk loc = true ∧ part ppm = false) := by
   revert h0;cases ruleOk r <;> cases amtOk size <;> cases amtOk loc <;> cases part ppm <;> simp
  clear h0
  unfold part at hc
  obtain ⟨rlo,rhi,rstep,rmin,rmax⟩ := r
  rcases hc with h1 | ⟨h1,h2⟩ | ⟨h1,h2,h3⟩ | ⟨h1,h2,h3,h4⟩
  all_goals
   skip
   go_enter Tryz.func84,Tryz.ntmps84
   go_wp2_with fail
   refine (impl_RuleOk_c ⟨_,_,_,_,_⟩ _).mono ?_
   rintro e w1 ⟨rfl,g1⟩
   have c0 := cellGrow g1 (cellAlloc (cell_new (w := w) (c := #[.int .i64 id,.int .i64 size,.int .i64 loc,.int .i64 remote,.int .i64 base,.int .i64 ppm,.int .i64 score]) (T := 40) 1 rfl) _)
   have c1 := cellGrow g1 (cellAlloc (cell_new (w := w) (c := #[.int .i64 id,.int .i64 size,.int .i64 loc,.int .i64 remote,.int .i64 base,.int .i64 ppm,.int .i64 score]) (T := 40) 2 rfl) _)
   have c2 := cellGrow g1 (cellAlloc (cell_new (w := w) (c := #[.int .i64 id,.int .i64 size,.int .i64 loc,.int .i64 remote,.int .i64 base,.int .i64 ppm,.int .i64 score]) (T := 40) 5 rfl) _)
   go_wp2_with (first
   | (go_at_call 62;refine (impl_AmtOk_c _ _).mono ?_;rintro e w' ⟨rfl,rfl⟩)
   | (go_at_call 63;refine (in_c _ _ _ _).mono ?_;rintro e w' ⟨rfl,rfl⟩))
   go_ret
   exact ⟨by rw [HR.out];rfl,(((Grow.refl w).alloc _ _).alloc _ _).trans g1⟩
 obtain ⟨h1,h2,h3,h4⟩ := h0
 have hr : nextPpm ⟨id,size,loc,remote,base,ppm,score⟩ r = clamp (if loc < ends1 size r.lo r.hi then ppm + r.step else if ends2 size r.lo r.hi < loc then ppm - r.step else ppm) r.min r.max := by
  unfold nextPpm;rw [if_pos (by simp [h1,h2,h3,h4])]
 have HR := Lib.hid hr;clear hr
 obtain ⟨r1,r2,r3,r4,r5,r6,r7,r8⟩ := ruleOk_iff.1 h1
 obtain ⟨p1,p2⟩ := inB_true.1 (show inB ppm 0 1000000 = true from h4)
 unfold part at h4
 obtain ⟨rlo,rhi,rstep,rmin,rmax⟩ := r
 simp only at r1 r2 r3 r4 r5 r6 r7 r8
 by_cases t1 : loc < ends1 size rlo rhi
 ·have T1 := Lib.hid t1
  go_enter Tryz.func84,Tryz.ntmps84
  go_wp2_with fail
  refine (impl_RuleOk_c ⟨_,_,_,_,_⟩ _).mono ?_
  rintro e w1 ⟨rfl,g1⟩
  have GA : Grow (w.alloc (.cells #[.int .i64 id,.int .i64 size,.int .i64 loc,.int .i64 remote,.int .i64 base,.int .i64 ppm,.int .i64 score] 40)) w1 := ((Grow.refl _).alloc _ _).trans g1
  have a0 := cellGrow GA (cell_new 0 rfl)
  have a1 := cellGrow GA (cell_new 1 rfl)
  have a2 := cellGrow GA (cell_new 2 rfl)
  have a3 := cellGrow GA (cell_new 3 rfl)
  have a4 := cellGrow GA (cell_new 4 rfl)
  have a5 := cellGrow GA (cell_new 5 rfl)
  have a6 := cellGrow GA (cell_new 6 rfl)
  have b0 := cellGrow g1 (cell_new 0 rfl)
  have b1 := cellGrow g1 (cell_new 1 rfl)
  have b2 := cellGrow g1 (cell_new 2 rfl)
  have b3 := cellGrow g1 (cell_new 3 rfl)
  have b4 := cellGrow g1 (cell_new 4 rfl)
  simp only [World.size_alloc] at b0 b1 b2 b3 b4
  go_wp2_with (first
   | (go_at_call 62;refine (impl_AmtOk_c _ _).mono ?_;rintro e w' ⟨rfl,rfl⟩)
   | (go_at_call 63;refine (in_c _ _ _ _).mono ?_;rintro e w' ⟨rfl,rfl⟩))
  refine (impl_Ends_c ⟨_,_,_,_,_,_,_⟩ _ _ _).mono ?_
  rintro e w2 ⟨rfl,g2⟩
  have a2 := cellGrow g2 a2
  have a5 := cellGrow g2 a5
  have b2 := cellGrow g2 b2
  have b3 := cellGrow g2 b3
  have b4 := cellGrow g2 b4
  go_wp2_with (go_at_call 126;refine (impl_Clamp_c _ _ _ _).mono ?_;rintro e w' ⟨rfl,rfl⟩)
  go_ret
  exact ⟨by rw [HR.out,if_pos (by have := T1.out;exact this)];rfl,((((Grow.refl w).alloc _ _).alloc _ _).trans g1).trans g2⟩
 ·have T1 := Lib.hid t1
  by_cases t2 : ends2 size rlo rhi < loc
  ·have T2 := Lib.hid t2
   go_enter Tryz.func84,Tryz.ntmps84
   go_wp2_with fail
   refine (impl_RuleOk_c ⟨_,_,_,_,_⟩ _).mono ?_
   rintro e w1 ⟨rfl,g1⟩
   have GA : Grow (w.alloc (.cells #[.int .i64 id,.int .i64 size,.int .i64 loc,.int .i64 remote,.int .i64 base,.int .i64 ppm,.int .i64 score] 40)) w1 := ((Grow.refl _).alloc _ _).trans g1
   have a0 := cellGrow GA (cell_new 0 rfl)
   have a1 := cellGrow GA (cell_new 1 rfl)
   have a2 := cellGrow GA (cell_new 2 rfl)
   have a3 := cellGrow GA (cell_new 3 rfl)
   have a4 := cellGrow GA (cell_new 4 rfl)
   have a5 := cellGrow GA (cell_new 5 rfl)
   have a6 := cellGrow GA (cell_new 6 rfl)
   have b0 := cellGrow g1 (cell_new 0 rfl)
   have b1 := cellGrow g1 (cell_new 1 rfl)
   have b2 := cellGrow g1 (cell_new 2 rfl)
   have b3 := cellGrow g1 (cell_new 3 rfl)
   have b4 := cellGrow g1 (cell_new 4 rfl)
   simp only [World.size_alloc] at b0 b1 b2 b3 b4
   go_wp2_with (first
    | (go_at_call 62;refine (impl_AmtOk_c _ _).mono ?_;rintro e w' ⟨rfl,rfl⟩)
    | (go_at_call 63;refine (in_c _ _ _ _).mono ?_;rintro e w' ⟨rfl,rfl⟩))
   refine (impl_Ends_c ⟨_,_,_,_,_,_,_⟩ _ _ _).mono ?_
   rintro e w2 ⟨rfl,g2⟩
   have a2 := cellGrow g2 a2
   have a5 := cellGrow g2 a5
   have b2 := cellGrow g2 b2
   have b3 := cellGrow g2 b3
   have b4 := cellGrow g2 b4
   go_wp2_with (go_at_call 126;refine (impl_Clamp_c _ _ _ _).mono ?_;rintro e w' ⟨rfl,rfl⟩)
   go_ret
   exact ⟨by rw [HR.out,if_neg (by have := T1.out;omega),if_pos (by have := T2.out;exact this)];rfl,((((Grow.refl w).alloc _ _).alloc _ _).trans g1).trans g2⟩
  ·have T2 := Lib.hid t2
   go_enter Tryz.func84,Tryz.ntmps84
   go_wp2_with fail
   refine (impl_RuleOk_c ⟨_,_,_,_,_⟩ _).mono ?_
   rintro e w1 ⟨rfl,g1⟩
   have GA : Grow (w.alloc (.cells #[.int .i64 id,.int .i64 size,.int .i64 loc,.int .i64 remote,.int .i64 base,.int .i64 ppm,.int .i64 score] 40)) w1 := ((Grow.refl _).alloc _ _).trans g1
   have a0 := cellGrow GA (cell_new 0 rfl)
   have a1 := cellGrow GA (cell_new 1 rfl)
   have a2 := cellGrow GA (cell_new 2 rfl)
   have a3 := cellGrow GA (cell_new 3 rfl)
   have a4 := cellGrow GA (cell_new 4 rfl)
   have a5 := cellGrow GA (cell_new 5 rfl)
   have a6 := cellGrow GA (cell_new 6 rfl)
   have b0 := cellGrow g1 (cell_new 0 rfl)
   have b1 := cellGrow g1 (cell_new 1 rfl)
   have b2 := cellGrow g1 (cell_new 2 rfl)
   have b3 := cellGrow g1 (cell_new 3 rfl)
   have b4 := cellGrow g1 (cell_new 4 rfl)
   simp only [World.size_alloc] at b0 b1 b2 b3 b4
   go_wp2_with (first
    | (go_at_call 62;refine (impl_AmtOk_c _ _).mono ?_;rintro e w' ⟨rfl,rfl⟩)
    | (go_at_call 63;refine (in_c _ _ _ _).mono ?_;rintro e w' ⟨rfl,rfl⟩))
   refine (impl_Ends_c ⟨_,_,_,_,_,_,_⟩ _ _ _).mono ?_
   rintro e w2 ⟨rfl,g2⟩
   have a2 := cellGrow g2 a2
   have a5 := cellGrow g2 a5
   have b2 := cellGrow g2 b2
   have b3 := cellGrow g2 b3
   have b4 := cellGrow g2 b4
   go_wp2_with (go_at_call 126;refine (impl_Clamp_c _ _ _ _).mono ?_;rintro e w' ⟨rfl,rfl⟩)
   go_ret
   exact ⟨by rw [HR.out,if_neg (by have := T1.out;omega),if_neg (by have := T2.out;omega)];rfl,((((Grow.refl w).alloc _ _).alloc _ _).trans g1).trans g2⟩
theorem spec_NextPpm_c (c : Chan) (r : Rule) (w : World) :
 Calls Tryz.prog 85 #[.agg #[.int .i64 c.id,.int .i64 c.size,.int .i64 c.loc,.int .i64 c.remote,.int .i64 c.base,.int .i64 c.ppm,.int .i64 c.score],.agg #[.int .i64 r.lo,.int .i64 r.hi,.int .i64 r.step,.int .i64 r.min,.int .i64 r.max]] w fun e w' => e = .returned (.int .i64 (nextPpm c r)) ∧ Grow w w' := by
 obtain ⟨id,size,loc,remote,base,ppm,score⟩ := c
 by_cases h0 : ruleOk r = true ∧ amtOk size = true ∧ amtOk loc = true ∧ part ppm = true
 rotate_left
 ·have hr : nextPpm ⟨id,size,loc,remote,base,ppm,score⟩ r = -1 := by
   unfold nextPpm;rw [if_neg (by simp only [Bool.and_eq_true];intro h;exact h0 ⟨h.1.1.1,h.1.1.2,h.1.2,h.2⟩)]
  have HR := Lib.hid hr;clear hr
  have hc : ruleOk r = false ∨ (ruleOk r = true ∧ amtOk size = false) ∨ (ruleOk r = true ∧ amtOk size = true ∧ amtOk loc = false) ∨ (ruleOk r = true ∧ amtOk size = true ∧ amtOk loc = true ∧ part ppm = false) := by
   revert h0;cases ruleOk r <;> cases amtOk size <;> cases amtOk loc <;> cases part ppm <;> simp
  clear h0
  unfold part at hc
  obtain ⟨rlo,rhi,rstep,rmin,rmax⟩ := r
  rcases hc with h1 | ⟨h1,h2⟩ | ⟨h1,h2,h3⟩ | ⟨h1,h2,h3,h4⟩
  all_goals
   try change part ppm = false at h4
   go_enter Tryz.func85,Tryz.ntmps85
   go_wp2_with fail
   refine (spec_RuleOk_c ⟨_,_,_,_,_⟩ _).mono ?_
   rintro e w1 ⟨rfl,g1⟩
   have c0 := cellGrow g1 (cellAlloc (cell_new (w := w) (c := #[.int .i64 id,.int .i64 size,.int .i64 loc,.int .i64 remote,.int .i64 base,.int .i64 ppm,.int .i64 score]) (T := 40) 1 rfl) _)
   have c1 := cellGrow g1 (cellAlloc (cell_new (w := w) (c := #[.int .i64 id,.int .i64 size,.int .i64 loc,.int .i64 remote,.int .i64 base,.int .i64 ppm,.int .i64 score]) (T := 40) 2 rfl) _)
   have c2 := cellGrow g1 (cellAlloc (cell_new (w := w) (c := #[.int .i64 id,.int .i64 size,.int .i64 loc,.int .i64 remote,.int .i64 base,.int .i64 ppm,.int .i64 score]) (T := 40) 5 rfl) _)
   go_wp2_with (first
   | (go_at_call 76;refine (spec_AmtOk_c _ _).mono ?_;rintro e w' ⟨rfl,rfl⟩)
   | (go_at_call 82;refine (spec_Part_c _ _).mono ?_;rintro e w' ⟨rfl,rfl⟩))
   go_ret
   exact ⟨by rw [HR.out];rfl,(((Grow.refl w).alloc _ _).alloc _ _).trans g1⟩
 obtain ⟨h1,h2,h3,h4⟩ := h0
 have hr : nextPpm ⟨id,size,loc,remote,base,ppm,score⟩ r = clamp (if loc < ends1 size r.lo r.hi then ppm + r.step else if ends2 size r.lo r.hi < loc then ppm - r.step else ppm) r.min r.max := by
  unfold nextPpm;rw [if_pos (by simp [h1,h2,h3,h4])]
 have HR := Lib.hid hr;clear hr
 obtain ⟨r1,r2,r3,r4,r5,r6,r7,r8⟩ := ruleOk_iff.1 h1
 obtain ⟨p1,p2⟩ := inB_true.1 (show inB ppm 0 1000000 = true from h4)
 skip
 obtain ⟨rlo,rhi,rstep,rmin,rmax⟩ := r
 simp only at r1 r2 r3 r4 r5 r6 r7 r8
 by_cases t1 : loc < ends1 size rlo rhi
 ·have T1 := Lib.hid t1
  go_enter Tryz.func85,Tryz.ntmps85
  go_wp2_with fail
  refine (spec_RuleOk_c ⟨_,_,_,_,_⟩ _).mono ?_
  rintro e w1 ⟨rfl,g1⟩
  have GA : Grow (w.alloc (.cells #[.int .i64 id,.int .i64 size,.int .i64 loc,.int .i64 remote,.int .i64 base,.int .i64 ppm,.int .i64 score] 40)) w1 := ((Grow.refl _).alloc _ _).trans g1
  have a0 := cellGrow GA (cell_new 0 rfl)
  have a1 := cellGrow GA (cell_new 1 rfl)
  have a2 := cellGrow GA (cell_new 2 rfl)
  have a3 := cellGrow GA (cell_new 3 rfl)
  have a4 := cellGrow GA (cell_new 4 rfl)
  have a5 := cellGrow GA (cell_new 5 rfl)
  have a6 := cellGrow GA (cell_new 6 rfl)
  have b0 := cellGrow g1 (cell_new 0 rfl)
  have b1 := cellGrow g1 (cell_new 1 rfl)
  have b2 := cellGrow g1 (cell_new 2 rfl)
  have b3 := cellGrow g1 (cell_new 3 rfl)
  have b4 := cellGrow g1 (cell_new 4 rfl)
  simp only [World.size_alloc] at b0 b1 b2 b3 b4
  go_wp2_with (first
   | (go_at_call 76;refine (spec_AmtOk_c _ _).mono ?_;rintro e w' ⟨rfl,rfl⟩)
   | (go_at_call 82;refine (spec_Part_c _ _).mono ?_;rintro e w' ⟨rfl,rfl⟩))
  refine (spec_Ends_c ⟨_,_,_,_,_,_,_⟩ _ _ _).mono ?_
  rintro e w2 ⟨rfl,g2⟩
  have a2 := cellGrow g2 a2
  have a5 := cellGrow g2 a5
  have b2 := cellGrow g2 b2
  have b3 := cellGrow g2 b3
  have b4 := cellGrow g2 b4
  go_wp2_with (go_at_call 128;refine (spec_Clamp_c _ _ _ _).mono ?_;rintro e w' ⟨rfl,rfl⟩)
  go_ret
  exact ⟨by rw [HR.out,if_pos (by have := T1.out;exact this)];rfl,((((Grow.refl w).alloc _ _).alloc _ _).trans g1).trans g2⟩
 ·have T1 := Lib.hid t1
  by_cases t2 : ends2 size rlo rhi < loc
  ·have T2 := Lib.hid t2
   go_enter Tryz.func85,Tryz.ntmps85
   go_wp2_with fail
   refine (spec_RuleOk_c ⟨_,_,_,_,_⟩ _).mono ?_
   rintro e w1 ⟨rfl,g1⟩
   have GA : Grow (w.alloc (.cells #[.int .i64 id,.int .i64 size,.int .i64 loc,.int .i64 remote,.int .i64 base,.int .i64 ppm,.int .i64 score] 40)) w1 := ((Grow.refl _).alloc _ _).trans g1
   have a0 := cellGrow GA (cell_new 0 rfl)
   have a1 := cellGrow GA (cell_new 1 rfl)
   have a2 := cellGrow GA (cell_new 2 rfl)
   have a3 := cellGrow GA (cell_new 3 rfl)
   have a4 := cellGrow GA (cell_new 4 rfl)
   have a5 := cellGrow GA (cell_new 5 rfl)
   have a6 := cellGrow GA (cell_new 6 rfl)
   have b0 := cellGrow g1 (cell_new 0 rfl)
   have b1 := cellGrow g1 (cell_new 1 rfl)
   have b2 := cellGrow g1 (cell_new 2 rfl)
   have b3 := cellGrow g1 (cell_new 3 rfl)
   have b4 := cellGrow g1 (cell_new 4 rfl)
   simp only [World.size_alloc] at b0 b1 b2 b3 b4
   go_wp2_with (first
    | (go_at_call 76;refine (spec_AmtOk_c _ _).mono ?_;rintro e w' ⟨rfl,rfl⟩)
    | (go_at_call 82;refine (spec_Part_c _ _).mono ?_;rintro e w' ⟨rfl,rfl⟩))
   refine (spec_Ends_c ⟨_,_,_,_,_,_,_⟩ _ _ _).mono ?_
   rintro e w2 ⟨rfl,g2⟩
   have a2 := cellGrow g2 a2
   have a5 := cellGrow g2 a5
   have b2 := cellGrow g2 b2
   have b3 := cellGrow g2 b3
   have b4 := cellGrow g2 b4
   go_wp2_with (go_at_call 128;refine (spec_Clamp_c _ _ _ _).mono ?_;rintro e w' ⟨rfl,rfl⟩)
   go_ret
   exact ⟨by rw [HR.out,if_neg (by have := T1.out;omega),if_pos (by have := T2.out;exact this)];rfl,((((Grow.refl w).alloc _ _).alloc _ _).trans g1).trans g2⟩
  ·have T2 := Lib.hid t2
   go_enter Tryz.func85,Tryz.ntmps85
   go_wp2_with fail
   refine (spec_RuleOk_c ⟨_,_,_,_,_⟩ _).mono ?_
   rintro e w1 ⟨rfl,g1⟩
   have GA : Grow (w.alloc (.cells #[.int .i64 id,.int .i64 size,.int .i64 loc,.int .i64 remote,.int .i64 base,.int .i64 ppm,.int .i64 score] 40)) w1 := ((Grow.refl _).alloc _ _).trans g1
   have a0 := cellGrow GA (cell_new 0 rfl)
   have a1 := cellGrow GA (cell_new 1 rfl)
   have a2 := cellGrow GA (cell_new 2 rfl)
   have a3 := cellGrow GA (cell_new 3 rfl)
   have a4 := cellGrow GA (cell_new 4 rfl)
   have a5 := cellGrow GA (cell_new 5 rfl)
   have a6 := cellGrow GA (cell_new 6 rfl)
   have b0 := cellGrow g1 (cell_new 0 rfl)
   have b1 := cellGrow g1 (cell_new 1 rfl)
   have b2 := cellGrow g1 (cell_new 2 rfl)
   have b3 := cellGrow g1 (cell_new 3 rfl)
   have b4 := cellGrow g1 (cell_new 4 rfl)
   simp only [World.size_alloc] at b0 b1 b2 b3 b4
   go_wp2_with (first
    | (go_at_call 76;refine (spec_AmtOk_c _ _).mono ?_;rintro e w' ⟨rfl,rfl⟩)
    | (go_at_call 82;refine (spec_Part_c _ _).mono ?_;rintro e w' ⟨rfl,rfl⟩))
   refine (spec_Ends_c ⟨_,_,_,_,_,_,_⟩ _ _ _).mono ?_
   rintro e w2 ⟨rfl,g2⟩
   have a2 := cellGrow g2 a2
   have a5 := cellGrow g2 a5
   have b2 := cellGrow g2 b2
   have b3 := cellGrow g2 b3
   have b4 := cellGrow g2 b4
   go_wp2_with (go_at_call 128;refine (spec_Clamp_c _ _ _ _).mono ?_;rintro e w' ⟨rfl,rfl⟩)
   go_ret
   exact ⟨by rw [HR.out,if_neg (by have := T1.out;omega),if_neg (by have := T2.out;omega)];rfl,((((Grow.refl w).alloc _ _).alloc _ _).trans g1).trans g2⟩
end Go.Proofs.YtogkbcmfoalpiaaGreat
