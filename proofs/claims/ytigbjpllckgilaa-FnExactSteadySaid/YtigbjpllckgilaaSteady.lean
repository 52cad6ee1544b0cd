/- Steady, of the program and of the reference. -/
import Derived.Test.YtigbjpllckgilaaTurns
namespace Go.Proofs.Ytigbjpllckgilaa
open Go.RowKit
set_option linter.unusedSimpArgs false
set_option linter.unusedVariables false

def steadyOf (x : Book) (r : Rule) : Bool := bookOk x && ruleOk r && ((turnsOf x r).length == 0)

set_option maxHeartbeats 4000000 in
set_option maxRecDepth 100000 in
theorem impl_Steady_c (x : Book) (a0 : Option Addr) (c0 : Nat) (a1 : Option Addr) (c1 : Nat) (a2 : Option Addr) (c2 : Nat) (r : Rule) (w : World) (h0 : SlR 7 repChan w 0 w.heap.size (.slice a0 x.chans.length c0) x.chans) (h1 : SlR 7 repHtlc w 0 w.heap.size (.slice a1 x.htlcs.length c1) x.htlcs) (h2 : SlR 5 repCircle w 0 w.heap.size (.slice a2 x.circles.length c2) x.circles) (hn : x.chans.length ≤ 1048576) :
    Calls Try.prog 39 #[.agg #[.int .i64 x.tick, .int .i64 x.next, .int .i64 x.wallet, .slice a0 x.chans.length c0, .slice a1 x.htlcs.length c1, .slice a2 x.circles.length c2], .agg #[.int .i64 r.lo, .int .i64 r.hi, .int .i64 r.step, .int .i64 r.min, .int .i64 r.max]] w fun e w' => e = .returned (.bool (steadyOf x r)) ∧ Grow w w' := by
  have H0 := Lib.hid h0; have H1 := Lib.hid h1; have H2 := Lib.hid h2
  clear h0 h1 h2
  have HP : Hid (steadyOf x r = (bookOk x && ruleOk r && ((turnsOf x r).length == 0))) := rfl
  go_enter Try.func39, Try.ntmps39
  go_wp2_with fail
  refine (impl_BookOk_c x _ _ _ _ _ _ _ (H0.out.grow' repChan_stable (Grow.below (((Grow.refl w).alloc _ _).alloc _ _))) (H1.out.grow' repHtlc_stable (Grow.below (((Grow.refl w).alloc _ _).alloc _ _))) (H2.out.grow' repCircle_stable (Grow.below (((Grow.refl w).alloc _ _).alloc _ _))) hn).mono ?_
  rintro e V1 ⟨rfl, gs⟩
  have ys := Grow.size gs
  simp only [World.size_setCell, World.size_alloc] at ys
  have B0 : Box V1 (w.heap.size) [.int .i64 x.tick, .int .i64 x.next, .int .i64 x.wallet, .slice a0 x.chans.length c0, .slice a1 x.htlcs.length c1, .slice a2 x.circles.length c2] := Box.grow ((Box.newAt (by simp) _ _).alloc _ _) gs
  have B1 : Box V1 (w.heap.size + 1) [.int .i64 r.lo, .int .i64 r.hi, .int .i64 r.step, .int .i64 r.min, .int .i64 r.max] := Box.grow (Box.newAt (by simp) _ _) gs
  have G : Grow w V1 := Grow.trans (((Grow.refl w).alloc _ _).alloc _ _) gs
  clear gs
  have z0 := B0.lt
  have z1 := B1.lt
  have q0_0 : V1.cell? ⟨w.heap.size, 0, none⟩ = some (.int .i64 x.tick) := B0.c 0 _ rfl
  have q0_1 : V1.cell? ⟨w.heap.size, 1, none⟩ = some (.int .i64 x.next) := B0.c 1 _ rfl
  have q0_2 : V1.cell? ⟨w.heap.size, 2, none⟩ = some (.int .i64 x.wallet) := B0.c 2 _ rfl
  have q0_3 : V1.cell? ⟨w.heap.size, 3, none⟩ = some (.slice a0 x.chans.length c0) := B0.c 3 _ rfl
  have q0_4 : V1.cell? ⟨w.heap.size, 4, none⟩ = some (.slice a1 x.htlcs.length c1) := B0.c 4 _ rfl
  have q0_5 : V1.cell? ⟨w.heap.size, 5, none⟩ = some (.slice a2 x.circles.length c2) := B0.c 5 _ rfl
  have f0 := B0.f
  have q1_0 : V1.cell? ⟨w.heap.size + 1, 0, none⟩ = some (.int .i64 r.lo) := B1.c 0 _ rfl
  have q1_1 : V1.cell? ⟨w.heap.size + 1, 1, none⟩ = some (.int .i64 r.hi) := B1.c 1 _ rfl
  have q1_2 : V1.cell? ⟨w.heap.size + 1, 2, none⟩ = some (.int .i64 r.step) := B1.c 2 _ rfl
  have q1_3 : V1.cell? ⟨w.heap.size + 1, 3, none⟩ = some (.int .i64 r.min) := B1.c 3 _ rfl
  have q1_4 : V1.cell? ⟨w.heap.size + 1, 4, none⟩ = some (.int .i64 r.max) := B1.c 4 _ rfl
  have f1 := B1.f
  cases hb : bookOk x
  · have HR : Hid (steadyOf x r = false) := by
      show _ = _
      rw [HP.out, hb]; simp
    go_wp2_with fail
    go_ret
    exact ⟨by rw [HR.out]; rfl, G⟩
  go_wp2_with fail
  refine (impl_RuleOk_c r _).mono ?_
  rintro e V2 ⟨rfl, gs⟩
  clear z0 z1 q0_0 q0_1 q0_2 q0_3 q0_4 q0_5 f0 q1_0 q1_1 q1_2 q1_3 q1_4 f1
  have ys := Grow.size gs
  replace B0 : Box V2 (w.heap.size) [.int .i64 x.tick, .int .i64 x.next, .int .i64 x.wallet, .slice a0 x.chans.length c0, .slice a1 x.htlcs.length c1, .slice a2 x.circles.length c2] := Box.grow B0 gs
  replace B1 : Box V2 (w.heap.size + 1) [.int .i64 r.lo, .int .i64 r.hi, .int .i64 r.step, .int .i64 r.min, .int .i64 r.max] := Box.grow B1 gs
  replace G : Grow w V2 := Grow.trans G gs
  clear gs
  have z0 := B0.lt
  have z1 := B1.lt
  have q0_0 : V2.cell? ⟨w.heap.size, 0, none⟩ = some (.int .i64 x.tick) := B0.c 0 _ rfl
  have q0_1 : V2.cell? ⟨w.heap.size, 1, none⟩ = some (.int .i64 x.next) := B0.c 1 _ rfl
  have q0_2 : V2.cell? ⟨w.heap.size, 2, none⟩ = some (.int .i64 x.wallet) := B0.c 2 _ rfl
  have q0_3 : V2.cell? ⟨w.heap.size, 3, none⟩ = some (.slice a0 x.chans.length c0) := B0.c 3 _ rfl
  have q0_4 : V2.cell? ⟨w.heap.size, 4, none⟩ = some (.slice a1 x.htlcs.length c1) := B0.c 4 _ rfl
  have q0_5 : V2.cell? ⟨w.heap.size, 5, none⟩ = some (.slice a2 x.circles.length c2) := B0.c 5 _ rfl
  have f0 := B0.f
  have q1_0 : V2.cell? ⟨w.heap.size + 1, 0, none⟩ = some (.int .i64 r.lo) := B1.c 0 _ rfl
  have q1_1 : V2.cell? ⟨w.heap.size + 1, 1, none⟩ = some (.int .i64 r.hi) := B1.c 1 _ rfl
  have q1_2 : V2.cell? ⟨w.heap.size + 1, 2, none⟩ = some (.int .i64 r.step) := B1.c 2 _ rfl
  have q1_3 : V2.cell? ⟨w.heap.size + 1, 3, none⟩ = some (.int .i64 r.min) := B1.c 3 _ rfl
  have q1_4 : V2.cell? ⟨w.heap.size + 1, 4, none⟩ = some (.int .i64 r.max) := B1.c 4 _ rfl
  have f1 := B1.f
  cases hr : ruleOk r
  · have HR : Hid (steadyOf x r = false) := by
      show _ = _
      rw [HP.out, hr]; simp
    go_wp2_with fail
    go_ret
    exact ⟨by rw [HR.out]; rfl, G⟩
  have HR : Hid (steadyOf x r = ((turnsOf x r).length == 0)) := by
    show _ = _
    rw [HP.out, hb, hr]; rfl
  go_wp2_with fail
  refine (impl_Turns_c x _ _ _ _ _ _ r _ (H0.out.grow' repChan_stable (Grow.below G)) (H1.out.grow' repHtlc_stable (Grow.below G)) (H2.out.grow' repCircle_stable (Grow.below G)) hn).mono ?_
  rintro e V9 ⟨a, c, rfl, gs, -⟩
  have G9 := G.trans gs
  clear gs
  clear z0 z1 q0_0 q0_1 q0_2 q0_3 q0_4 q0_5 f0 q1_0 q1_1 q1_2 q1_3 q1_4 f1
  generalize (turnsOf x r).length = n at *
  by_cases hn0 : n = 0
  · subst hn0
    go_wp2_with fail
    go_ret
    exact ⟨by rw [HR.out]; rfl, G9⟩
  · have q : ((n : Int) == 0) = false := by simp; omega
    have HN := Lib.hid hn0
    go_wp2_with fail
    go_ret
    exact ⟨by rw [HR.out, beq_eq_false_iff_ne.2 HN.out]; rfl, G9⟩

set_option maxHeartbeats 4000000 in
set_option maxRecDepth 100000 in
theorem spec_Steady_c (x : Book) (a0 : Option Addr) (c0 : Nat) (a1 : Option Addr) (c1 : Nat) (a2 : Option Addr) (c2 : Nat) (r : Rule) (w : World) (h0 : SlR 7 repChan w 0 w.heap.size (.slice a0 x.chans.length c0) x.chans) (h1 : SlR 7 repHtlc w 0 w.heap.size (.slice a1 x.htlcs.length c1) x.htlcs) (h2 : SlR 5 repCircle w 0 w.heap.size (.slice a2 x.circles.length c2) x.circles) (hn : x.chans.length ≤ 1048576) :
    Calls Try.prog 37 #[.agg #[.int .i64 x.tick, .int .i64 x.next, .int .i64 x.wallet, .slice a0 x.chans.length c0, .slice a1 x.htlcs.length c1, .slice a2 x.circles.length c2], .agg #[.int .i64 r.lo, .int .i64 r.hi, .int .i64 r.step, .int .i64 r.min, .int .i64 r.max]] w fun e w' => e = .returned (.bool (steadyOf x r)) ∧ Grow w w' := by
  have H0 := Lib.hid h0; have H1 := Lib.hid h1; have H2 := Lib.hid h2
  clear h0 h1 h2
  have HP : Hid (steadyOf x r = (bookOk x && ruleOk r && ((turnsOf x r).length == 0))) := rfl
  go_enter Try.func37, Try.ntmps37
  go_wp2_with fail
  refine (spec_BookOk_c x _ _ _ _ _ _ _ (H0.out.grow' repChan_stable (Grow.below (((Grow.refl w).alloc _ _).alloc _ _))) (H1.out.grow' repHtlc_stable (Grow.below (((Grow.refl w).alloc _ _).alloc _ _))) (H2.out.grow' repCircle_stable (Grow.below (((Grow.refl w).alloc _ _).alloc _ _))) hn).mono ?_
  rintro e V1 ⟨rfl, gs⟩
  have ys := Grow.size gs
  simp only [World.size_setCell, World.size_alloc] at ys
  have B0 : Box V1 (w.heap.size) [.int .i64 x.tick, .int .i64 x.next, .int .i64 x.wallet, .slice a0 x.chans.length c0, .slice a1 x.htlcs.length c1, .slice a2 x.circles.length c2] := Box.grow ((Box.newAt (by simp) _ _).alloc _ _) gs
  have B1 : Box V1 (w.heap.size + 1) [.int .i64 r.lo, .int .i64 r.hi, .int .i64 r.step, .int .i64 r.min, .int .i64 r.max] := Box.grow (Box.newAt (by simp) _ _) gs
  have G : Grow w V1 := Grow.trans (((Grow.refl w).alloc _ _).alloc _ _) gs
  clear gs
  have z0 := B0.lt
  have z1 := B1.lt
  have q0_0 : V1.cell? ⟨w.heap.size, 0, none⟩ = some (.int .i64 x.tick) := B0.c 0 _ rfl
  have q0_1 : V1.cell? ⟨w.heap.size, 1, none⟩ = some (.int .i64 x.next) := B0.c 1 _ rfl
  have q0_2 : V1.cell? ⟨w.heap.size, 2, none⟩ = some (.int .i64 x.wallet) := B0.c 2 _ rfl
  have q0_3 : V1.cell? ⟨w.heap.size, 3, none⟩ = some (.slice a0 x.chans.length c0) := B0.c 3 _ rfl
  have q0_4 : V1.cell? ⟨w.heap.size, 4, none⟩ = some (.slice a1 x.htlcs.length c1) := B0.c 4 _ rfl
  have q0_5 : V1.cell? ⟨w.heap.size, 5, none⟩ = some (.slice a2 x.circles.length c2) := B0.c 5 _ rfl
  have f0 := B0.f
  have q1_0 : V1.cell? ⟨w.heap.size + 1, 0, none⟩ = some (.int .i64 r.lo) := B1.c 0 _ rfl
  have q1_1 : V1.cell? ⟨w.heap.size + 1, 1, none⟩ = some (.int .i64 r.hi) := B1.c 1 _ rfl
  have q1_2 : V1.cell? ⟨w.heap.size + 1, 2, none⟩ = some (.int .i64 r.step) := B1.c 2 _ rfl
  have q1_3 : V1.cell? ⟨w.heap.size + 1, 3, none⟩ = some (.int .i64 r.min) := B1.c 3 _ rfl
  have q1_4 : V1.cell? ⟨w.heap.size + 1, 4, none⟩ = some (.int .i64 r.max) := B1.c 4 _ rfl
  have f1 := B1.f
  cases hb : bookOk x
  · have HR : Hid (steadyOf x r = false) := by
      show _ = _
      rw [HP.out, hb]; simp
    go_wp2_with fail
    go_ret
    exact ⟨by rw [HR.out]; rfl, G⟩
  go_wp2_with fail
  refine (spec_RuleOk_c r _).mono ?_
  rintro e V2 ⟨rfl, gs⟩
  clear z0 z1 q0_0 q0_1 q0_2 q0_3 q0_4 q0_5 f0 q1_0 q1_1 q1_2 q1_3 q1_4 f1
  have ys := Grow.size gs
  replace B0 : Box V2 (w.heap.size) [.int .i64 x.tick, .int .i64 x.next, .int .i64 x.wallet, .slice a0 x.chans.length c0, .slice a1 x.htlcs.length c1, .slice a2 x.circles.length c2] := Box.grow B0 gs
  replace B1 : Box V2 (w.heap.size + 1) [.int .i64 r.lo, .int .i64 r.hi, .int .i64 r.step, .int .i64 r.min, .int .i64 r.max] := Box.grow B1 gs
  replace G : Grow w V2 := Grow.trans G gs
  clear gs
  have z0 := B0.lt
  have z1 := B1.lt
  have q0_0 : V2.cell? ⟨w.heap.size, 0, none⟩ = some (.int .i64 x.tick) := B0.c 0 _ rfl
  have q0_1 : V2.cell? ⟨w.heap.size, 1, none⟩ = some (.int .i64 x.next) := B0.c 1 _ rfl
  have q0_2 : V2.cell? ⟨w.heap.size, 2, none⟩ = some (.int .i64 x.wallet) := B0.c 2 _ rfl
  have q0_3 : V2.cell? ⟨w.heap.size, 3, none⟩ = some (.slice a0 x.chans.length c0) := B0.c 3 _ rfl
  have q0_4 : V2.cell? ⟨w.heap.size, 4, none⟩ = some (.slice a1 x.htlcs.length c1) := B0.c 4 _ rfl
  have q0_5 : V2.cell? ⟨w.heap.size, 5, none⟩ = some (.slice a2 x.circles.length c2) := B0.c 5 _ rfl
  have f0 := B0.f
  have q1_0 : V2.cell? ⟨w.heap.size + 1, 0, none⟩ = some (.int .i64 r.lo) := B1.c 0 _ rfl
  have q1_1 : V2.cell? ⟨w.heap.size + 1, 1, none⟩ = some (.int .i64 r.hi) := B1.c 1 _ rfl
  have q1_2 : V2.cell? ⟨w.heap.size + 1, 2, none⟩ = some (.int .i64 r.step) := B1.c 2 _ rfl
  have q1_3 : V2.cell? ⟨w.heap.size + 1, 3, none⟩ = some (.int .i64 r.min) := B1.c 3 _ rfl
  have q1_4 : V2.cell? ⟨w.heap.size + 1, 4, none⟩ = some (.int .i64 r.max) := B1.c 4 _ rfl
  have f1 := B1.f
  cases hr : ruleOk r
  · have HR : Hid (steadyOf x r = false) := by
      show _ = _
      rw [HP.out, hr]; simp
    go_wp2_with fail
    go_ret
    exact ⟨by rw [HR.out]; rfl, G⟩
  have HR : Hid (steadyOf x r = ((turnsOf x r).length == 0)) := by
    show _ = _
    rw [HP.out, hb, hr]; rfl
  go_wp2_with fail
  refine (spec_Turns_c x _ _ _ _ _ _ r _ (H0.out.grow' repChan_stable (Grow.below G)) (H1.out.grow' repHtlc_stable (Grow.below G)) (H2.out.grow' repCircle_stable (Grow.below G)) hn).mono ?_
  rintro e V9 ⟨a, c, rfl, gs, -⟩
  have G9 := G.trans gs
  clear gs
  clear z0 z1 q0_0 q0_1 q0_2 q0_3 q0_4 q0_5 f0 q1_0 q1_1 q1_2 q1_3 q1_4 f1
  generalize (turnsOf x r).length = n at *
  by_cases hn0 : n = 0
  · subst hn0
    go_wp2_with fail
    go_ret
    exact ⟨by rw [HR.out]; rfl, G9⟩
  · have q : ((n : Int) == 0) = false := by simp; omega
    have HN := Lib.hid hn0
    go_wp2_with fail
    go_ret
    exact ⟨by rw [HR.out, beq_eq_false_iff_ne.2 HN.out]; rfl, G9⟩

end Go.Proofs.Ytigbjpllckgilaa
