/- The contracts on books, over data. -/
import Derived.Test.YtbjnbhlpibadnaaE12
import Derived.Test.YtbjnbhlpibadnaaBook9
import Derived.Test.YtbjnbhlpibadnaaAp
namespace Go.Proofs.Ytbjnbhlpibadnaa
open Go.RowKit
set_option linter.unusedSimpArgs false
set_option linter.unusedVariables false

def bookV (x : Book) : AV := .agg [.p (.v (.int .i64 x.tick)), .p (.v (.int .i64 x.next)), .p (.v (.int .i64 x.wallet)), .p (.lst 107 7 (rowsOf encChan x.chans)), .p (.lst 145 7 (rowsOf encHtlc x.htlcs)), .p (.lst 147 5 (rowsOf encCircle x.circles))]
structure BookWf (x : Book) : Prop where
  chans : ∀ c ∈ x.chans, wfChan c
  htlcs : ∀ c ∈ x.htlcs, wfHtlc c
  circles : ∀ c ∈ x.circles, wfCircle c
  len : x.chans.length ≤ 1048576
theorem SlR.form {α : Type} {sz : Nat} {rep : World → Nat → Nat → List Value → α → Prop} {w : World} {lo hi : Nat} {v : Value} {xs : List α} (h : SlR sz rep w lo hi v xs) : ∃ a c, v = .slice a xs.length c := by
  obtain ⟨a, c, rfl, _⟩ := h
  exact ⟨a, c, rfl⟩
theorem bookArg {L : Nat → Prop} {ρ : Nat → Value} {H : Nat → AO} {x : Book} {w : World} {c : Value} (h : RV L ρ H w (bookV x) c) (hw : BookWf x) :
    ∃ a0 c0 a1 c1 a2 c2, c = .agg #[.int .i64 x.tick, .int .i64 x.next, .int .i64 x.wallet, .slice a0 x.chans.length c0, .slice a1 x.htlcs.length c1, .slice a2 x.circles.length c2] ∧
      SlR 7 repChan w 0 w.heap.size (.slice a0 x.chans.length c0) x.chans ∧ SlR 7 repHtlc w 0 w.heap.size (.slice a1 x.htlcs.length c1) x.htlcs ∧ SlR 5 repCircle w 0 w.heap.size (.slice a2 x.circles.length c2) x.circles := by
  unfold bookV at h
  rw [RV] at h
  obtain ⟨cs, rfl, h⟩ := h
  simp only [RVL] at h
  obtain ⟨v0, r0, rfl, h0, v1, r1, rfl, h1, v2, r2, rfl, h2, v3, r3, rfl, h3, v4, r4, rfl, h4, v5, r5, rfl, h5, rfl⟩ := h
  have s3 := h3.slr (rep := repChan) (fun x => rfl) (fun c hc => ⟨rfl, hw.chans c hc⟩)
  have s4 := h4.slr (rep := repHtlc) (fun x => rfl) (fun c hc => ⟨rfl, hw.htlcs c hc⟩)
  have s5 := h5.slr (rep := repCircle) (fun x => rfl) (fun c hc => ⟨rfl, hw.circles c hc⟩)
  obtain ⟨a0, c0, rfl⟩ := s3.form
  obtain ⟨a1, c1, rfl⟩ := s4.form
  obtain ⟨a2, c2, rfl⟩ := s5.form
  exact ⟨a0, c0, a1, c1, a2, c2, by rw [h0.v_eq, h1.v_eq, h2.v_eq], s3, s4, s5⟩
theorem GC.of_old {P : Program} {f : FuncId} {args : List AV} {x : AV} {r : Value} (ho : ∀ {L : Nat → Prop} {ρ : Nat → Value} {w : World}, RV L ρ (ofO []) w x r)
    (h : ∀ (L : Nat → Prop) (ρ : Nat → Value) (w : World) (cs : List Value), RVL L ρ (ofO []) w args cs → Calls P f cs.toArray w fun e w' => e = .returned r ∧ Grow w w') : GC P f args [] x [] := by
  intro L w cs ρ fp hL hargs hob hdj hLf
  refine Calls.mono (h L ρ w cs hargs) ?_
  rintro e w' ⟨rfl, g⟩
  refine ⟨r, ρ, fun _ => [], rfl, ⟨g.below.os, g.below.tape, g.below.output, g.size, fun b hb _ => g.below.block b hb, fun b o hb hlt => ?_⟩, ho, fun i => rfl, by simp, by simp⟩
  rcases hb with ⟨i, hi⟩ | hb
  · have := (hob i).only hi
    cases this.1
  · exact g.nf b o hb hlt
theorem RVL.two {L : Nat → Prop} {ρ : Nat → Value} {H : Nat → AO} {w : World} {x y : AV} {cs : List Value} (h : RVL L ρ H w [x, y] cs) : ∃ c d, cs = [c, d] ∧ RV L ρ H w x c ∧ RV L ρ H w y d := by
  simp only [RVL] at h
  obtain ⟨c, r, rfl, h1, d, r', rfl, h2, rfl⟩ := h
  exact ⟨c, d, rfl, h1, h2⟩
theorem RVL.sole {L : Nat → Prop} {ρ : Nat → Value} {H : Nat → AO} {w : World} {x : AV} {cs : List Value} (h : RVL L ρ H w [x] cs) : ∃ c, cs = [c] ∧ RV L ρ H w x c := by
  simp only [RVL] at h
  obtain ⟨c, r, rfl, h1, rfl⟩ := h
  exact ⟨c, rfl, h1⟩
theorem impl_BookOk_e (x : Book) (hw : BookWf x) : GC Try.prog 69 [bookV x] [] (boo (bookOk x)) [] := GC.of_old (RV.v_mk rfl) fun L ρ w cs h => by
  obtain ⟨c, rfl, hc⟩ := h.sole
  obtain ⟨a0, c0, a1, c1, a2, c2, rfl, s0, s1, s2⟩ := bookArg hc hw
  exact impl_BookOk_c x _ _ _ _ _ _ w s0 s1 s2 hw.len
theorem spec_BookOk_e (x : Book) (hw : BookWf x) : GC Try.prog 60 [bookV x] [] (boo (bookOk x)) [] := GC.of_old (RV.v_mk rfl) fun L ρ w cs h => by
  obtain ⟨c, rfl, hc⟩ := h.sole
  obtain ⟨a0, c0, a1, c1, a2, c2, rfl, s0, s1, s2⟩ := bookArg hc hw
  exact spec_BookOk_c x _ _ _ _ _ _ w s0 s1 s2 hw.len
theorem impl_chanAt_e (x : Book) (ch : Int) (hw : BookWf x) : GC Try.prog 72 [bookV x, int ch] [] (int (chanAt x.chans ch)) [] := GC.of_old (RV.v_mk rfl) fun L ρ w cs h => by
  obtain ⟨c, d, rfl, hc, hd⟩ := h.two
  obtain ⟨a0, c0, a1, c1, a2, c2, rfl, s0, s1, s2⟩ := bookArg hc hw
  rw [hd.v_eq]
  exact impl_chanAt_c x _ _ _ _ _ _ ch w s0 hw.len
theorem spec_At_e (x : Book) (ch : Int) (hw : BookWf x) : GC Try.prog 63 [bookV x, int ch] [] (int (chanAt x.chans ch)) [] := GC.of_old (RV.v_mk rfl) fun L ρ w cs h => by
  obtain ⟨c, d, rfl, hc, hd⟩ := h.two
  obtain ⟨a0, c0, a1, c1, a2, c2, rfl, s0, s1, s2⟩ := bookArg hc hw
  rw [hd.v_eq]
  exact spec_At_c x _ _ _ _ _ _ ch w s0 hw.len
theorem spec_Out_e (x : Book) (ch : Int) (hw : BookWf x) (sm : Small x) : GC Try.prog 64 [bookV x, int ch] [] (int (outOf x ch)) [] := GC.of_old (RV.v_mk rfl) fun L ρ w cs h => by
  obtain ⟨c, d, rfl, hc, hd⟩ := h.two
  obtain ⟨a0, c0, a1, c1, a2, c2, rfl, s0, s1, s2⟩ := bookArg hc hw
  rw [hd.v_eq]
  exact spec_Out_c x _ _ _ _ _ _ ch w s1 s2 sm
theorem transit_e (x : Book) (ch : Int) (hw : BookWf x) (sm : Small x) : GC Try.prog 73 [bookV x, int ch] [] (.tup [int (outOf x ch), int (intoOf x ch)]) [] := GC.of_old (r := .tuple #[.int .i64 (outOf x ch), .int .i64 (intoOf x ch)]) (by
    intro L ρ w
    rw [RV]
    refine ⟨[.int .i64 (outOf x ch), .int .i64 (intoOf x ch)], rfl, ?_⟩
    simp only [RVL]
    exact ⟨_, _, rfl, RV.v_mk rfl, _, _, rfl, RV.v_mk rfl, rfl⟩) fun L ρ w cs h => by
  obtain ⟨c, d, rfl, hc, hd⟩ := h.two
  obtain ⟨a0, c0, a1, c1, a2, c2, rfl, s0, s1, s2⟩ := bookArg hc hw
  rw [hd.v_eq]
  exact transit_c x _ _ _ _ _ _ ch w s1 s2 sm
theorem bookOk_next {x : Book} (h : bookOk x = true) : 1 ≤ x.next ∧ x.next ≤ 1125899906842624 := by
  unfold bookOk at h
  simp only [Bool.and_eq_true] at h
  exact inB_true.1 h.1.1.1.2
theorem bookOk_small {x : Book} (h : bookOk x = true) : Small x := by
  unfold bookOk at h
  simp only [Bool.and_eq_true] at h
  exact Small.of_parts h.1.2
end Go.Proofs.Ytbjnbhlpibadnaa
