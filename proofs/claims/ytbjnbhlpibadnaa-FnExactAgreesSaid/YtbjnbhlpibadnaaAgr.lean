/- Agrees, of the program and of the reference, in the older words. -/
import Derived.Test.YtbjnbhlpibadnaaET3
namespace Go.Proofs.Ytbjnbhlpibadnaa
open Go.RowKit
set_option linter.unusedSimpArgs false
set_option linter.unusedVariables false

theorem SlR.each {α : Type} {sz : Nat} {rep : World → Nat → Nat → List Value → α → Prop} {w : World} {lo hi : Nat} {v : Value} {xs : List α} {p : α → Prop} (h : SlR sz rep w lo hi v xs) (hp : ∀ lo hi cs x, rep w lo hi cs x → p x) : ∀ x ∈ xs, p x := by
  obtain ⟨a, cap, rfl, c1, c2, hsl⟩ := h
  intro x hx
  rcases hsl with hz | ⟨b, off, rfl, b1, b2, hel⟩
  · subst hz; simp at hx
  · obtain ⟨i, hi, rfl⟩ := List.getElem_of_mem hx
    obtain ⟨cs, h1, _⟩ := hel i hi
    exact hp _ _ _ _ h1
theorem no_live {b : Nat} : ¬ live (fun _ => False) (fun _ => undef) (ofO []) b := by
  rintro (h | ⟨id, h, _⟩)
  · exact h
  · cases h
theorem BookWf.of {x : Book} {w : World} {v0 v1 v2 : Value} (h0 : SlR 7 repChan w 0 w.heap.size v0 x.chans) (h1 : SlR 7 repHtlc w 0 w.heap.size v1 x.htlcs) (h2 : SlR 5 repCircle w 0 w.heap.size v2 x.circles) (hn : x.chans.length ≤ 1048576) : BookWf x :=
  ⟨h0.each fun _ _ _ _ h => h.2, h1.each fun _ _ _ _ h => h.2, h2.each fun _ _ _ _ h => h.2, hn⟩
theorem bookRV {x : Book} {w : World} {v0 v1 v2 : Value} (h0 : SlR 7 repChan w 0 w.heap.size v0 x.chans) (h1 : SlR 7 repHtlc w 0 w.heap.size v1 x.htlcs) (h2 : SlR 5 repCircle w 0 w.heap.size v2 x.circles) :
    RV (fun _ => False) (fun _ => undef) (ofO []) w (bookV x) (.agg #[.int .i64 x.tick, .int .i64 x.next, .int .i64 x.wallet, v0, v1, v2]) := by
  unfold bookV
  rw [RV]
  refine ⟨[.int .i64 x.tick, .int .i64 x.next, .int .i64 x.wallet, v0, v1, v2], rfl, ?_⟩
  simp only [RVL]
  exact ⟨_, _, rfl, RV.v_mk rfl, _, _, rfl, RV.v_mk rfl, _, _, rfl, RV.v_mk rfl,
    _, _, rfl, RV.of_slr h0 (fun _ _ h => h.1) (fun _ => rfl) (by intro c u hu; simp [encChan] at hu; rcases hu with h | h | h | h | h | h | h <;> (subst h; rfl)) (Nat.le_refl _) (fun _ _ _ => no_live),
    _, _, rfl, RV.of_slr h1 (fun _ _ h => h.1) (fun _ => rfl) (by intro c u hu; simp [encHtlc] at hu; rcases hu with h | h | h | h | h | h | h <;> (subst h; rfl)) (Nat.le_refl _) (fun _ _ _ => no_live),
    _, _, rfl, RV.of_slr h2 (fun _ _ h => h.1) (fun _ => rfl) (by intro c u hu; simp [encCircle] at hu; rcases hu with h | h | h | h | h <;> (subst h; rfl)) (Nat.le_refl _) (fun _ _ _ => no_live), rfl⟩
theorem ledgerRV {l : Ledger} {w : World} {v : Value} (h : SlR 3 repLine w 0 w.heap.size v l.lines) :
    RV (fun _ => False) (fun _ => undef) (ofO []) w (.agg [int l.last, .p (.lst 143 3 (rowsOf encLine l.lines))]) (.agg #[.int .i64 l.last, v]) := by
  rw [RV]
  refine ⟨[.int .i64 l.last, v], rfl, ?_⟩
  simp only [RVL]
  exact ⟨_, _, rfl, RV.v_mk rfl, _, _, rfl, RV.of_slr h (fun _ _ h => h.1) (fun _ => rfl) (by intro c u hu; simp [encLine] at hu; rcases hu with h | h | h <;> (subst h; rfl)) (Nat.le_refl _) (fun _ _ _ => no_live), rfl⟩
theorem impl_Agrees_c (x : Book) (a0 : Option Addr) (c0 : Nat) (a1 : Option Addr) (c1 : Nat) (a2 : Option Addr) (c2 : Nat) (l : Ledger) (al : Option Addr) (cl : Nat) (w : World) (h0 : SlR 7 repChan w 0 w.heap.size (.slice a0 x.chans.length c0) x.chans) (h1 : SlR 7 repHtlc w 0 w.heap.size (.slice a1 x.htlcs.length c1) x.htlcs) (h2 : SlR 5 repCircle w 0 w.heap.size (.slice a2 x.circles.length c2) x.circles) (hl : SlR 3 repLine w 0 w.heap.size (.slice al l.lines.length cl) l.lines) (hn : x.chans.length ≤ 1048576) (hm : l.lines.length ≤ 1048576) :
    Calls Try.prog 28 #[.agg #[.int .i64 x.tick, .int .i64 x.next, .int .i64 x.wallet, .slice a0 x.chans.length c0, .slice a1 x.htlcs.length c1, .slice a2 x.circles.length c2], .agg #[.int .i64 l.last, .slice al l.lines.length cl]] w fun e w' => e = .returned (.bool (agrees x l)) ∧ Grow w w' :=
  GC.calls (cs := [.agg #[.int .i64 x.tick, .int .i64 x.next, .int .i64 x.wallet, .slice a0 x.chans.length c0, .slice a1 x.htlcs.length c1, .slice a2 x.circles.length c2], .agg #[.int .i64 l.last, .slice al l.lines.length cl]]) rfl (agrees_e x l (BookWf.of h0 h1 h2 hn) (by omega)) (by
    simp only [RVL]
    exact ⟨_, _, rfl, bookRV h0 h1 h2, _, _, rfl, ledgerRV hl, rfl⟩)
theorem spec_Agrees_c (x : Book) (a0 : Option Addr) (c0 : Nat) (a1 : Option Addr) (c1 : Nat) (a2 : Option Addr) (c2 : Nat) (l : Ledger) (al : Option Addr) (cl : Nat) (w : World) (h0 : SlR 7 repChan w 0 w.heap.size (.slice a0 x.chans.length c0) x.chans) (h1 : SlR 7 repHtlc w 0 w.heap.size (.slice a1 x.htlcs.length c1) x.htlcs) (h2 : SlR 5 repCircle w 0 w.heap.size (.slice a2 x.circles.length c2) x.circles) (hl : SlR 3 repLine w 0 w.heap.size (.slice al l.lines.length cl) l.lines) (hn : x.chans.length ≤ 1048576) (hm : l.lines.length ≤ 1048576) :
    Calls Try.prog 25 #[.agg #[.int .i64 x.tick, .int .i64 x.next, .int .i64 x.wallet, .slice a0 x.chans.length c0, .slice a1 x.htlcs.length c1, .slice a2 x.circles.length c2], .agg #[.int .i64 l.last, .slice al l.lines.length cl]] w fun e w' => e = .returned (.bool (agrees x l)) ∧ Grow w w' :=
  GC.calls (cs := [.agg #[.int .i64 x.tick, .int .i64 x.next, .int .i64 x.wallet, .slice a0 x.chans.length c0, .slice a1 x.htlcs.length c1, .slice a2 x.circles.length c2], .agg #[.int .i64 l.last, .slice al l.lines.length cl]]) rfl (sagrees_e x l (BookWf.of h0 h1 h2 hn) (by omega)) (by
    simp only [RVL]
    exact ⟨_, _, rfl, bookRV h0 h1 h2, _, _, rfl, ledgerRV hl, rfl⟩)
end Go.Proofs.Ytbjnbhlpibadnaa
