/- Texts of the proof of FnExactMoves, joined: Book9, Box, Pick, Mk, Prices, Rule1, Div1, Shelf, Div2, Price1, Flow1, HInt, Flow2, Ap, Arc0, Ring0, Push0. -/
import Derived.Test.YtbjnbhlpibadnaaJExactMoves1
import Derived.Deep.RegionHeld3
import Derived.Lib.RabinKarpLaws
import Derived.Shelf.Small.Bits
import Derived.Shelf.Strconv.Itoa0
import Derived.Shelf.Bits.Mul64
import Derived.Test.YtbjnbhlpibadnaaProg
/- BookOk of the reference. -/
namespace Go.Proofs.Ytbjnbhlpibadnaa
open Go.RowKit
set_option linter.unusedSimpArgs false
set_option linter.unusedVariables false

theorem wrapI {n : Int} (h1 : -9223372036854775808 ≤ n) (h2 : n ≤ 9223372036854775807) : IntKind.i64.wrap n = n := by
  simp [IntKind.wrap, IntKind.bits, IntKind.signed]
  omega

set_option maxHeartbeats 8000000 in
set_option maxRecDepth 100000 in
theorem spec_BookOk_c (x : Book) (a0 : Option Addr) (c0 : Nat) (a1 : Option Addr) (c1 : Nat) (a2 : Option Addr) (c2 : Nat) (w : World) (h0 : SlR 7 repChan w 0 w.heap.size (.slice a0 x.chans.length c0) x.chans) (h1 : SlR 7 repHtlc w 0 w.heap.size (.slice a1 x.htlcs.length c1) x.htlcs) (h2 : SlR 5 repCircle w 0 w.heap.size (.slice a2 x.circles.length c2) x.circles) (hn : x.chans.length ≤ 1048576) :
    Calls Try.prog 60 #[.agg #[.int .i64 x.tick, .int .i64 x.next, .int .i64 x.wallet, .slice a0 x.chans.length c0, .slice a1 x.htlcs.length c1, .slice a2 x.circles.length c2]] w fun e w' => e = .returned (.bool (bookOk x)) ∧ Grow w w' := by
  have hg0 : Grow w (w.alloc (.cells #[.int .i64 x.tick, .int .i64 x.next, .int .i64 x.wallet, .slice a0 x.chans.length c0, .slice a1 x.htlcs.length c1, .slice a2 x.circles.length c2] 58)) := (Grow.refl _).alloc _ _
  have hb : BookAt (w.alloc (.cells #[.int .i64 x.tick, .int .i64 x.next, .int .i64 x.wallet, .slice a0 x.chans.length c0, .slice a1 x.htlcs.length c1, .slice a2 x.circles.length c2] 58)) w.heap.size x a0 c0 a1 c1 a2 c2 := BookAt.new x a0 c0 a1 c1 a2 c2 w
  have HB := Lib.hid hb; have HG0 := Lib.hid hg0
  clear hb hg0
  have H0 := Lib.hid h0; have H1 := Lib.hid h1; have H2 := Lib.hid h2
  clear h0 h1 h2
  have HP : Hid (bookOk x = (amtOk x.tick && amtOk x.wallet && inB x.next 1 1125899906842624 && decide (x.chans.length ≤ 20) && partsOk x && chansOk x)) := rfl
  have HPN : Hid (¬ (x.htlcs.length ≤ 60 ∧ x.circles.length ≤ 20) → partsOk x = false) := fun h => by
    have t : (decide (x.htlcs.length ≤ 60) && decide (x.circles.length ≤ 20)) = false := by
      rw [← Bool.decide_and]; exact decide_eq_false h
    unfold partsOk; rw [t]; simp
  by_cases m1 : amtOk x.tick = true
  rotate_left
  · have HR : Hid (bookOk x = false) := by
      show _ = _
      rw [HP.out]
      simp [m1]
    have m1 : amtOk x.tick = false := by simpa using m1
    go_enter Try.func60, Try.ntmps60
    go_wp2_with (first
      | (go_at_call 95; refine (spec_AmtOk_c _ _).mono ?_; rintro e w' ⟨rfl, rfl⟩))
    all_goals first
      | (go_ret
         exact ⟨by rw [HR.out]; rfl, HG0.out.trans HGP.out⟩)
      | (go_ret
         exact ⟨by rw [HR.out]; rfl, HG0.out⟩)
  by_cases m2 : amtOk x.wallet = true
  rotate_left
  · have HR : Hid (bookOk x = false) := by
      show _ = _
      rw [HP.out]
      simp [m2]
    have m2 : amtOk x.wallet = false := by simpa using m2
    go_enter Try.func60, Try.ntmps60
    go_wp2_with (first
      | (go_at_call 95; refine (spec_AmtOk_c _ _).mono ?_; rintro e w' ⟨rfl, rfl⟩))
    all_goals first
      | (go_ret
         exact ⟨by rw [HR.out]; rfl, HG0.out.trans HGP.out⟩)
      | (go_ret
         exact ⟨by rw [HR.out]; rfl, HG0.out⟩)
  by_cases c3 : 1 ≤ x.next
  rotate_left
  · have HR : Hid (bookOk x = false) := by
      show _ = _
      rw [HP.out]
      have : inB x.next 1 1125899906842624 = false := inB_false.2 (by omega)
      simp [this]
    have qc3 : decide (x.next < 1) = true := by simp; omega
    go_enter Try.func60, Try.ntmps60
    go_wp2_with (first
      | (go_at_call 95; refine (spec_AmtOk_c _ _).mono ?_; rintro e w' ⟨rfl, rfl⟩))
    all_goals first
      | (go_ret
         exact ⟨by rw [HR.out]; rfl, HG0.out.trans HGP.out⟩)
      | (go_ret
         exact ⟨by rw [HR.out]; rfl, HG0.out⟩)
  have qc3 : decide (x.next < 1) = false := by simp; omega
  by_cases c3b : x.next ≤ 1125899906842624
  rotate_left
  · have HR : Hid (bookOk x = false) := by
      show _ = _
      rw [HP.out]
      have : inB x.next 1 1125899906842624 = false := inB_false.2 (by omega)
      simp [this]
    have qc3b : decide (1125899906842624 < x.next) = true := by simp; omega
    go_enter Try.func60, Try.ntmps60
    go_wp2_with (first
      | (go_at_call 95; refine (spec_AmtOk_c _ _).mono ?_; rintro e w' ⟨rfl, rfl⟩))
    all_goals first
      | (go_ret
         exact ⟨by rw [HR.out]; rfl, HG0.out.trans HGP.out⟩)
      | (go_ret
         exact ⟨by rw [HR.out]; rfl, HG0.out⟩)
  have qc3b : decide (1125899906842624 < x.next) = false := by simp; omega
  by_cases c4 : x.chans.length ≤ 20
  rotate_left
  · have HR : Hid (bookOk x = false) := by
      show _ = _
      rw [HP.out]
      simp [c4]
    have qc4 : decide ((20 : Int) < (x.chans.length : Int)) = true := by simp; omega
    go_enter Try.func60, Try.ntmps60
    go_wp2_with (first
      | (go_at_call 95; refine (spec_AmtOk_c _ _).mono ?_; rintro e w' ⟨rfl, rfl⟩))
    all_goals first
      | (go_ret
         exact ⟨by rw [HR.out]; rfl, HG0.out.trans HGP.out⟩)
      | (go_ret
         exact ⟨by rw [HR.out]; rfl, HG0.out⟩)
  have qc4 : decide ((20 : Int) < (x.chans.length : Int)) = false := by simp; omega
  by_cases CNH : x.htlcs.length ≤ 60
  rotate_left
  · have HR : Hid (bookOk x = false) := by
      show _ = _
      rw [HP.out]
      simp [HPN.out (by omega)]
    have qCNH : decide ((60 : Int) < (x.htlcs.length : Int)) = true := by simp; omega
    go_enter Try.func60, Try.ntmps60
    go_wp2_with (first
      | (go_at_call 95; refine (spec_AmtOk_c _ _).mono ?_; rintro e w' ⟨rfl, rfl⟩))
    all_goals first
      | (go_ret
         exact ⟨by rw [HR.out]; rfl, HG0.out.trans HGP.out⟩)
      | (go_ret
         exact ⟨by rw [HR.out]; rfl, HG0.out⟩)
  have qCNH : decide ((60 : Int) < (x.htlcs.length : Int)) = false := by simp; omega
  by_cases CNC : x.circles.length ≤ 20
  rotate_left
  · have HR : Hid (bookOk x = false) := by
      show _ = _
      rw [HP.out]
      simp [HPN.out (by omega)]
    have qCNC : decide ((20 : Int) < (x.circles.length : Int)) = true := by simp; omega
    go_enter Try.func60, Try.ntmps60
    go_wp2_with (first
      | (go_at_call 95; refine (spec_AmtOk_c _ _).mono ?_; rintro e w' ⟨rfl, rfl⟩))
    all_goals first
      | (go_ret
         exact ⟨by rw [HR.out]; rfl, HG0.out.trans HGP.out⟩)
      | (go_ret
         exact ⟨by rw [HR.out]; rfl, HG0.out⟩)
  have qCNC : decide ((20 : Int) < (x.circles.length : Int)) = false := by simp; omega
  by_cases c5 : partsOk x = true
  rotate_left
  · have HR : Hid (bookOk x = false) := by
      show _ = _
      rw [HP.out]
      simp [c5]
    have c5 : partsOk x = false := by simpa using c5
    go_enter Try.func60, Try.ntmps60
    go_wp2_with (first
      | (go_at_call 95; refine (spec_AmtOk_c _ _).mono ?_; rintro e w' ⟨rfl, rfl⟩)
      | (go_at_call 96; refine (spec_Under_c x _ _ _ _ _ _ _ (H0.out.grow' repChan_stable HG0.out.below) (H1.out.grow' repHtlc_stable HG0.out.below) (H2.out.grow' repCircle_stable HG0.out.below) hn CNH CNC).mono ?_; rintro e wp ⟨rfl, gp⟩
         have HGP := Lib.hid gp; have bp := HB.out.grow gp; have HBP := Lib.hid bp; obtain ⟨kp0, kp1, kp2, kp3, kp4, kp5⟩ := bp; clear gp))
    all_goals first
      | (go_ret
         exact ⟨by rw [HR.out]; rfl, HG0.out.trans HGP.out⟩)
      | (go_ret
         exact ⟨by rw [HR.out]; rfl, HG0.out⟩)
  have c3c : inB x.next 1 1125899906842624 = true := inB_true.2 ⟨c3, c3b⟩
  have SM := Lib.hid (Small.of_parts c5)
  have HHEAD : Hid (bookOk x = chansOk x) := by
    show _ = _
    rw [HP.out]; simp [m1, m2, c3c, c4, c5]
  go_enter Try.func60, Try.ntmps60
  go_wp2_with (first
    | (go_at_call 95; refine (spec_AmtOk_c _ _).mono ?_; rintro e w' ⟨rfl, rfl⟩)
    | (go_at_call 96; refine (spec_Under_c x _ _ _ _ _ _ _ (H0.out.grow' repChan_stable HG0.out.below) (H1.out.grow' repHtlc_stable HG0.out.below) (H2.out.grow' repCircle_stable HG0.out.below) hn CNH CNC).mono ?_; rintro e wp ⟨rfl, gp⟩
       have HGP := Lib.hid gp; have bp := HB.out.grow gp; have HBP := Lib.hid bp; obtain ⟨kp0, kp1, kp2, kp3, kp4, kp5⟩ := bp; clear gp))
  clear kp0 kp1 kp2 kp3 kp4 kp5
  go_loopg [51] x.chans.length (fun g i wr => ∃ k : Nat, k + g = x.chans.length ∧ i = .int .i64 k ∧ (∀ j, j < k → chanAtOk x j = true) ∧ Grow wp wr)
  case atStart => exact ⟨0, by simp, rfl, fun j h => absurd h (by omega), Grow.refl _⟩
  case round =>
    obtain ⟨k, hk, rfl, hall, hg⟩ := hrel
    have HALL := Lib.hid hall; clear hall
    have hgw := (HG0.out.trans HGP.out).trans hg
    by_cases hlt : k < x.chans.length
    · have HEL := Lib.hid (H0.out.elems k hlt)
      obtain ⟨b, off, ha, hb1, hb2, hel⟩ := HEL.out
      obtain ⟨e0, e1, e2, e3, e4, e5, e6, _⟩ := Chan.atCell (hel.same repChan_stable (hgw.same (Nat.le_refl _)) hb1 hb2) k hlt
      subst ha
      have hgs := hg.size
      have HG := Lib.hid hg; have HGW := Lib.hid hgw; have HK := Lib.hid hk
      clear hg hgw hk hel
      have HCA : Hid (chanAtOk x k = (chanOk1 x.chans[k] && ascAt x.chans k && chanSum x x.chans[k])) := by
        show _ = _
        unfold chanAtOk; rw [List.getElem?_eq_getElem hlt]
      have HPREV : Hid (∀ j (h : j < x.chans.length), k = j + 1 → ascAt x.chans k = decide (x.chans[j].id < x.chans[k].id) ∧ wp.heap.size ≤ wr.heap.size) := fun j h he => by
        subst he
        refine ⟨?_, hgs⟩
        unfold ascAt
        simp [List.getElem?_eq_getElem h, List.getElem?_eq_getElem hlt]
      generalize x.chans[k] = e at *
      go_wp2_with fail
      obtain ⟨V, hV⟩ : ∃ V, V = wr.alloc (.cells #[.int .i64 e.id, .int .i64 e.size, .int .i64 e.loc, .int .i64 e.remote, .int .i64 e.base, .int .i64 e.ppm, .int .i64 e.score] 107) := ⟨_, rfl⟩
      have gV : Grow wr V := by rw [hV]; exact (Grow.refl _).alloc _ _
      have v0 : V.cell? ⟨wr.heap.size, 0, none⟩ = some (.int .i64 e.id) := by rw [hV]; exact cell_new 0 rfl
      have v1 : V.cell? ⟨wr.heap.size, 1, none⟩ = some (.int .i64 e.size) := by rw [hV]; exact cell_new 1 rfl
      have v2 : V.cell? ⟨wr.heap.size, 2, none⟩ = some (.int .i64 e.loc) := by rw [hV]; exact cell_new 2 rfl
      have v3 : V.cell? ⟨wr.heap.size, 3, none⟩ = some (.int .i64 e.remote) := by rw [hV]; exact cell_new 3 rfl
      have v4 : V.cell? ⟨wr.heap.size, 4, none⟩ = some (.int .i64 e.base) := by rw [hV]; exact cell_new 4 rfl
      have v5 : V.cell? ⟨wr.heap.size, 5, none⟩ = some (.int .i64 e.ppm) := by rw [hV]; exact cell_new 5 rfl
      have v6 : V.cell? ⟨wr.heap.size, 6, none⟩ = some (.int .i64 e.score) := by rw [hV]; exact cell_new 6 rfl
      obtain ⟨k0, k1, k2, k3, k4, k5⟩ := HB.out.grow ((HGP.out.trans HG.out).trans gV)
      rw [← hV]
      clear hV e0 e1 e2 e3 e4 e5 e6
      have HGV := Lib.hid gV; clear gV
      have HNO : Hid (chanAtOk x k = false → chansOk x = false) := fun h => chansOk_no hlt h
      rcases k with _ | j
      · have HCA : Hid (chanAtOk x 0 = (chanOk1 e && true && chanSum x e)) := HCA
        by_cases t1 : 1 ≤ e.id
        rotate_left
        · have qt1 : decide (e.id < 1) = true := by simp; omega
          have HR : Hid (bookOk x = false) := by
            show _ = _
            rw [HHEAD.out]; exact HNO.out (by rw [HCA.out]; have : chOk e.id = false := inB_false.2 (by omega); simp [chanOk1, this])
          go_quiet (first
            | (go_at_call 95; exact Calls.quiet_of_same (spec_AmtOk_q _ _))
            | (go_at_call 97; exact Calls.quiet_of_same (spec_scOk_q _ _)))
          go_wp2_with fail
          go_ret
          exact ⟨by rw [HR.out]; rfl, HGW.out.trans (HGV.out.drewN _)⟩
        have qt1 : decide (e.id < 1) = false := by simp; omega
        by_cases t1b : e.id ≤ 99
        rotate_left
        · have qt1b : decide (99 < e.id) = true := by simp; omega
          have HR : Hid (bookOk x = false) := by
            show _ = _
            rw [HHEAD.out]; exact HNO.out (by rw [HCA.out]; have : chOk e.id = false := inB_false.2 (by omega); simp [chanOk1, this])
          go_quiet (first
            | (go_at_call 95; exact Calls.quiet_of_same (spec_AmtOk_q _ _))
            | (go_at_call 97; exact Calls.quiet_of_same (spec_scOk_q _ _)))
          go_wp2_with fail
          go_ret
          exact ⟨by rw [HR.out]; rfl, HGW.out.trans (HGV.out.drewN _)⟩
        have qt1b : decide (99 < e.id) = false := by simp; omega
        by_cases t3 : amtOk e.loc = true
        rotate_left
        · have t3 : amtOk e.loc = false := by simpa using t3
          have HR : Hid (bookOk x = false) := by
            show _ = _
            rw [HHEAD.out]; exact HNO.out (by rw [HCA.out]; simp [chanOk1, t3])
          go_quiet (first
            | (go_at_call 95; exact Calls.quiet_of_same (spec_AmtOk_q _ _))
            | (go_at_call 97; exact Calls.quiet_of_same (spec_scOk_q _ _)))
          go_wp2_with fail
          go_ret
          exact ⟨by rw [HR.out]; rfl, HGW.out.trans (HGV.out.drewN _)⟩
        by_cases t4 : amtOk e.remote = true
        rotate_left
        · have t4 : amtOk e.remote = false := by simpa using t4
          have HR : Hid (bookOk x = false) := by
            show _ = _
            rw [HHEAD.out]; exact HNO.out (by rw [HCA.out]; simp [chanOk1, t4])
          go_quiet (first
            | (go_at_call 95; exact Calls.quiet_of_same (spec_AmtOk_q _ _))
            | (go_at_call 97; exact Calls.quiet_of_same (spec_scOk_q _ _)))
          go_wp2_with fail
          go_ret
          exact ⟨by rw [HR.out]; rfl, HGW.out.trans (HGV.out.drewN _)⟩
        by_cases t5 : amtOk e.base = true
        rotate_left
        · have t5 : amtOk e.base = false := by simpa using t5
          have HR : Hid (bookOk x = false) := by
            show _ = _
            rw [HHEAD.out]; exact HNO.out (by rw [HCA.out]; simp [chanOk1, t5])
          go_quiet (first
            | (go_at_call 95; exact Calls.quiet_of_same (spec_AmtOk_q _ _))
            | (go_at_call 97; exact Calls.quiet_of_same (spec_scOk_q _ _)))
          go_wp2_with fail
          go_ret
          exact ⟨by rw [HR.out]; rfl, HGW.out.trans (HGV.out.drewN _)⟩
        by_cases t6 : 0 ≤ e.ppm
        rotate_left
        · have qt6 : decide (e.ppm < 0) = true := by simp; omega
          have HR : Hid (bookOk x = false) := by
            show _ = _
            rw [HHEAD.out]; exact HNO.out (by rw [HCA.out]; have : inB e.ppm 0 1000000 = false := inB_false.2 (by omega); simp [chanOk1, this])
          go_quiet (first
            | (go_at_call 95; exact Calls.quiet_of_same (spec_AmtOk_q _ _))
            | (go_at_call 97; exact Calls.quiet_of_same (spec_scOk_q _ _)))
          go_wp2_with fail
          go_ret
          exact ⟨by rw [HR.out]; rfl, HGW.out.trans (HGV.out.drewN _)⟩
        have qt6 : decide (e.ppm < 0) = false := by simp; omega
        by_cases t6b : e.ppm ≤ 1000000
        rotate_left
        · have qt6b : decide (1000000 < e.ppm) = true := by simp; omega
          have HR : Hid (bookOk x = false) := by
            show _ = _
            rw [HHEAD.out]; exact HNO.out (by rw [HCA.out]; have : inB e.ppm 0 1000000 = false := inB_false.2 (by omega); simp [chanOk1, this])
          go_quiet (first
            | (go_at_call 95; exact Calls.quiet_of_same (spec_AmtOk_q _ _))
            | (go_at_call 97; exact Calls.quiet_of_same (spec_scOk_q _ _)))
          go_wp2_with fail
          go_ret
          exact ⟨by rw [HR.out]; rfl, HGW.out.trans (HGV.out.drewN _)⟩
        have qt6b : decide (1000000 < e.ppm) = false := by simp; omega
        by_cases t7 : scOk e.score = true
        rotate_left
        · have t7 : scOk e.score = false := by simpa using t7
          have HR : Hid (bookOk x = false) := by
            show _ = _
            rw [HHEAD.out]; exact HNO.out (by rw [HCA.out]; simp [chanOk1, t7])
          go_quiet (first
            | (go_at_call 95; exact Calls.quiet_of_same (spec_AmtOk_q _ _))
            | (go_at_call 97; exact Calls.quiet_of_same (spec_scOk_q _ _)))
          go_wp2_with fail
          go_ret
          exact ⟨by rw [HR.out]; rfl, HGW.out.trans (HGV.out.drewN _)⟩
        have t1c : chOk e.id = true := inB_true.2 ⟨t1, t1b⟩
        have t6c : inB e.ppm 0 1000000 = true := inB_true.2 ⟨t6, t6b⟩
        go_quiet (first
          | (go_at_call 95; exact Calls.quiet_of_same (spec_AmtOk_q _ _))
          | (go_at_call 97; exact Calls.quiet_of_same (spec_scOk_q _ _)))
        go_wp2_with fail
        obtain ⟨U, hU⟩ : ∃ U, U = V.drewN nq := ⟨_, rfl⟩
        have gU : Grow V U := by rw [hU]; exact (Grow.refl _).drewN _
        rw [← hU]
        clear hU
        have y0 : U.cell? ⟨wr.heap.size, 0, none⟩ = some (.int .i64 e.id) := cellGrow gU v0
        have y1 : U.cell? ⟨wr.heap.size, 1, none⟩ = some (.int .i64 e.size) := cellGrow gU v1
        have y2 : U.cell? ⟨wr.heap.size, 2, none⟩ = some (.int .i64 e.loc) := cellGrow gU v2
        have y3 : U.cell? ⟨wr.heap.size, 3, none⟩ = some (.int .i64 e.remote) := cellGrow gU v3
        clear v0 v1 v2 v3 v4 v5 v6 k0 k1 k2 k3 k4 k5
        have HGU := Lib.hid ((HGW.out.trans HGV.out).trans gU)
        have HGU' := Lib.hid ((HG.out.trans HGV.out).trans gU)
        clear gU
        have bU := HB.out.grow (HGP.out.trans HGU'.out)
        obtain ⟨k0, k1, k2, k3, k4, k5⟩ := bU
        by_cases t8 : amtOk e.size = true
        rotate_left
        · have t8 : amtOk e.size = false := by simpa using t8
          have HR : Hid (bookOk x = false) := by
            show _ = _
            rw [HHEAD.out]; exact HNO.out (by rw [HCA.out]; simp [chanOk1, t8])
          go_quiet (first
            | (go_at_call 95; exact Calls.quiet_of_same (spec_AmtOk_q _ _)))
          go_wp2_with fail
          go_ret
          exact ⟨by rw [HR.out]; rfl, HGU.out.drewN _⟩
        have HCS : Hid (chanSum x e = (e.size == e.loc + e.remote + outOf x e.id + intoOf x e.id)) := rfl
        have b3 := amtOk_true.1 t3
        have b4 := amtOk_true.1 t4
        obtain ⟨o1, o2, o3, o4⟩ := sums_le SM.out e.id

        go_region_held3 (fun W => W.cell? ⟨wr.heap.size, 0, none⟩ = some (.int .i64 e.id) ∧ W.cell? ⟨wr.heap.size, 1, none⟩ = some (.int .i64 e.size) ∧ W.cell? ⟨wr.heap.size, 2, none⟩ = some (.int .i64 e.loc) ∧ W.cell? ⟨wr.heap.size, 3, none⟩ = some (.int .i64 e.remote) ∧ W.cell? ⟨w.heap.size, 0, none⟩ = some (.int .i64 x.tick) ∧ W.cell? ⟨w.heap.size, 1, none⟩ = some (.int .i64 x.next) ∧ W.cell? ⟨w.heap.size, 2, none⟩ = some (.int .i64 x.wallet) ∧ W.cell? ⟨w.heap.size, 3, none⟩ = some (.slice (some ⟨b, off, none⟩) x.chans.length c0) ∧ W.cell? ⟨w.heap.size, 4, none⟩ = some (.slice a1 x.htlcs.length c1) ∧ W.cell? ⟨w.heap.size, 5, none⟩ = some (.slice a2 x.circles.length c2))
          (first
            | exact ⟨y0, y1, y2, y3, k0, k1, k2, k3, k4, k5⟩
            | exact ⟨cellGrow g1 y0, cellGrow g1 y1, cellGrow g1 y2, cellGrow g1 y3, cellGrow g1 k0, cellGrow g1 k1, cellGrow g1 k2, cellGrow g1 k3, cellGrow g1 k4, cellGrow g1 k5⟩
            | exact ⟨cellGrow g2 (cellGrow g1 y0), cellGrow g2 (cellGrow g1 y1), cellGrow g2 (cellGrow g1 y2), cellGrow g2 (cellGrow g1 y3), cellGrow g2 (cellGrow g1 k0), cellGrow g2 (cellGrow g1 k1), cellGrow g2 (cellGrow g1 k2), cellGrow g2 (cellGrow g1 k3), cellGrow g2 (cellGrow g1 k4), cellGrow g2 (cellGrow g1 k5)⟩)
          (first
            | (go_at_call 95; refine (spec_AmtOk_c _ _).mono ?_; rintro e w' ⟨rfl, rfl⟩)
            | (go_at_call 64; refine (spec_Out_c x _ _ _ _ _ _ e.id _ ((H1.out.grow' repHtlc_stable HGU.out.below).grow' repHtlc_stable (Grow.below (by repeat (first | exact Grow.refl _ | (refine Grow.alloc ?_ _ _) | (refine Grow.drew ?_) | (refine Grow.trans ?_ (by assumption)))))) ((H2.out.grow' repCircle_stable HGU.out.below).grow' repCircle_stable (Grow.below (by repeat (first | exact Grow.refl _ | (refine Grow.alloc ?_ _ _) | (refine Grow.drew ?_) | (refine Grow.trans ?_ (by assumption)))))) SM.out).mono ?_; rintro e w1 ⟨rfl, g1⟩)
            | (go_at_call 98; refine (spec_In_c x _ _ _ _ _ _ e.id _ ((H1.out.grow' repHtlc_stable HGU.out.below).grow' repHtlc_stable (Grow.below (by repeat (first | exact Grow.refl _ | (refine Grow.alloc ?_ _ _) | (refine Grow.drew ?_) | (refine Grow.trans ?_ (by assumption)))))) ((H2.out.grow' repCircle_stable HGU.out.below).grow' repCircle_stable (Grow.below (by repeat (first | exact Grow.refl _ | (refine Grow.alloc ?_ _ _) | (refine Grow.drew ?_) | (refine Grow.trans ?_ (by assumption)))))) SM.out).mono ?_; rintro e w2 ⟨rfl, g2⟩))
        have HGZ := Lib.hid (HGU.out.trans (show Grow U w2 from (((Grow.refl U).drew).trans g1).trans g2))
        have HGZ' := Lib.hid (HGU'.out.trans (show Grow U w2 from (((Grow.refl U).drew).trans g1).trans g2))
        clear g1 g2 y0 y1 y2 y3 k0 k1 k2 k3 k4 k5
        generalize outOf x e.id = po at *
        generalize intoOf x e.id = pi at *
        have hwr : IntKind.i64.wrap (IntKind.i64.wrap (IntKind.i64.wrap (e.loc + e.remote) + po) + pi) = e.loc + e.remote + po + pi := by
          rw [wrapI (n := e.loc + e.remote) (by omega) (by omega), wrapI (n := e.loc + e.remote + po) (by omega) (by omega), wrapI (by omega) (by omega)]
        by_cases ts : e.loc + e.remote + po + pi = e.size
        · have TS := Lib.hid ts.symm
          go_wp2
          go_roundg (x.chans.length - (0 + 1))
          case measure => have := HK.out; omega
          case rel => exact ⟨0 + 1, by have := HK.out; omega, by go_num, fun i hi => by
            by_cases he : i = 0
            · rw [he, HCA.out, HCS.out]; have h8 := t8; rw [TS.out] at h8; simp [chanOk1, TS.out, t1c, t3, t4, t5, t6c, t7, h8]
            · exact HALL.out i (by omega), HGZ'.out⟩
        · have TS := Lib.hid (fun h => ts (Eq.symm h))
          go_wp2
          go_ret
          exact ⟨by rw [HHEAD.out, HNO.out (by rw [HCA.out, HCS.out, beq_eq_false_iff_ne.2 TS.out]; simp)]; rfl, HGZ.out⟩
      · have hj : j < x.chans.length := by omega
        obtain ⟨b_, off_, ha_, _, _, hel⟩ := HEL.out
        injection ha_ with ha_
        injection ha_ with qb qo
        subst qb qo
        have HASC := Lib.hid (HPREV.out j hj rfl).1
        obtain ⟨f0, _⟩ := Chan.atCell (hel.same repChan_stable ((HGW.out.trans HGV.out).same (Nat.le_refl _)) hb1 hb2) j hj
        clear hel
        generalize x.chans[j].id = p at *
        have ej : ((j + 1 : Nat) : Int) - 1 = (j : Int) := by omega
        by_cases t1 : 1 ≤ e.id
        rotate_left
        · have qt1 : decide (e.id < 1) = true := by simp; omega
          have HR : Hid (bookOk x = false) := by
            show _ = _
            rw [HHEAD.out]; exact HNO.out (by rw [HCA.out]; have : chOk e.id = false := inB_false.2 (by omega); simp [chanOk1, this])
          go_quiet (first
            | (go_at_call 95; exact Calls.quiet_of_same (spec_AmtOk_q _ _))
            | (go_at_call 97; exact Calls.quiet_of_same (spec_scOk_q _ _)))
          go_wp2_with fail
          go_ret
          exact ⟨by rw [HR.out]; rfl, HGW.out.trans (HGV.out.drewN _)⟩
        have qt1 : decide (e.id < 1) = false := by simp; omega
        by_cases t1b : e.id ≤ 99
        rotate_left
        · have qt1b : decide (99 < e.id) = true := by simp; omega
          have HR : Hid (bookOk x = false) := by
            show _ = _
            rw [HHEAD.out]; exact HNO.out (by rw [HCA.out]; have : chOk e.id = false := inB_false.2 (by omega); simp [chanOk1, this])
          go_quiet (first
            | (go_at_call 95; exact Calls.quiet_of_same (spec_AmtOk_q _ _))
            | (go_at_call 97; exact Calls.quiet_of_same (spec_scOk_q _ _)))
          go_wp2_with fail
          go_ret
          exact ⟨by rw [HR.out]; rfl, HGW.out.trans (HGV.out.drewN _)⟩
        have qt1b : decide (99 < e.id) = false := by simp; omega
        by_cases t2 : p < e.id
        rotate_left
        · have qt2 : decide (e.id ≤ p) = true := by simp; omega
          have HR : Hid (bookOk x = false) := by
            show _ = _
            rw [HHEAD.out]; exact HNO.out (by rw [HCA.out]; simp [HASC.out, t2])
          go_quiet (first
            | (go_at_call 95; exact Calls.quiet_of_same (spec_AmtOk_q _ _))
            | (go_at_call 97; exact Calls.quiet_of_same (spec_scOk_q _ _)))
          go_wp2_with fail
          go_ret
          exact ⟨by rw [HR.out]; rfl, HGW.out.trans (HGV.out.drewN _)⟩
        have qt2 : decide (e.id ≤ p) = false := by simp; omega
        by_cases t3 : amtOk e.loc = true
        rotate_left
        · have t3 : amtOk e.loc = false := by simpa using t3
          have HR : Hid (bookOk x = false) := by
            show _ = _
            rw [HHEAD.out]; exact HNO.out (by rw [HCA.out]; simp [chanOk1, t3])
          go_quiet (first
            | (go_at_call 95; exact Calls.quiet_of_same (spec_AmtOk_q _ _))
            | (go_at_call 97; exact Calls.quiet_of_same (spec_scOk_q _ _)))
          go_wp2_with fail
          go_ret
          exact ⟨by rw [HR.out]; rfl, HGW.out.trans (HGV.out.drewN _)⟩
        by_cases t4 : amtOk e.remote = true
        rotate_left
        · have t4 : amtOk e.remote = false := by simpa using t4
          have HR : Hid (bookOk x = false) := by
            show _ = _
            rw [HHEAD.out]; exact HNO.out (by rw [HCA.out]; simp [chanOk1, t4])
          go_quiet (first
            | (go_at_call 95; exact Calls.quiet_of_same (spec_AmtOk_q _ _))
            | (go_at_call 97; exact Calls.quiet_of_same (spec_scOk_q _ _)))
          go_wp2_with fail
          go_ret
          exact ⟨by rw [HR.out]; rfl, HGW.out.trans (HGV.out.drewN _)⟩
        by_cases t5 : amtOk e.base = true
        rotate_left
        · have t5 : amtOk e.base = false := by simpa using t5
          have HR : Hid (bookOk x = false) := by
            show _ = _
            rw [HHEAD.out]; exact HNO.out (by rw [HCA.out]; simp [chanOk1, t5])
          go_quiet (first
            | (go_at_call 95; exact Calls.quiet_of_same (spec_AmtOk_q _ _))
            | (go_at_call 97; exact Calls.quiet_of_same (spec_scOk_q _ _)))
          go_wp2_with fail
          go_ret
          exact ⟨by rw [HR.out]; rfl, HGW.out.trans (HGV.out.drewN _)⟩
        by_cases t6 : 0 ≤ e.ppm
        rotate_left
        · have qt6 : decide (e.ppm < 0) = true := by simp; omega
          have HR : Hid (bookOk x = false) := by
            show _ = _
            rw [HHEAD.out]; exact HNO.out (by rw [HCA.out]; have : inB e.ppm 0 1000000 = false := inB_false.2 (by omega); simp [chanOk1, this])
          go_quiet (first
            | (go_at_call 95; exact Calls.quiet_of_same (spec_AmtOk_q _ _))
            | (go_at_call 97; exact Calls.quiet_of_same (spec_scOk_q _ _)))
          go_wp2_with fail
          go_ret
          exact ⟨by rw [HR.out]; rfl, HGW.out.trans (HGV.out.drewN _)⟩
        have qt6 : decide (e.ppm < 0) = false := by simp; omega
        by_cases t6b : e.ppm ≤ 1000000
        rotate_left
        · have qt6b : decide (1000000 < e.ppm) = true := by simp; omega
          have HR : Hid (bookOk x = false) := by
            show _ = _
            rw [HHEAD.out]; exact HNO.out (by rw [HCA.out]; have : inB e.ppm 0 1000000 = false := inB_false.2 (by omega); simp [chanOk1, this])
          go_quiet (first
            | (go_at_call 95; exact Calls.quiet_of_same (spec_AmtOk_q _ _))
            | (go_at_call 97; exact Calls.quiet_of_same (spec_scOk_q _ _)))
          go_wp2_with fail
          go_ret
          exact ⟨by rw [HR.out]; rfl, HGW.out.trans (HGV.out.drewN _)⟩
        have qt6b : decide (1000000 < e.ppm) = false := by simp; omega
        by_cases t7 : scOk e.score = true
        rotate_left
        · have t7 : scOk e.score = false := by simpa using t7
          have HR : Hid (bookOk x = false) := by
            show _ = _
            rw [HHEAD.out]; exact HNO.out (by rw [HCA.out]; simp [chanOk1, t7])
          go_quiet (first
            | (go_at_call 95; exact Calls.quiet_of_same (spec_AmtOk_q _ _))
            | (go_at_call 97; exact Calls.quiet_of_same (spec_scOk_q _ _)))
          go_wp2_with fail
          go_ret
          exact ⟨by rw [HR.out]; rfl, HGW.out.trans (HGV.out.drewN _)⟩
        have t1c : chOk e.id = true := inB_true.2 ⟨t1, t1b⟩
        have t6c : inB e.ppm 0 1000000 = true := inB_true.2 ⟨t6, t6b⟩
        go_quiet (first
          | (go_at_call 95; exact Calls.quiet_of_same (spec_AmtOk_q _ _))
          | (go_at_call 97; exact Calls.quiet_of_same (spec_scOk_q _ _)))
        go_wp2_with fail
        obtain ⟨U, hU⟩ : ∃ U, U = V.drewN nq := ⟨_, rfl⟩
        have gU : Grow V U := by rw [hU]; exact (Grow.refl _).drewN _
        rw [← hU]
        clear hU
        have y0 : U.cell? ⟨wr.heap.size, 0, none⟩ = some (.int .i64 e.id) := cellGrow gU v0
        have y1 : U.cell? ⟨wr.heap.size, 1, none⟩ = some (.int .i64 e.size) := cellGrow gU v1
        have y2 : U.cell? ⟨wr.heap.size, 2, none⟩ = some (.int .i64 e.loc) := cellGrow gU v2
        have y3 : U.cell? ⟨wr.heap.size, 3, none⟩ = some (.int .i64 e.remote) := cellGrow gU v3
        clear v0 v1 v2 v3 v4 v5 v6 k0 k1 k2 k3 k4 k5
        have HGU := Lib.hid ((HGW.out.trans HGV.out).trans gU)
        have HGU' := Lib.hid ((HG.out.trans HGV.out).trans gU)
        clear gU
        have bU := HB.out.grow (HGP.out.trans HGU'.out)
        obtain ⟨k0, k1, k2, k3, k4, k5⟩ := bU
        by_cases t8 : amtOk e.size = true
        rotate_left
        · have t8 : amtOk e.size = false := by simpa using t8
          have HR : Hid (bookOk x = false) := by
            show _ = _
            rw [HHEAD.out]; exact HNO.out (by rw [HCA.out]; simp [chanOk1, t8])
          go_quiet (first
            | (go_at_call 95; exact Calls.quiet_of_same (spec_AmtOk_q _ _)))
          go_wp2_with fail
          go_ret
          exact ⟨by rw [HR.out]; rfl, HGU.out.drewN _⟩
        have HCS : Hid (chanSum x e = (e.size == e.loc + e.remote + outOf x e.id + intoOf x e.id)) := rfl
        have b3 := amtOk_true.1 t3
        have b4 := amtOk_true.1 t4
        obtain ⟨o1, o2, o3, o4⟩ := sums_le SM.out e.id
        have TT2 := Lib.hid t2
        go_region_held3 (fun W => W.cell? ⟨wr.heap.size, 0, none⟩ = some (.int .i64 e.id) ∧ W.cell? ⟨wr.heap.size, 1, none⟩ = some (.int .i64 e.size) ∧ W.cell? ⟨wr.heap.size, 2, none⟩ = some (.int .i64 e.loc) ∧ W.cell? ⟨wr.heap.size, 3, none⟩ = some (.int .i64 e.remote) ∧ W.cell? ⟨w.heap.size, 0, none⟩ = some (.int .i64 x.tick) ∧ W.cell? ⟨w.heap.size, 1, none⟩ = some (.int .i64 x.next) ∧ W.cell? ⟨w.heap.size, 2, none⟩ = some (.int .i64 x.wallet) ∧ W.cell? ⟨w.heap.size, 3, none⟩ = some (.slice (some ⟨b, off, none⟩) x.chans.length c0) ∧ W.cell? ⟨w.heap.size, 4, none⟩ = some (.slice a1 x.htlcs.length c1) ∧ W.cell? ⟨w.heap.size, 5, none⟩ = some (.slice a2 x.circles.length c2))
          (first
            | exact ⟨y0, y1, y2, y3, k0, k1, k2, k3, k4, k5⟩
            | exact ⟨cellGrow g1 y0, cellGrow g1 y1, cellGrow g1 y2, cellGrow g1 y3, cellGrow g1 k0, cellGrow g1 k1, cellGrow g1 k2, cellGrow g1 k3, cellGrow g1 k4, cellGrow g1 k5⟩
            | exact ⟨cellGrow g2 (cellGrow g1 y0), cellGrow g2 (cellGrow g1 y1), cellGrow g2 (cellGrow g1 y2), cellGrow g2 (cellGrow g1 y3), cellGrow g2 (cellGrow g1 k0), cellGrow g2 (cellGrow g1 k1), cellGrow g2 (cellGrow g1 k2), cellGrow g2 (cellGrow g1 k3), cellGrow g2 (cellGrow g1 k4), cellGrow g2 (cellGrow g1 k5)⟩)
          (first
            | (go_at_call 95; refine (spec_AmtOk_c _ _).mono ?_; rintro e w' ⟨rfl, rfl⟩)
            | (go_at_call 64; refine (spec_Out_c x _ _ _ _ _ _ e.id _ ((H1.out.grow' repHtlc_stable HGU.out.below).grow' repHtlc_stable (Grow.below (by repeat (first | exact Grow.refl _ | (refine Grow.alloc ?_ _ _) | (refine Grow.drew ?_) | (refine Grow.trans ?_ (by assumption)))))) ((H2.out.grow' repCircle_stable HGU.out.below).grow' repCircle_stable (Grow.below (by repeat (first | exact Grow.refl _ | (refine Grow.alloc ?_ _ _) | (refine Grow.drew ?_) | (refine Grow.trans ?_ (by assumption)))))) SM.out).mono ?_; rintro e w1 ⟨rfl, g1⟩)
            | (go_at_call 98; refine (spec_In_c x _ _ _ _ _ _ e.id _ ((H1.out.grow' repHtlc_stable HGU.out.below).grow' repHtlc_stable (Grow.below (by repeat (first | exact Grow.refl _ | (refine Grow.alloc ?_ _ _) | (refine Grow.drew ?_) | (refine Grow.trans ?_ (by assumption)))))) ((H2.out.grow' repCircle_stable HGU.out.below).grow' repCircle_stable (Grow.below (by repeat (first | exact Grow.refl _ | (refine Grow.alloc ?_ _ _) | (refine Grow.drew ?_) | (refine Grow.trans ?_ (by assumption)))))) SM.out).mono ?_; rintro e w2 ⟨rfl, g2⟩))
        have HGZ := Lib.hid (HGU.out.trans (show Grow U w2 from (((Grow.refl U).drew).trans g1).trans g2))
        have HGZ' := Lib.hid (HGU'.out.trans (show Grow U w2 from (((Grow.refl U).drew).trans g1).trans g2))
        clear g1 g2 y0 y1 y2 y3 k0 k1 k2 k3 k4 k5
        generalize outOf x e.id = po at *
        generalize intoOf x e.id = pi at *
        have hwr : IntKind.i64.wrap (IntKind.i64.wrap (IntKind.i64.wrap (e.loc + e.remote) + po) + pi) = e.loc + e.remote + po + pi := by
          rw [wrapI (n := e.loc + e.remote) (by omega) (by omega), wrapI (n := e.loc + e.remote + po) (by omega) (by omega), wrapI (by omega) (by omega)]
        by_cases ts : e.loc + e.remote + po + pi = e.size
        · have TS := Lib.hid ts.symm
          go_wp2
          go_roundg (x.chans.length - (j + 1 + 1))
          case measure => have := HK.out; omega
          case rel => exact ⟨j + 1 + 1, by have := HK.out; omega, by go_num, fun i hi => by
            by_cases he : i = j + 1
            · rw [he, HCA.out, HCS.out]; have h8 := t8; rw [TS.out] at h8; simp [chanOk1, TS.out, t1c, t3, t4, t5, t6c, t7, h8, HASC.out, TT2.out]
            · exact HALL.out i (by omega), HGZ'.out⟩
        · have TS := Lib.hid (fun h => ts (Eq.symm h))
          go_wp2
          go_ret
          exact ⟨by rw [HHEAD.out, HNO.out (by rw [HCA.out, HCS.out, beq_eq_false_iff_ne.2 TS.out]; simp)]; rfl, HGZ.out⟩
    · have hr : chansOk x = true := chansOk_yes (fun j hj => HALL.out j (by omega))
      have HR : Hid (bookOk x = true) := HHEAD.out.trans hr
      have HGW := Lib.hid hgw; clear hr hgw hg
      go_wp2
      go_ret
      exact ⟨by rw [HR.out]; rfl, HGW.out⟩
end Go.Proofs.Ytbjnbhlpibadnaa

/- A block that the call itself laid, and its cells. No program in sight. -/
namespace Go.Proofs.Ytbjnbhlpibadnaa
open Go.RowKit

/-- Block b holds the cells cs, and none of its cells is shared with a string. -/
structure Box (w : World) (b : Nat) (cs : List Value) : Prop where
  lt : b < w.heap.size
  c : ∀ j v, cs[j]? = some v → w.cell? ⟨b, j, none⟩ = some v
  f : ∀ o, w.frozen? ⟨b, o, none⟩ = false

theorem Box.new (w : World) (c : Array Value) (T : TypeId) : Box (w.alloc (.cells c T)) w.heap.size c.toList :=
  ⟨by simp, fun j v h => cell_new j (by simpa using h), fun o => by
    rw [frozen?_alloc_cells]; unfold World.frozen?; simp⟩
theorem Box.newAt {w : World} {n : Nat} (hn : n = w.heap.size) (c : Array Value) (T : TypeId) : Box (w.alloc (.cells c T)) n c.toList := by
  subst hn; exact Box.new w c T
theorem Box.grow {w w' : World} {b : Nat} {cs : List Value} (h : Box w b cs) (g : Grow w w') : Box w' b cs :=
  ⟨Nat.lt_of_lt_of_le h.lt g.size, fun j v hj => cellGrow g (h.c j v hj), fun o => by rw [(bcell g).2 b o h.lt]; exact h.f o⟩
theorem Box.alloc {w : World} {b : Nat} {cs : List Value} (h : Box w b cs) (c : Array Value) (T : TypeId) : Box (w.alloc (.cells c T)) b cs := h.grow ((Grow.refl w).alloc c T)
theorem Box.other {w : World} {b : Nat} {cs : List Value} (h : Box w b cs) {p : Addr} (hp : p.block ≠ b) (u : Value) : Box (w.setCell p u) b cs :=
  ⟨by simpa using h.lt, fun j v hj => cellSet (h.c j v hj) hp, fun o => by rw [World.frozen?_setCell]; exact h.f o⟩
theorem Box.set {w : World} {b : Nat} {cs : List Value} (h : Box w b cs) (j : Nat) (hj : j < cs.length) (u : Value) : Box (w.setCell ⟨b, j, none⟩ u) b (cs.set j u) :=
  ⟨by simpa using h.lt, fun i v hi => by
    by_cases e : i = j
    · subst e
      rw [List.getElem?_set_self hj] at hi
      injection hi with hi
      subst hi
      exact World.cell?_setCell_same w _ _ (h.c i cs[i] (List.getElem?_eq_getElem hj))
    · rw [List.getElem?_set_ne (fun q => e q.symm)] at hi
      rw [World.cell?_setCell_other w ⟨b, j, none⟩ ⟨b, i, none⟩ u (by intro q; injection q with _ q; exact e q.symm)]
      exact h.c i v hi, fun o => by rw [World.frozen?_setCell]; exact h.f o⟩
theorem Box.drew {w : World} {b : Nat} {cs : List Value} (h : Box w b cs) : Box w.drew b cs := ⟨h.lt, h.c, h.f⟩
theorem Box.drewN {w : World} {b : Nat} {cs : List Value} (h : Box w b cs) (n : Nat) : Box (w.drewN n) b cs := ⟨h.lt, h.c, h.f⟩
theorem Box.put {w w' : World} {b lo hi : Nat} {cs : List Value} (h : Box w b cs) (k : Put lo hi w w') (hb : b < lo ∨ hi ≤ b) : Box w' b cs :=
  ⟨Nat.lt_of_lt_of_le h.lt k.size, fun j v hj => by rw [World.cell?_of_block (w := w) (k.block b h.lt hb)]; exact h.c j v hj, fun o => by rw [k.frz b o h.lt]; exact h.f o⟩
end Go.Proofs.Ytbjnbhlpibadnaa

/- Pick: a channel looked up. -/
namespace Go.Proofs.Ytbjnbhlpibadnaa
open Go.RowKit
set_option linter.unusedSimpArgs false
set_option linter.unusedVariables false

def zeroChan : Chan := ⟨0, 0, 0, 0, 0, 0, 0⟩
def pickOf (x : Book) (ch : Int) : Option Chan := if bookOk x = true then (if 0 ≤ chanAt x.chans ch then x.chans[(chanAt x.chans ch).toNat]? else none) else none
def chanV (c : Chan) : Value := .agg #[.int .i64 c.id, .int .i64 c.size, .int .i64 c.loc, .int .i64 c.remote, .int .i64 c.base, .int .i64 c.ppm, .int .i64 c.score]
def pickV (r : Option Chan) : Value := .tuple #[chanV (r.getD zeroChan), .bool r.isSome]

end Go.Proofs.Ytbjnbhlpibadnaa

/- The marks that the harness puts into the elements of a slice, and whether they are held. No program in sight. -/
namespace Go.Proofs.Ytbjnbhlpibadnaa
open Go.RowKit

/-- What the harness puts into cell c of an element at the number v: a number, at cell q a truth value. -/
def mvAt (q : Nat) (v : Int) (c : Nat) : Value := if c = q then .bool (v % 3 == 0) else .int .i64 v
theorem mvAt_int {q c : Nat} (h : c ≠ q) (v : Int) : mvAt q v c = .int .i64 v := by unfold mvAt; rw [if_neg h]
theorem mvAt_bool (q : Nat) (v : Int) : mvAt q v q = .bool (v % 3 == 0) := by unfold mvAt; rw [if_pos rfl]

/-- The first m elements of sz cells from offset off on hold the marks from k on. -/
def MkN (f : Int → Nat → Value) (sz : Nat) (w : World) (b off m : Nat) (k : Int) : Prop := ∀ i c, i < m → c < sz → w.cell? ⟨b, off + i * sz + c, none⟩ = some (f (k + ((i * sz + c : Nat) : Int)) c)
theorem MkN.same {f : Int → Nat → Value} {sz b off m lo hi : Nat} {k : Int} {w w' : World} (h : MkN f sz w b off m k) (hs : Same lo hi w w') (h1 : lo ≤ b) (h2 : b < hi) : MkN f sz w' b off m k := fun i c hi' hc => hs.cell h1 h2 (h i c hi' hc)
theorem MkN.store {f : Int → Nat → Value} {sz b off m : Nat} {k : Int} {w : World} (h : MkN f sz w b off m k) (vs : List Value) (hl : vs.length = sz) (hv : ∀ c, c < sz → vs[c]? = some (f (k + ((m * sz + c : Nat) : Int)) c))
    (room : ∀ c, c < sz → (w.cell? ⟨b, off + m * sz + c, none⟩).isSome = true) : MkN f sz (w.setCells b (off + m * sz) vs) b off (m + 1) k := fun i c hi hc => by
  rw [cell_setCells vs (off + m * sz) w (off + i * sz + c) (fun j hj => room j (by omega))]
  by_cases e : i = m
  · subst e
    rw [if_pos (by omega), show off + i * sz + c - (off + i * sz) = c by omega]
    exact hv c hc
  · have h1 : (i + 1) * sz ≤ m * sz := Nat.mul_le_mul_right _ (by omega)
    rw [Nat.add_mul] at h1
    rw [if_neg (by omega)]
    exact h i c (by omega) hc

/-- The slice of m elements at a bears the marks from k on. -/
def HeldN (f : Int → Nat → Value) (sz : Nat) (w : World) (lo hi : Nat) (a : Option Addr) (m : Nat) (k : Int) : Prop := m = 0 ∨ ∃ b off, a = some ⟨b, off, none⟩ ∧ lo ≤ b ∧ b < hi ∧ MkN f sz w b off m k
theorem HeldN.same {f : Int → Nat → Value} {sz m lo hi : Nat} {a : Option Addr} {k : Int} {w w' : World} (h : HeldN f sz w lo hi a m k) (hs : Same lo hi w w') : HeldN f sz w' lo hi a m k := by
  rcases h with h | ⟨b, off, ha, h1, h2, h3⟩
  · exact .inl h
  · exact .inr ⟨b, off, ha, h1, h2, h3.same hs h1 h2⟩
/-- The number behind m elements of n cells. -/
def mkEnd (n : Nat) (k : Int) (m : Nat) : Int := k + ((m * n : Nat) : Int)
theorem mkEnd_bd {n m : Nat} {k B : Int} (h0 : 0 ≤ k) (h1 : k ≤ B) (hn : n ≤ 64) (hm : m ≤ 16777216) : 0 ≤ mkEnd n k m ∧ mkEnd n k m ≤ B + 1073741824 := by
  unfold mkEnd
  have : m * n ≤ 16777216 * 64 := Nat.mul_le_mul hm hn
  omega
/-- A slice's length is at most its capacity. -/
theorem SlR.cap {α : Type} {sz : Nat} {rep : World → Nat → Nat → List Value → α → Prop} {w : World} {lo hi n c : Nat} {a : Option Addr} {xs : List α} (h : SlR sz rep w lo hi (.slice a n c) xs) : n ≤ c := by
  obtain ⟨a_, c_, heq, h1, _, _⟩ := h
  injection heq with _ q2 q3
  omega
theorem SlR.all {α : Type} {sz : Nat} {rep : World → Nat → Nat → List Value → α → Prop} (hst : Stable rep) {w : World} {lo hi : Nat} {v : Value} {xs : List α} (h : SlR sz rep w lo hi v xs) (hh : hi ≤ w.heap.size) : SlR sz rep w 0 w.heap.size v xs :=
  h.stable hst (Same.refl _ _ _) (Nat.zero_le _) hh
end Go.Proofs.Ytbjnbhlpibadnaa

/- PricesOk, of the program and of the reference. -/
namespace Go.Proofs.Ytbjnbhlpibadnaa
open Go.RowKit
set_option linter.unusedSimpArgs false
set_option linter.unusedVariables false

def samePr (p q : Price) : Bool := (q.frm == p.frm) && (q.to == p.to)
def priceAt (cs : List Chan) (l : List Price) (i : Nat) : Bool := match l[i]? with | some p => two cs p.frm p.to && inB p.ppm 0 1000000 && !((l.take i).any (samePr p)) | none => true
def pricesOk (x : Book) (l : List Price) : Bool := bookOk x && decide (l.length ≤ 20) && (List.range l.length).all (priceAt x.chans l)
theorem range_no {n k : Nat} {p : Nat → Bool} (hk : k < n) (h : p k = false) : (List.range n).all p = false := by
  rw [List.all_eq_false]; exact ⟨k, by simpa using hk, by simp [h]⟩
theorem range_yes {n : Nat} {p : Nat → Bool} (h : ∀ j, j < n → p j = true) : (List.range n).all p = true := by
  rw [List.all_eq_true]; intro j hj; exact h j (by simpa using hj)
theorem any_take_succ {α : Type} {p : α → Bool} {l : List α} {k : Nat} (hk : k < l.length) : (l.take (k+1)).any p = ((l.take k).any p || p l[k]) := by
  rw [List.take_succ_eq_append_getElem hk, List.any_append]; simp
theorem any_hit {α : Type} {p : α → Bool} {l : List α} {j k : Nat} (hj : j < l.length) (hk : j < k) (h : p l[j] = true) : (l.take k).any p = true := by
  rw [List.any_eq_true]
  exact ⟨l[j], by rw [List.mem_take_iff_getElem]; exact ⟨j, by omega, rfl⟩, h⟩

set_option maxHeartbeats 4000000 in
set_option maxRecDepth 100000 in
theorem impl_PricesOk_c (x : Book) (a0 : Option Addr) (c0 : Nat) (a1 : Option Addr) (c1 : Nat) (a2 : Option Addr) (c2 : Nat) (l : List Price) (a3 : Option Addr) (c3 : Nat) (w : World) (h0 : SlR 7 repChan w 0 w.heap.size (.slice a0 x.chans.length c0) x.chans) (h1 : SlR 7 repHtlc w 0 w.heap.size (.slice a1 x.htlcs.length c1) x.htlcs) (h2 : SlR 5 repCircle w 0 w.heap.size (.slice a2 x.circles.length c2) x.circles) (h3 : SlR 3 repPrice w 0 w.heap.size (.slice a3 l.length c3) l) (hn : x.chans.length ≤ 1048576) (hl : l.length ≤ 1048576) :
    Calls Try.prog 83 #[.agg #[.int .i64 x.tick, .int .i64 x.next, .int .i64 x.wallet, .slice a0 x.chans.length c0, .slice a1 x.htlcs.length c1, .slice a2 x.circles.length c2], .slice a3 l.length c3] w fun e w' => e = .returned (.bool (pricesOk x l)) ∧ Grow w w' := by
  have hlc := SlR.cap h3
  have H0 := Lib.hid h0; have H1 := Lib.hid h1; have H2 := Lib.hid h2; have H3 := Lib.hid h3
  clear h0 h1 h2 h3
  have HP : Hid (pricesOk x l = (bookOk x && decide (l.length ≤ 20) && (List.range l.length).all (priceAt x.chans l))) := rfl
  have HL := Lib.hid hl
  have HLC := Lib.hid hlc
  go_enter Try.func83, Try.ntmps83
  go_wp2_with fail
  refine (impl_BookOk_c x _ _ _ _ _ _ _ (H0.out.grow' repChan_stable (Grow.below ((Grow.refl w).alloc _ _))) (H1.out.grow' repHtlc_stable (Grow.below ((Grow.refl w).alloc _ _))) (H2.out.grow' repCircle_stable (Grow.below ((Grow.refl w).alloc _ _))) hn).mono ?_
  rintro e V1 ⟨rfl, gs⟩
  have ys := Grow.size gs
  simp only [World.size_setCell, World.size_alloc] at ys
  have B0 : Box V1 (w.heap.size) [.int .i64 x.tick, .int .i64 x.next, .int .i64 x.wallet, .slice a0 x.chans.length c0, .slice a1 x.htlcs.length c1, .slice a2 x.circles.length c2] := Box.grow (Box.newAt (by simp) _ _) gs
  have G : Grow w V1 := Grow.trans ((Grow.refl w).alloc _ _) gs
  clear gs
  have z0 := B0.lt
  have q0_0 : V1.cell? ⟨w.heap.size, 0, none⟩ = some (.int .i64 x.tick) := B0.c 0 _ rfl
  have q0_1 : V1.cell? ⟨w.heap.size, 1, none⟩ = some (.int .i64 x.next) := B0.c 1 _ rfl
  have q0_2 : V1.cell? ⟨w.heap.size, 2, none⟩ = some (.int .i64 x.wallet) := B0.c 2 _ rfl
  have q0_3 : V1.cell? ⟨w.heap.size, 3, none⟩ = some (.slice a0 x.chans.length c0) := B0.c 3 _ rfl
  have q0_4 : V1.cell? ⟨w.heap.size, 4, none⟩ = some (.slice a1 x.htlcs.length c1) := B0.c 4 _ rfl
  have q0_5 : V1.cell? ⟨w.heap.size, 5, none⟩ = some (.slice a2 x.circles.length c2) := B0.c 5 _ rfl
  have f0 := B0.f
  by_cases hb : bookOk x = true
  rotate_left
  · have HR : Hid (pricesOk x l = false) := by
      show _ = _
      rw [HP.out]; simp [hb]
    have hb : bookOk x = false := by simpa using hb
    go_wp2_with fail
    all_goals
      go_ret
      exact ⟨by rw [HR.out]; rfl, G⟩
  by_cases h20 : l.length ≤ 20
  rotate_left
  · have HR : Hid (pricesOk x l = false) := by
      show _ = _
      rw [HP.out]; simp [h20]
    have q : decide ((20 : Int) < (l.length : Int)) = true := by simp; omega
    go_wp2_with fail
    all_goals
      go_ret
      exact ⟨by rw [HR.out]; rfl, G⟩
  have q20 : decide ((20 : Int) < (l.length : Int)) = false := by simp; omega
  have HHEAD : Hid (pricesOk x l = (List.range l.length).all (priceAt x.chans l)) := by
    show _ = _
    rw [HP.out]; simp [hb, h20]
  go_wp2_with fail
  clear z0 q0_0 q0_1 q0_2 q0_3 q0_4 q0_5 f0
  go_loopg [19] l.length (fun g i wr => ∃ k : Nat, k + g = l.length ∧ i = .int .i64 k ∧ (∀ j, j < k → priceAt x.chans l j = true) ∧ Grow w wr ∧ Box wr (w.heap.size) [.int .i64 x.tick, .int .i64 x.next, .int .i64 x.wallet, .slice a0 x.chans.length c0, .slice a1 x.htlcs.length c1, .slice a2 x.circles.length c2])
  case atStart => exact ⟨0, by simp, rfl, fun j h => absurd h (by omega), G, B0⟩
  case round =>
    clear G B0
    obtain ⟨k, hk, rfl, hall, G, B0⟩ := hrel
    obtain ⟨R2, rfl⟩ : ∃ V, V = wr := ⟨_, rfl⟩
    have HALL := Lib.hid hall; clear hall
    by_cases hlt : k < l.length
    · have HK := Lib.hid hk; clear hk
      have HNO : Hid (priceAt x.chans l k = false → pricesOk x l = false) := fun h => by rw [HHEAD.out]; exact range_no hlt h
      have HPA : Hid (priceAt x.chans l k = (two x.chans l[k].frm l[k].to && inB l[k].ppm 0 1000000 && !((l.take k).any (samePr l[k])))) := by
        show _ = _
        unfold priceAt; rw [List.getElem?_eq_getElem hlt]
      have HTW : Hid (two x.chans l[k].frm l[k].to = (!(l[k].frm == l[k].to) && decide (0 ≤ chanAt x.chans l[k].frm) && decide (0 ≤ chanAt x.chans l[k].to))) := rfl
      have z0 := B0.lt
      have q0_0 : R2.cell? ⟨w.heap.size, 0, none⟩ = some (.int .i64 x.tick) := B0.c 0 _ rfl
      have q0_1 : R2.cell? ⟨w.heap.size, 1, none⟩ = some (.int .i64 x.next) := B0.c 1 _ rfl
      have q0_2 : R2.cell? ⟨w.heap.size, 2, none⟩ = some (.int .i64 x.wallet) := B0.c 2 _ rfl
      have q0_3 : R2.cell? ⟨w.heap.size, 3, none⟩ = some (.slice a0 x.chans.length c0) := B0.c 3 _ rfl
      have q0_4 : R2.cell? ⟨w.heap.size, 4, none⟩ = some (.slice a1 x.htlcs.length c1) := B0.c 4 _ rfl
      have q0_5 : R2.cell? ⟨w.heap.size, 5, none⟩ = some (.slice a2 x.circles.length c2) := B0.c 5 _ rfl
      have f0 := B0.f
      obtain ⟨b_e, off_e, ha_e, hb1_e, hb2_e, hel_e⟩ := H3.out.elems k hlt
      obtain ⟨ee0, ee1, ee2, -⟩ := Price.atCell (hel_e.same repPrice_stable (G.same (Nat.le_refl _)) hb1_e hb2_e) k hlt
      subst ha_e
      clear hel_e
      generalize l[k] = e at *
      by_cases t1 : e.frm = e.to
      · have T1 := Lib.hid t1
        go_wp2_with fail
        all_goals
          go_ret
          exact ⟨by rw [HNO.out (by rw [HPA.out, HTW.out, T1.out]; simp)]; rfl, (G.alloc _ _)⟩
      have T1 := Lib.hid t1
      have qe : (e.frm == e.to) = false := by simpa using t1
      go_wp2_with fail
      refine (impl_chanAt_c x _ _ _ _ _ _ e.frm _ (H0.out.grow' repChan_stable (Grow.below (G.alloc _ _))) hn).mono ?_
      rintro e V3 ⟨rfl, gs⟩
      clear z0 q0_0 q0_1 q0_2 q0_3 q0_4 q0_5 f0
      have ys := Grow.size gs
      simp only [World.size_setCell, World.size_alloc] at ys
      replace B0 : Box V3 (w.heap.size) [.int .i64 x.tick, .int .i64 x.next, .int .i64 x.wallet, .slice a0 x.chans.length c0, .slice a1 x.htlcs.length c1, .slice a2 x.circles.length c2] := Box.grow (B0.alloc _ _) gs
      have B1 : Box V3 (R2.heap.size) [.int .i64 e.frm, .int .i64 e.to, .int .i64 e.ppm] := Box.grow (Box.newAt (by simp) _ _) gs
      replace G : Grow w V3 := Grow.trans (G.alloc _ _) gs
      clear gs
      have z0 := B0.lt
      have z1 := B1.lt
      have q0_0 : V3.cell? ⟨w.heap.size, 0, none⟩ = some (.int .i64 x.tick) := B0.c 0 _ rfl
      have q0_1 : V3.cell? ⟨w.heap.size, 1, none⟩ = some (.int .i64 x.next) := B0.c 1 _ rfl
      have q0_2 : V3.cell? ⟨w.heap.size, 2, none⟩ = some (.int .i64 x.wallet) := B0.c 2 _ rfl
      have q0_3 : V3.cell? ⟨w.heap.size, 3, none⟩ = some (.slice a0 x.chans.length c0) := B0.c 3 _ rfl
      have q0_4 : V3.cell? ⟨w.heap.size, 4, none⟩ = some (.slice a1 x.htlcs.length c1) := B0.c 4 _ rfl
      have q0_5 : V3.cell? ⟨w.heap.size, 5, none⟩ = some (.slice a2 x.circles.length c2) := B0.c 5 _ rfl
      have f0 := B0.f
      have q1_0 : V3.cell? ⟨R2.heap.size, 0, none⟩ = some (.int .i64 e.frm) := B1.c 0 _ rfl
      have q1_1 : V3.cell? ⟨R2.heap.size, 1, none⟩ = some (.int .i64 e.to) := B1.c 1 _ rfl
      have q1_2 : V3.cell? ⟨R2.heap.size, 2, none⟩ = some (.int .i64 e.ppm) := B1.c 2 _ rfl
      have f1 := B1.f
      by_cases t2 : 0 ≤ chanAt x.chans e.frm
      rotate_left
      · have T2 := Lib.hid t2
        generalize chanAt x.chans e.frm = pa at *
        go_wp2_with fail
        all_goals
          go_ret
          exact ⟨by rw [HNO.out (by rw [HPA.out, HTW.out, show decide (0 ≤ pa) = false from decide_eq_false (by have := T2.out; omega)]; simp)]; rfl, G⟩
      have T2 := Lib.hid t2
      generalize chanAt x.chans e.frm = pa at *
      have qa : decide (pa < 0) = false := by simp; omega
      go_wp2_with fail
      refine (impl_chanAt_c x _ _ _ _ _ _ e.to _ (H0.out.grow' repChan_stable (Grow.below G)) hn).mono ?_
      rintro e V4 ⟨rfl, gs⟩
      clear z0 z1 q0_0 q0_1 q0_2 q0_3 q0_4 q0_5 f0 q1_0 q1_1 q1_2 f1
      have ys := Grow.size gs
      replace B0 : Box V4 (w.heap.size) [.int .i64 x.tick, .int .i64 x.next, .int .i64 x.wallet, .slice a0 x.chans.length c0, .slice a1 x.htlcs.length c1, .slice a2 x.circles.length c2] := Box.grow B0 gs
      replace B1 : Box V4 (R2.heap.size) [.int .i64 e.frm, .int .i64 e.to, .int .i64 e.ppm] := Box.grow B1 gs
      replace G : Grow w V4 := Grow.trans G gs
      clear gs
      have z0 := B0.lt
      have z1 := B1.lt
      have q0_0 : V4.cell? ⟨w.heap.size, 0, none⟩ = some (.int .i64 x.tick) := B0.c 0 _ rfl
      have q0_1 : V4.cell? ⟨w.heap.size, 1, none⟩ = some (.int .i64 x.next) := B0.c 1 _ rfl
      have q0_2 : V4.cell? ⟨w.heap.size, 2, none⟩ = some (.int .i64 x.wallet) := B0.c 2 _ rfl
      have q0_3 : V4.cell? ⟨w.heap.size, 3, none⟩ = some (.slice a0 x.chans.length c0) := B0.c 3 _ rfl
      have q0_4 : V4.cell? ⟨w.heap.size, 4, none⟩ = some (.slice a1 x.htlcs.length c1) := B0.c 4 _ rfl
      have q0_5 : V4.cell? ⟨w.heap.size, 5, none⟩ = some (.slice a2 x.circles.length c2) := B0.c 5 _ rfl
      have f0 := B0.f
      have q1_0 : V4.cell? ⟨R2.heap.size, 0, none⟩ = some (.int .i64 e.frm) := B1.c 0 _ rfl
      have q1_1 : V4.cell? ⟨R2.heap.size, 1, none⟩ = some (.int .i64 e.to) := B1.c 1 _ rfl
      have q1_2 : V4.cell? ⟨R2.heap.size, 2, none⟩ = some (.int .i64 e.ppm) := B1.c 2 _ rfl
      have f1 := B1.f
      by_cases t3 : 0 ≤ chanAt x.chans e.to
      rotate_left
      · have T3 := Lib.hid t3
        generalize chanAt x.chans e.to = pb at *
        go_wp2_with fail
        all_goals
          go_ret
          exact ⟨by rw [HNO.out (by rw [HPA.out, HTW.out, show decide (0 ≤ pb) = false from decide_eq_false (by have := T3.out; omega)]; simp)]; rfl, G⟩
      have T3 := Lib.hid t3
      generalize chanAt x.chans e.to = pb at *
      have qb : decide (pb < 0) = false := by simp; omega
      have HTW2 : Hid (two x.chans e.frm e.to = true) := by
        show _ = _
        rw [HTW.out]; have := T1.out; have := T2.out; have := T3.out; simp; omega
      cases t4 : inB e.ppm 0 1000000
      · have T4 := Lib.hid t4
        go_wp2_with (go_at_call 85; refine (in_c _ _ _ _).mono ?_; rintro e w' ⟨rfl, rfl⟩)
        all_goals
          go_ret
          exact ⟨by rw [HNO.out (by rw [HPA.out, T4.out]; simp)]; rfl, G⟩
      have T4 := Lib.hid t4
      have hkc : (k : Int) ≤ (c3 : Int) := by have := HLC.out; omega
      go_wp2_with (go_at_call 85; refine (in_c _ _ _ _).mono ?_; rintro e w' ⟨rfl, rfl⟩)
      clear z0 z1 q0_0 q0_1 q0_2 q0_3 q0_4 q0_5 f0 q1_0 q1_1 q1_2 f1
      go_loopg [53] k (fun g i wi => ∃ j : Nat, j + g = k ∧ i = .int .i64 j ∧ (l.take j).any (samePr e) = false ∧ Grow w wi ∧ Box wi (w.heap.size) [.int .i64 x.tick, .int .i64 x.next, .int .i64 x.wallet, .slice a0 x.chans.length c0, .slice a1 x.htlcs.length c1, .slice a2 x.circles.length c2] ∧ Box wi (R2.heap.size) [.int .i64 e.frm, .int .i64 e.to, .int .i64 e.ppm])
      case atStart => exact ⟨0, by simp, rfl, by simp, G, B0, B1⟩
      case round =>
        clear G B0 B1
        obtain ⟨j, hj, rfl, hany, G, B0, B1⟩ := hrel
        obtain ⟨R5, rfl⟩ : ∃ V, V = wr := ⟨_, rfl⟩
        have HANY := Lib.hid hany; clear hany
        by_cases hjt : j < k
        · have hjl : j < l.length := by omega
          have HJ := Lib.hid hj; clear hj
          have HSU : Hid ((l.take (j+1)).any (samePr e) = ((l.take j).any (samePr e) || samePr e l[j])) := any_take_succ hjl
          have HHI : Hid (samePr e l[j] = true → (l.take k).any (samePr e) = true) := fun h => any_hit hjl hjt h
          have HSA : Hid (samePr e l[j] = ((l[j].frm == e.frm) && (l[j].to == e.to))) := rfl
          have z0 := B0.lt
          have z1 := B1.lt
          have q0_0 : R5.cell? ⟨w.heap.size, 0, none⟩ = some (.int .i64 x.tick) := B0.c 0 _ rfl
          have q0_1 : R5.cell? ⟨w.heap.size, 1, none⟩ = some (.int .i64 x.next) := B0.c 1 _ rfl
          have q0_2 : R5.cell? ⟨w.heap.size, 2, none⟩ = some (.int .i64 x.wallet) := B0.c 2 _ rfl
          have q0_3 : R5.cell? ⟨w.heap.size, 3, none⟩ = some (.slice a0 x.chans.length c0) := B0.c 3 _ rfl
          have q0_4 : R5.cell? ⟨w.heap.size, 4, none⟩ = some (.slice a1 x.htlcs.length c1) := B0.c 4 _ rfl
          have q0_5 : R5.cell? ⟨w.heap.size, 5, none⟩ = some (.slice a2 x.circles.length c2) := B0.c 5 _ rfl
          have f0 := B0.f
          have q1_0 : R5.cell? ⟨R2.heap.size, 0, none⟩ = some (.int .i64 e.frm) := B1.c 0 _ rfl
          have q1_1 : R5.cell? ⟨R2.heap.size, 1, none⟩ = some (.int .i64 e.to) := B1.c 1 _ rfl
          have q1_2 : R5.cell? ⟨R2.heap.size, 2, none⟩ = some (.int .i64 e.ppm) := B1.c 2 _ rfl
          have f1 := B1.f
          obtain ⟨b_f, off_f, ha_f, hb1_f, hb2_f, hel_f⟩ := H3.out.elems j hjl
          injection ha_f with ha_f
          injection ha_f with qb qo
          subst qb qo
          obtain ⟨ef0, ef1, ef2, -⟩ := Price.atCell (hel_f.same repPrice_stable (G.same (Nat.le_refl _)) hb1_f hb2_f) j hjl
          clear hel_f
          generalize l[j] = f at *
          by_cases v1 : f.frm = e.frm
          rotate_left
          · have VV := Lib.hid v1
            have q1 : (f.frm == e.frm) = false := by simpa using v1
            go_wp2_with fail
            go_roundg (k - (j + 1))
            case measure => have := HJ.out; omega
            case rel => exact ⟨j + 1, by have := HJ.out; omega, by go_num, by rw [HSU.out, HANY.out, HSA.out]; have := VV.out; simp; omega, (G.alloc _ _), (B0.alloc _ _), (B1.alloc _ _)⟩
          have V1_ := Lib.hid v1
          have q1 : (f.frm == e.frm) = true := by simpa using v1
          by_cases v2 : f.to = e.to
          rotate_left
          · have VV := Lib.hid v2
            have q2 : (f.to == e.to) = false := by simpa using v2
            go_wp2_with fail
            go_roundg (k - (j + 1))
            case measure => have := HJ.out; omega
            case rel => exact ⟨j + 1, by have := HJ.out; omega, by go_num, by rw [HSU.out, HANY.out, HSA.out]; have := VV.out; simp; omega, (G.alloc _ _), (B0.alloc _ _), (B1.alloc _ _)⟩
          have V2_ := Lib.hid v2
          have q2 : (f.to == e.to) = true := by simpa using v2
          go_wp2_with fail
          go_ret
          exact ⟨by rw [HNO.out (by rw [HPA.out, HHI.out (by rw [HSA.out]; have := V1_.out; have := V2_.out; simp; omega)]; simp)]; rfl, (G.alloc _ _)⟩
        · obtain rfl : j = k := by omega
          have z0 := B0.lt
          have z1 := B1.lt
          have q0_0 : R5.cell? ⟨w.heap.size, 0, none⟩ = some (.int .i64 x.tick) := B0.c 0 _ rfl
          have q0_1 : R5.cell? ⟨w.heap.size, 1, none⟩ = some (.int .i64 x.next) := B0.c 1 _ rfl
          have q0_2 : R5.cell? ⟨w.heap.size, 2, none⟩ = some (.int .i64 x.wallet) := B0.c 2 _ rfl
          have q0_3 : R5.cell? ⟨w.heap.size, 3, none⟩ = some (.slice a0 x.chans.length c0) := B0.c 3 _ rfl
          have q0_4 : R5.cell? ⟨w.heap.size, 4, none⟩ = some (.slice a1 x.htlcs.length c1) := B0.c 4 _ rfl
          have q0_5 : R5.cell? ⟨w.heap.size, 5, none⟩ = some (.slice a2 x.circles.length c2) := B0.c 5 _ rfl
          have f0 := B0.f
          have q1_0 : R5.cell? ⟨R2.heap.size, 0, none⟩ = some (.int .i64 e.frm) := B1.c 0 _ rfl
          have q1_1 : R5.cell? ⟨R2.heap.size, 1, none⟩ = some (.int .i64 e.to) := B1.c 1 _ rfl
          have q1_2 : R5.cell? ⟨R2.heap.size, 2, none⟩ = some (.int .i64 e.ppm) := B1.c 2 _ rfl
          have f1 := B1.f
          go_wp2_with fail
          go_roundg (l.length - (j + 1))
          case measure => have := HK.out; omega
          case rel => exact ⟨j + 1, by have := HK.out; omega, by go_num, fun i hi => by
                    by_cases he : i = j
                    · rw [he, HPA.out, HTW2.out, T4.out, HANY.out]; rfl
                    · exact HALL.out i (by omega), G, B0⟩
    · have hr : pricesOk x l = true := by rw [HHEAD.out]; exact range_yes (fun j hj => HALL.out j (by omega))
      have HR := Lib.hid hr; clear hr
      go_wp2_with fail
      go_ret
      exact ⟨by rw [HR.out]; rfl, G⟩

set_option maxHeartbeats 4000000 in
set_option maxRecDepth 100000 in
theorem spec_PricesOk_c (x : Book) (a0 : Option Addr) (c0 : Nat) (a1 : Option Addr) (c1 : Nat) (a2 : Option Addr) (c2 : Nat) (l : List Price) (a3 : Option Addr) (c3 : Nat) (w : World) (h0 : SlR 7 repChan w 0 w.heap.size (.slice a0 x.chans.length c0) x.chans) (h1 : SlR 7 repHtlc w 0 w.heap.size (.slice a1 x.htlcs.length c1) x.htlcs) (h2 : SlR 5 repCircle w 0 w.heap.size (.slice a2 x.circles.length c2) x.circles) (h3 : SlR 3 repPrice w 0 w.heap.size (.slice a3 l.length c3) l) (hn : x.chans.length ≤ 1048576) (hl : l.length ≤ 1048576) :
    Calls Try.prog 78 #[.agg #[.int .i64 x.tick, .int .i64 x.next, .int .i64 x.wallet, .slice a0 x.chans.length c0, .slice a1 x.htlcs.length c1, .slice a2 x.circles.length c2], .slice a3 l.length c3] w fun e w' => e = .returned (.bool (pricesOk x l)) ∧ Grow w w' := by
  have hlc := SlR.cap h3
  have H0 := Lib.hid h0; have H1 := Lib.hid h1; have H2 := Lib.hid h2; have H3 := Lib.hid h3
  clear h0 h1 h2 h3
  have HP : Hid (pricesOk x l = (bookOk x && decide (l.length ≤ 20) && (List.range l.length).all (priceAt x.chans l))) := rfl
  have HL := Lib.hid hl
  have HLC := Lib.hid hlc
  go_enter Try.func78, Try.ntmps78
  go_wp2_with fail
  refine (spec_BookOk_c x _ _ _ _ _ _ _ (H0.out.grow' repChan_stable (Grow.below ((Grow.refl w).alloc _ _))) (H1.out.grow' repHtlc_stable (Grow.below ((Grow.refl w).alloc _ _))) (H2.out.grow' repCircle_stable (Grow.below ((Grow.refl w).alloc _ _))) hn).mono ?_
  rintro e V1 ⟨rfl, gs⟩
  have ys := Grow.size gs
  simp only [World.size_setCell, World.size_alloc] at ys
  have B0 : Box V1 (w.heap.size) [.int .i64 x.tick, .int .i64 x.next, .int .i64 x.wallet, .slice a0 x.chans.length c0, .slice a1 x.htlcs.length c1, .slice a2 x.circles.length c2] := Box.grow (Box.newAt (by simp) _ _) gs
  have G : Grow w V1 := Grow.trans ((Grow.refl w).alloc _ _) gs
  clear gs
  have z0 := B0.lt
  have q0_0 : V1.cell? ⟨w.heap.size, 0, none⟩ = some (.int .i64 x.tick) := B0.c 0 _ rfl
  have q0_1 : V1.cell? ⟨w.heap.size, 1, none⟩ = some (.int .i64 x.next) := B0.c 1 _ rfl
  have q0_2 : V1.cell? ⟨w.heap.size, 2, none⟩ = some (.int .i64 x.wallet) := B0.c 2 _ rfl
  have q0_3 : V1.cell? ⟨w.heap.size, 3, none⟩ = some (.slice a0 x.chans.length c0) := B0.c 3 _ rfl
  have q0_4 : V1.cell? ⟨w.heap.size, 4, none⟩ = some (.slice a1 x.htlcs.length c1) := B0.c 4 _ rfl
  have q0_5 : V1.cell? ⟨w.heap.size, 5, none⟩ = some (.slice a2 x.circles.length c2) := B0.c 5 _ rfl
  have f0 := B0.f
  by_cases hb : bookOk x = true
  rotate_left
  · have HR : Hid (pricesOk x l = false) := by
      show _ = _
      rw [HP.out]; simp [hb]
    have hb : bookOk x = false := by simpa using hb
    go_wp2_with fail
    all_goals
      go_ret
      exact ⟨by rw [HR.out]; rfl, G⟩
  by_cases h20 : l.length ≤ 20
  rotate_left
  · have HR : Hid (pricesOk x l = false) := by
      show _ = _
      rw [HP.out]; simp [h20]
    have q : decide ((20 : Int) < (l.length : Int)) = true := by simp; omega
    go_wp2_with fail
    all_goals
      go_ret
      exact ⟨by rw [HR.out]; rfl, G⟩
  have q20 : decide ((20 : Int) < (l.length : Int)) = false := by simp; omega
  have HHEAD : Hid (pricesOk x l = (List.range l.length).all (priceAt x.chans l)) := by
    show _ = _
    rw [HP.out]; simp [hb, h20]
  go_wp2_with fail
  clear z0 q0_0 q0_1 q0_2 q0_3 q0_4 q0_5 f0
  go_loopg [18] l.length (fun g i wr => ∃ k : Nat, k + g = l.length ∧ i = .int .i64 k ∧ (∀ j, j < k → priceAt x.chans l j = true) ∧ Grow w wr ∧ Box wr (w.heap.size) [.int .i64 x.tick, .int .i64 x.next, .int .i64 x.wallet, .slice a0 x.chans.length c0, .slice a1 x.htlcs.length c1, .slice a2 x.circles.length c2])
  case atStart => exact ⟨0, by simp, rfl, fun j h => absurd h (by omega), G, B0⟩
  case round =>
    clear G B0
    obtain ⟨k, hk, rfl, hall, G, B0⟩ := hrel
    obtain ⟨R2, rfl⟩ : ∃ V, V = wr := ⟨_, rfl⟩
    have HALL := Lib.hid hall; clear hall
    by_cases hlt : k < l.length
    · have HK := Lib.hid hk; clear hk
      have HNO : Hid (priceAt x.chans l k = false → pricesOk x l = false) := fun h => by rw [HHEAD.out]; exact range_no hlt h
      have HPA : Hid (priceAt x.chans l k = (two x.chans l[k].frm l[k].to && inB l[k].ppm 0 1000000 && !((l.take k).any (samePr l[k])))) := by
        show _ = _
        unfold priceAt; rw [List.getElem?_eq_getElem hlt]
      have HTW : Hid (two x.chans l[k].frm l[k].to = (!(l[k].frm == l[k].to) && decide (0 ≤ chanAt x.chans l[k].frm) && decide (0 ≤ chanAt x.chans l[k].to))) := rfl
      have z0 := B0.lt
      have q0_0 : R2.cell? ⟨w.heap.size, 0, none⟩ = some (.int .i64 x.tick) := B0.c 0 _ rfl
      have q0_1 : R2.cell? ⟨w.heap.size, 1, none⟩ = some (.int .i64 x.next) := B0.c 1 _ rfl
      have q0_2 : R2.cell? ⟨w.heap.size, 2, none⟩ = some (.int .i64 x.wallet) := B0.c 2 _ rfl
      have q0_3 : R2.cell? ⟨w.heap.size, 3, none⟩ = some (.slice a0 x.chans.length c0) := B0.c 3 _ rfl
      have q0_4 : R2.cell? ⟨w.heap.size, 4, none⟩ = some (.slice a1 x.htlcs.length c1) := B0.c 4 _ rfl
      have q0_5 : R2.cell? ⟨w.heap.size, 5, none⟩ = some (.slice a2 x.circles.length c2) := B0.c 5 _ rfl
      have f0 := B0.f
      obtain ⟨b_e, off_e, ha_e, hb1_e, hb2_e, hel_e⟩ := H3.out.elems k hlt
      obtain ⟨ee0, ee1, ee2, -⟩ := Price.atCell (hel_e.same repPrice_stable (G.same (Nat.le_refl _)) hb1_e hb2_e) k hlt
      subst ha_e
      clear hel_e
      generalize l[k] = e at *
      go_wp2_with fail
      refine (spec_Two_c x _ _ _ _ _ _ e.frm e.to _ (H0.out.grow' repChan_stable (Grow.below (G.alloc _ _))) hn).mono ?_
      rintro e V3 ⟨rfl, gs⟩
      clear z0 q0_0 q0_1 q0_2 q0_3 q0_4 q0_5 f0
      have ys := Grow.size gs
      simp only [World.size_setCell, World.size_alloc] at ys
      replace B0 : Box V3 (w.heap.size) [.int .i64 x.tick, .int .i64 x.next, .int .i64 x.wallet, .slice a0 x.chans.length c0, .slice a1 x.htlcs.length c1, .slice a2 x.circles.length c2] := Box.grow (B0.alloc _ _) gs
      have B1 : Box V3 (R2.heap.size) [.int .i64 e.frm, .int .i64 e.to, .int .i64 e.ppm] := Box.grow (Box.newAt (by simp) _ _) gs
      replace G : Grow w V3 := Grow.trans (G.alloc _ _) gs
      clear gs
      have z0 := B0.lt
      have z1 := B1.lt
      have q0_0 : V3.cell? ⟨w.heap.size, 0, none⟩ = some (.int .i64 x.tick) := B0.c 0 _ rfl
      have q0_1 : V3.cell? ⟨w.heap.size, 1, none⟩ = some (.int .i64 x.next) := B0.c 1 _ rfl
      have q0_2 : V3.cell? ⟨w.heap.size, 2, none⟩ = some (.int .i64 x.wallet) := B0.c 2 _ rfl
      have q0_3 : V3.cell? ⟨w.heap.size, 3, none⟩ = some (.slice a0 x.chans.length c0) := B0.c 3 _ rfl
      have q0_4 : V3.cell? ⟨w.heap.size, 4, none⟩ = some (.slice a1 x.htlcs.length c1) := B0.c 4 _ rfl
      have q0_5 : V3.cell? ⟨w.heap.size, 5, none⟩ = some (.slice a2 x.circles.length c2) := B0.c 5 _ rfl
      have f0 := B0.f
      have q1_0 : V3.cell? ⟨R2.heap.size, 0, none⟩ = some (.int .i64 e.frm) := B1.c 0 _ rfl
      have q1_1 : V3.cell? ⟨R2.heap.size, 1, none⟩ = some (.int .i64 e.to) := B1.c 1 _ rfl
      have q1_2 : V3.cell? ⟨R2.heap.size, 2, none⟩ = some (.int .i64 e.ppm) := B1.c 2 _ rfl
      have f1 := B1.f
      cases t1 : two x.chans e.frm e.to
      · have T1 := Lib.hid t1
        go_wp2_with fail
        all_goals
          go_ret
          exact ⟨by rw [HNO.out (by rw [HPA.out, T1.out]; simp)]; rfl, G⟩
      have HTW2 : Hid (two x.chans e.frm e.to = true) := t1
      by_cases u1 : 0 ≤ e.ppm
      rotate_left
      · have U1 := Lib.hid u1
        go_wp2_with fail
        all_goals
          go_ret
          exact ⟨by rw [HNO.out (by rw [HPA.out, show inB e.ppm 0 1000000 = false from inB_false.2 (by have := U1.out; omega)]; simp)]; rfl, G⟩
      by_cases u2 : e.ppm ≤ 1000000
      rotate_left
      · have U1 := Lib.hid u1; have U2 := Lib.hid u2
        go_wp2_with fail
        all_goals
          go_ret
          exact ⟨by rw [HNO.out (by rw [HPA.out, show inB e.ppm 0 1000000 = false from inB_false.2 (by have := U2.out; omega)]; simp)]; rfl, G⟩
      have T4 : Hid (inB e.ppm 0 1000000 = true) := inB_true.2 ⟨u1, u2⟩
      go_wp2_with fail
      clear z0 z1 q0_0 q0_1 q0_2 q0_3 q0_4 q0_5 f0 q1_0 q1_1 q1_2 f1
      go_loopg [7] k (fun g i wi => ∃ j : Nat, j + g = k ∧ i = .int .i64 j ∧ (l.take j).any (samePr e) = false ∧ Grow w wi ∧ Box wi (w.heap.size) [.int .i64 x.tick, .int .i64 x.next, .int .i64 x.wallet, .slice a0 x.chans.length c0, .slice a1 x.htlcs.length c1, .slice a2 x.circles.length c2] ∧ Box wi (R2.heap.size) [.int .i64 e.frm, .int .i64 e.to, .int .i64 e.ppm])
      case atStart => exact ⟨0, by simp, rfl, by simp, G, B0, B1⟩
      case round =>
        clear G B0 B1
        obtain ⟨j, hj, rfl, hany, G, B0, B1⟩ := hrel
        obtain ⟨R4, rfl⟩ : ∃ V, V = wr := ⟨_, rfl⟩
        have HANY := Lib.hid hany; clear hany
        by_cases hjt : j < k
        · have hjl : j < l.length := by omega
          have HJ := Lib.hid hj; clear hj
          have HSU : Hid ((l.take (j+1)).any (samePr e) = ((l.take j).any (samePr e) || samePr e l[j])) := any_take_succ hjl
          have HHI : Hid (samePr e l[j] = true → (l.take k).any (samePr e) = true) := fun h => any_hit hjl hjt h
          have HSA : Hid (samePr e l[j] = ((l[j].frm == e.frm) && (l[j].to == e.to))) := rfl
          have z0 := B0.lt
          have z1 := B1.lt
          have q0_0 : R4.cell? ⟨w.heap.size, 0, none⟩ = some (.int .i64 x.tick) := B0.c 0 _ rfl
          have q0_1 : R4.cell? ⟨w.heap.size, 1, none⟩ = some (.int .i64 x.next) := B0.c 1 _ rfl
          have q0_2 : R4.cell? ⟨w.heap.size, 2, none⟩ = some (.int .i64 x.wallet) := B0.c 2 _ rfl
          have q0_3 : R4.cell? ⟨w.heap.size, 3, none⟩ = some (.slice a0 x.chans.length c0) := B0.c 3 _ rfl
          have q0_4 : R4.cell? ⟨w.heap.size, 4, none⟩ = some (.slice a1 x.htlcs.length c1) := B0.c 4 _ rfl
          have q0_5 : R4.cell? ⟨w.heap.size, 5, none⟩ = some (.slice a2 x.circles.length c2) := B0.c 5 _ rfl
          have f0 := B0.f
          have q1_0 : R4.cell? ⟨R2.heap.size, 0, none⟩ = some (.int .i64 e.frm) := B1.c 0 _ rfl
          have q1_1 : R4.cell? ⟨R2.heap.size, 1, none⟩ = some (.int .i64 e.to) := B1.c 1 _ rfl
          have q1_2 : R4.cell? ⟨R2.heap.size, 2, none⟩ = some (.int .i64 e.ppm) := B1.c 2 _ rfl
          have f1 := B1.f
          obtain ⟨b_f, off_f, ha_f, hb1_f, hb2_f, hel_f⟩ := H3.out.elems j hjl
          injection ha_f with ha_f
          injection ha_f with qb qo
          subst qb qo
          obtain ⟨ef0, ef1, ef2, -⟩ := Price.atCell (hel_f.same repPrice_stable (G.same (Nat.le_refl _)) hb1_f hb2_f) j hjl
          clear hel_f
          generalize l[j] = f at *
          by_cases v1 : f.frm = e.frm
          rotate_left
          · have VV := Lib.hid v1
            have q1 : (f.frm == e.frm) = false := by simpa using v1
            go_wp2_with fail
            go_quiet (fail)
            go_wp2_with fail
            go_roundg (k - (j + 1))
            case measure => have := HJ.out; omega
            case rel => exact ⟨j + 1, by have := HJ.out; omega, by go_num, by rw [HSU.out, HANY.out, HSA.out]; have := VV.out; simp; omega, (G.drewN _), (B0.drewN _), (B1.drewN _)⟩
          have V1_ := Lib.hid v1
          have q1 : (f.frm == e.frm) = true := by simpa using v1
          by_cases v2 : f.to = e.to
          rotate_left
          · have VV := Lib.hid v2
            have q2 : (f.to == e.to) = false := by simpa using v2
            go_wp2_with fail
            go_quiet (fail)
            go_wp2_with fail
            go_roundg (k - (j + 1))
            case measure => have := HJ.out; omega
            case rel => exact ⟨j + 1, by have := HJ.out; omega, by go_num, by rw [HSU.out, HANY.out, HSA.out]; have := VV.out; simp; omega, (G.drewN _), (B0.drewN _), (B1.drewN _)⟩
          have V2_ := Lib.hid v2
          have q2 : (f.to == e.to) = true := by simpa using v2
          go_wp2_with fail
          go_quiet (fail)
          go_wp2_with fail
          go_ret
          exact ⟨by rw [HNO.out (by rw [HPA.out, HHI.out (by rw [HSA.out]; have := V1_.out; have := V2_.out; simp; omega)]; simp)]; rfl, (G.drewN _)⟩
        · obtain rfl : j = k := by omega
          have z0 := B0.lt
          have z1 := B1.lt
          have q0_0 : R4.cell? ⟨w.heap.size, 0, none⟩ = some (.int .i64 x.tick) := B0.c 0 _ rfl
          have q0_1 : R4.cell? ⟨w.heap.size, 1, none⟩ = some (.int .i64 x.next) := B0.c 1 _ rfl
          have q0_2 : R4.cell? ⟨w.heap.size, 2, none⟩ = some (.int .i64 x.wallet) := B0.c 2 _ rfl
          have q0_3 : R4.cell? ⟨w.heap.size, 3, none⟩ = some (.slice a0 x.chans.length c0) := B0.c 3 _ rfl
          have q0_4 : R4.cell? ⟨w.heap.size, 4, none⟩ = some (.slice a1 x.htlcs.length c1) := B0.c 4 _ rfl
          have q0_5 : R4.cell? ⟨w.heap.size, 5, none⟩ = some (.slice a2 x.circles.length c2) := B0.c 5 _ rfl
          have f0 := B0.f
          have q1_0 : R4.cell? ⟨R2.heap.size, 0, none⟩ = some (.int .i64 e.frm) := B1.c 0 _ rfl
          have q1_1 : R4.cell? ⟨R2.heap.size, 1, none⟩ = some (.int .i64 e.to) := B1.c 1 _ rfl
          have q1_2 : R4.cell? ⟨R2.heap.size, 2, none⟩ = some (.int .i64 e.ppm) := B1.c 2 _ rfl
          have f1 := B1.f
          go_wp2_with fail
          go_roundg (l.length - (j + 1))
          case measure => have := HK.out; omega
          case rel => exact ⟨j + 1, by have := HK.out; omega, by go_num, fun i hi => by
                    by_cases he : i = j
                    · rw [he, HPA.out, HTW2.out, T4.out, HANY.out]; rfl
                    · exact HALL.out i (by omega), G, B0⟩
    · have hr : pricesOk x l = true := by rw [HHEAD.out]; exact range_yes (fun j hj => HALL.out j (by omega))
      have HR := Lib.hid hr; clear hr
      go_wp2_with fail
      go_ret
      exact ⟨by rw [HR.out]; rfl, G⟩

end Go.Proofs.Ytbjnbhlpibadnaa

/- Bands and rules, of the program and of the reference. -/
namespace Go.Proofs.Ytbjnbhlpibadnaa
open Go.RowKit
set_option linter.unusedSimpArgs false
set_option linter.unusedVariables false

def band (lo hi : Int) : Bool := inB lo 0 100 && inB hi lo 100
theorem band_iff {lo hi : Int} : band lo hi = true ↔ 0 ≤ lo ∧ lo ≤ hi ∧ hi ≤ 100 := by simp [band, inB]; omega
def part (n : Int) : Bool := inB n 0 1000000
theorem impl_isBand_c (lo hi : Int) (w : World) :
    Calls Try.prog 84 #[.int .i64 lo, .int .i64 hi] w fun e w' => e = .returned (.bool (band lo hi)) ∧ w = w' := by
  unfold band
  cases h1 : inB lo 0 100
  all_goals
    go_enter Try.func84, Try.ntmps84
    go_wp2_with (go_at_call 85; refine (in_c _ _ _ _).mono ?_; rintro e w' ⟨rfl, rfl⟩)
    go_ret
    exact ⟨by simp, rfl⟩

theorem spec_Band_c (lo hi : Int) (w : World) :
    Calls Try.prog 79 #[.int .i64 lo, .int .i64 hi] w fun e w' => e = .returned (.bool (band lo hi)) ∧ w = w' := by
  by_cases h1 : 0 ≤ lo <;> by_cases h2 : lo ≤ hi <;> by_cases h3 : hi ≤ 100
  all_goals
    have hr : band lo hi = (decide (0 ≤ lo) && decide (lo ≤ hi) && decide (hi ≤ 100)) := by
      unfold band inB; rw [Bool.eq_iff_iff]; simp; omega
    simp only [h1, h2, h3, decide_true, decide_false, Bool.and_true, Bool.and_false, Bool.true_and, Bool.false_and] at hr
    have HR := Lib.hid hr; clear hr
    go_enter Try.func79, Try.ntmps79
    go_wp2
    go_ret
    exact ⟨by rw [HR.out]; rfl, rfl⟩

end Go.Proofs.Ytbjnbhlpibadnaa

/- Quotients of products: the reference's, bit by bit. -/
namespace Go.Proofs.Ytbjnbhlpibadnaa
open Go.RowKit
set_option linter.unusedSimpArgs false
set_option linter.unusedVariables false

theorem bit_of (a : Int) (m : Nat) (h0 : 0 ≤ a) (h1 : a ≤ 1125899906842624) : bits BinOp.and IntKind.i64 (a / 2 ^ m) 1 = a / 2 ^ m % 2 := by
  obtain ⟨A, rfl⟩ := Int.eq_ofNat_of_zero_le h0
  have h2 : A / 2 ^ m ≤ A := Nat.div_le_self _ _
  have := and_one (A / 2 ^ m) (by omega)
  have e : ((A / 2 ^ m : Nat) : Int) = (A : Int) / 2 ^ m := by simp
  rw [e] at this
  rw [this]
  have e2 : ((A / 2 ^ m % 2 : Nat) : Int) = ((A / 2 ^ m : Nat) : Int) % 2 := by simp
  rw [e2, e]
theorem half_of (a : Int) (m : Nat) : a / 2 ^ m = 2 * (a / 2 ^ (m + 1)) + a / 2 ^ m % 2 := by
  have h : a / 2 ^ (m + 1) = a / 2 ^ m / 2 := by
    rw [Int.pow_succ, Int.ediv_ediv_of_nonneg (Int.pow_nonneg (by omega))]
  rw [h]; omega
theorem step_one {Q R c X X1 b : Int} (hX : X = 2 * X1 + 1) (h : Q * c + R = X1 * b) : (2 * Q + b / c) * c + (2 * R + b % c) = X * b := by
  have hb : b / c * c + b % c = b := by rw [Int.mul_comm]; exact Int.mul_ediv_add_emod b c
  have e1 : (2 * Q + b / c) * c = 2 * (Q * c) + b / c * c := by rw [Int.add_mul, Int.mul_assoc]
  have e2 : X * b = 2 * (X1 * b) + b := by rw [hX, Int.add_mul, Int.mul_assoc, Int.one_mul]
  rw [e1, e2, ← h]; omega
theorem step_zero {Q R c X X1 b : Int} (hX : X = 2 * X1) (h : Q * c + R = X1 * b) : (2 * Q) * c + 2 * R = X * b := by
  have e1 : (2 * Q) * c = 2 * (Q * c) := by rw [Int.mul_assoc]
  have e2 : X * b = 2 * (X1 * b) := by rw [hX, Int.mul_assoc]
  rw [e1, e2, ← h]; omega
theorem step_in {Q R c P : Int} (h : Q * c + R = P) : (Q + 1) * c + (R - c) = P := by
  rw [Int.add_mul, Int.one_mul]; omega
theorem quo_of {Q R c P : Int} (h : Q * c + R = P) (h0 : 0 ≤ R) (h1 : R < c) : P / c = Q ∧ P % c = R := by
  have hc : c ≠ 0 := by omega
  subst h
  constructor
  · rw [Int.add_comm, Int.add_mul_ediv_right _ _ hc, Int.ediv_eq_zero_of_lt h0 h1]; omega
  · rw [Int.add_comm, Int.add_mul_emod_self_right, Int.emod_eq_of_lt h0 h1]
theorem quo_big {Q R c a b : Int} {m : Nat} (ha : 0 ≤ a) (hb : 0 ≤ b) (hc : 1 ≤ c) (h : Q * c + R = a / 2 ^ m * b) (h0 : 0 ≤ R) (hQ : 1125899906842624 < Q) : ¬ a * b / c ≤ 1125899906842624 := by
  have h1 : a / 2 ^ m * b ≤ a * b := Int.mul_le_mul_of_nonneg_right (Int.ediv_le_self _ ha) hb
  have h2 : Q ≤ a * b / c := Int.le_ediv_of_mul_le (by omega) (by omega)
  omega
theorem div_bd {b c : Int} (b1 : 0 ≤ b) (c1 : 1 ≤ c) : 0 ≤ b / c ∧ b / c ≤ b ∧ 0 ≤ b % c ∧ b % c < c :=
  ⟨Int.ediv_nonneg b1 (by omega), Int.ediv_le_self _ b1, Int.emod_nonneg _ (by omega), Int.emod_lt_of_pos _ (by omega)⟩

/-- The quotient and the rest, or nothing where the quotient is no amount. -/
def divRes (a b c : Int) : Value := if a * b / c ≤ 1125899906842624 then .tuple #[.int .i64 (a * b / c), .int .i64 (a * b % c), .bool true] else .tuple #[.int .i64 0, .int .i64 0, .bool false]

set_option maxHeartbeats 4000000 in
set_option maxRecDepth 100000 in
theorem spec_l01Div_c (a b c : Int) (w : World) (a1 : 0 ≤ a) (a2 : a ≤ 1125899906842624) (b1 : 0 ≤ b) (b2 : b ≤ 1125899906842624) (c1 : 1 ≤ c) (c2 : c ≤ 1125899906842624) :
    Calls Try.prog 128 #[.int .i64 a, .int .i64 b, .int .i64 c] w fun e w' => e = .returned (divRes a b c) ∧ w = w' := by
  obtain ⟨d1, d2, d3, d4⟩ := div_bd b1 c1
  go_enter Try.func128, Try.ntmps128
  go_wp2
  go_loopg [9, 10, 11] 51 (fun g q r i wr => ∃ (Q R : Int), g ≤ 51 ∧ i = .int .i64 ((g : Int) - 1) ∧ q = .int .i64 Q ∧ r = .int .i64 R ∧ 0 ≤ Q ∧ Q ≤ 1125899906842624 ∧ 0 ≤ R ∧ R < c ∧ Q * c + R = a / 2 ^ g * b ∧ wr = w)
  case atStart =>
    refine ⟨0, 0, by omega, by go_num, rfl, rfl, by omega, by omega, by omega, by omega, ?_, rfl⟩
    rw [Int.ediv_eq_zero_of_lt a1 (by omega)]; simp
  case round =>
    obtain ⟨Q, R, hj, rfl, rfl, rfl, q1, q2, r1, r2, hq, rfl⟩ := hrel
    cases gk with
    | zero =>
      simp only [Int.pow_zero, Int.ediv_one] at hq
      obtain ⟨h1, h2⟩ := quo_of hq r1 r2
      have hle : a * b / c ≤ 1125899906842624 := by omega
      have H1 := Lib.hid h1; have H2 := Lib.hid h2; have HLE := Lib.hid hle; clear h1 h2 hle hq
      have e1 : ((0 : Nat) : Int) - 1 = -1 := by omega
      rw [e1]
      go_wp2
      go_ret3
      exact ⟨by unfold divRes; rw [if_pos HLE.out, H1.out, H2.out]; rfl, rfl⟩
    | succ m =>
      have HQ := Lib.hid hq; clear hq
      have e1 : ((m + 1 : Nat) : Int) - 1 = (m : Int) := by omega
      rw [e1]
      clear e1
      have hm : m ≤ 50 := by omega
      have hbt := bit_of a m a1 a2
      have hhf := half_of a m
      have HHF := Lib.hid hhf; clear hhf
      by_cases hbit : a / 2 ^ m % 2 = 1
      all_goals
        have HB : Hid _ := hbit
      · have hb1 : (bits BinOp.and IntKind.i64 (a / 2 ^ m) 1 == 1) = true := by rw [hbt, hbit]; rfl
        have hst : (2 * Q + b / c) * c + (2 * R + b % c) = a / 2 ^ m * b := step_one (by have := HHF.out; omega) HQ.out
        have HST := Lib.hid hst
        clear hbt hbit hst
        go_wp2_with fail
        go_loopg [9, 10] (2 * R + b % c).toNat (fun g q r wr' => ∃ (Q' R' : Int), g = R'.toNat ∧ q = .int .i64 Q' ∧ r = .int .i64 R' ∧ 0 ≤ Q' ∧ 0 ≤ R' ∧ Q' + R' ≤ 8 * 1125899906842624 ∧ Q' * c + R' = a / 2 ^ m * b ∧ wr' = wr)
        case atStart => exact ⟨2 * Q + b / c, 2 * R + b % c, rfl, rfl, rfl, by omega, by omega, by omega, HST.out, rfl⟩
        case round =>
          obtain ⟨Q', R', hgk, rfl, rfl, s1, s2, s3, hqq, rfl⟩ := hrel
          have HGK := Lib.hid hgk; have HQQ := Lib.hid hqq; clear hgk hqq
          by_cases hge : c ≤ R'
          · have hstep := step_in HQQ.out
            have HSTEP := Lib.hid hstep; clear hstep
            go_wp2_with fail
            go_roundg (R' - c).toNat
            case measure => have := HGK.out; omega
            case rel => exact ⟨Q' + 1, R' - c, rfl, rfl, rfl, by omega, by omega, by omega, HSTEP.out, rfl⟩
          · by_cases hbig : 1125899906842624 < Q'
            · have hno := quo_big a1 b1 c1 HQQ.out s2 hbig
              have HNO := Lib.hid hno; clear hno
              go_wp2_with fail
              go_ret3
              exact ⟨by unfold divRes; rw [if_neg (by have := HNO.out; omega)]; rfl, rfl⟩
            · go_wp2_with fail
              go_roundg m
              case measure => omega
              case rel => exact ⟨Q', R', by omega, by go_num, rfl, rfl, by omega, by omega, by omega, by omega, HQQ.out, rfl⟩
      · have hb1 : (bits BinOp.and IntKind.i64 (a / 2 ^ m) 1 == 1) = false := by rw [hbt]; simpa using hbit
        have hst : (2 * Q) * c + 2 * R = a / 2 ^ m * b := step_zero (by have := HHF.out; omega) HQ.out
        have HST := Lib.hid hst
        clear hbt hbit hst
        go_wp2_with fail
        go_loopg [9, 10] (2 * R).toNat (fun g q r wr' => ∃ (Q' R' : Int), g = R'.toNat ∧ q = .int .i64 Q' ∧ r = .int .i64 R' ∧ 0 ≤ Q' ∧ 0 ≤ R' ∧ Q' + R' ≤ 8 * 1125899906842624 ∧ Q' * c + R' = a / 2 ^ m * b ∧ wr' = wr)
        case atStart => exact ⟨2 * Q, 2 * R, rfl, rfl, rfl, by omega, by omega, by omega, HST.out, rfl⟩
        case round =>
          obtain ⟨Q', R', hgk, rfl, rfl, s1, s2, s3, hqq, rfl⟩ := hrel
          have HGK := Lib.hid hgk; have HQQ := Lib.hid hqq; clear hgk hqq
          by_cases hge : c ≤ R'
          · have hstep := step_in HQQ.out
            have HSTEP := Lib.hid hstep; clear hstep
            go_wp2_with fail
            go_roundg (R' - c).toNat
            case measure => have := HGK.out; omega
            case rel => exact ⟨Q' + 1, R' - c, rfl, rfl, rfl, by omega, by omega, by omega, HSTEP.out, rfl⟩
          · by_cases hbig : 1125899906842624 < Q'
            · have hno := quo_big a1 b1 c1 HQQ.out s2 hbig
              have HNO := Lib.hid hno; clear hno
              go_wp2_with fail
              go_ret3
              exact ⟨by unfold divRes; rw [if_neg (by have := HNO.out; omega)]; rfl, rfl⟩
            · go_wp2_with fail
              go_roundg m
              case measure => omega
              case rel => exact ⟨Q', R', by omega, by go_num, rfl, rfl, by omega, by omega, by omega, by omega, HQQ.out, rfl⟩
end Go.Proofs.Ytbjnbhlpibadnaa

/-
  DERIVED: THE SHELF's CONTRACTS AT THIS DUMP, IN PLAIN WORDS (tools/lay-plain.mjs out of 'TryShelf.lean', which tools/lay-shelf.mjs wrote): THE SAME DECLARATIONS UNDER THE SAME NAMES: 'import', 'namespace', 'open', 'def', 'theorem' AND NOTHING ELSE: no command of the shelf's: FOR A HAND-IN. Each laying: the table of numbers ('.._ren') and one theorem, a field a fact of the dump's own or the kernel's comparison; each contract: ONE APPLICATION.
-/
namespace Go.Proofs
open Go.Shelf
def Try.lays134_ren : Go.Shelf.Ren := ⟨fun | 134 => 132 | 129 => 133 | n => n, fun | 53 => 171 | 3 => 3 | 4 => 4 | 46 => 175 | 5 => 5 | 9 => 9 | n => n, fun | n => n⟩
theorem Try.lays134 : Go.Proofs.Lays.n134 Try.prog Try.lays134_ren := {
  mixed := by kernel_rfl
  f129 := Try.func133.trans (congrArg some (by kernel_rfl))
  f134 := Try.func132.trans (congrArg some (by kernel_rfl))
  t3 := Try.underlying3
  a3 := Try.isAgg3
  z3 := Try.sizeOf3
  v3 := Try.zeroValue3
  t4 := Try.underlying4
  a4 := Try.isAgg4
  z4 := Try.sizeOf4
  v4 := Try.zeroValue4
  t5 := Try.underlying5
  a5 := Try.isAgg5
  z5 := Try.sizeOf5
  v5 := Try.zeroValue5
  t9 := Try.underlying9
  a9 := Try.isAgg9
  z9 := Try.sizeOf9
  v9 := Try.zeroValue9
  t46 := Try.underlying175
  a46 := Try.isAgg175
  z46 := Try.sizeOf175
  v46 := Try.zeroValue175
  t53 := Try.underlying171
  a53 := Try.isAgg171
  z53 := Try.sizeOf171
  v53 := Try.zeroValue171 }
/-- bits.LeadingZeros64: "LeadingZeros64 returns the number of leading zero bits in x; the result is 64 for x == 0.": IT RETURNS '64 - Lib.bitLen x'; the world is as it was. ITS CALLEE bits.Len64 IS MET BY ITS OWN CONTRACT OFF THE SHELF (lay that first): entered in place it sends the kernel out of memory. (LAID: no walk: one application.) -/
theorem Try.bits_LeadingZeros64 (x : Int) (w : World) (h0 : 0 ≤ x) (h1 : x ≤ 18446744073709551615) :
    Calls Try.prog 132 #[.int .u64 x] w fun e w' => e = .returned (.int .i64 (64 - (Lib.bitLen x.toNat : Int))) ∧ w' = w := Any.bits_LeadingZeros64 Try.lays134 x w h0 h1
def Try.lays129_ren : Go.Shelf.Ren := ⟨fun | 129 => 133 | n => n, fun | 53 => 171 | 3 => 3 | 4 => 4 | 46 => 175 | 5 => 5 | 9 => 9 | n => n, fun | n => n⟩
theorem Try.lays129 : Go.Proofs.Lays.n129 Try.prog Try.lays129_ren := {
  mixed := by kernel_rfl
  f129 := Try.func133.trans (congrArg some (by kernel_rfl))
  t3 := Try.underlying3
  a3 := Try.isAgg3
  z3 := Try.sizeOf3
  v3 := Try.zeroValue3
  t4 := Try.underlying4
  a4 := Try.isAgg4
  z4 := Try.sizeOf4
  v4 := Try.zeroValue4
  t5 := Try.underlying5
  a5 := Try.isAgg5
  z5 := Try.sizeOf5
  v5 := Try.zeroValue5
  t9 := Try.underlying9
  a9 := Try.isAgg9
  z9 := Try.sizeOf9
  v9 := Try.zeroValue9
  t46 := Try.underlying175
  a46 := Try.isAgg175
  z46 := Try.sizeOf175
  v46 := Try.zeroValue175
  t53 := Try.underlying171
  a53 := Try.isAgg171
  z53 := Try.sizeOf171
  v53 := Try.zeroValue171 }
/-- bits.Len64: "Len64 returns the minimum number of bits required to represent x; the result is 0 for x == 0.": IT RETURNS 'Lib.bitLen x'; the world is as it was. ('h0', 'h1': x is a uint64.) (LAID: no walk: one application.) -/
theorem Try.bits_Len64 (x : Int) (w : World) (h0 : 0 ≤ x) (h1 : x ≤ 18446744073709551615) :
    Calls Try.prog 133 #[.int .u64 x] w fun e w' => e = .returned (.int .i64 (Lib.bitLen x.toNat)) ∧ w' = w := Any.bits_Len64 Try.lays129 x w h0 h1
def Try.lays264_ren : Go.Shelf.Ren := ⟨fun | 264 => 130 | n => n, fun | 53 => 171 | 46 => 175 | n => n, fun | n => n⟩
theorem Try.lays264 : Go.Proofs.Lays.n264 Try.prog Try.lays264_ren := {
  mixed := by kernel_rfl
  f264 := Try.func130.trans (congrArg some (by kernel_rfl))
  t46 := Try.underlying175
  a46 := Try.isAgg175
  z46 := Try.sizeOf175
  v46 := Try.zeroValue175
  t53 := Try.underlying171
  a53 := Try.isAgg171
  z53 := Try.sizeOf171
  v53 := Try.zeroValue171 }
open Go.RowKit Go.Lib in
theorem Try.bits_Mul64 (x y : Nat) (hx : x < 18446744073709551616) (hy : y < 18446744073709551616) (w : World) :
    Calls Try.prog 130 #[.int .u64 x, .int .u64 y] w fun e w' => e = .returned (.tuple #[.int .u64 ((x * y / 18446744073709551616 : Nat) : Int), .int .u64 ((x * y % 18446744073709551616 : Nat) : Int)]) ∧ w' = w := Any.bits_Mul64 Try.lays264 x y hx hy w
end Go.Proofs

/- Quotients of products: the program's, where the product is below 2^64; MulDiv of both at such numbers. -/
namespace Go.Proofs.Ytbjnbhlpibadnaa
open Go.RowKit
set_option linter.unusedSimpArgs false
set_option linter.unusedVariables false

set_option maxHeartbeats 4000000 in
set_option maxRecDepth 100000 in
theorem Div64_low_c (lo y : Int) (w : World) (h0 : 0 ≤ lo) (h1 : lo ≤ 18446744073709551615) (y0 : 1 ≤ y) (y1 : y ≤ 18446744073709551615) :
    Calls Try.prog 131 #[.int .u64 0, .int .u64 lo, .int .u64 y] w fun e w' => e = .returned (.tuple #[.int .u64 (lo / y), .int .u64 (lo % y)]) ∧ ∃ n, w' = w.drewN n := by
  have hy : (y == 0) = false := by simp; omega
  have hy2 : y ≠ 0 := by omega
  have hy3 : decide (y ≤ 0) = false := by simp; omega
  go_enter Try.func131, Try.ntmps131
  go_wp2_with fail
  go_quiet (fail)
  go_wp2_with fail
  go_ret2
  exact ⟨rfl, _, rfl⟩

theorem Mul64_small (a b : Int) (w : World) (a1 : 0 ≤ a) (b1 : 0 ≤ b) (a2 : a ≤ 1125899906842624) (b2 : b ≤ 1125899906842624) (hs : a * b ≤ 18446744073709551615) :
    Calls Try.prog 130 #[.int .u64 a, .int .u64 b] w fun e w' => e = .returned (.tuple #[.int .u64 0, .int .u64 (a * b)]) ∧ w' = w := by
  obtain ⟨A, rfl⟩ := Int.eq_ofNat_of_zero_le a1
  obtain ⟨B, rfl⟩ := Int.eq_ofNat_of_zero_le b1
  have hAB : A * B ≤ 18446744073709551615 := by
    have : ((A * B : Nat) : Int) ≤ 18446744073709551615 := by rw [Int.natCast_mul]; exact hs
    omega
  refine (Try.bits_Mul64 A B (by omega) (by omega) w).mono ?_
  rintro e w' ⟨rfl, rfl⟩
  refine ⟨?_, rfl⟩
  rw [Nat.div_eq_of_lt (by omega), Nat.mod_eq_of_lt (by omega), Int.natCast_mul]
  rfl

set_option maxHeartbeats 4000000 in
set_option maxRecDepth 100000 in
theorem impl_divided_small (a b c : Int) (w : World) (a1 : 0 ≤ a) (a2 : a ≤ 1125899906842624) (b1 : 0 ≤ b) (b2 : b ≤ 1125899906842624) (c1 : 1 ≤ c) (c2 : c ≤ 1125899906842624) (hs : a * b ≤ 18446744073709551615) :
    Calls Try.prog 129 #[.int .i64 a, .int .i64 b, .int .i64 c] w fun e w' => e = .returned (divRes a b c) ∧ Grow w w' := by
  have hab : 0 ≤ a * b := Int.mul_nonneg a1 b1
  have hq0 : 0 ≤ a * b / c := Int.ediv_nonneg hab (by omega)
  have hq1 : a * b / c ≤ 18446744073709551615 := Int.le_trans (Int.ediv_le_self _ hab) hs
  have hr0 : 0 ≤ a * b % c := Int.emod_nonneg _ (by omega)
  have hr1 : a * b % c ≤ 1125899906842624 := by have := Int.emod_lt_of_pos (a * b) (show 0 < c by omega); omega
  have ha : amtOk a = true := amtOk_true.2 ⟨a1, a2⟩
  have hb : amtOk b = true := amtOk_true.2 ⟨b1, b2⟩
  have hc : inB c 1 1125899906842624 = true := inB_true.2 ⟨c1, c2⟩
  have hd : decide (c ≤ (0 : Int)) = false := by simp; omega
  have HS := Lib.hid hs; clear hs
  by_cases hbig : a * b / c ≤ 1125899906842624
  all_goals
    have HBIG : Hid _ := hbig
  · have hd2 : decide ((1125899906842624 : Int) < a * b / c) = false := by simp; omega
    go_enter Try.func129, Try.ntmps129
    go_wp2_with (first
      | (go_at_call 105; refine (impl_AmtOk_c _ _).mono ?_; rintro e w' ⟨rfl, rfl⟩)
      | (go_at_call 85; refine (in_c _ _ _ _).mono ?_; rintro e w' ⟨rfl, rfl⟩)
      | (go_at_call 130; refine (Mul64_small a b _ a1 b1 a2 b2 HS.out).mono ?_; rintro e w' ⟨rfl, rfl⟩)
      | (go_at_call 131; refine (Div64_low_c _ _ _ (by assumption) HS.out (by omega) (by omega)).mono ?_; rintro e w' ⟨rfl, n, rfl⟩))
    go_ret3
    exact ⟨by unfold divRes; rw [if_pos (by have : _ := HBIG.out; omega)]; rfl, (Grow.refl _).drewN _⟩
  · have hd2 : decide ((1125899906842624 : Int) < a * b / c) = true := by simp; omega
    go_enter Try.func129, Try.ntmps129
    go_wp2_with (first
      | (go_at_call 105; refine (impl_AmtOk_c _ _).mono ?_; rintro e w' ⟨rfl, rfl⟩)
      | (go_at_call 85; refine (in_c _ _ _ _).mono ?_; rintro e w' ⟨rfl, rfl⟩)
      | (go_at_call 130; refine (Mul64_small a b _ a1 b1 a2 b2 HS.out).mono ?_; rintro e w' ⟨rfl, rfl⟩)
      | (go_at_call 131; refine (Div64_low_c _ _ _ (by assumption) HS.out (by omega) (by omega)).mono ?_; rintro e w' ⟨rfl, n, rfl⟩))
    go_ret3
    exact ⟨by unfold divRes; rw [if_neg (by have : _ := HBIG.out; omega)]; rfl, (Grow.refl _).drewN _⟩
end Go.Proofs.Ytbjnbhlpibadnaa

/- Ends and NextPpm, of the program and of the reference. -/
namespace Go.Proofs.Ytbjnbhlpibadnaa
open Go.RowKit
set_option linter.unusedSimpArgs false
set_option linter.unusedVariables false

def clamp (n lo hi : Int) : Int := if n < lo then lo else if hi < n then hi else n

theorem spec_Clamp_c (n lo hi : Int) (w : World) :
    Calls Try.prog 117 #[.int .i64 n, .int .i64 lo, .int .i64 hi] w fun e w' => e = .returned (.int .i64 (clamp n lo hi)) ∧ w = w' := by
  unfold clamp
  by_cases h1 : n < lo <;> by_cases h2 : hi < n
  all_goals
    go_enter Try.func117, Try.ntmps117
    go_wp2
    all_goals
      go_ret
      exact ⟨by simp [*], rfl⟩

theorem pct_bd {a b : Int} (a1 : 0 ≤ a) (a2 : a ≤ 1125899906842624) (b1 : 0 ≤ b) (b2 : b ≤ 100) : 0 ≤ a * b ∧ a * b ≤ 112589990684262400 ∧ a * b / 100 ≤ 1125899906842624 := by
  have h1 : 0 ≤ a * b := Int.mul_nonneg a1 b1
  have h2 : a * b ≤ 1125899906842624 * b := Int.mul_le_mul_of_nonneg_right a2 b1
  refine ⟨h1, by omega, by omega⟩

set_option maxHeartbeats 2000000 in
theorem impl_MulDiv_pct (a b : Int) (w : World) (a1 : 0 ≤ a) (a2 : a ≤ 1125899906842624) (b1 : 0 ≤ b) (b2 : b ≤ 100) :
    Calls Try.prog 118 #[.int .i64 a, .int .i64 b, .int .i64 100] w fun e w' => e = .returned (.tuple #[.int .i64 (a * b / 100), .bool true]) ∧ Grow w w' := by
  obtain ⟨p1, p2, p3⟩ := pct_bd a1 a2 b1 b2
  have hd : divRes a b 100 = .tuple #[.int .i64 (a * b / 100), .int .i64 (a * b % 100), .bool true] := by unfold divRes; rw [if_pos p3]
  have HD := Lib.hid hd; clear hd
  go_enter Try.func118, Try.ntmps118
  go_wp2_with fail
  refine (impl_divided_small a b 100 _ a1 a2 b1 (by omega) (by omega) (by omega) (by omega)).mono ?_
  rintro e w1 ⟨rfl, g1⟩
  rw [HD.out]
  go_wp2_with fail
  go_ret2
  exact ⟨rfl, g1⟩

set_option maxHeartbeats 2000000 in
theorem spec_MulDiv_pct (a b : Int) (w : World) (a1 : 0 ≤ a) (a2 : a ≤ 1125899906842624) (b1 : 0 ≤ b) (b2 : b ≤ 100) :
    Calls Try.prog 116 #[.int .i64 a, .int .i64 b, .int .i64 100] w fun e w' => e = .returned (.tuple #[.int .i64 (a * b / 100), .bool true]) ∧ Grow w w' := by
  obtain ⟨p1, p2, p3⟩ := pct_bd a1 a2 b1 b2
  have hd : divRes a b 100 = .tuple #[.int .i64 (a * b / 100), .int .i64 (a * b % 100), .bool true] := by unfold divRes; rw [if_pos p3]
  have HD := Lib.hid hd; clear hd
  have ha : amtOk a = true := amtOk_true.2 ⟨a1, a2⟩
  have hb : amtOk b = true := amtOk_true.2 ⟨b1, by omega⟩
  go_enter Try.func116, Try.ntmps116
  go_wp2_with (first
    | (go_at_call 95; refine (spec_AmtOk_c _ _).mono ?_; rintro e w' ⟨rfl, rfl⟩)
    | (go_at_call 128; refine (spec_l01Div_c a b 100 _ a1 a2 b1 (by omega) (by omega) (by omega)).mono ?_; rintro e w' ⟨rfl, rfl⟩; rw [HD.out]))
  go_ret2
  exact ⟨rfl, Grow.refl _⟩

def ends1 (size lo hi : Int) : Int := if band lo hi && amtOk size then size * lo / 100 else 0
def ends2 (size lo hi : Int) : Int := if band lo hi && amtOk size then size * hi / 100 else 0

set_option maxHeartbeats 2000000 in
theorem impl_Ends_c (c : Chan) (lo hi : Int) (w : World) :
    Calls Try.prog 86 #[.agg #[.int .i64 c.id, .int .i64 c.size, .int .i64 c.loc, .int .i64 c.remote, .int .i64 c.base, .int .i64 c.ppm, .int .i64 c.score], .int .i64 lo, .int .i64 hi] w fun e w' => e = .returned (.tuple #[.int .i64 (ends1 c.size lo hi), .int .i64 (ends2 c.size lo hi)]) ∧ Grow w w' := by
  obtain ⟨id, size, loc, remote, base, ppm, score⟩ := c
  by_cases hb : band lo hi = true
  rotate_left
  · have hb : band lo hi = false := by simpa using hb
    have h1 : ends1 size lo hi = 0 := by simp [ends1, hb]
    have h2 : ends2 size lo hi = 0 := by simp [ends2, hb]
    have H1 := Lib.hid h1; have H2 := Lib.hid h2; clear h1 h2
    go_enter Try.func86, Try.ntmps86
    go_wp2_with (first
      | (go_at_call 84; refine (impl_isBand_c _ _ _).mono ?_; rintro e w' ⟨rfl, rfl⟩)
      | (go_at_call 105; refine (impl_AmtOk_c _ _).mono ?_; rintro e w' ⟨rfl, rfl⟩))
    go_ret2
    exact ⟨by rw [H1.out, H2.out]; rfl, (Grow.refl _).alloc _ _⟩
  by_cases ha : amtOk size = true
  rotate_left
  · have ha : amtOk size = false := by simpa using ha
    have h1 : ends1 size lo hi = 0 := by simp [ends1, ha]
    have h2 : ends2 size lo hi = 0 := by simp [ends2, ha]
    have H1 := Lib.hid h1; have H2 := Lib.hid h2; clear h1 h2
    go_enter Try.func86, Try.ntmps86
    go_wp2_with (first
      | (go_at_call 84; refine (impl_isBand_c _ _ _).mono ?_; rintro e w' ⟨rfl, rfl⟩)
      | (go_at_call 105; refine (impl_AmtOk_c _ _).mono ?_; rintro e w' ⟨rfl, rfl⟩))
    go_ret2
    exact ⟨by rw [H1.out, H2.out]; rfl, (Grow.refl _).alloc _ _⟩
  have h1 : ends1 size lo hi = size * lo / 100 := by simp [ends1, hb, ha]
  have h2 : ends2 size lo hi = size * hi / 100 := by simp [ends2, hb, ha]
  have H1 := Lib.hid h1; have H2 := Lib.hid h2; clear h1 h2
  obtain ⟨b1, b2, b3⟩ := band_iff.1 hb
  obtain ⟨a1, a2⟩ := amtOk_true.1 ha
  go_enter Try.func86, Try.ntmps86
  go_wp2_with (first
    | (go_at_call 84; refine (impl_isBand_c _ _ _).mono ?_; rintro e w' ⟨rfl, rfl⟩)
    | (go_at_call 105; refine (impl_AmtOk_c _ _).mono ?_; rintro e w' ⟨rfl, rfl⟩))
  refine (impl_MulDiv_pct size lo _ a1 a2 b1 (by omega)).mono ?_
  rintro e w1 ⟨rfl, g1⟩
  have c1 := cellGrow g1 (cell_new 1 rfl)
  go_wp2_with fail
  refine (impl_MulDiv_pct size hi _ a1 a2 (by omega) b3).mono ?_
  rintro e w2 ⟨rfl, g2⟩
  go_wp2_with fail
  go_ret2
  exact ⟨by rw [H1.out, H2.out]; rfl, (((Grow.refl _).alloc _ _).trans g1).trans g2⟩

set_option maxHeartbeats 2000000 in
theorem spec_Ends_c (c : Chan) (lo hi : Int) (w : World) :
    Calls Try.prog 80 #[.agg #[.int .i64 c.id, .int .i64 c.size, .int .i64 c.loc, .int .i64 c.remote, .int .i64 c.base, .int .i64 c.ppm, .int .i64 c.score], .int .i64 lo, .int .i64 hi] w fun e w' => e = .returned (.tuple #[.int .i64 (ends1 c.size lo hi), .int .i64 (ends2 c.size lo hi)]) ∧ Grow w w' := by
  obtain ⟨id, size, loc, remote, base, ppm, score⟩ := c
  by_cases hb : band lo hi = true
  rotate_left
  · have hb : band lo hi = false := by simpa using hb
    have h1 : ends1 size lo hi = 0 := by simp [ends1, hb]
    have h2 : ends2 size lo hi = 0 := by simp [ends2, hb]
    have H1 := Lib.hid h1; have H2 := Lib.hid h2; clear h1 h2
    go_enter Try.func80, Try.ntmps80
    go_wp2_with (first
      | (go_at_call 79; refine (spec_Band_c _ _ _).mono ?_; rintro e w' ⟨rfl, rfl⟩)
      | (go_at_call 95; refine (spec_AmtOk_c _ _).mono ?_; rintro e w' ⟨rfl, rfl⟩))
    go_ret2
    exact ⟨by rw [H1.out, H2.out]; rfl, (Grow.refl _).alloc _ _⟩
  by_cases ha : amtOk size = true
  rotate_left
  · have ha : amtOk size = false := by simpa using ha
    have h1 : ends1 size lo hi = 0 := by simp [ends1, ha]
    have h2 : ends2 size lo hi = 0 := by simp [ends2, ha]
    have H1 := Lib.hid h1; have H2 := Lib.hid h2; clear h1 h2
    go_enter Try.func80, Try.ntmps80
    go_wp2_with (first
      | (go_at_call 79; refine (spec_Band_c _ _ _).mono ?_; rintro e w' ⟨rfl, rfl⟩)
      | (go_at_call 95; refine (spec_AmtOk_c _ _).mono ?_; rintro e w' ⟨rfl, rfl⟩))
    go_ret2
    exact ⟨by rw [H1.out, H2.out]; rfl, (Grow.refl _).alloc _ _⟩
  have h1 : ends1 size lo hi = size * lo / 100 := by simp [ends1, hb, ha]
  have h2 : ends2 size lo hi = size * hi / 100 := by simp [ends2, hb, ha]
  have H1 := Lib.hid h1; have H2 := Lib.hid h2; clear h1 h2
  obtain ⟨b1, b2, b3⟩ := band_iff.1 hb
  obtain ⟨a1, a2⟩ := amtOk_true.1 ha
  go_enter Try.func80, Try.ntmps80
  go_wp2_with (first
    | (go_at_call 79; refine (spec_Band_c _ _ _).mono ?_; rintro e w' ⟨rfl, rfl⟩)
    | (go_at_call 95; refine (spec_AmtOk_c _ _).mono ?_; rintro e w' ⟨rfl, rfl⟩))
  refine (spec_MulDiv_pct size lo _ a1 a2 b1 (by omega)).mono ?_
  rintro e w1 ⟨rfl, g1⟩
  have c1 := cellGrow g1 (cell_new 1 rfl)
  go_wp2_with fail
  refine (spec_MulDiv_pct size hi _ a1 a2 (by omega) b3).mono ?_
  rintro e w2 ⟨rfl, g2⟩
  go_wp2_with fail
  go_ret2
  exact ⟨by rw [H1.out, H2.out]; rfl, (((Grow.refl _).alloc _ _).trans g1).trans g2⟩
end Go.Proofs.Ytbjnbhlpibadnaa

/- GraphOk, of the program and of the reference. -/
namespace Go.Proofs.Ytbjnbhlpibadnaa
open Go.RowKit
set_option linter.unusedSimpArgs false
set_option linter.unusedVariables false

def edgeOk (n : Int) (e : Edge) : Bool :=
  inB e.frm 0 (n-1) && inB e.to 0 (n-1) && !(e.frm == e.to) && inB e.cap 0 1000000000 && inB e.cost (-1000000) 1000000
def graphOk (x : Graph) : Bool := inB x.n 1 24 && decide (x.edges.length ≤ 60) && x.edges.all (edgeOk x.n)

set_option maxHeartbeats 1000000 in
theorem impl_GraphOk_c (x : Graph) (a : Option Addr) (c : Nat) (w : World) (h : SlR 4 repEdge w 0 w.heap.size (.slice a x.edges.length c) x.edges) :
    Calls Try.prog 55 #[.agg #[.int .i64 x.n, .slice a x.edges.length c]] w fun e w' => e = .returned (.bool (graphOk x)) ∧ Grow w w' := by
  obtain ⟨a_, cap_, heq, hc1, hc2, hsl⟩ := h
  injection heq with q1 q2 q3
  subst q1 q3
  clear q2
  have HS := Lib.hid hsl; clear hsl
  by_cases h1 : inB x.n 1 24 = true
  · by_cases h2 : x.edges.length ≤ 60
    · obtain ⟨hn2, hn3⟩ := inB_true.1 h1
      have h3 : decide ((60:Int) < (x.edges.length : Int)) = false := by simp; omega
      go_enter Try.func55, Try.ntmps55
      go_wp2_with (go_at_call 85; refine (in_c _ _ _ _).mono ?_; rintro e w' ⟨rfl, rfl⟩)
      have hg0 : Grow w (w.alloc (.cells #[.int .i64 x.n, .slice a x.edges.length c] 31)) := (Grow.refl _).alloc _ _
      go_loopg [18] x.edges.length (fun g i wr => ∃ k : Nat, k + g = x.edges.length ∧ i = .int .i64 k ∧ (x.edges.take k).all (edgeOk x.n) = true ∧
          Grow (w.alloc (.cells #[.int .i64 x.n, .slice a x.edges.length c] 31)) wr)
      case atStart => exact ⟨0, by simp, rfl, by simp, Grow.refl _⟩
      case round =>
        obtain ⟨k, hk, rfl, hall, hg⟩ := hrel
        have hgw := hg0.trans hg
        have HALL := Lib.hid hall; clear hall
        have c0 : wr.cell? ⟨w.heap.size, 0, none⟩ = some (.int .i64 x.n) := cellIn hg.below (by simp) (cell_new 0 rfl)
        have c1 : wr.cell? ⟨w.heap.size, 1, none⟩ = some (.slice a x.edges.length c) := cellIn hg.below (by simp) (cell_new 1 rfl)
        have hz : w.heap.size < wr.heap.size := by have := hg.size; simp at this; omega
        by_cases hlt : k < x.edges.length
        · rcases HS.out with h0 | ⟨b, off, rfl, hb1, hb2, hel⟩
          · exfalso; rw [h0] at hlt; exact absurd hlt (by simp)
          obtain ⟨e0, e1, e2, e3, _⟩ := Edge.atCell (hel.same repEdge_stable (hgw.same (Nat.le_refl _)) hb1 hb2) k hlt
          have hz2 : b < wr.heap.size := by omega
          have HB := Lib.hid hgw; have HG := Lib.hid hg; have HK := Lib.hid hk
          have HE : Hid (edgeOk x.n x.edges[k] = false → x.edges.all (edgeOk x.n) = false) := fun h => all_false_of hlt h
          have HT : Hid ((x.edges.take (k+1)).all (edgeOk x.n) = ((x.edges.take k).all (edgeOk x.n) && edgeOk x.n x.edges[k])) := all_take_succ hlt
          clear hgw hg hk hel
          generalize x.edges[k] = e at *
          go_wp2_with (go_at_call 85; refine (in_c _ _ _ _).mono ?_; rintro e w' ⟨rfl, rfl⟩)
          all_goals first
            | (go_roundg (x.edges.length - (k+1))
               case measure => have := HK.out; omega
               case rel =>
                 refine ⟨k + 1, by have := HK.out; omega, by go_num, ?_, HG.out.alloc _ _⟩
                 rw [HT.out, HALL.out]
                 first | (simp [edgeOk, *]; done) | simp_all [edgeOk])
            | (go_ret
               refine ⟨?_, HB.out.alloc _ _⟩
               have hf : edgeOk x.n e = false := by first | (simp [edgeOk, *]; done) | simp_all [edgeOk]
               simp [graphOk, HE.out hf])
        · have hke : k = x.edges.length := by omega
          have HKE := Lib.hid hke; clear hke
          have HB := Lib.hid hgw; clear hgw hg
          go_wp2
          go_ret
          refine ⟨?_, HB.out⟩
          have := HALL.out
          rw [HKE.out, List.take_length] at this
          simp [graphOk, h1, h2, this]
    · have h3 : decide ((60:Int) < (x.edges.length : Int)) = true := by simp; omega
      go_enter Try.func55, Try.ntmps55
      go_wp2_with (go_at_call 85; refine (in_c _ _ _ _).mono ?_; rintro e w' ⟨rfl, rfl⟩)
      all_goals
        go_ret
        exact ⟨by simp [graphOk, h2], (Grow.refl _).alloc _ _⟩
  · have h1 : inB x.n 1 24 = false := by simpa using h1
    go_enter Try.func55, Try.ntmps55
    go_wp2_with (go_at_call 85; refine (in_c _ _ _ _).mono ?_; rintro e w' ⟨rfl, rfl⟩)
    all_goals
      go_ret
      exact ⟨by simp [graphOk, h1], (Grow.refl _).alloc _ _⟩

theorem edgeOk_iff {n : Int} {e : Edge} : edgeOk n e = true ↔ 0 ≤ e.frm ∧ e.frm ≤ n - 1 ∧ 0 ≤ e.to ∧ e.to ≤ n - 1 ∧ e.frm ≠ e.to ∧ 0 ≤ e.cap ∧ e.cap ≤ 1000000000 ∧ -1000000 ≤ e.cost ∧ e.cost ≤ 1000000 := by
  simp [edgeOk, inB]
  omega
theorem edgeOk_no {n : Int} {e : Edge} (h : ¬ (0 ≤ e.frm ∧ e.frm ≤ n - 1 ∧ 0 ≤ e.to ∧ e.to ≤ n - 1 ∧ e.frm ≠ e.to ∧ 0 ≤ e.cap ∧ e.cap ≤ 1000000000 ∧ -1000000 ≤ e.cost ∧ e.cost ≤ 1000000)) : edgeOk n e = false := by
  rw [Bool.eq_false_iff]; exact fun h' => h (edgeOk_iff.1 h')

set_option maxHeartbeats 2000000 in
set_option maxRecDepth 100000 in
theorem spec_GraphOk_c (x : Graph) (a : Option Addr) (c : Nat) (w : World) (h : SlR 4 repEdge w 0 w.heap.size (.slice a x.edges.length c) x.edges) :
    Calls Try.prog 54 #[.agg #[.int .i64 x.n, .slice a x.edges.length c]] w fun e w' => e = .returned (.bool (graphOk x)) ∧ Grow w w' := by
  obtain ⟨a_, cap_, heq, hc1, hc2, hsl⟩ := h
  injection heq with q1 q2 q3
  subst q1 q3
  clear q2
  have HS := Lib.hid hsl; clear hsl
  by_cases h1 : inB x.n 1 24 = true
  · obtain ⟨hn2, hn3⟩ := inB_true.1 h1
    by_cases h2 : x.edges.length ≤ 60
    · have H1 := Lib.hid h1; clear h1
      have h4 : decide (x.n < (1:Int)) = false := by simp; omega
      have h5 : decide ((24:Int) < x.n) = false := by simp; omega
      have h3 : decide ((60:Int) < (x.edges.length : Int)) = false := by simp; omega
      go_enter Try.func54, Try.ntmps54
      go_wp2
      have hg0 : Grow w (w.alloc (.cells #[.int .i64 x.n, .slice a x.edges.length c] 31)) := (Grow.refl _).alloc _ _
      go_loopg [22] x.edges.length (fun g i wr => ∃ k : Nat, k + g = x.edges.length ∧ i = .int .i64 k ∧ (x.edges.take k).all (edgeOk x.n) = true ∧
          Grow (w.alloc (.cells #[.int .i64 x.n, .slice a x.edges.length c] 31)) wr)
      case atStart => exact ⟨0, by simp, rfl, by simp, Grow.refl _⟩
      case round =>
        obtain ⟨k, hk, rfl, hall, hg⟩ := hrel
        have hgw := hg0.trans hg
        have HALL := Lib.hid hall; clear hall
        have c0 : wr.cell? ⟨w.heap.size, 0, none⟩ = some (.int .i64 x.n) := cellIn hg.below (by simp) (cell_new 0 rfl)
        have c1 : wr.cell? ⟨w.heap.size, 1, none⟩ = some (.slice a x.edges.length c) := cellIn hg.below (by simp) (cell_new 1 rfl)
        have hz : w.heap.size < wr.heap.size := by have := hg.size; simp at this; omega
        by_cases hlt : k < x.edges.length
        · rcases HS.out with h0 | ⟨b, off, rfl, hb1, hb2, hel⟩
          · exfalso; rw [h0] at hlt; exact absurd hlt (by simp)
          obtain ⟨e0, e1, e2, e3, _⟩ := Edge.atCell (hel.same repEdge_stable (hgw.same (Nat.le_refl _)) hb1 hb2) k hlt
          have hz2 : b < wr.heap.size := by omega
          have HB := Lib.hid hgw; have HG := Lib.hid hg; have HK := Lib.hid hk
          have HE : Hid (edgeOk x.n x.edges[k] = false → x.edges.all (edgeOk x.n) = false) := fun h => all_false_of hlt h
          have HT : Hid ((x.edges.take (k+1)).all (edgeOk x.n) = ((x.edges.take k).all (edgeOk x.n) && edgeOk x.n x.edges[k])) := all_take_succ hlt
          clear hgw hg hk hel
          generalize x.edges[k] = e at *
          go_wp2
          all_goals first
            | (go_roundg (x.edges.length - (k+1))
               case measure => have := HK.out; omega
               case rel =>
                 refine ⟨k + 1, by have := HK.out; omega, by go_num, ?_, HG.out.alloc _ _⟩
                 rw [HT.out, HALL.out, Bool.true_and]
                 exact edgeOk_iff.2 (by first | omega | (simp only [beq_iff_eq, beq_eq_false_iff_ne, ne_eq] at *; omega)))
            | (go_ret
               refine ⟨?_, HB.out.alloc _ _⟩
               have hf : edgeOk x.n e = false := edgeOk_no (by first | omega | (simp only [beq_iff_eq, beq_eq_false_iff_ne, ne_eq] at *; omega))
               simp [graphOk, HE.out hf])
        · have hke : k = x.edges.length := by omega
          have HKE := Lib.hid hke; clear hke
          have HB := Lib.hid hgw; clear hgw hg
          go_wp2
          go_ret
          refine ⟨?_, HB.out⟩
          have := HALL.out
          rw [HKE.out, List.take_length] at this
          simp [graphOk, H1.out, h2, this]
    · have h4 : decide (x.n < (1:Int)) = false := by simp; omega
      have h5 : decide ((24:Int) < x.n) = false := by simp; omega
      have h3 : decide ((60:Int) < (x.edges.length : Int)) = true := by simp; omega
      go_enter Try.func54, Try.ntmps54
      go_wp2
      all_goals
        go_ret
        exact ⟨by simp [graphOk, h2], (Grow.refl _).alloc _ _⟩
  · have h1 : inB x.n 1 24 = false := by simpa using h1
    have hf : graphOk x = false := by simp [graphOk, h1]
    have HF := Lib.hid hf; clear hf
    rcases inB_false.1 h1 with h4 | h4
    all_goals
      go_enter Try.func54, Try.ntmps54
      go_wp2
      all_goals
        go_ret
        exact ⟨by rw [HF.out]; rfl, (Grow.refl _).alloc _ _⟩
end Go.Proofs.Ytbjnbhlpibadnaa

/- Contracts of the harness functions of int -/
namespace Go.Proofs.Ytbjnbhlpibadnaa
open Go.RowKit
set_option linter.unusedSimpArgs false
set_option linter.unusedVariables false
theorem madeInt (n : Nat) (hn : n ≤ 1048576) (w : World) : (Instr.makeSlice 25 (.int .i64 (n : Int)) (.int .i64 (n : Int))).run Try.prog w =
    .ok (.slice (some ⟨w.heap.size, 0, none⟩) n n) (w.alloc (.cells (madeCells #[.int .i64 0] (n * 1)) 3)) := by
  obtain ⟨i, hi, hz, hs, hb⟩ := info_parts infoInt
  have := run_make (P := Try.prog) w 25 3 i _ Try.underlying25 hi hz .i64 .i64 n n (by omega) (Int.le_refl _) (by rw [hb]; omega) (by omega)
  simpa [hs, Value.cells] using this

set_option maxHeartbeats 1000000 in
set_option maxRecDepth 100000 in
theorem toIntS_c (xs : List Int) (a : Option Addr) (cap : Nat) (w : World) (hv : SlR 1 repInt w 0 w.heap.size (.slice a xs.length cap) xs) (hn : xs.length ≤ 1048576) :
    Calls Try.prog 12 #[.slice a xs.length cap] w fun e w' => ∃ a' cap', e = .returned (.slice a' xs.length cap') ∧ Grow w w' ∧ SlR 1 repInt w' w.heap.size w'.heap.size (.slice a' xs.length cap') xs := by
  obtain ⟨a_, cap_, heq, hc1, hc2, hsl⟩ := hv
  injection heq with q1 q2 q3
  subst q1 q3
  clear q2
  have hmk := fun w => madeInt xs.length hn w
  have HS := Lib.hid hsl; clear hsl
  go_enter Try.func12, Try.ntmps12
  go_wp2
  have hg0 : Grow w (w.alloc (.cells (madeCells #[.int .i64 0] (xs.length * 1)) 3)) := (Grow.refl _).alloc _ _
  go_loopg [4] xs.length (fun g i wr => ∃ k : Nat, k + g = xs.length ∧ i = .int .i64 k ∧ w.heap.size < wr.heap.size ∧ Grow w wr ∧ Filled wr w.heap.size 1 xs.length k (fun i => (xs[i]?.map encInt).getD []))
  case atStart => exact ⟨0, by omega, rfl, by simp, by simpa using hg0, by have hfm := Filled.made w #[.int .i64 0] 1 xs.length 3 (fun i => (xs[i]?.map encInt).getD []); simp only [Nat.mul_one] at hfm; exact hfm⟩
  case round =>
    obtain ⟨k, hk, rfl, hz, hg, hfl⟩ := hrel
    clear hg0
    by_cases hlt : k < xs.length
    · rcases HS.out with h0 | ⟨b, off, rfl, hb1, hb2, hel⟩
      · exfalso; rw [h0] at hlt; exact absurd hlt (by simp)
      obtain ⟨e0, ewf⟩ := Int.atCell (hel.same repInt_stable (hg.same (Nat.le_refl _)) hb1 hb2) k hlt
      have hget : xs[k]? = some xs[k] := List.getElem?_eq_getElem hlt
      have HG := Lib.hid hg; have HF := Lib.hid hfl; have HX := Lib.hid hget; have HK := Lib.hid hk; clear hg hfl hget hel hk
      generalize hx : xs[k] = x at *
      have HXX := Lib.hid hx; clear hx
      have hf1 := HF.out
      have hG := HG.out
      have hz1 := hz
      obtain ⟨u0, d0⟩ := hf1.some hlt 0 (by omega)
      simp only [Nat.add_zero, Nat.mul_one] at d0
      have fz : ∀ o, wr.frozen? ⟨w.heap.size, o, none⟩ = false := fun o => hG.nf _ o (Nat.le_refl _) hz1
      have HG1 := Lib.hid hG; have HF1 := Lib.hid hf1; clear hG hf1
      go_wp2
      go_roundg (xs.length - (k + 1))
      case measure => have := HK.out; omega
      case rel =>
        have hfin := HF1.out.store hlt (fun i hi => by
          rw [List.getElem?_eq_getElem (by omega)]; rfl)
        have hgr := Grow.setCells (Nat.le_refl _) (encInt x) (k * 1) HG1.out
        rw [show (xs[k]?.map encInt).getD [] = encInt x from by rw [HX.out]; rfl] at hfin
        rw [Nat.mul_one] at hfin hgr
        exact ⟨k + 1, by omega, by go_num, by simpa using hz1, hgr, hfin⟩
    · obtain rfl : k = xs.length := by omega
      have HG := Lib.hid hg; have HF := Lib.hid hfl; clear hg hfl
      go_wp2
      go_ret
      refine ⟨_, _, rfl, HG.out, SlR.of_filled HF.out (Nat.le_refl _) hz (by unfold maxLen; omega) (fun i hi' => ?_)⟩
      rcases HS.out with h0 | ⟨b, off, rfl, hb1, hb2, hel⟩
      · rw [h0] at hi'; exact absurd hi' (by simp)
      · obtain ⟨cs, ⟨_, h2⟩, _⟩ := hel i hi'
        exact ⟨by rw [List.getElem?_eq_getElem hi']; rfl, h2⟩

set_option maxHeartbeats 1000000 in
set_option maxRecDepth 100000 in
theorem eqIntS_c (xs : List Int) (a a' : Option Addr) (cap cap' : Nat) (w : World) (hv : SlR 1 repInt w 0 w.heap.size (.slice a xs.length cap) xs) (hv' : SlR 1 repInt w 0 w.heap.size (.slice a' xs.length cap') xs) :
    Calls Try.prog 14 #[.slice a xs.length cap, .slice a' xs.length cap'] w fun e w' => e = .returned (.bool true) ∧ Grow w w' := by
  obtain ⟨a_, cap_, heq, hc1, hc2, hsl⟩ := hv
  injection heq with q1 q2 q3
  subst q1 q3
  obtain ⟨a_', cap_', heq', hc1', hc2', hsl'⟩ := hv'
  injection heq' with q1' q2' q3'
  subst q1' q3'
  have hm : xs.length ≤ 9223372036854775807 := by unfold maxLen at hc2; omega
  clear hc1 hc2 hc1' hc2' q2 q2'
  have HS := Lib.hid hsl; clear hsl
  have HS' := Lib.hid hsl'; clear hsl'
  have hbne : ((xs.length : Int) != (xs.length : Int)) = false := by simp
  go_enter Try.func14, Try.ntmps14
  go_wp2
  go_loopg [5] xs.length (fun g i wr => ∃ k : Nat, k + g = xs.length ∧ i = .int .i64 k ∧ Grow w wr)
  case atStart => exact ⟨0, by omega, rfl, Grow.refl _⟩
  case round =>
    obtain ⟨k, hk, rfl, hg⟩ := hrel
    by_cases hlt : k < xs.length
    · rcases HS.out with h0 | ⟨b, off, rfl, hb1, hb2, hel⟩
      · exfalso; rw [h0] at hlt; exact absurd hlt (by simp)
      rcases HS'.out with h0 | ⟨b', off', rfl, hb1', hb2', hel'⟩
      · exfalso; rw [h0] at hlt; exact absurd hlt (by simp)
      obtain ⟨e0, _⟩ := Int.atCell (hel.same repInt_stable (hg.same (Nat.le_refl _)) hb1 hb2) k hlt
      obtain ⟨e0', _⟩ := Int.atCell (hel'.same repInt_stable (hg.same (Nat.le_refl _)) hb1' hb2') k hlt
      have HG := Lib.hid hg; have HK := Lib.hid hk; clear hg hel hel' hk HS HS'
      generalize xs[k] = x at *
      go_wp2_with fail
      have hxx : (x != x) = false := by simp
      go_quiet (fail)
      go_wp2
      go_roundg (xs.length - (k + 1))
      case measure => have := HK.out; omega
      case rel => exact ⟨k + 1, by omega, by go_num, by first | exact HG.out.drew | exact HG.out.drewN _⟩
    · obtain rfl : k = xs.length := by omega
      have HG := Lib.hid hg; clear hg
      go_wp2
      go_ret
      exact ⟨rfl, HG.out⟩

end Go.Proofs.Ytbjnbhlpibadnaa

/- FlowOk as a plain function. -/
namespace Go.Proofs.Ytbjnbhlpibadnaa
open Go.RowKit
set_option linter.unusedSimpArgs false
set_option linter.unusedVariables false

/-- The sums of the nodes behind one edge more. -/
def stepSum (s : List Int) (p : Edge × Int) : List Int :=
  let s1 := s.set p.1.frm.toNat (s.getD p.1.frm.toNat 0 - p.2)
  s1.set p.1.to.toNat (s1.getD p.1.to.toNat 0 + p.2)
def sumsOf (n : Nat) (l : List (Edge × Int)) : List Int := l.foldl stepSum (List.replicate n 0)
def flowIn (p : Edge × Int) : Bool := inB p.2 0 p.1.cap
def flowOk (x : Graph) (f : List Int) : Bool :=
  graphOk x && decide (f.length = x.edges.length) && (x.edges.zip f).all flowIn && (sumsOf x.n.toNat (x.edges.zip f)).all (fun n => n == 0)

theorem stepSum_length (s : List Int) (p : Edge × Int) : (stepSum s p).length = s.length := by simp [stepSum]
theorem foldSum_length : ∀ (l : List (Edge × Int)) (s : List Int), (l.foldl stepSum s).length = s.length
  | [], _ => rfl
  | p :: r, s => by rw [List.foldl_cons, foldSum_length r, stepSum_length]
theorem sumsOf_length (n : Nat) (l : List (Edge × Int)) : (sumsOf n l).length = n := by unfold sumsOf; rw [foldSum_length]; simp
theorem sumsOf_snoc (n : Nat) (l : List (Edge × Int)) (k : Nat) (hk : k < l.length) : sumsOf n (l.take (k+1)) = stepSum (sumsOf n (l.take k)) l[k] := by
  unfold sumsOf; rw [List.take_succ_eq_append_getElem hk, List.foldl_append]; rfl

/-- All numbers of a list lie within b. -/
def bdd (b : Int) (s : List Int) : Prop := ∀ i (h : i < s.length), -b ≤ s[i] ∧ s[i] ≤ b
theorem bdd_set {b c : Int} {s : List Int} (h : bdd b s) (i : Nat) (v : Int) (hbc : b ≤ c) (h1 : -c ≤ v) (h2 : v ≤ c) : bdd c (s.set i v) := fun j hj => by
  have hj' : j < s.length := by simpa using hj
  have hb := h j hj'
  by_cases e : i = j
  · subst e; simp only [List.getElem_set_self]; exact ⟨h1, h2⟩
  · rw [List.getElem_set_ne e]; exact ⟨by omega, by omega⟩
theorem bdd_getD {b : Int} {s : List Int} (h : bdd b s) (hb : 0 ≤ b) (i : Nat) : -b ≤ s.getD i 0 ∧ s.getD i 0 ≤ b := by
  by_cases hi : i < s.length
  · rw [List.getD_eq_getElem?_getD, List.getElem?_eq_getElem hi]; exact h i hi
  · rw [List.getD_eq_getElem?_getD, List.getElem?_eq_none (by omega)]; exact ⟨by simpa using hb, by simpa using hb⟩
theorem bdd_step {b : Int} {s : List Int} {p : Edge × Int} (h : bdd b s) (hb : 0 ≤ b) (h0 : 0 ≤ p.2) (h1 : p.2 ≤ 1000000000) : bdd (b + 2000000000) (stepSum s p) := by
  have g1 := bdd_getD h hb p.1.frm.toNat
  have h1' : bdd (b + 1000000000) (s.set p.1.frm.toNat (s.getD p.1.frm.toNat 0 - p.2)) := bdd_set h _ _ (by omega) (by omega) (by omega)
  have g2 := bdd_getD h1' (by omega) p.1.to.toNat
  exact bdd_set h1' _ _ (by omega) (by omega) (by omega)
theorem bdd_fold : ∀ (l : List (Edge × Int)) (b : Int) (s : List Int), bdd b s → 0 ≤ b → (∀ p ∈ l, 0 ≤ p.2 ∧ p.2 ≤ 1000000000) → bdd (b + 2000000000 * l.length) (l.foldl stepSum s)
  | [], b, s, h, _, _ => by simpa using h
  | p :: r, b, s, h, hb, hp => by
    have hp0 := hp p (by simp)
    have := bdd_fold r (b + 2000000000) (stepSum s p) (bdd_step h hb hp0.1 hp0.2) (by omega) (fun q hq => hp q (by simp [hq]))
    rw [List.foldl_cons]
    rw [show b + 2000000000 * ((p :: r).length : Int) = b + 2000000000 + 2000000000 * (r.length : Int) from by rw [List.length_cons]; omega]
    exact this
theorem bdd_sums (n : Nat) (l : List (Edge × Int)) (hp : ∀ p ∈ l, 0 ≤ p.2 ∧ p.2 ≤ 1000000000) : bdd (2000000000 * l.length) (sumsOf n l) := by
  have h0 : bdd 0 (List.replicate n 0) := fun i hi => by simp
  have := bdd_fold l 0 _ h0 (Int.le_refl _) hp
  simpa [sumsOf] using this
theorem all_take_succ' {α : Type} {p : α → Bool} {l : List α} {k : Nat} (hk : k < l.length) : (l.take (k+1)).all p = ((l.take k).all p && p l[k]) := by
  rw [List.take_succ_eq_append_getElem hk, List.all_append]; simp

theorem madeInts (n : Nat) (hn : n ≤ 1048576) (w : World) : (Instr.makeSlice 25 (.int .i64 (n : Int)) (.int .i64 (n : Int))).run Try.prog w =
    .ok (.slice (some ⟨w.heap.size, 0, none⟩) n n) (w.alloc (.cells (madeCells #[.int .i64 0] n) 3)) := by
  have := madeInt n hn w
  rwa [Nat.mul_one] at this
end Go.Proofs.Ytbjnbhlpibadnaa

/- Appending to rows of elements. No program in sight. -/
namespace Go.Proofs.Ytbjnbhlpibadnaa
open Go.RowKit

/-- The cells of a block just laid, as append reads them. -/
theorem news_of (w : World) (c : Array Value) (T : TypeId) (cs : List Value) (hc : c.toList = cs) : ∀ j u, cs[j]? = some u → (w.alloc (.cells c T)).cell? ((⟨w.heap.size, 0, none⟩ : Addr).add j) = some u := fun j u hj => by
  have e : (⟨w.heap.size, 0, none⟩ : Addr).add j = ⟨w.heap.size, j, none⟩ := by unfold Addr.add; split <;> simp_all
  rw [e]
  exact cell_new j (by subst hc; simpa using hj)
/-- One element more on an own row. -/
theorem own_snocF {α : Type} {f : α → List Value} {w : World} {base sz : Nat} {e : TypeId} {v : Value} {l : List α} {y : α} (h : w.ownsRow base e sz v (l.length + 1) (l.flatMap f ++ f y)) :
    w.ownsRow base e sz v (l ++ [y]).length ((l ++ [y]).flatMap f) := by
  rw [List.flatMap_append, List.length_append]
  simpa using h
theorem filterMap_take_succ {α β : Type} {f : α → Option β} {l : List α} {k : Nat} (hk : k < l.length) : (l.take (k+1)).filterMap f = (l.take k).filterMap f ++ (f l[k]).toList := by
  rw [List.take_succ_eq_append_getElem hk, List.filterMap_append]
  cases h : f l[k] <;> simp [h]
theorem SlR.empty {α : Type} {sz : Nat} {rep : World → Nat → Nat → List Value → α → Prop} {w : World} {lo hi : Nat} {a : Option Addr} : SlR sz rep w lo hi (.slice a 0 0) ([] : List α) :=
  ⟨a, 0, rfl, Nat.le_refl _, by simp [maxLen], .inl rfl⟩
end Go.Proofs.Ytbjnbhlpibadnaa

/- Residual arcs, pushes and rings as plain functions. -/
namespace Go.Proofs.Ytbjnbhlpibadnaa
open Go.RowKit
set_option linter.unusedSimpArgs false
set_option linter.unusedVariables false

structure Arc where
  id : Int
  frm : Int
  to : Int
  room : Int
  cost : Int

def wfArc (x : Arc) : Prop := i64 (x.id) ∧ i64 (x.frm) ∧ i64 (x.to) ∧ i64 (x.room) ∧ i64 (x.cost)
def encArc (x : Arc) : List Value := [.int .i64 x.id, .int .i64 x.frm, .int .i64 x.to, .int .i64 x.room, .int .i64 x.cost]
def repArc (_ : World) (_ _ : Nat) (cs : List Value) (x : Arc) : Prop := cs = encArc x ∧ wfArc x
theorem repArc_stable : Stable repArc := fun _ _ _ _ _ _ _ _ _ _ _ h => h
theorem Arc.atCell {w : World} {b off lo hi : Nat} {xs : List Arc} (h : Elems 5 repArc w lo hi b off xs) (i : Nat) (hi' : i < xs.length) :
    w.cell? ⟨b, off + i * 5, none⟩ = some (.int .i64 xs[i].id) ∧ w.cell? ⟨b, off + i * 5 + 1, none⟩ = some (.int .i64 xs[i].frm) ∧ w.cell? ⟨b, off + i * 5 + 2, none⟩ = some (.int .i64 xs[i].to) ∧ w.cell? ⟨b, off + i * 5 + 3, none⟩ = some (.int .i64 xs[i].room) ∧ w.cell? ⟨b, off + i * 5 + 4, none⟩ = some (.int .i64 xs[i].cost) ∧ wfArc xs[i] := by
  obtain ⟨cs, ⟨rfl, hw⟩, hc⟩ := h i hi'
  exact ⟨hc 0 _ rfl, hc 1 _ rfl, hc 2 _ rfl, hc 3 _ rfl, hc 4 _ rfl, hw⟩
theorem length_encArc (x : Arc) : (encArc x).length = 5 := rfl

/-- The arcs that edge i with flow leaves. -/
def arcUp (i : Nat) (p : Edge × Int) : List Arc := if p.2 < p.1.cap then [⟨2 * i, p.1.frm, p.1.to, p.1.cap - p.2, p.1.cost⟩] else []
def arcDn (i : Nat) (p : Edge × Int) : List Arc := if 0 < p.2 then [⟨2 * i + 1, p.1.to, p.1.frm, p.2, -p.1.cost⟩] else []
def arcsAt (i : Nat) (p : Edge × Int) : List Arc := arcUp i p ++ arcDn i p
def arcsK (z : List (Edge × Int)) : Nat → List Arc
  | 0 => []
  | k + 1 => arcsK z k ++ (match z[k]? with | some p => arcsAt k p | none => [])
def arcsOf (x : Graph) (f : List Int) : List Arc := arcsK (x.edges.zip f) (x.edges.zip f).length
theorem arcsK_succ {z : List (Edge × Int)} {k : Nat} (h : k < z.length) : arcsK z (k+1) = arcsK z k ++ arcsAt k z[k] := by
  show arcsK z k ++ (match z[k]? with | some p => arcsAt k p | none => []) = _
  rw [List.getElem?_eq_getElem h]
theorem arcUp_yes {i : Nat} {p : Edge × Int} (h : p.2 < p.1.cap) : arcUp i p = [⟨2 * i, p.1.frm, p.1.to, p.1.cap - p.2, p.1.cost⟩] := if_pos h
theorem arcUp_no {i : Nat} {p : Edge × Int} (h : ¬ p.2 < p.1.cap) : arcUp i p = [] := if_neg h
theorem arcDn_yes {i : Nat} {p : Edge × Int} (h : 0 < p.2) : arcDn i p = [⟨2 * i + 1, p.1.to, p.1.frm, p.2, -p.1.cost⟩] := if_pos h
theorem arcDn_no {i : Nat} {p : Edge × Int} (h : ¬ 0 < p.2) : arcDn i p = [] := if_neg h
theorem arcsAt_len (i : Nat) (p : Edge × Int) : (arcsAt i p).length ≤ 2 := by
  unfold arcsAt arcUp arcDn; split <;> split <;> simp
theorem arcsK_len (z : List (Edge × Int)) : ∀ k, (arcsK z k).length ≤ 2 * k
  | 0 => by simp [arcsK]
  | k + 1 => by
    have ih := arcsK_len z k
    show (arcsK z k ++ (match z[k]? with | some p => arcsAt k p | none => [])).length ≤ _
    rw [List.length_append]
    cases h : z[k]? with
    | none => simp; omega
    | some p => have := arcsAt_len k p; simp only []; omega
/-- Where an arc of the list comes from. -/
theorem arcsK_mem {z : List (Edge × Int)} {a : Arc} : ∀ {k : Nat}, k ≤ z.length → a ∈ arcsK z k → ∃ i, ∃ h : i < z.length, i < k ∧ a ∈ arcsAt i z[i]
  | 0, _, h => absurd h (by simp [arcsK])
  | k + 1, hk, h => by
    rw [arcsK_succ (by omega)] at h
    rcases List.mem_append.1 h with h | h
    · obtain ⟨i, h1, h2, h3⟩ := arcsK_mem (k := k) (by omega) h
      exact ⟨i, h1, by omega, h3⟩
    · exact ⟨k, by omega, by omega, h⟩
theorem arcsAt_mem {i : Nat} {p : Edge × Int} {a : Arc} (h : a ∈ arcsAt i p) : (p.2 < p.1.cap ∧ a = ⟨2 * i, p.1.frm, p.1.to, p.1.cap - p.2, p.1.cost⟩) ∨ (0 < p.2 ∧ a = ⟨2 * i + 1, p.1.to, p.1.frm, p.2, -p.1.cost⟩) := by
  unfold arcsAt at h
  rcases List.mem_append.1 h with h | h
  · unfold arcUp at h
    split at h
    · exact .inl ⟨by assumption, by simpa using h⟩
    · exact absurd h (by simp)
  · unfold arcDn at h
    split at h
    · exact .inr ⟨by assumption, by simpa using h⟩
    · exact absurd h (by simp)

/-- What is known of a flow that is valid. -/
theorem flowOk_facts {x : Graph} {f : List Int} (h : flowOk x f = true) : 1 ≤ x.n ∧ x.n ≤ 24 ∧ x.edges.length ≤ 60 ∧ f.length = x.edges.length ∧ (∀ e ∈ x.edges, edgeOk x.n e = true) ∧ (∀ p ∈ x.edges.zip f, 0 ≤ p.2 ∧ p.2 ≤ p.1.cap) ∧ (∀ s ∈ sumsOf x.n.toNat (x.edges.zip f), s = 0) := by
  unfold flowOk at h
  simp only [Bool.and_eq_true, decide_eq_true_eq] at h
  obtain ⟨⟨⟨h1, h2⟩, h3⟩, h4⟩ := h
  unfold graphOk at h1
  simp only [Bool.and_eq_true, decide_eq_true_eq] at h1
  obtain ⟨⟨g1, g2⟩, g3⟩ := h1
  obtain ⟨n1, n2⟩ := inB_true.1 g1
  refine ⟨n1, n2, g2, h2, fun e he => List.all_eq_true.1 g3 e he, fun p hp => inB_true.1 (List.all_eq_true.1 h3 p hp), fun s hs => by simpa using List.all_eq_true.1 h4 s hs⟩
/-- What is known of each arc of a valid flow. -/
def arcFine (n : Int) (a : Arc) : Prop := 0 ≤ a.id ∧ a.id < 120 ∧ 0 ≤ a.frm ∧ a.frm < n ∧ 0 ≤ a.to ∧ a.to < n ∧ a.frm ≠ a.to ∧ 1 ≤ a.room ∧ a.room ≤ 1000000000 ∧ -1000000 ≤ a.cost ∧ a.cost ≤ 1000000
theorem arcs_fine {x : Graph} {f : List Int} (h : flowOk x f = true) : ∀ a ∈ arcsOf x f, arcFine x.n a := fun a ha => by
  obtain ⟨n1, n2, g2, h2, he, hp, _⟩ := flowOk_facts h
  obtain ⟨i, hi, _, hm⟩ := arcsK_mem (Nat.le_refl _) ha
  have hi2 : i < x.edges.length := by simp at hi; omega
  have hz : (x.edges.zip f)[i] = (x.edges[i], f[i]'(by omega)) := List.getElem_zip
  have e1 := edgeOk_iff.1 (he _ (List.getElem_mem hi2))
  have e2 := hp _ (List.getElem_mem hi)
  rw [hz] at e2 hm
  simp only at e2
  obtain ⟨p1, p2, p3, p4, p5, p6, p7, p8, p9⟩ := e1
  unfold arcFine
  rcases arcsAt_mem hm with ⟨q, rfl⟩ | ⟨q, rfl⟩
  · simp only at q ⊢; refine ⟨by omega, by omega, by omega, by omega, by omega, by omega, by omega, by omega, by omega, by omega, by omega⟩
  · simp only at q ⊢; refine ⟨by omega, by omega, by omega, by omega, by omega, by omega, by omega, by omega, by omega, by omega, by omega⟩
theorem arcFine.wf {n : Int} (hn : n ≤ 24) {a : Arc} (h : arcFine n a) : wfArc a := by
  obtain ⟨_, _, _, _, _, _, _, _, _, _, _⟩ := h
  unfold wfArc i64; refine ⟨⟨?_, ?_⟩, ⟨?_, ?_⟩, ⟨?_, ?_⟩, ⟨?_, ?_⟩, ?_, ?_⟩ <;> omega
theorem arcsOf_len {x : Graph} {f : List Int} (h : flowOk x f = true) : (arcsOf x f).length ≤ 120 := by
  obtain ⟨_, _, g2, h2, _⟩ := flowOk_facts h
  have := arcsK_len (x.edges.zip f) (x.edges.zip f).length
  have h3 : (x.edges.zip f).length ≤ 60 := by simp; omega
  unfold arcsOf; omega

-- ---------- pushing
def leastStep (id : Int) (r : Int) (a : Arc) : Int := if a.id = id ∧ a.room < r then a.room else r
def leastAt (l : List Arc) (r : Int) (id : Int) : Int := l.foldl (leastStep id) r
def leastOf (l : List Arc) (r : Int) (ring : List Int) : Int := ring.foldl (leastAt l) r
def hasArc (l : List Arc) (id : Int) : Bool := l.any fun a => a.id == id
def ringAt (l : List Arc) (ring : List Int) (i : Nat) : Bool := match ring[i]? with | some id => hasArc l id && !((ring.take i).any fun v => v == id) | none => true
def pushStep (r : Int) (o : List Int) (id : Int) : List Int := o.set (id / 2).toNat (o.getD (id / 2).toNat 0 + (if id % 2 = 0 then r else -r))
def pushAll (r : Int) (ring : List Int) (f : List Int) : List Int := ring.foldl (pushStep r) f
def ringsOk (l : List Arc) (ring : List Int) : Bool := (List.range ring.length).all (ringAt l ring)
def pushTo (x : Graph) (f ring : List Int) : List Int := pushAll (leastOf (arcsOf x f) 1000000000 ring) ring f
def pushOk (x : Graph) (f ring : List Int) : Bool := flowOk x f && !(ring.length == 0) && ringsOk (arcsOf x f) ring && flowOk x (pushTo x f ring)
def pushL (x : Graph) (f ring : List Int) : List Int := if pushOk x f ring = true then pushTo x f ring else []

-- ---------- rings
structure RS where
  dist : List Int
  last : List Int
  node : Int
def relax (s : RS) (k : Nat) (a : Arc) : RS :=
  if s.dist.getD a.frm.toNat 0 + a.cost < s.dist.getD a.to.toNat 0 then ⟨s.dist.set a.to.toNat (s.dist.getD a.frm.toNat 0 + a.cost), s.last.set a.to.toNat (k : Int), a.to⟩ else s
def scan (l : List Arc) (s : RS) : Nat → RS
  | 0 => s
  | k + 1 => match l[k]? with | some a => relax (scan l s k) k a | none => scan l s k
def pass (l : List Arc) (s : RS) : RS := scan l ⟨s.dist, s.last, -1⟩ l.length
def passes (n : Nat) (l : List Arc) : Nat → RS
  | 0 => ⟨List.replicate n 0, List.replicate n 0, -1⟩
  | j + 1 => pass l (passes n l j)
def arcAt (l : List Arc) (last : List Int) (v : Int) : Arc := l.getD (last.getD v.toNat 0).toNat ⟨0, 0, 0, 0, 0⟩
def par (l : List Arc) (last : List Int) (v : Int) : Int := (arcAt l last v).frm
def iter (p : Int → Int) : Nat → Int → Int
  | 0, v => v
  | j + 1, v => p (iter p j v)
def ringFrom (l : List Arc) (last : List Int) (v : Int) : Nat → Int → List Int
  | 0, _ => []
  | m + 1, u => (arcAt l last u).id :: (if par l last u = v then [] else ringFrom l last v m (par l last u))
def ringIt (n : Nat) (l : List Arc) : List Int × Bool :=
  let s := passes n l n
  if s.node < 0 then ([], false) else let v := iter (par l s.last) n s.node; (ringFrom l s.last v n v, true)
def ringOk (x : Graph) (f : List Int) : Bool := flowOk x f && (ringIt x.n.toNat (arcsOf x f)).2
def ringL (x : Graph) (f : List Int) : List Int := if ringOk x f = true then (ringIt x.n.toNat (arcsOf x f)).1 else []

-- ---------- the cheapest flow
def cheapIt (x : Graph) : Nat → List Int → Bool × List Int
  | 0, f => if ringOk x f = true then (false, []) else (true, f)
  | m + 1, f => if ringOk x f = true then (if pushOk x f (ringL x f) = true then cheapIt x m (pushL x f (ringL x f)) else (false, [])) else (true, f)
def cheapOk (x : Graph) : Bool := graphOk x && (cheapIt x 400 (List.replicate x.edges.length 0)).1
def cheapL (x : Graph) : List Int := if cheapOk x = true then (cheapIt x 400 (List.replicate x.edges.length 0)).2 else []
end Go.Proofs.Ytbjnbhlpibadnaa

/- The walk along the parents comes back, and what is pushed along a ring is a flow. No program in sight. -/
namespace Go.Proofs.Ytbjnbhlpibadnaa
open Go.RowKit
set_option linter.unusedSimpArgs false
set_option linter.unusedVariables false

theorem pigeon : ∀ (n : Nat) (f : Nat → Nat), (∀ i, i ≤ n → f i < n) → ∃ i j, i < j ∧ j ≤ n ∧ f i = f j
  | 0, f, h => absurd (h 0 (by omega)) (by omega)
  | n + 1, f, h => by
    by_cases hx : ∃ i, i ≤ n ∧ f i = f (n + 1)
    · obtain ⟨i, hi, he⟩ := hx
      exact ⟨i, n + 1, by omega, by omega, he⟩
    · have hx' : ∀ i, i ≤ n → f i ≠ f (n + 1) := fun i hi he => hx ⟨i, hi, he⟩
      obtain ⟨i, j, hij, hj, he⟩ := pigeon n (fun i => if f i = n then f (n + 1) else f i) (fun i hi => by
        have h1 := h i (by omega)
        have h2 := h (n + 1) (by omega)
        have h3 := hx' i hi
        split <;> omega)
      have h3 := hx' i (by omega)
      have h4 := hx' j (by omega)
      refine ⟨i, j, hij, by omega, ?_⟩
      split at he <;> split at he <;> omega

theorem iter_add (p : Int → Int) (a : Nat) : ∀ (b : Nat) (v : Int), iter p (a + b) v = iter p a (iter p b v) := by
  induction a with
  | zero => intro b v; rw [Nat.zero_add]; rfl
  | succ a ih => intro b v; rw [show a + 1 + b = (a + b) + 1 by omega]; show p (iter p (a + b) v) = p (iter p a (iter p b v)); rw [ih]
theorem iter_succ' (p : Int → Int) (a : Nat) (v : Int) : iter p (a + 1) v = iter p a (p v) := iter_add p a 1 v
/-- p stays on the nodes below n. -/
def Stays (n : Nat) (p : Int → Int) : Prop := ∀ v : Int, 0 ≤ v → v < n → 0 ≤ p v ∧ p v < n
theorem Stays.iter {n : Nat} {p : Int → Int} (h : Stays n p) {v : Int} (h0 : 0 ≤ v) (h1 : v < n) : ∀ j, 0 ≤ iter p j v ∧ iter p j v < n
  | 0 => ⟨h0, h1⟩
  | j + 1 => h _ (Stays.iter h h0 h1 j).1 (Stays.iter h h0 h1 j).2
theorem iter_twice {n : Nat} {p : Int → Int} (h : Stays n p) {v : Int} (h0 : 0 ≤ v) (h1 : v < n) : ∃ i j, i < j ∧ j ≤ n ∧ iter p i v = iter p j v := by
  obtain ⟨i, j, h2, h3, h4⟩ := pigeon n (fun i => (iter p i v).toNat) (fun i _ => by have := h.iter h0 h1 i; omega)
  have := h.iter h0 h1 i
  have := h.iter h0 h1 j
  exact ⟨i, j, h2, h3, by omega⟩
/-- Behind n steps the walk is on its ring. -/
theorem comes_back {n : Nat} {p : Int → Int} (h : Stays n p) {v : Int} (h0 : 0 ≤ v) (h1 : v < n) : ∃ d, 1 ≤ d ∧ d ≤ n ∧ iter p d (iter p n v) = iter p n v := by
  obtain ⟨i, j, h2, h3, h4⟩ := iter_twice h h0 h1
  refine ⟨j - i, by omega, by omega, ?_⟩
  rw [← iter_add, show j - i + n = (n - i) + j by omega, iter_add, ← h4, ← iter_add, show n - i + i = n by omega]
theorem least_of {q : Nat → Prop} : ∀ (d : Nat), q d → ∃ m, m ≤ d ∧ q m ∧ ∀ k, k < m → ¬ q k := by
  intro d
  induction d using Nat.strongRecOn with
  | ind d ih =>
    intro h
    by_cases hx : ∃ k, k < d ∧ q k
    · obtain ⟨k, h1, h2⟩ := hx
      obtain ⟨m, h3, h4⟩ := ih k h1 h2
      exact ⟨m, by omega, h4⟩
    · exact ⟨d, Nat.le_refl _, h, fun k h1 h2 => hx ⟨k, h1, h2⟩⟩

-- ---------- the state of the scan
def RS.fine (n : Nat) (m : Nat) (s : RS) : Prop := s.dist.length = n ∧ s.last.length = n ∧ s.node < n ∧ -1 ≤ s.node ∧ (∀ i (h : i < s.last.length), 0 ≤ s.last[i] ∧ s.last[i] < m)
theorem relax_yes {s : RS} {k : Nat} {a : Arc} (h : s.dist.getD a.frm.toNat 0 + a.cost < s.dist.getD a.to.toNat 0) : relax s k a = ⟨s.dist.set a.to.toNat (s.dist.getD a.frm.toNat 0 + a.cost), s.last.set a.to.toNat (k : Int), a.to⟩ := if_pos h
theorem relax_no {s : RS} {k : Nat} {a : Arc} (h : ¬ s.dist.getD a.frm.toNat 0 + a.cost < s.dist.getD a.to.toNat 0) : relax s k a = s := if_neg h
theorem relax_fine {n m : Nat} {s : RS} (h : s.fine n m) {k : Nat} (hk : k < m) {a : Arc} (ha : arcFine n a) : (relax s k a).fine n m := by
  obtain ⟨h1, h2, h3, h4, h5⟩ := h
  obtain ⟨a1, a2, a3, a4, a5, a6, _⟩ := ha
  unfold relax
  split
  · refine ⟨by simpa using h1, by simpa using h2, a6, by show -1 ≤ a.to; omega, fun i hi => ?_⟩
    have hi' : i < s.last.length := by simpa using hi
    show 0 ≤ (s.last.set a.to.toNat (k : Int))[i] ∧ (s.last.set a.to.toNat (k : Int))[i] < m
    by_cases e : a.to.toNat = i
    · subst e; rw [List.getElem_set_self]; omega
    · rw [List.getElem_set_ne e]; exact h5 i hi'
  · exact ⟨h1, h2, h3, h4, h5⟩
theorem scan_succ {l : List Arc} {s : RS} {k : Nat} (h : k < l.length) : scan l s (k+1) = relax (scan l s k) k l[k] := by
  show (match l[k]? with | some a => relax (scan l s k) k a | none => scan l s k) = _
  rw [List.getElem?_eq_getElem h]
theorem scan_fine {n : Nat} {l : List Arc} (hl : ∀ a ∈ l, arcFine n a) {s : RS} (h : s.fine n l.length) : ∀ k, k ≤ l.length → (scan l s k).fine n l.length
  | 0, _ => h
  | k + 1, hk => by rw [scan_succ (by omega)]; exact relax_fine (scan_fine hl h k (by omega)) (by omega) (hl _ (List.getElem_mem _))
theorem pass_start {n m : Nat} {s : RS} (h : s.fine n m) : (RS.mk s.dist s.last (-1)).fine n m := ⟨h.1, h.2.1, by show (-1 : Int) < n; omega, by show (-1 : Int) ≤ -1; omega, h.2.2.2.2⟩
theorem passes_fine {n : Nat} {l : List Arc} (hl : ∀ a ∈ l, arcFine n a) (h0 : 1 ≤ l.length) : ∀ j, (passes n l j).fine n l.length
  | 0 => ⟨by simp [passes], by simp [passes], by show (-1 : Int) < n; omega, by show (-1 : Int) ≤ -1; omega, fun i hi => by simp [passes]; omega⟩
  | j + 1 => scan_fine hl (pass_start (passes_fine hl h0 j)) l.length (Nat.le_refl _)
theorem par_stays {n : Nat} {l : List Arc} (hl : ∀ a ∈ l, arcFine n a) {s : RS} (h : s.fine n l.length) : Stays n (par l s.last) := fun v h0 h1 => by
  obtain ⟨_, h2, _, _, h5⟩ := h
  have hv : v.toNat < s.last.length := by omega
  have hb := h5 _ hv
  have e : s.last.getD v.toNat 0 = s.last[v.toNat] := by rw [List.getD_eq_getElem?_getD, List.getElem?_eq_getElem hv]; rfl
  unfold par arcAt
  rw [e]
  have hb2 : (s.last[v.toNat]).toNat < l.length := by omega
  have e2 : l.getD (s.last[v.toNat]).toNat ⟨0, 0, 0, 0, 0⟩ = l[(s.last[v.toNat]).toNat] := by rw [List.getD_eq_getElem?_getD, List.getElem?_eq_getElem hb2]; rfl
  rw [e2]
  obtain ⟨_, _, a3, a4, _⟩ := hl _ (List.getElem_mem hb2)
  exact ⟨a3, a4⟩
/-- Distances stay small: m steps, each of at most a million. -/
theorem relax_bdd {n : Nat} {s : RS} {b : Int} (hb : 0 ≤ b) (h : bdd b s.dist) {k : Nat} {a : Arc} (ha : arcFine n a) : bdd (b + 1000000) (relax s k a).dist := by
  obtain ⟨_, _, _, _, _, _, _, _, _, a10, a11⟩ := ha
  unfold relax
  split
  · have := bdd_getD h hb a.frm.toNat
    exact bdd_set h _ _ (by omega) (by omega) (by omega)
  · intro i hi; have := h i hi; omega
theorem scan_bdd {n : Nat} {l : List Arc} (hl : ∀ a ∈ l, arcFine n a) {s : RS} {b : Int} (hb : 0 ≤ b) (h : bdd b s.dist) : ∀ k, k ≤ l.length → bdd (b + 1000000 * k) (scan l s k).dist
  | 0, _ => by simpa [scan] using h
  | k + 1, hk => by
    rw [scan_succ (by omega)]
    have := relax_bdd (n := n) (k := k) (by omega) (scan_bdd hl hb h k (by omega)) (hl _ (List.getElem_mem (show k < l.length by omega)))
    intro i hi
    have := this i hi
    push_cast; omega
theorem passes_bdd {n : Nat} {l : List Arc} (hl : ∀ a ∈ l, arcFine n a) (h120 : l.length ≤ 120) : ∀ j : Nat, bdd (120000000 * j) (passes n l j).dist
  | 0 => fun i hi => by simp [passes]
  | j + 1 => by
    have := scan_bdd hl (s := ⟨(passes n l j).dist, (passes n l j).last, -1⟩) (b := 120000000 * j) (by omega) (passes_bdd hl h120 j) l.length (Nat.le_refl _)
    show bdd _ (scan l ⟨(passes n l j).dist, (passes n l j).last, -1⟩ l.length).dist
    intro i hi
    have := this i hi
    push_cast; omega

-- ---------- all nodes on the ring have been relaxed
/-- rr v: the round of v's last relaxing, 0 where there was none. R: the round at hand; k arcs of it are done. -/
structure Rnd (n : Nat) (l : List Arc) (s : RS) (R k : Nat) (rr : Int → Nat) : Prop where
  le : ∀ v, rr v ≤ R
  nod : ∀ v, 1 ≤ rr v → 0 ≤ v ∧ v < n
  arc : ∀ v, 1 ≤ rr v → (arcAt l s.last v).to = v ∧ rr v ≤ rr (par l s.last v) + 1
  done : ∀ i (h : i < l.length), 1 ≤ (if i < k then R else R - 1) → s.dist.getD l[i].to.toNat 0 ≤ s.dist.getD l[i].frm.toNat 0 + l[i].cost ∨ (if i < k then R else R - 1) ≤ rr l[i].frm
  now : 0 ≤ s.node → rr s.node = R

theorem getD_set_self' {l : List Int} {i : Nat} {v : Int} (h : i < l.length) : (l.set i v).getD i 0 = v := by
  rw [List.getD_eq_getElem?_getD, List.getElem?_set_self h]; rfl
theorem getD_set_ne' {l : List Int} {i j : Nat} {v : Int} (h : i ≠ j) : (l.set i v).getD j 0 = l.getD j 0 := by
  rw [List.getD_eq_getElem?_getD, List.getElem?_set_ne h, List.getD_eq_getElem?_getD]
theorem arcAt_of {l : List Arc} {last : List Int} {v : Int} {i : Nat} (h : last.getD v.toNat 0 = (i : Int)) (hi : i < l.length) : arcAt l last v = l[i] := by
  unfold arcAt; rw [h, Int.toNat_natCast, List.getD_eq_getElem?_getD, List.getElem?_eq_getElem hi]; rfl

theorem Rnd.step {n : Nat} {l : List Arc} (hl : ∀ a ∈ l, arcFine n a) {s : RS} (hs : s.fine n l.length) {R k : Nat} (hR : 1 ≤ R) {rr : Int → Nat} (h : Rnd n l s R k rr) (hk : k < l.length) : ∃ rr', Rnd n l (relax s k l[k]) R (k+1) rr' := by
  obtain ⟨a1, a2, a3, a4, a5, a6, a7, a8, a9, a10, a11⟩ := hl _ (List.getElem_mem hk)
  obtain ⟨s1, s2, s3, s4, s5⟩ := hs
  by_cases ht : s.dist.getD l[k].frm.toNat 0 + l[k].cost < s.dist.getD l[k].to.toNat 0
  · rw [relax_yes ht]
    have htl : l[k].to.toNat < s.dist.length := by omega
    have htl2 : l[k].to.toNat < s.last.length := by omega
    have hge : ∀ v : Int, rr v ≤ (if v = l[k].to then R else rr v) := fun v => by
      split
      · exact h.le v
      · exact Nat.le_refl _
    have hfr : (if l[k].frm = l[k].to then R else rr l[k].frm) = rr l[k].frm := if_neg a7
    refine ⟨fun v => if v = l[k].to then R else rr v, ⟨fun v => ?_, fun v hv => ?_, fun v hv => ?_, fun i hi hq => ?_, fun _ => if_pos rfl⟩⟩
    · show (if v = l[k].to then R else rr v) ≤ R
      split
      · exact Nat.le_refl _
      · exact h.le v
    · have hv : 1 ≤ (if v = l[k].to then R else rr v) := hv
      by_cases e : v = l[k].to
      · subst e; exact ⟨a5, a6⟩
      · rw [if_neg e] at hv; exact h.nod v hv
    · by_cases e : v = l[k].to
      · have hat : arcAt l (s.last.set l[k].to.toNat (k : Int)) v = l[k] := by subst e; exact arcAt_of (getD_set_self' htl2) hk
        have hpr : par l (s.last.set l[k].to.toNat (k : Int)) v = l[k].frm := by unfold par; rw [hat]
        show (arcAt l (s.last.set l[k].to.toNat (k : Int)) v).to = v ∧ (if v = l[k].to then R else rr v) ≤ (if par l (s.last.set l[k].to.toNat (k : Int)) v = l[k].to then R else rr (par l (s.last.set l[k].to.toNat (k : Int)) v)) + 1
        rw [hat, hpr, if_pos e, hfr]
        refine ⟨e.symm, ?_⟩
        have hd := h.done k hk
        rw [if_neg (Nat.lt_irrefl k)] at hd
        by_cases h1 : 1 ≤ R - 1
        · rcases hd h1 with h2 | h2
          · omega
          · omega
        · omega
      · have hv' : 1 ≤ rr v := by
          have hv : 1 ≤ (if v = l[k].to then R else rr v) := hv
          rwa [if_neg e] at hv
        obtain ⟨q1, q2⟩ := h.nod v hv'
        have hne : l[k].to.toNat ≠ v.toNat := by omega
        have hat : arcAt l (s.last.set l[k].to.toNat (k : Int)) v = arcAt l s.last v := by unfold arcAt; rw [getD_set_ne' hne]
        have hpr : par l (s.last.set l[k].to.toNat (k : Int)) v = par l s.last v := by unfold par; rw [hat]
        show (arcAt l (s.last.set l[k].to.toNat (k : Int)) v).to = v ∧ (if v = l[k].to then R else rr v) ≤ (if par l (s.last.set l[k].to.toNat (k : Int)) v = l[k].to then R else rr (par l (s.last.set l[k].to.toNat (k : Int)) v)) + 1
        rw [hat, hpr, if_neg e]
        obtain ⟨r1, r2⟩ := h.arc v hv'
        have := hge (par l s.last v)
        exact ⟨r1, by omega⟩
    · obtain ⟨b1, b2, b3, b4, b5, b6, b7, _⟩ := hl _ (List.getElem_mem hi)
      show (s.dist.set l[k].to.toNat _).getD l[i].to.toNat 0 ≤ (s.dist.set l[k].to.toNat _).getD l[i].frm.toNat 0 + l[i].cost ∨ (if i < k + 1 then R else R - 1) ≤ (if l[i].frm = l[k].to then R else rr l[i].frm)
      by_cases e : l[i].frm = l[k].to
      · right; rw [if_pos e]; split <;> omega
      · rw [if_neg e]
        have hne : l[k].to.toNat ≠ l[i].frm.toNat := by omega
        rw [getD_set_ne' hne]
        by_cases hik : i = k
        · subst hik
          left
          rw [getD_set_self' htl]
          exact Int.le_refl _
        · have hq2 : (if i < k + 1 then R else R - 1) = (if i < k then R else R - 1) := by
            by_cases h1 : i < k
            · rw [if_pos h1, if_pos (by omega)]
            · rw [if_neg h1, if_neg (by omega)]
          rw [hq2] at hq ⊢
          rcases h.done i hi hq with h2 | h2
          · left
            by_cases e2 : l[i].to = l[k].to
            · rw [e2, getD_set_self' htl]
              rw [e2] at h2
              omega
            · rw [getD_set_ne' (by omega)]; exact h2
          · right; exact h2
  · rw [relax_no ht]
    refine ⟨rr, ⟨h.le, h.nod, h.arc, fun i hi hq => ?_, h.now⟩⟩
    by_cases hik : i = k
    · subst hik; left; omega
    · have hq2 : (if i < k + 1 then R else R - 1) = (if i < k then R else R - 1) := by
        by_cases h1 : i < k
        · rw [if_pos h1, if_pos (by omega)]
        · rw [if_neg h1, if_neg (by omega)]
      rw [hq2] at hq ⊢
      exact h.done i hi hq
theorem Rnd.scan {n : Nat} {l : List Arc} (hl : ∀ a ∈ l, arcFine n a) {s : RS} (hs : s.fine n l.length) {R : Nat} (hR : 1 ≤ R) (h : ∃ rr, Rnd n l s R 0 rr) : ∀ k, k ≤ l.length → ∃ rr, Rnd n l (scan l s k) R k rr
  | 0, _ => h
  | k + 1, hk => by
    obtain ⟨rr, h1⟩ := Rnd.scan hl hs hR h k (by omega)
    rw [scan_succ (by omega)]
    exact h1.step hl (scan_fine hl hs k (by omega)) hR (by omega)
theorem Rnd.passes {n : Nat} {l : List Arc} (hl : ∀ a ∈ l, arcFine n a) (h0 : 1 ≤ l.length) (j : Nat) : ∃ rr, Rnd n l (passes n l (j + 1)) (j + 1) l.length rr := by
  induction j with
  | zero =>
    refine Rnd.scan hl (pass_start (passes_fine hl h0 0)) (by omega) ?_ l.length (Nat.le_refl _)
    exact ⟨fun _ => 0, ⟨fun _ => by omega, fun _ h => absurd h (by omega), fun _ h => absurd h (by omega), fun i hi hq => absurd hq (by simp), fun h => absurd h (by show ¬ (0 : Int) ≤ -1; omega)⟩⟩
  | succ j ih =>
    refine Rnd.scan hl (pass_start (passes_fine hl h0 (j + 1))) (by omega) ?_ l.length (Nat.le_refl _)
    obtain ⟨rr, h⟩ := ih
    refine ⟨rr, ⟨fun v => by have := h.le v; omega, h.nod, h.arc, fun i hi hq => ?_, fun h => absurd h (by show ¬ (0 : Int) ≤ -1; omega)⟩⟩
    have := h.done i hi
    rw [if_pos hi] at this
    rw [if_neg (by omega)] at hq ⊢
    exact this (by omega)
/-- All nodes of the walk back have been relaxed, so that their arcs lead to them. -/
theorem all_relaxed {n : Nat} {l : List Arc} (hl : ∀ a ∈ l, arcFine n a) (hn : 1 ≤ n) (h0 : 1 ≤ l.length) (hv : 0 ≤ (passes n l n).node) (m : Nat) :
    (arcAt l (passes n l n).last (iter (par l (passes n l n).last) m (passes n l n).node)).to = iter (par l (passes n l n).last) m (passes n l n).node := by
  obtain ⟨rr, h⟩ : ∃ rr, Rnd n l (passes n l n) n l.length rr := by
    have := Rnd.passes hl h0 (n - 1)
    rwa [show n - 1 + 1 = n by omega] at this
  have hf := passes_fine hl h0 n
  have hst := par_stays hl hf
  generalize hs : passes n l n = s at *
  have hnode : s.node < n := hf.2.2.1
  have hch : ∀ j, j < n → n - j ≤ rr (iter (par l s.last) j s.node) := by
    intro j
    induction j with
    | zero => intro _; have := h.now hv; show n - 0 ≤ rr s.node; omega
    | succ j ih =>
      intro hj
      have h1 := ih (by omega)
      have h2 := (h.arc _ (by omega : 1 ≤ rr (iter (par l s.last) j s.node))).2
      show n - (j + 1) ≤ rr (par l s.last (iter (par l s.last) j s.node))
      omega
  obtain ⟨i, j, hij, hjn, he⟩ := iter_twice hst hv hnode
  have hall : ∀ m, 1 ≤ rr (iter (par l s.last) m s.node) := by
    intro m
    induction m using Nat.strongRecOn with
    | ind m ih =>
      by_cases hm : m < n
      · have := hch m hm; omega
      · have e : iter (par l s.last) m s.node = iter (par l s.last) (m - j + i) s.node := by
          rw [iter_add, he, ← iter_add, show m - j + j = m by omega]
        rw [e]
        exact ih _ (by omega)
  exact (h.arc _ (hall m)).1
end Go.Proofs.Ytbjnbhlpibadnaa

/- What is pushed along a ring is a flow. No program in sight. -/
namespace Go.Proofs.Ytbjnbhlpibadnaa
open Go.RowKit
set_option linter.unusedSimpArgs false
set_option linter.unusedVariables false

-- ---------- balances
def ind (b : Bool) : Int := if b then 1 else 0
def balz (v : Nat) : List (Edge × Int) → Int
  | [] => 0
  | p :: r => (if p.1.to.toNat = v then p.2 else 0) - (if p.1.frm.toNat = v then p.2 else 0) + balz v r
theorem stepSum_getD {s : List Int} {p : Edge × Int} {v : Nat} (h1 : p.1.frm.toNat < s.length) (h2 : p.1.to.toNat < s.length) :
    (stepSum s p).getD v 0 = s.getD v 0 + ((if p.1.to.toNat = v then p.2 else 0) - (if p.1.frm.toNat = v then p.2 else 0)) := by
  unfold stepSum
  dsimp only
  have h2' : p.1.to.toNat < (s.set p.1.frm.toNat (s.getD p.1.frm.toNat 0 - p.2)).length := by simpa using h2
  by_cases e1 : p.1.to.toNat = v
  · subst e1
    rw [getD_set_self' h2', if_pos rfl]
    by_cases e2 : p.1.frm.toNat = p.1.to.toNat
    · rw [if_pos e2, e2, getD_set_self' h2]; omega
    · rw [if_neg e2, getD_set_ne' e2]; omega
  · rw [getD_set_ne' e1, if_neg e1]
    by_cases e2 : p.1.frm.toNat = v
    · subst e2; rw [if_pos rfl, getD_set_self' h1]; omega
    · rw [if_neg e2, getD_set_ne' e2]; omega
theorem fold_getD {v : Nat} : ∀ (z : List (Edge × Int)) (s : List Int), (∀ p ∈ z, p.1.frm.toNat < s.length ∧ p.1.to.toNat < s.length) → (z.foldl stepSum s).getD v 0 = s.getD v 0 + balz v z
  | [], s, _ => by simp [balz]
  | p :: r, s, h => by
    obtain ⟨h1, h2⟩ := h p (by simp)
    rw [List.foldl_cons, fold_getD r (stepSum s p) (fun q hq => by rw [stepSum_length]; exact h q (by simp [hq])), stepSum_getD h1 h2]
    show _ = s.getD v 0 + ((if p.1.to.toNat = v then p.2 else 0) - (if p.1.frm.toNat = v then p.2 else 0) + balz v r)
    omega
theorem balz_set {v : Nat} : ∀ (es : List Edge) (o : List Int) (i : Nat) (y : Int), ∀ (h1 : i < es.length) (h2 : i < o.length),
    balz v (es.zip (o.set i y)) = balz v (es.zip o) + ((if es[i].to.toNat = v then y - o[i] else 0) - (if es[i].frm.toNat = v then y - o[i] else 0))
  | [], _, _, _, h, _ => absurd h (by simp)
  | _ :: _, [], _, _, _, h => absurd h (by simp)
  | e :: es, a :: o, 0, y, _, _ => by
    show (if e.to.toNat = v then y else 0) - (if e.frm.toNat = v then y else 0) + balz v (es.zip o) = (if e.to.toNat = v then a else 0) - (if e.frm.toNat = v then a else 0) + balz v (es.zip o) + ((if e.to.toNat = v then y - a else 0) - (if e.frm.toNat = v then y - a else 0))
    split <;> split <;> omega
  | e :: es, a :: o, i + 1, y, h1, h2 => by
    have h1' : i < es.length := by simpa using h1
    have h2' : i < o.length := by simpa using h2
    have ih := balz_set (v := v) es o i y h1' h2'
    show (if e.to.toNat = v then a else 0) - (if e.frm.toNat = v then a else 0) + balz v (es.zip (o.set i y)) = (if e.to.toNat = v then a else 0) - (if e.frm.toNat = v then a else 0) + balz v (es.zip o) + ((if es[i].to.toNat = v then y - o[i] else 0) - (if es[i].frm.toNat = v then y - o[i] else 0))
    rw [ih]; omega

-- ---------- arcs by their numbers
theorem arc_at {x : Graph} {f : List Int} (h : flowOk x f = true) {a : Arc} (ha : a ∈ arcsOf x f) : ∃ i, ∃ h1 : i < x.edges.length, ∃ h2 : i < f.length,
    (a.id = 2 * i ∧ f[i] < x.edges[i].cap ∧ a = ⟨2 * i, x.edges[i].frm, x.edges[i].to, x.edges[i].cap - f[i], x.edges[i].cost⟩) ∨ (a.id = 2 * i + 1 ∧ 0 < f[i] ∧ a = ⟨2 * i + 1, x.edges[i].to, x.edges[i].frm, f[i], -x.edges[i].cost⟩) := by
  obtain ⟨n1, n2, g2, hl, he, hp, _⟩ := flowOk_facts h
  obtain ⟨i, hi, _, hm⟩ := arcsK_mem (Nat.le_refl _) ha
  have hi2 : i < x.edges.length := by simp at hi; omega
  have hz : (x.edges.zip f)[i] = (x.edges[i], f[i]'(by omega)) := List.getElem_zip
  rw [hz] at hm
  refine ⟨i, hi2, by omega, ?_⟩
  rcases arcsAt_mem hm with ⟨q, rfl⟩ | ⟨q, rfl⟩
  · exact .inl ⟨rfl, q, rfl⟩
  · exact .inr ⟨rfl, q, rfl⟩
theorem arc_same {x : Graph} {f : List Int} (h : flowOk x f = true) {a b : Arc} (ha : a ∈ arcsOf x f) (hb : b ∈ arcsOf x f) (e : a.id = b.id) : a = b := by
  obtain ⟨i, h1, h2, p⟩ := arc_at h ha
  obtain ⟨j, k1, k2, q⟩ := arc_at h hb
  rcases p with ⟨p1, _, p3⟩ | ⟨p1, _, p3⟩ <;> rcases q with ⟨q1, _, q3⟩ | ⟨q1, _, q3⟩
  · obtain rfl : i = j := by omega
    rw [p3, q3]
  · omega
  · omega
  · obtain rfl : i = j := by omega
    rw [p3, q3]

-- ---------- the least room
theorem leastStep_le (id r : Int) (a : Arc) : leastStep id r a ≤ r := by unfold leastStep; split <;> omega
theorem leastAt_le (id : Int) : ∀ (l : List Arc) (r : Int), leastAt l r id ≤ r
  | [], r => Int.le_refl r
  | a :: l, r => by
    have h1 := leastAt_le id l (leastStep id r a)
    have h2 := leastStep_le id r a
    show leastAt l (leastStep id r a) id ≤ r
    omega
theorem leastAt_arc (id : Int) : ∀ (l : List Arc) (r : Int) (a : Arc), a ∈ l → a.id = id → leastAt l r id ≤ a.room
  | [], _, _, h, _ => absurd h (by simp)
  | b :: l, r, a, h, e => by
    show leastAt l (leastStep id r b) id ≤ a.room
    rcases List.mem_cons.1 h with rfl | h
    · have h1 := leastAt_le id l (leastStep id r a)
      have : leastStep id r a ≤ a.room := by unfold leastStep; split <;> omega
      omega
    · exact leastAt_arc id l _ a h e
theorem leastAt_pos (id : Int) : ∀ (l : List Arc) (r : Int), (∀ a ∈ l, 1 ≤ a.room) → 1 ≤ r → 1 ≤ leastAt l r id
  | [], _, _, h => h
  | b :: l, r, h, hr => leastAt_pos id l _ (fun a ha => h a (by simp [ha])) (by have := h b (by simp); unfold leastStep; split <;> omega)
theorem leastOf_le (l : List Arc) : ∀ (ring : List Int) (r : Int), leastOf l r ring ≤ r
  | [], r => Int.le_refl r
  | id :: ring, r => by
    have h1 := leastOf_le l ring (leastAt l r id)
    have h2 := leastAt_le id l r
    show leastOf l (leastAt l r id) ring ≤ r
    omega
theorem leastOf_arc (l : List Arc) : ∀ (ring : List Int) (r : Int) (a : Arc), a ∈ l → a.id ∈ ring → leastOf l r ring ≤ a.room
  | [], _, _, _, h => absurd h (by simp)
  | id :: ring, r, a, h, e => by
    show leastOf l (leastAt l r id) ring ≤ a.room
    rcases List.mem_cons.1 e with e | e
    · have h1 := leastOf_le l ring (leastAt l r id)
      have := leastAt_arc id l r a h e
      omega
    · exact leastOf_arc l ring _ a h e
theorem leastOf_pos (l : List Arc) : ∀ (ring : List Int) (r : Int), (∀ a ∈ l, 1 ≤ a.room) → 1 ≤ r → 1 ≤ leastOf l r ring
  | [], _, _, h => h
  | id :: ring, r, h, hr => leastOf_pos l ring _ h (leastAt_pos id l r h hr)

-- ---------- what a push leaves at edge i
def contr (i : Nat) (id : Int) : Int := if id = 2 * i then 1 else if id = 2 * i + 1 then -1 else 0
def contrs (i : Nat) (ring : List Int) : Int := (ring.map (contr i)).sum
theorem pushStep_length (r : Int) (o : List Int) (id : Int) : (pushStep r o id).length = o.length := by simp [pushStep]
theorem pushAll_length (r : Int) : ∀ (ring : List Int) (o : List Int), (pushAll r ring o).length = o.length
  | [], _ => rfl
  | id :: ring, o => by show (pushAll r ring (pushStep r o id)).length = _; rw [pushAll_length r ring, pushStep_length]
theorem pushStep_getD {r : Int} {o : List Int} {id : Int} (h0 : 0 ≤ id) (i : Nat) (hi : i < o.length) : (pushStep r o id).getD i 0 = o.getD i 0 + r * contr i id := by
  unfold pushStep contr
  by_cases e : (id / 2).toNat = i
  · rw [e, getD_set_self' hi]
    by_cases e2 : id = 2 * i
    · rw [if_pos (by omega), if_pos e2]; omega
    · rw [if_neg (by omega), if_neg e2, if_pos (by omega)]; omega
  · rw [getD_set_ne' e, if_neg (by omega), if_neg (by omega)]; omega
theorem pushAll_getD {r : Int} : ∀ (ring : List Int) (o : List Int), (∀ id ∈ ring, 0 ≤ id) → ∀ (i : Nat), i < o.length → (pushAll r ring o).getD i 0 = o.getD i 0 + r * contrs i ring
  | [], o, _, i, _ => by show o.getD i 0 = _; unfold contrs; simp
  | id :: ring, o, h, i, hi => by
    show (pushAll r ring (pushStep r o id)).getD i 0 = _
    rw [pushAll_getD ring _ (fun id' h' => h id' (by simp [h'])) i (by rw [pushStep_length]; exact hi), pushStep_getD (h id (by simp)) i hi]
    have : contrs i (id :: ring) = contr i id + contrs i ring := by unfold contrs; simp
    rw [this, Int.mul_add]; omega
theorem contrs_bd {i : Nat} : ∀ {ring : List Int}, ring.Nodup → contrs i ring ≤ (if (2 * i : Int) ∈ ring then 1 else 0) ∧ -(if (2 * i + 1 : Int) ∈ ring then 1 else 0) ≤ contrs i ring
  | [], _ => by simp [contrs]
  | id :: ring, h => by
    obtain ⟨h1, h2⟩ := List.nodup_cons.1 h
    obtain ⟨i1, i2⟩ := contrs_bd (i := i) h2
    have e : contrs i (id :: ring) = contr i id + contrs i ring := by unfold contrs; simp
    rw [e]
    unfold contr
    by_cases e1 : id = 2 * i
    · subst e1
      rw [if_neg h1] at i1
      rw [if_pos rfl, if_pos (by simp)]
      refine ⟨by omega, ?_⟩
      by_cases q : (2 * i + 1 : Int) ∈ ring
      · rw [if_pos (by simp [q])]; rw [if_pos q] at i2; omega
      · rw [if_neg q] at i2
        split <;> omega
    · rw [if_neg e1]
      by_cases e2 : id = 2 * i + 1
      · subst e2
        rw [if_neg h1] at i2
        rw [if_pos rfl, if_pos (c := (2 * i + 1 : Int) ∈ _) (by simp)]
        refine ⟨?_, by omega⟩
        by_cases q : (2 * i : Int) ∈ ring
        · rw [if_pos (by simp [q])]; rw [if_pos q] at i1; omega
        · rw [if_neg q] at i1
          split <;> omega
      · rw [if_neg e2]
        have m1 : ((2 * i : Int) ∈ id :: ring) ↔ ((2 * i : Int) ∈ ring) := by simp; omega
        have m2 : ((2 * i + 1 : Int) ∈ id :: ring) ↔ ((2 * i + 1 : Int) ∈ ring) := by simp; omega
        simp only [m1, m2]
        omega

-- ---------- the ring as a list
def backs (p : Int → Int) (u v0 : Int) (d : Nat) : Prop := iter p d u = v0 ∧ ∀ k, 1 ≤ k → k < d → iter p k u ≠ v0
theorem ringFrom_eq {l : List Arc} {last : List Int} {v0 : Int} : ∀ (d m : Nat) (u : Int), 1 ≤ d → d ≤ m → backs (par l last) u v0 d → ringFrom l last v0 m u = (List.range d).map (fun j => (arcAt l last (iter (par l last) j u)).id)
  | 0, _, _, h, _, _ => absurd h (by omega)
  | _ + 1, 0, _, _, h, _ => absurd h (by omega)
  | d + 1, m + 1, u, _, hm, hb => by
    show (arcAt l last u).id :: (if par l last u = v0 then [] else ringFrom l last v0 m (par l last u)) = _
    rw [List.range_succ_eq_map, List.map_cons, List.map_map]
    by_cases hd : d = 0
    · subst hd
      have : par l last u = v0 := hb.1
      rw [if_pos this]; rfl
    · have hne : par l last u ≠ v0 := hb.2 1 (by omega) (by omega)
      rw [if_neg hne, ringFrom_eq d m (par l last u) (by omega) (by omega) ⟨by rw [← iter_succ']; exact hb.1, fun k k1 k2 => by rw [← iter_succ']; exact hb.2 (k + 1) (by omega) (by omega)⟩]
      rw [List.cons.injEq]
      refine ⟨rfl, List.map_congr_left fun j _ => ?_⟩
      show _ = (arcAt l last (iter (par l last) (j + 1) u)).id
      rw [iter_succ']

/-- The arcs of the walk: each lies in l and leads to its node. -/
def Good (l : List Arc) (last : List Int) (u : Int) : Prop := ∀ j, arcAt l last (iter (par l last) j u) ∈ l ∧ (arcAt l last (iter (par l last) j u)).to = iter (par l last) j u
theorem Good.next {l : List Arc} {last : List Int} {u : Int} (h : Good l last u) : Good l last (par l last u) := fun j => by
  have := h (j + 1)
  rwa [iter_succ'] at this
theorem push_bal {x : Graph} {f : List Int} (h : flowOk x f = true) {last : List Int} {v0 : Int} {r : Int} {v : Nat} : ∀ (d m : Nat) (u : Int) (o : List Int), 1 ≤ d → d ≤ m → backs (par (arcsOf x f) last) u v0 d → Good (arcsOf x f) last u → o.length = x.edges.length →
    balz v (x.edges.zip (pushAll r (ringFrom (arcsOf x f) last v0 m u) o)) = balz v (x.edges.zip o) + r * (ind (decide (u.toNat = v)) - ind (decide (v0.toNat = v)))
  | 0, _, _, _, h, _, _, _, _ => absurd h (by omega)
  | _ + 1, 0, _, _, _, h, _, _, _ => absurd h (by omega)
  | d + 1, m + 1, u, o, _, hm, hb, hg, ho => by
    show balz v (x.edges.zip (pushAll r (if par (arcsOf x f) last u = v0 then [] else ringFrom (arcsOf x f) last v0 m (par (arcsOf x f) last u)) (pushStep r o (arcAt (arcsOf x f) last u).id))) = _
    obtain ⟨g1, g2⟩ := hg 0
    have g1 : arcAt (arcsOf x f) last u ∈ arcsOf x f := g1
    have g2 : (arcAt (arcsOf x f) last u).to = u := g2
    have hstep : balz v (x.edges.zip (pushStep r o (arcAt (arcsOf x f) last u).id)) = balz v (x.edges.zip o) + r * (ind (decide (u.toNat = v)) - ind (decide ((par (arcsOf x f) last u).toNat = v))) := by
      unfold par
      obtain ⟨i, h1, h2, hc⟩ := arc_at h g1
      generalize arcAt (arcsOf x f) last u = a at *
      have hid : (a.id / 2).toNat = i := by rcases hc with ⟨q, _⟩ | ⟨q, _⟩ <;> omega
      have hlt : (a.id / 2).toNat < o.length := by omega
      unfold pushStep
      rw [balz_set x.edges o (a.id / 2).toNat _ (by omega) hlt]
      have e0 : o.getD (a.id / 2).toNat 0 = o[(a.id / 2).toNat] := by rw [List.getD_eq_getElem?_getD, List.getElem?_eq_getElem hlt]; rfl
      rw [e0]
      rcases hc with ⟨q1, _, q3⟩ | ⟨q1, _, q3⟩
      · have ta : a.to = x.edges[i].to := by rw [q3]
        have tb : a.frm = x.edges[i].frm := by rw [q3]
        have t1 : a.to = x.edges[(a.id / 2).toNat].to := by simp only [hid]; exact ta
        have t2 : a.frm = x.edges[(a.id / 2).toNat].frm := by simp only [hid]; exact tb
        rw [← t1, ← t2, g2, if_pos (show a.id % 2 = 0 by omega)]
        unfold ind
        by_cases c1 : u.toNat = v <;> by_cases c2 : a.frm.toNat = v <;> simp [c1, c2] <;> omega
      · have ta : a.to = x.edges[i].frm := by rw [q3]
        have tb : a.frm = x.edges[i].to := by rw [q3]
        have t1 : a.to = x.edges[(a.id / 2).toNat].frm := by simp only [hid]; exact ta
        have t2 : a.frm = x.edges[(a.id / 2).toNat].to := by simp only [hid]; exact tb
        rw [← t1, ← t2, g2, if_neg (show ¬ a.id % 2 = 0 by omega)]
        unfold ind
        by_cases c1 : u.toNat = v <;> by_cases c2 : a.frm.toNat = v <;> simp [c1, c2] <;> omega
    by_cases hd : d = 0
    · subst hd
      have e : par (arcsOf x f) last u = v0 := hb.1
      rw [if_pos e]
      show balz v (x.edges.zip (pushStep r o (arcAt (arcsOf x f) last u).id)) = _
      rw [hstep, e]
    · have hne : par (arcsOf x f) last u ≠ v0 := hb.2 1 (by omega) (by omega)
      rw [if_neg hne, push_bal h d m (par (arcsOf x f) last u) _ (by omega) (by omega) ⟨by rw [← iter_succ']; exact hb.1, fun k k1 k2 => by rw [← iter_succ']; exact hb.2 (k + 1) (by omega) (by omega)⟩ hg.next (by rw [pushStep_length]; exact ho), hstep, Int.add_assoc, ← Int.mul_add]
      congr 2
      omega

theorem nodup_range_map {g : Nat → Int} {d : Nat} (h : ∀ i j, i < j → j < d → g i ≠ g j) : ((List.range d).map g).Nodup := by
  rw [List.Nodup, List.pairwise_map, List.pairwise_iff_getElem]
  intro i j hi hj hij
  simp only [List.getElem_range]
  exact h i j hij (by simpa using hj)

/-- A ring's push goes. -/
theorem push_ring {x : Graph} {f : List Int} (h : ringOk x f = true) : pushOk x f (ringL x f) = true := by
  have hL : ringL x f = (ringIt x.n.toNat (arcsOf x f)).1 := if_pos h
  unfold ringOk at h
  simp only [Bool.and_eq_true] at h
  obtain ⟨hf, h⟩ := h
  obtain ⟨n1, n2, g2, hl, he, hp, hs⟩ := flowOk_facts hf
  have hfine := arcs_fine hf
  have hnn : ((x.n.toNat : Nat) : Int) = x.n := by omega
  rw [← hnn] at hfine
  unfold ringIt at h hL
  dsimp only at h hL
  have hnode : 0 ≤ (passes x.n.toNat (arcsOf x f) x.n.toNat).node := by
    by_cases q : (passes x.n.toNat (arcsOf x f) x.n.toNat).node < 0
    · rw [if_pos q] at h; exact absurd h (by simp)
    · omega
  rw [if_neg (by omega)] at hL
  have h0 : 1 ≤ (arcsOf x f).length := by
    rcases Nat.eq_zero_or_pos (arcsOf x f).length with q | q
    · exfalso
      have e : arcsOf x f = [] := List.eq_nil_of_length_eq_zero q
      rw [e] at hnode
      rcases hh : x.n.toNat with _ | j
      · omega
      · rw [hh] at hnode
        exact absurd hnode (by show ¬ (0 : Int) ≤ -1; omega)
    · omega
  have hF := passes_fine hfine h0 x.n.toNat
  have hrel := all_relaxed hfine (by omega) h0 hnode
  have hst := par_stays hfine hF
  generalize hss : passes x.n.toNat (arcsOf x f) x.n.toNat = s at *
  have hnl : s.node < (x.n.toNat : Int) := hF.2.2.1
  obtain ⟨d0, hd1, hd2, hd3⟩ := comes_back hst hnode hnl
  obtain ⟨d, hd4, ⟨hd5, hd6⟩, hd7⟩ := least_of (q := fun d => 1 ≤ d ∧ iter (par (arcsOf x f) s.last) d (iter (par (arcsOf x f) s.last) x.n.toNat s.node) = iter (par (arcsOf x f) s.last) x.n.toNat s.node) d0 ⟨hd1, hd3⟩
  have hgood : Good (arcsOf x f) s.last (iter (par (arcsOf x f) s.last) x.n.toNat s.node) := fun j => by
    rw [← iter_add]
    refine ⟨?_, hrel _⟩
    have hb := hst.iter hnode hnl (j + x.n.toNat)
    generalize iter (par (arcsOf x f) s.last) (j + x.n.toNat) s.node = u at *
    have hv : u.toNat < s.last.length := by rw [hF.2.1]; omega
    have hb2 := hF.2.2.2.2 _ hv
    have e : s.last.getD u.toNat 0 = ((s.last[u.toNat]).toNat : Int) := by rw [List.getD_eq_getElem?_getD, List.getElem?_eq_getElem hv]; show s.last[u.toNat] = _; omega
    rw [arcAt_of e (by omega)]
    exact List.getElem_mem _
  generalize iter (par (arcsOf x f) s.last) x.n.toNat s.node = v at *
  have hbk : backs (par (arcsOf x f) s.last) v v d := ⟨hd6, fun k k1 k2 hk => hd7 k k2 ⟨k1, hk⟩⟩
  have hring := ringFrom_eq d x.n.toNat v hd5 (by omega) hbk
  have hbal := fun (w : Nat) (r : Int) => push_bal hf (r := r) (v := w) d x.n.toNat v f hd5 (by omega) hbk hgood hl
  dsimp only at hL
  rw [← hL] at hring hbal
  generalize ringL x f = ring at *
  have hmem : ∀ id ∈ ring, ∃ a ∈ arcsOf x f, a.id = id := fun id hid => by
    rw [hring] at hid
    obtain ⟨j, _, rfl⟩ := List.mem_map.1 hid
    exact ⟨_, (hgood j).1, rfl⟩
  have hnd : ring.Nodup := by
    rw [hring]
    refine nodup_range_map fun i j hij hj e => ?_
    have := arc_same hf (hgood i).1 (hgood j).1 e
    have e2 : iter (par (arcsOf x f) s.last) i v = iter (par (arcsOf x f) s.last) j v := by rw [← (hgood i).2, ← (hgood j).2, this]
    refine hd7 (d - j + i) (by omega) ⟨by omega, ?_⟩
    rw [iter_add, e2, ← iter_add, show d - j + j = d by omega, hd6]
  have hlen : ring.length ≠ 0 := by rw [hring]; simp; omega
  have hroom1 : ∀ a ∈ arcsOf x f, 1 ≤ a.room := fun a ha => (hfine a ha).2.2.2.2.2.2.2.1
  have hr1 := leastOf_pos (arcsOf x f) ring 1000000000 hroom1 (by omega)
  have hr2 := leastOf_arc (arcsOf x f) ring 1000000000
  have hrings : ringsOk (arcsOf x f) ring = true := by
    unfold ringsOk
    rw [List.all_eq_true]
    intro i hi
    have hi' : i < ring.length := by simpa using hi
    unfold ringAt
    rw [List.getElem?_eq_getElem hi']
    dsimp only
    rw [Bool.and_eq_true]
    constructor
    · obtain ⟨a, ha, e⟩ := hmem _ (List.getElem_mem hi')
      unfold hasArc
      rw [List.any_eq_true]
      exact ⟨a, ha, by simp [e]⟩
    · rw [Bool.not_eq_true', List.any_eq_false]
      intro y hy hyy
      obtain ⟨j, hj, rfl⟩ := List.mem_take_iff_getElem.1 hy
      have hyy' : ring[j] = ring[i] := by simpa using hyy
      have := List.pairwise_iff_getElem.1 hnd j i (by omega) hi' (by omega)
      exact this hyy'
  have hto : pushTo x f ring = pushAll (leastOf (arcsOf x f) 1000000000 ring) ring f := rfl
  generalize hrr : leastOf (arcsOf x f) 1000000000 ring = r at *
  have hid0 : ∀ id ∈ ring, 0 ≤ id := fun id hid => by
    obtain ⟨a, ha, rfl⟩ := hmem id hid
    exact (hfine a ha).1
  have holen : (pushTo x f ring).length = f.length := by rw [hto, pushAll_length]
  have hg : graphOk x = true := by unfold flowOk at hf; simp only [Bool.and_eq_true] at hf; exact hf.1.1.1
  have hfin : flowOk x (pushTo x f ring) = true := by
    unfold flowOk
    rw [hg, Bool.true_and, Bool.and_eq_true, Bool.and_eq_true]
    refine ⟨⟨by simpa [holen] using hl, ?_⟩, ?_⟩
    · rw [List.all_eq_true]
      intro p hpm
      obtain ⟨i, hi, rfl⟩ := List.getElem_of_mem hpm
      have hi1 : i < x.edges.length := by simp at hi; omega
      have hi2 : i < f.length := by omega
      have hi3 : i < (pushTo x f ring).length := by omega
      have hz : (x.edges.zip (pushTo x f ring))[i] = (x.edges[i], (pushTo x f ring)[i]) := List.getElem_zip
      rw [hz]
      have hpi := hp (x.edges[i], f[i]) (by
        have : (x.edges.zip f)[i]'(by simp; omega) = (x.edges[i], f[i]) := List.getElem_zip
        rw [← this]; exact List.getElem_mem _)
      have hval := pushAll_getD (r := r) ring f hid0 i hi2
      rw [← hto] at hval
      have e1 : (pushTo x f ring).getD i 0 = (pushTo x f ring)[i] := by rw [List.getD_eq_getElem?_getD, List.getElem?_eq_getElem hi3]; rfl
      have e2 : f.getD i 0 = f[i] := by rw [List.getD_eq_getElem?_getD, List.getElem?_eq_getElem hi2]; rfl
      rw [e1, e2] at hval
      obtain ⟨c1, c2⟩ := contrs_bd (i := i) hnd
      have u1 : (2 * i : Int) ∈ ring → r ≤ x.edges[i].cap - f[i] := fun hm => by
        obtain ⟨a, ha, e⟩ := hmem _ hm
        have := hr2 a ha (by rw [e]; exact hm)
        obtain ⟨j, j1, j2, q⟩ := arc_at hf ha
        rcases q with ⟨q1, q2, q3⟩ | ⟨q1, q2, q3⟩
        · obtain rfl : i = j := by omega
          rw [q3] at this; exact this
        · omega
      have u2 : (2 * i + 1 : Int) ∈ ring → r ≤ f[i] := fun hm => by
        obtain ⟨a, ha, e⟩ := hmem _ hm
        have := hr2 a ha (by rw [e]; exact hm)
        obtain ⟨j, j1, j2, q⟩ := arc_at hf ha
        rcases q with ⟨q1, q2, q3⟩ | ⟨q1, q2, q3⟩
        · omega
        · obtain rfl : i = j := by omega
          rw [q3] at this; exact this
      unfold flowIn
      refine inB_true.2 ⟨?_, ?_⟩
      · show 0 ≤ (pushTo x f ring)[i]
        rw [hval]
        by_cases q : contrs i ring ≤ -1
        · have q2 : contrs i ring = -1 := by split at c2 <;> omega
          have q3 : (2 * i + 1 : Int) ∈ ring := by
            by_cases m : (2 * i + 1 : Int) ∈ ring
            · exact m
            · rw [if_neg m] at c2; omega
          have := u2 q3
          rw [q2]; omega
        · have := Int.mul_nonneg (show (0 : Int) ≤ r by omega) (show 0 ≤ contrs i ring by omega)
          have := hpi.1
          simp only at this
          omega
      · show (pushTo x f ring)[i] ≤ x.edges[i].cap
        rw [hval]
        by_cases q : 1 ≤ contrs i ring
        · have q2 : contrs i ring = 1 := by split at c1 <;> omega
          have q3 : (2 * i : Int) ∈ ring := by
            by_cases m : (2 * i : Int) ∈ ring
            · exact m
            · rw [if_neg m] at c1; omega
          have := u1 q3
          rw [q2]; omega
        · have := Int.mul_nonneg (show (0 : Int) ≤ r by omega) (show 0 ≤ -contrs i ring by omega)
          rw [Int.mul_neg] at this
          have := hpi.2
          simp only at this
          omega
    · rw [List.all_eq_true]
      intro y hy
      obtain ⟨w, hw, rfl⟩ := List.getElem_of_mem hy
      have hends : ∀ (o : List Int), ∀ p ∈ x.edges.zip o, p.1.frm.toNat < (List.replicate x.n.toNat (0 : Int)).length ∧ p.1.to.toNat < (List.replicate x.n.toNat (0 : Int)).length := fun o p hp => by
        obtain ⟨e1, _⟩ := List.of_mem_zip hp
        obtain ⟨p1, p2, p3, p4, _⟩ := edgeOk_iff.1 (he _ e1)
        rw [List.length_replicate]; omega
      have k1 := fold_getD (v := w) (x.edges.zip (pushTo x f ring)) (List.replicate x.n.toNat 0) (hends _)
      have k2 := fold_getD (v := w) (x.edges.zip f) (List.replicate x.n.toNat 0) (hends _)
      have hw2 : w < (sumsOf x.n.toNat (x.edges.zip f)).length := by rw [sumsOf_length] at hw ⊢; exact hw
      have k3 := hs _ (List.getElem_mem hw2)
      have k4 : (sumsOf x.n.toNat (x.edges.zip f)).getD w 0 = (sumsOf x.n.toNat (x.edges.zip f))[w] := by rw [List.getD_eq_getElem?_getD, List.getElem?_eq_getElem hw2]; rfl
      have k5 : (sumsOf x.n.toNat (x.edges.zip (pushTo x f ring))).getD w 0 = (sumsOf x.n.toNat (x.edges.zip (pushTo x f ring)))[w] := by rw [List.getD_eq_getElem?_getD, List.getElem?_eq_getElem hw]; rfl
      have k6 := hbal w r
      rw [← hto] at k6
      have k7 : r * (ind (decide (v.toNat = w)) - ind (decide (v.toNat = w))) = 0 := by rw [Int.sub_self]; simp
      rw [k7] at k6
      unfold sumsOf at k3 k4 k5 ⊢
      simp only [beq_iff_eq]
      rw [← k5, k1]
      rw [← k4, k2] at k3
      omega
  unfold pushOk
  rw [hf, hrings, hfin]
  simp [hlen]
end Go.Proofs.Ytbjnbhlpibadnaa
