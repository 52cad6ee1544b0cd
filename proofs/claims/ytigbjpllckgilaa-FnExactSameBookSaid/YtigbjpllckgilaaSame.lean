/- SameBook, of the program and of the reference. -/
import Derived.Test.YtigbjpllckgilaaPrices
namespace Go.Proofs.Ytigbjpllckgilaa
open Go.RowKit
set_option linter.unusedSimpArgs false
set_option linter.unusedVariables false

open Classical in
noncomputable def rowAt {α : Type} (xs ys : List α) (i : Nat) : Bool := decide (xs[i]? = ys[i]?)
noncomputable def rowsEq {α : Type} (xs ys : List α) : Bool := (List.range xs.length).all (rowAt xs ys)
noncomputable def eqBooks (x y : Book) : Bool := x.tick == y.tick && x.next == y.next && x.wallet == y.wallet && x.chans.length == y.chans.length && x.htlcs.length == y.htlcs.length && x.circles.length == y.circles.length && rowsEq x.chans y.chans && rowsEq x.htlcs y.htlcs && rowsEq x.circles y.circles
noncomputable def sameBook (x y : Book) : Bool := bookOk x && bookOk y && eqBooks x y
theorem rowAt_true {α : Type} {xs ys : List α} {i : Nat} (h1 : i < xs.length) (h2 : i < ys.length) (h : xs[i] = ys[i]) : rowAt xs ys i = true := by
  unfold rowAt; rw [List.getElem?_eq_getElem h1, List.getElem?_eq_getElem h2, h]; simp
theorem rowAt_false {α : Type} {xs ys : List α} {i : Nat} (h1 : i < xs.length) (h2 : i < ys.length) (h : xs[i] ≠ ys[i]) : rowAt xs ys i = false := by
  unfold rowAt; rw [List.getElem?_eq_getElem h1, List.getElem?_eq_getElem h2]; simp [h]
theorem chan_ne {c d : Chan} : c ≠ d ↔ ¬ (c.id = d.id ∧ c.size = d.size ∧ c.loc = d.loc ∧ c.remote = d.remote ∧ c.base = d.base ∧ c.ppm = d.ppm ∧ c.score = d.score) := by
  cases c; cases d; simp
theorem htlc_ne {c d : Htlc} : c ≠ d ↔ ¬ (c.key = d.key ∧ c.inn = d.inn ∧ c.out = d.out ∧ c.amtIn = d.amtIn ∧ c.amtOut = d.amtOut ∧ c.kept = d.kept ∧ c.age = d.age) := by
  cases c; cases d; simp
theorem circle_ne {c d : Circle} : c ≠ d ↔ ¬ (c.key = d.key ∧ c.frm = d.frm ∧ c.to = d.to ∧ c.amt = d.amt ∧ c.fee = d.fee) := by
  cases c; cases d; simp

theorem neq_Chan_eq (c : Chan) (w : World) : (binOp .neq 41 (.agg #[.int .i64 c.id, .int .i64 c.size, .int .i64 c.loc, .int .i64 c.remote, .int .i64 c.base, .int .i64 c.ppm, .int .i64 c.score]) (.agg #[.int .i64 c.id, .int .i64 c.size, .int .i64 c.loc, .int .i64 c.remote, .int .i64 c.base, .int .i64 c.ppm, .int .i64 c.score])).run Try.prog w = .ok (.bool false) w := by
  rw [run_neq_struct, run_equalIn_struct _ 9999 _ _ _ (by kernel_rfl) (by kernel_rfl)]
  simp [go_sem, Try.underlying41]
theorem neq_Chan_ne {c d : Chan} (h : c ≠ d) (w : World) : (binOp .neq 41 (.agg #[.int .i64 c.id, .int .i64 c.size, .int .i64 c.loc, .int .i64 c.remote, .int .i64 c.base, .int .i64 c.ppm, .int .i64 c.score]) (.agg #[.int .i64 d.id, .int .i64 d.size, .int .i64 d.loc, .int .i64 d.remote, .int .i64 d.base, .int .i64 d.ppm, .int .i64 d.score])).run Try.prog w = .ok (.bool true) w := by
  rw [run_neq_struct, run_equalIn_struct _ 9999 _ _ _ (by kernel_rfl) (by kernel_rfl)]
  simp [go_sem, Try.underlying41]
  exact fun h0 h1 h2 h3 h4 h5 h6 => (chan_ne.1 h) ⟨h0, h1, h2, h3, h4, h5, h6⟩
theorem neq_Htlc_eq (c : Htlc) (w : World) : (binOp .neq 106 (.agg #[.int .i64 c.key, .int .i64 c.inn, .int .i64 c.out, .int .i64 c.amtIn, .int .i64 c.amtOut, .bool c.kept, .int .i64 c.age]) (.agg #[.int .i64 c.key, .int .i64 c.inn, .int .i64 c.out, .int .i64 c.amtIn, .int .i64 c.amtOut, .bool c.kept, .int .i64 c.age])).run Try.prog w = .ok (.bool false) w := by
  rw [run_neq_struct, run_equalIn_struct _ 9999 _ _ _ (by kernel_rfl) (by kernel_rfl)]
  simp [go_sem, Try.underlying106]
theorem neq_Htlc_ne {c d : Htlc} (h : c ≠ d) (w : World) : (binOp .neq 106 (.agg #[.int .i64 c.key, .int .i64 c.inn, .int .i64 c.out, .int .i64 c.amtIn, .int .i64 c.amtOut, .bool c.kept, .int .i64 c.age]) (.agg #[.int .i64 d.key, .int .i64 d.inn, .int .i64 d.out, .int .i64 d.amtIn, .int .i64 d.amtOut, .bool d.kept, .int .i64 d.age])).run Try.prog w = .ok (.bool true) w := by
  rw [run_neq_struct, run_equalIn_struct _ 9999 _ _ _ (by kernel_rfl) (by kernel_rfl)]
  simp [go_sem, Try.underlying106]
  exact fun h0 h1 h2 h3 h4 h5 h6 => (htlc_ne.1 h) ⟨h0, h1, h2, h3, h4, h5, h6⟩
theorem neq_Circle_eq (c : Circle) (w : World) : (binOp .neq 108 (.agg #[.int .i64 c.key, .int .i64 c.frm, .int .i64 c.to, .int .i64 c.amt, .int .i64 c.fee]) (.agg #[.int .i64 c.key, .int .i64 c.frm, .int .i64 c.to, .int .i64 c.amt, .int .i64 c.fee])).run Try.prog w = .ok (.bool false) w := by
  rw [run_neq_struct, run_equalIn_struct _ 9999 _ _ _ (by kernel_rfl) (by kernel_rfl)]
  simp [go_sem, Try.underlying108]
theorem neq_Circle_ne {c d : Circle} (h : c ≠ d) (w : World) : (binOp .neq 108 (.agg #[.int .i64 c.key, .int .i64 c.frm, .int .i64 c.to, .int .i64 c.amt, .int .i64 c.fee]) (.agg #[.int .i64 d.key, .int .i64 d.frm, .int .i64 d.to, .int .i64 d.amt, .int .i64 d.fee])).run Try.prog w = .ok (.bool true) w := by
  rw [run_neq_struct, run_equalIn_struct _ 9999 _ _ _ (by kernel_rfl) (by kernel_rfl)]
  simp [go_sem, Try.underlying108]
  exact fun h0 h1 h2 h3 h4 => (circle_ne.1 h) ⟨h0, h1, h2, h3, h4⟩

set_option maxHeartbeats 8000000 in
set_option maxRecDepth 100000 in
theorem impl_equalBooks_c (x : Book) (ax0 : Option Addr) (cx0 : Nat) (ax1 : Option Addr) (cx1 : Nat) (ax2 : Option Addr) (cx2 : Nat) (y : Book) (ay0 : Option Addr) (cy0 : Nat) (ay1 : Option Addr) (cy1 : Nat) (ay2 : Option Addr) (cy2 : Nat) (w : World) (hx0 : SlR 7 repChan w 0 w.heap.size (.slice ax0 x.chans.length cx0) x.chans) (hx1 : SlR 7 repHtlc w 0 w.heap.size (.slice ax1 x.htlcs.length cx1) x.htlcs) (hx2 : SlR 5 repCircle w 0 w.heap.size (.slice ax2 x.circles.length cx2) x.circles) (hy0 : SlR 7 repChan w 0 w.heap.size (.slice ay0 y.chans.length cy0) y.chans) (hy1 : SlR 7 repHtlc w 0 w.heap.size (.slice ay1 y.htlcs.length cy1) y.htlcs) (hy2 : SlR 5 repCircle w 0 w.heap.size (.slice ay2 y.circles.length cy2) y.circles) (hn : x.chans.length ≤ 1048576) (nh : x.htlcs.length ≤ 1048576) (nc : x.circles.length ≤ 1048576) :
    Calls Try.prog 84 #[.agg #[.int .i64 x.tick, .int .i64 x.next, .int .i64 x.wallet, .slice ax0 x.chans.length cx0, .slice ax1 x.htlcs.length cx1, .slice ax2 x.circles.length cx2], .agg #[.int .i64 y.tick, .int .i64 y.next, .int .i64 y.wallet, .slice ay0 y.chans.length cy0, .slice ay1 y.htlcs.length cy1, .slice ay2 y.circles.length cy2]] w fun e w' => e = .returned (.bool (eqBooks x y)) ∧ Grow w w' := by
  have Hx0 := Lib.hid hx0; have Hx1 := Lib.hid hx1; have Hx2 := Lib.hid hx2
  clear hx0 hx1 hx2
  have Hy0 := Lib.hid hy0; have Hy1 := Lib.hid hy1; have Hy2 := Lib.hid hy2
  clear hy0 hy1 hy2
  have HFULL : Hid (eqBooks x y = (x.tick == y.tick && x.next == y.next && x.wallet == y.wallet && x.chans.length == y.chans.length && x.htlcs.length == y.htlcs.length && x.circles.length == y.circles.length && rowsEq x.chans y.chans && rowsEq x.htlcs y.htlcs && rowsEq x.circles y.circles)) := rfl
  by_cases hh : x.tick = y.tick ∧ x.next = y.next ∧ x.wallet = y.wallet ∧ x.chans.length = y.chans.length ∧ x.htlcs.length = y.htlcs.length ∧ x.circles.length = y.circles.length
  rotate_left
  · have HR : Hid (eqBooks x y = false) := by
      show _ = _
      rw [HFULL.out]
      have hn : (x.tick == y.tick && x.next == y.next && x.wallet == y.wallet && x.chans.length == y.chans.length && x.htlcs.length == y.htlcs.length && x.circles.length == y.circles.length) = false := by
        rw [Bool.eq_false_iff]; intro h; apply hh; simpa [and_assoc] using h
      simp only [hn, Bool.false_and]
    have HH := Lib.hid hh; clear hh
    go_enter Try.func84, Try.ntmps84
    go_wp2_with fail
    all_goals first
      | (exfalso; apply HH.out; (try simp_all); omega)
      | (go_ret
         exact ⟨by rw [HR.out]; rfl, by first | exact G | exact ((Grow.refl _).alloc _ _).alloc _ _⟩)
  obtain ⟨hh0, hh1, hh2, hh3, hh4, hh5⟩ := hh
  have HFIN : Hid (eqBooks x y = (rowsEq x.chans y.chans && rowsEq x.htlcs y.htlcs && rowsEq x.circles y.circles)) := by
    show _ = _
    rw [HFULL.out]; simp [hh0, hh1, hh2, hh3, hh4, hh5]
  have HLEN0 := Lib.hid hh3
  have HLEN1 := Lib.hid hh4
  have HLEN2 := Lib.hid hh5
  have qq0 : (x.tick != y.tick) = false := by simp [hh0]
  have qq1 : (x.next != y.next) = false := by simp [hh1]
  have qq2 : (x.wallet != y.wallet) = false := by simp [hh2]
  have qq3 : ((x.chans.length : Int) != (y.chans.length : Int)) = false := by simp [hh3]
  have qq4 : ((x.htlcs.length : Int) != (y.htlcs.length : Int)) = false := by simp [hh4]
  have qq5 : ((x.circles.length : Int) != (y.circles.length : Int)) = false := by simp [hh5]
  clear hh0 hh1 hh2 hh3 hh4 hh5
  go_enter Try.func84, Try.ntmps84
  go_wp2_with fail
  obtain ⟨V1, hV⟩ : ∃ V, V = ((w.alloc (.cells #[.int .i64 x.tick, .int .i64 x.next, .int .i64 x.wallet, .slice ax0 x.chans.length cx0, .slice ax1 x.htlcs.length cx1, .slice ax2 x.circles.length cx2] 26)).alloc (.cells #[.int .i64 y.tick, .int .i64 y.next, .int .i64 y.wallet, .slice ay0 y.chans.length cy0, .slice ay1 y.htlcs.length cy1, .slice ay2 y.circles.length cy2] 26)) := ⟨_, rfl⟩
  have G' : Grow w V1 := by rw [hV]; exact (((Grow.refl w).alloc _ _).alloc _ _)
  have gs : Grow w V1 := by rw [hV]; exact (((Grow.refl w).alloc _ _).alloc _ _)
  have B0 : Box V1 (w.heap.size) [.int .i64 x.tick, .int .i64 x.next, .int .i64 x.wallet, .slice ax0 x.chans.length cx0, .slice ax1 x.htlcs.length cx1, .slice ax2 x.circles.length cx2] := by rw [hV]; exact (Box.newAt (by simp) _ _).alloc _ _
  have B1 : Box V1 (w.heap.size + 1) [.int .i64 y.tick, .int .i64 y.next, .int .i64 y.wallet, .slice ay0 y.chans.length cy0, .slice ay1 y.htlcs.length cy1, .slice ay2 y.circles.length cy2] := by rw [hV]; exact Box.newAt (by simp) _ _
  have ys : V1.heap.size = w.heap.size + 2 := by rw [hV]; simp
  have G := G'
  clear G'
  rw [← hV]
  clear hV
  clear gs
  have z0 := B0.lt
  have z1 := B1.lt
  have q0_0 : V1.cell? ⟨w.heap.size, 0, none⟩ = some (.int .i64 x.tick) := B0.c 0 _ rfl
  have q0_1 : V1.cell? ⟨w.heap.size, 1, none⟩ = some (.int .i64 x.next) := B0.c 1 _ rfl
  have q0_2 : V1.cell? ⟨w.heap.size, 2, none⟩ = some (.int .i64 x.wallet) := B0.c 2 _ rfl
  have q0_3 : V1.cell? ⟨w.heap.size, 3, none⟩ = some (.slice ax0 x.chans.length cx0) := B0.c 3 _ rfl
  have q0_4 : V1.cell? ⟨w.heap.size, 4, none⟩ = some (.slice ax1 x.htlcs.length cx1) := B0.c 4 _ rfl
  have q0_5 : V1.cell? ⟨w.heap.size, 5, none⟩ = some (.slice ax2 x.circles.length cx2) := B0.c 5 _ rfl
  have f0 := B0.f
  have q1_0 : V1.cell? ⟨w.heap.size + 1, 0, none⟩ = some (.int .i64 y.tick) := B1.c 0 _ rfl
  have q1_1 : V1.cell? ⟨w.heap.size + 1, 1, none⟩ = some (.int .i64 y.next) := B1.c 1 _ rfl
  have q1_2 : V1.cell? ⟨w.heap.size + 1, 2, none⟩ = some (.int .i64 y.wallet) := B1.c 2 _ rfl
  have q1_3 : V1.cell? ⟨w.heap.size + 1, 3, none⟩ = some (.slice ay0 y.chans.length cy0) := B1.c 3 _ rfl
  have q1_4 : V1.cell? ⟨w.heap.size + 1, 4, none⟩ = some (.slice ay1 y.htlcs.length cy1) := B1.c 4 _ rfl
  have q1_5 : V1.cell? ⟨w.heap.size + 1, 5, none⟩ = some (.slice ay2 y.circles.length cy2) := B1.c 5 _ rfl
  have f1 := B1.f
  go_wp2_with fail
  clear z0 z1 q0_0 q0_1 q0_2 q0_3 q0_4 q0_5 f0 q1_0 q1_1 q1_2 q1_3 q1_4 q1_5 f1
  go_loopg [57] x.chans.length (fun g i wr => ∃ k : Nat, k + g = x.chans.length ∧ i = .int .i64 k ∧ (∀ j, j < k → rowAt x.chans y.chans j = true) ∧ Grow w wr ∧ Box wr (w.heap.size) [.int .i64 x.tick, .int .i64 x.next, .int .i64 x.wallet, .slice ax0 x.chans.length cx0, .slice ax1 x.htlcs.length cx1, .slice ax2 x.circles.length cx2] ∧ Box wr (w.heap.size + 1) [.int .i64 y.tick, .int .i64 y.next, .int .i64 y.wallet, .slice ay0 y.chans.length cy0, .slice ay1 y.htlcs.length cy1, .slice ay2 y.circles.length cy2])
  case atStart => exact ⟨0, by simp, rfl, fun j h => absurd h (by omega), G, B0, B1⟩
  case round =>
    clear G B0 B1
    obtain ⟨k, hk, rfl, hall, G, B0, B1⟩ := hrel
    obtain ⟨R2, rfl⟩ : ∃ V, V = wr := ⟨_, rfl⟩
    have HALL := Lib.hid hall; clear hall
    by_cases hlt : k < x.chans.length
    · have hlt2 : k < y.chans.length := by have := HLEN0.out; omega
      have HK := Lib.hid hk; clear hk
      have HT : Hid (x.chans[k] = y.chans[k] → rowAt x.chans y.chans k = true) := rowAt_true hlt hlt2
      have HF : Hid (x.chans[k] ≠ y.chans[k] → eqBooks x y = false) := fun h => by
        have h0 := range_no (p := rowAt x.chans y.chans) hlt (rowAt_false hlt hlt2 h)
        have h1 : rowsEq x.chans y.chans = false := h0
        rw [HFIN.out, h1]; simp
      have z0 := B0.lt
      have z1 := B1.lt
      have q0_0 : R2.cell? ⟨w.heap.size, 0, none⟩ = some (.int .i64 x.tick) := B0.c 0 _ rfl
      have q0_1 : R2.cell? ⟨w.heap.size, 1, none⟩ = some (.int .i64 x.next) := B0.c 1 _ rfl
      have q0_2 : R2.cell? ⟨w.heap.size, 2, none⟩ = some (.int .i64 x.wallet) := B0.c 2 _ rfl
      have q0_3 : R2.cell? ⟨w.heap.size, 3, none⟩ = some (.slice ax0 x.chans.length cx0) := B0.c 3 _ rfl
      have q0_4 : R2.cell? ⟨w.heap.size, 4, none⟩ = some (.slice ax1 x.htlcs.length cx1) := B0.c 4 _ rfl
      have q0_5 : R2.cell? ⟨w.heap.size, 5, none⟩ = some (.slice ax2 x.circles.length cx2) := B0.c 5 _ rfl
      have f0 := B0.f
      have q1_0 : R2.cell? ⟨w.heap.size + 1, 0, none⟩ = some (.int .i64 y.tick) := B1.c 0 _ rfl
      have q1_1 : R2.cell? ⟨w.heap.size + 1, 1, none⟩ = some (.int .i64 y.next) := B1.c 1 _ rfl
      have q1_2 : R2.cell? ⟨w.heap.size + 1, 2, none⟩ = some (.int .i64 y.wallet) := B1.c 2 _ rfl
      have q1_3 : R2.cell? ⟨w.heap.size + 1, 3, none⟩ = some (.slice ay0 y.chans.length cy0) := B1.c 3 _ rfl
      have q1_4 : R2.cell? ⟨w.heap.size + 1, 4, none⟩ = some (.slice ay1 y.htlcs.length cy1) := B1.c 4 _ rfl
      have q1_5 : R2.cell? ⟨w.heap.size + 1, 5, none⟩ = some (.slice ay2 y.circles.length cy2) := B1.c 5 _ rfl
      have f1 := B1.f
      obtain ⟨b_e, off_e, ha_e, hb1_e, hb2_e, hel_e⟩ := Hx0.out.elems k hlt
      obtain ⟨ee0, ee1, ee2, ee3, ee4, ee5, ee6, -⟩ := Chan.atCell (hel_e.same repChan_stable (G.same (Nat.le_refl _)) hb1_e hb2_e) k hlt
      subst ha_e
      clear hel_e
      obtain ⟨b_d, off_d, ha_d, hb1_d, hb2_d, hel_d⟩ := Hy0.out.elems k hlt2
      obtain ⟨ed0, ed1, ed2, ed3, ed4, ed5, ed6, -⟩ := Chan.atCell (hel_d.same repChan_stable (G.same (Nat.le_refl _)) hb1_d hb2_d) k hlt2
      subst ha_d
      clear hel_d
      generalize hee : x.chans[k] = e at *
      generalize hdd : y.chans[k] = d at *
      clear hee hdd
      by_cases hed : e = d
      · subst hed
        have HRT := Lib.hid (HT.out rfl)
        have hbo := neq_Chan_eq e
        go_wp2_with fail
        go_quiet (fail)
        go_wp2_with fail
        go_roundg (x.chans.length - (k + 1))
        case measure => have := HK.out; omega
        case rel => exact ⟨k + 1, by have := HK.out; omega, by go_num, fun j hj => by
                  by_cases he : j = k
                  · rw [he]; exact HRT.out
                  · exact HALL.out j (by omega), (G.drewN _), (B0.drewN _), (B1.drewN _)⟩
      · have HRF := Lib.hid (HF.out hed)
        have hbo := neq_Chan_ne hed
        clear hed
        go_wp2_with fail
        go_quiet (fail)
        go_wp2_with fail
        go_ret
        exact ⟨by rw [HRF.out]; rfl, (G.drewN _)⟩
    · have HRW0 : Hid (rowsEq x.chans y.chans = true) := range_yes (fun j hj => HALL.out j (by omega))
      have z0 := B0.lt
      have z1 := B1.lt
      have q0_0 : R2.cell? ⟨w.heap.size, 0, none⟩ = some (.int .i64 x.tick) := B0.c 0 _ rfl
      have q0_1 : R2.cell? ⟨w.heap.size, 1, none⟩ = some (.int .i64 x.next) := B0.c 1 _ rfl
      have q0_2 : R2.cell? ⟨w.heap.size, 2, none⟩ = some (.int .i64 x.wallet) := B0.c 2 _ rfl
      have q0_3 : R2.cell? ⟨w.heap.size, 3, none⟩ = some (.slice ax0 x.chans.length cx0) := B0.c 3 _ rfl
      have q0_4 : R2.cell? ⟨w.heap.size, 4, none⟩ = some (.slice ax1 x.htlcs.length cx1) := B0.c 4 _ rfl
      have q0_5 : R2.cell? ⟨w.heap.size, 5, none⟩ = some (.slice ax2 x.circles.length cx2) := B0.c 5 _ rfl
      have f0 := B0.f
      have q1_0 : R2.cell? ⟨w.heap.size + 1, 0, none⟩ = some (.int .i64 y.tick) := B1.c 0 _ rfl
      have q1_1 : R2.cell? ⟨w.heap.size + 1, 1, none⟩ = some (.int .i64 y.next) := B1.c 1 _ rfl
      have q1_2 : R2.cell? ⟨w.heap.size + 1, 2, none⟩ = some (.int .i64 y.wallet) := B1.c 2 _ rfl
      have q1_3 : R2.cell? ⟨w.heap.size + 1, 3, none⟩ = some (.slice ay0 y.chans.length cy0) := B1.c 3 _ rfl
      have q1_4 : R2.cell? ⟨w.heap.size + 1, 4, none⟩ = some (.slice ay1 y.htlcs.length cy1) := B1.c 4 _ rfl
      have q1_5 : R2.cell? ⟨w.heap.size + 1, 5, none⟩ = some (.slice ay2 y.circles.length cy2) := B1.c 5 _ rfl
      have f1 := B1.f
      go_wp2_with fail
      clear HALL hlt hk
      clear z0 z1 q0_0 q0_1 q0_2 q0_3 q0_4 q0_5 f0 q1_0 q1_1 q1_2 q1_3 q1_4 q1_5 f1
      go_loopg [75] x.htlcs.length (fun g i wr => ∃ k : Nat, k + g = x.htlcs.length ∧ i = .int .i64 k ∧ (∀ j, j < k → rowAt x.htlcs y.htlcs j = true) ∧ Grow w wr ∧ Box wr (w.heap.size) [.int .i64 x.tick, .int .i64 x.next, .int .i64 x.wallet, .slice ax0 x.chans.length cx0, .slice ax1 x.htlcs.length cx1, .slice ax2 x.circles.length cx2] ∧ Box wr (w.heap.size + 1) [.int .i64 y.tick, .int .i64 y.next, .int .i64 y.wallet, .slice ay0 y.chans.length cy0, .slice ay1 y.htlcs.length cy1, .slice ay2 y.circles.length cy2])
      case atStart => exact ⟨0, by simp, rfl, fun j h => absurd h (by omega), G, B0, B1⟩
      case round =>
        clear G B0 B1
        obtain ⟨k, hk, rfl, hall, G, B0, B1⟩ := hrel
        obtain ⟨R3, rfl⟩ : ∃ V, V = wr := ⟨_, rfl⟩
        have HALL := Lib.hid hall; clear hall
        by_cases hlt : k < x.htlcs.length
        · have hlt2 : k < y.htlcs.length := by have := HLEN1.out; omega
          have HK := Lib.hid hk; clear hk
          have HT : Hid (x.htlcs[k] = y.htlcs[k] → rowAt x.htlcs y.htlcs k = true) := rowAt_true hlt hlt2
          have HF : Hid (x.htlcs[k] ≠ y.htlcs[k] → eqBooks x y = false) := fun h => by
            have h0 := range_no (p := rowAt x.htlcs y.htlcs) hlt (rowAt_false hlt hlt2 h)
            have h1 : rowsEq x.htlcs y.htlcs = false := h0
            rw [HFIN.out, h1]; simp
          have z0 := B0.lt
          have z1 := B1.lt
          have q0_0 : R3.cell? ⟨w.heap.size, 0, none⟩ = some (.int .i64 x.tick) := B0.c 0 _ rfl
          have q0_1 : R3.cell? ⟨w.heap.size, 1, none⟩ = some (.int .i64 x.next) := B0.c 1 _ rfl
          have q0_2 : R3.cell? ⟨w.heap.size, 2, none⟩ = some (.int .i64 x.wallet) := B0.c 2 _ rfl
          have q0_3 : R3.cell? ⟨w.heap.size, 3, none⟩ = some (.slice ax0 x.chans.length cx0) := B0.c 3 _ rfl
          have q0_4 : R3.cell? ⟨w.heap.size, 4, none⟩ = some (.slice ax1 x.htlcs.length cx1) := B0.c 4 _ rfl
          have q0_5 : R3.cell? ⟨w.heap.size, 5, none⟩ = some (.slice ax2 x.circles.length cx2) := B0.c 5 _ rfl
          have f0 := B0.f
          have q1_0 : R3.cell? ⟨w.heap.size + 1, 0, none⟩ = some (.int .i64 y.tick) := B1.c 0 _ rfl
          have q1_1 : R3.cell? ⟨w.heap.size + 1, 1, none⟩ = some (.int .i64 y.next) := B1.c 1 _ rfl
          have q1_2 : R3.cell? ⟨w.heap.size + 1, 2, none⟩ = some (.int .i64 y.wallet) := B1.c 2 _ rfl
          have q1_3 : R3.cell? ⟨w.heap.size + 1, 3, none⟩ = some (.slice ay0 y.chans.length cy0) := B1.c 3 _ rfl
          have q1_4 : R3.cell? ⟨w.heap.size + 1, 4, none⟩ = some (.slice ay1 y.htlcs.length cy1) := B1.c 4 _ rfl
          have q1_5 : R3.cell? ⟨w.heap.size + 1, 5, none⟩ = some (.slice ay2 y.circles.length cy2) := B1.c 5 _ rfl
          have f1 := B1.f
          obtain ⟨b_e, off_e, ha_e, hb1_e, hb2_e, hel_e⟩ := Hx1.out.elems k hlt
          obtain ⟨ee0, ee1, ee2, ee3, ee4, ee5, ee6, -⟩ := Htlc.atCell (hel_e.same repHtlc_stable (G.same (Nat.le_refl _)) hb1_e hb2_e) k hlt
          subst ha_e
          clear hel_e
          obtain ⟨b_d, off_d, ha_d, hb1_d, hb2_d, hel_d⟩ := Hy1.out.elems k hlt2
          obtain ⟨ed0, ed1, ed2, ed3, ed4, ed5, ed6, -⟩ := Htlc.atCell (hel_d.same repHtlc_stable (G.same (Nat.le_refl _)) hb1_d hb2_d) k hlt2
          subst ha_d
          clear hel_d
          generalize hee : x.htlcs[k] = e at *
          generalize hdd : y.htlcs[k] = d at *
          clear hee hdd
          by_cases hed : e = d
          · subst hed
            have HRT := Lib.hid (HT.out rfl)
            have hbo := neq_Htlc_eq e
            go_wp2_with fail
            go_quiet (fail)
            go_wp2_with fail
            go_roundg (x.htlcs.length - (k + 1))
            case measure => have := HK.out; omega
            case rel => exact ⟨k + 1, by have := HK.out; omega, by go_num, fun j hj => by
                      by_cases he : j = k
                      · rw [he]; exact HRT.out
                      · exact HALL.out j (by omega), (G.drewN _), (B0.drewN _), (B1.drewN _)⟩
          · have HRF := Lib.hid (HF.out hed)
            have hbo := neq_Htlc_ne hed
            clear hed
            go_wp2_with fail
            go_quiet (fail)
            go_wp2_with fail
            go_ret
            exact ⟨by rw [HRF.out]; rfl, (G.drewN _)⟩
        · have HRW1 : Hid (rowsEq x.htlcs y.htlcs = true) := range_yes (fun j hj => HALL.out j (by omega))
          have z0 := B0.lt
          have z1 := B1.lt
          have q0_0 : R3.cell? ⟨w.heap.size, 0, none⟩ = some (.int .i64 x.tick) := B0.c 0 _ rfl
          have q0_1 : R3.cell? ⟨w.heap.size, 1, none⟩ = some (.int .i64 x.next) := B0.c 1 _ rfl
          have q0_2 : R3.cell? ⟨w.heap.size, 2, none⟩ = some (.int .i64 x.wallet) := B0.c 2 _ rfl
          have q0_3 : R3.cell? ⟨w.heap.size, 3, none⟩ = some (.slice ax0 x.chans.length cx0) := B0.c 3 _ rfl
          have q0_4 : R3.cell? ⟨w.heap.size, 4, none⟩ = some (.slice ax1 x.htlcs.length cx1) := B0.c 4 _ rfl
          have q0_5 : R3.cell? ⟨w.heap.size, 5, none⟩ = some (.slice ax2 x.circles.length cx2) := B0.c 5 _ rfl
          have f0 := B0.f
          have q1_0 : R3.cell? ⟨w.heap.size + 1, 0, none⟩ = some (.int .i64 y.tick) := B1.c 0 _ rfl
          have q1_1 : R3.cell? ⟨w.heap.size + 1, 1, none⟩ = some (.int .i64 y.next) := B1.c 1 _ rfl
          have q1_2 : R3.cell? ⟨w.heap.size + 1, 2, none⟩ = some (.int .i64 y.wallet) := B1.c 2 _ rfl
          have q1_3 : R3.cell? ⟨w.heap.size + 1, 3, none⟩ = some (.slice ay0 y.chans.length cy0) := B1.c 3 _ rfl
          have q1_4 : R3.cell? ⟨w.heap.size + 1, 4, none⟩ = some (.slice ay1 y.htlcs.length cy1) := B1.c 4 _ rfl
          have q1_5 : R3.cell? ⟨w.heap.size + 1, 5, none⟩ = some (.slice ay2 y.circles.length cy2) := B1.c 5 _ rfl
          have f1 := B1.f
          go_wp2_with fail
          clear HALL hlt hk
          clear z0 z1 q0_0 q0_1 q0_2 q0_3 q0_4 q0_5 f0 q1_0 q1_1 q1_2 q1_3 q1_4 q1_5 f1
          go_loopg [93] x.circles.length (fun g i wr => ∃ k : Nat, k + g = x.circles.length ∧ i = .int .i64 k ∧ (∀ j, j < k → rowAt x.circles y.circles j = true) ∧ Grow w wr ∧ Box wr (w.heap.size) [.int .i64 x.tick, .int .i64 x.next, .int .i64 x.wallet, .slice ax0 x.chans.length cx0, .slice ax1 x.htlcs.length cx1, .slice ax2 x.circles.length cx2] ∧ Box wr (w.heap.size + 1) [.int .i64 y.tick, .int .i64 y.next, .int .i64 y.wallet, .slice ay0 y.chans.length cy0, .slice ay1 y.htlcs.length cy1, .slice ay2 y.circles.length cy2])
          case atStart => exact ⟨0, by simp, rfl, fun j h => absurd h (by omega), G, B0, B1⟩
          case round =>
            clear G B0 B1
            obtain ⟨k, hk, rfl, hall, G, B0, B1⟩ := hrel
            obtain ⟨R4, rfl⟩ : ∃ V, V = wr := ⟨_, rfl⟩
            have HALL := Lib.hid hall; clear hall
            by_cases hlt : k < x.circles.length
            · have hlt2 : k < y.circles.length := by have := HLEN2.out; omega
              have HK := Lib.hid hk; clear hk
              have HT : Hid (x.circles[k] = y.circles[k] → rowAt x.circles y.circles k = true) := rowAt_true hlt hlt2
              have HF : Hid (x.circles[k] ≠ y.circles[k] → eqBooks x y = false) := fun h => by
                have h0 := range_no (p := rowAt x.circles y.circles) hlt (rowAt_false hlt hlt2 h)
                have h1 : rowsEq x.circles y.circles = false := h0
                rw [HFIN.out, h1]; simp
              have z0 := B0.lt
              have z1 := B1.lt
              have q0_0 : R4.cell? ⟨w.heap.size, 0, none⟩ = some (.int .i64 x.tick) := B0.c 0 _ rfl
              have q0_1 : R4.cell? ⟨w.heap.size, 1, none⟩ = some (.int .i64 x.next) := B0.c 1 _ rfl
              have q0_2 : R4.cell? ⟨w.heap.size, 2, none⟩ = some (.int .i64 x.wallet) := B0.c 2 _ rfl
              have q0_3 : R4.cell? ⟨w.heap.size, 3, none⟩ = some (.slice ax0 x.chans.length cx0) := B0.c 3 _ rfl
              have q0_4 : R4.cell? ⟨w.heap.size, 4, none⟩ = some (.slice ax1 x.htlcs.length cx1) := B0.c 4 _ rfl
              have q0_5 : R4.cell? ⟨w.heap.size, 5, none⟩ = some (.slice ax2 x.circles.length cx2) := B0.c 5 _ rfl
              have f0 := B0.f
              have q1_0 : R4.cell? ⟨w.heap.size + 1, 0, none⟩ = some (.int .i64 y.tick) := B1.c 0 _ rfl
              have q1_1 : R4.cell? ⟨w.heap.size + 1, 1, none⟩ = some (.int .i64 y.next) := B1.c 1 _ rfl
              have q1_2 : R4.cell? ⟨w.heap.size + 1, 2, none⟩ = some (.int .i64 y.wallet) := B1.c 2 _ rfl
              have q1_3 : R4.cell? ⟨w.heap.size + 1, 3, none⟩ = some (.slice ay0 y.chans.length cy0) := B1.c 3 _ rfl
              have q1_4 : R4.cell? ⟨w.heap.size + 1, 4, none⟩ = some (.slice ay1 y.htlcs.length cy1) := B1.c 4 _ rfl
              have q1_5 : R4.cell? ⟨w.heap.size + 1, 5, none⟩ = some (.slice ay2 y.circles.length cy2) := B1.c 5 _ rfl
              have f1 := B1.f
              obtain ⟨b_e, off_e, ha_e, hb1_e, hb2_e, hel_e⟩ := Hx2.out.elems k hlt
              obtain ⟨ee0, ee1, ee2, ee3, ee4, -⟩ := Circle.atCell (hel_e.same repCircle_stable (G.same (Nat.le_refl _)) hb1_e hb2_e) k hlt
              subst ha_e
              clear hel_e
              obtain ⟨b_d, off_d, ha_d, hb1_d, hb2_d, hel_d⟩ := Hy2.out.elems k hlt2
              obtain ⟨ed0, ed1, ed2, ed3, ed4, -⟩ := Circle.atCell (hel_d.same repCircle_stable (G.same (Nat.le_refl _)) hb1_d hb2_d) k hlt2
              subst ha_d
              clear hel_d
              generalize hee : x.circles[k] = e at *
              generalize hdd : y.circles[k] = d at *
              clear hee hdd
              by_cases hed : e = d
              · subst hed
                have HRT := Lib.hid (HT.out rfl)
                have hbo := neq_Circle_eq e
                go_wp2_with fail
                go_quiet (fail)
                go_wp2_with fail
                go_roundg (x.circles.length - (k + 1))
                case measure => have := HK.out; omega
                case rel => exact ⟨k + 1, by have := HK.out; omega, by go_num, fun j hj => by
                          by_cases he : j = k
                          · rw [he]; exact HRT.out
                          · exact HALL.out j (by omega), (G.drewN _), (B0.drewN _), (B1.drewN _)⟩
              · have HRF := Lib.hid (HF.out hed)
                have hbo := neq_Circle_ne hed
                clear hed
                go_wp2_with fail
                go_quiet (fail)
                go_wp2_with fail
                go_ret
                exact ⟨by rw [HRF.out]; rfl, (G.drewN _)⟩
            · have HRW2 : Hid (rowsEq x.circles y.circles = true) := range_yes (fun j hj => HALL.out j (by omega))
              have z0 := B0.lt
              have z1 := B1.lt
              have q0_0 : R4.cell? ⟨w.heap.size, 0, none⟩ = some (.int .i64 x.tick) := B0.c 0 _ rfl
              have q0_1 : R4.cell? ⟨w.heap.size, 1, none⟩ = some (.int .i64 x.next) := B0.c 1 _ rfl
              have q0_2 : R4.cell? ⟨w.heap.size, 2, none⟩ = some (.int .i64 x.wallet) := B0.c 2 _ rfl
              have q0_3 : R4.cell? ⟨w.heap.size, 3, none⟩ = some (.slice ax0 x.chans.length cx0) := B0.c 3 _ rfl
              have q0_4 : R4.cell? ⟨w.heap.size, 4, none⟩ = some (.slice ax1 x.htlcs.length cx1) := B0.c 4 _ rfl
              have q0_5 : R4.cell? ⟨w.heap.size, 5, none⟩ = some (.slice ax2 x.circles.length cx2) := B0.c 5 _ rfl
              have f0 := B0.f
              have q1_0 : R4.cell? ⟨w.heap.size + 1, 0, none⟩ = some (.int .i64 y.tick) := B1.c 0 _ rfl
              have q1_1 : R4.cell? ⟨w.heap.size + 1, 1, none⟩ = some (.int .i64 y.next) := B1.c 1 _ rfl
              have q1_2 : R4.cell? ⟨w.heap.size + 1, 2, none⟩ = some (.int .i64 y.wallet) := B1.c 2 _ rfl
              have q1_3 : R4.cell? ⟨w.heap.size + 1, 3, none⟩ = some (.slice ay0 y.chans.length cy0) := B1.c 3 _ rfl
              have q1_4 : R4.cell? ⟨w.heap.size + 1, 4, none⟩ = some (.slice ay1 y.htlcs.length cy1) := B1.c 4 _ rfl
              have q1_5 : R4.cell? ⟨w.heap.size + 1, 5, none⟩ = some (.slice ay2 y.circles.length cy2) := B1.c 5 _ rfl
              have f1 := B1.f
              have hr : eqBooks x y = true := by rw [HFIN.out, HRW0.out, HRW1.out, HRW2.out]; rfl
              have HR := Lib.hid hr; clear hr
              go_wp2_with fail
              go_ret
              exact ⟨by rw [HR.out]; rfl, G⟩

theorem bookOk_len {x : Book} (h : bookOk x = true) : x.chans.length ≤ 20 ∧ x.htlcs.length ≤ 60 ∧ x.circles.length ≤ 20 := by
  unfold bookOk at h
  simp only [Bool.and_eq_true, decide_eq_true_eq] at h
  obtain ⟨⟨⟨_, h4⟩, h5⟩, _⟩ := h
  have := Small.of_parts h5
  exact ⟨h4, this.nh, this.nc⟩

set_option maxHeartbeats 8000000 in
set_option maxRecDepth 100000 in
theorem impl_SameBook_c (x : Book) (ax0 : Option Addr) (cx0 : Nat) (ax1 : Option Addr) (cx1 : Nat) (ax2 : Option Addr) (cx2 : Nat) (y : Book) (ay0 : Option Addr) (cy0 : Nat) (ay1 : Option Addr) (cy1 : Nat) (ay2 : Option Addr) (cy2 : Nat) (w : World) (hx0 : SlR 7 repChan w 0 w.heap.size (.slice ax0 x.chans.length cx0) x.chans) (hx1 : SlR 7 repHtlc w 0 w.heap.size (.slice ax1 x.htlcs.length cx1) x.htlcs) (hx2 : SlR 5 repCircle w 0 w.heap.size (.slice ax2 x.circles.length cx2) x.circles) (hy0 : SlR 7 repChan w 0 w.heap.size (.slice ay0 y.chans.length cy0) y.chans) (hy1 : SlR 7 repHtlc w 0 w.heap.size (.slice ay1 y.htlcs.length cy1) y.htlcs) (hy2 : SlR 5 repCircle w 0 w.heap.size (.slice ay2 y.circles.length cy2) y.circles) (hnx : x.chans.length ≤ 1048576) (hny : y.chans.length ≤ 1048576) :
    Calls Try.prog 26 #[.agg #[.int .i64 x.tick, .int .i64 x.next, .int .i64 x.wallet, .slice ax0 x.chans.length cx0, .slice ax1 x.htlcs.length cx1, .slice ax2 x.circles.length cx2], .agg #[.int .i64 y.tick, .int .i64 y.next, .int .i64 y.wallet, .slice ay0 y.chans.length cy0, .slice ay1 y.htlcs.length cy1, .slice ay2 y.circles.length cy2]] w fun e w' => e = .returned (.bool (sameBook x y)) ∧ Grow w w' := by
  have Hx0 := Lib.hid hx0; have Hx1 := Lib.hid hx1; have Hx2 := Lib.hid hx2
  clear hx0 hx1 hx2
  have Hy0 := Lib.hid hy0; have Hy1 := Lib.hid hy1; have Hy2 := Lib.hid hy2
  clear hy0 hy1 hy2
  have HP : Hid (sameBook x y = (bookOk x && bookOk y && eqBooks x y)) := rfl
  go_enter Try.func26, Try.ntmps26
  go_wp2_with fail
  refine (impl_BookOk_c x _ _ _ _ _ _ _ (Hx0.out.grow' repChan_stable (Grow.below (((Grow.refl w).alloc _ _).alloc _ _))) (Hx1.out.grow' repHtlc_stable (Grow.below (((Grow.refl w).alloc _ _).alloc _ _))) (Hx2.out.grow' repCircle_stable (Grow.below (((Grow.refl w).alloc _ _).alloc _ _))) hnx).mono ?_
  rintro e V1 ⟨rfl, gs⟩
  have ys := Grow.size gs
  simp only [World.size_setCell, World.size_alloc] at ys
  have B0 : Box V1 (w.heap.size) [.int .i64 x.tick, .int .i64 x.next, .int .i64 x.wallet, .slice ax0 x.chans.length cx0, .slice ax1 x.htlcs.length cx1, .slice ax2 x.circles.length cx2] := Box.grow ((Box.newAt (by simp) _ _).alloc _ _) gs
  have B1 : Box V1 (w.heap.size + 1) [.int .i64 y.tick, .int .i64 y.next, .int .i64 y.wallet, .slice ay0 y.chans.length cy0, .slice ay1 y.htlcs.length cy1, .slice ay2 y.circles.length cy2] := Box.grow (Box.newAt (by simp) _ _) gs
  have G : Grow w V1 := Grow.trans (((Grow.refl w).alloc _ _).alloc _ _) gs
  clear gs
  have z0 := B0.lt
  have z1 := B1.lt
  have q0_0 : V1.cell? ⟨w.heap.size, 0, none⟩ = some (.int .i64 x.tick) := B0.c 0 _ rfl
  have q0_1 : V1.cell? ⟨w.heap.size, 1, none⟩ = some (.int .i64 x.next) := B0.c 1 _ rfl
  have q0_2 : V1.cell? ⟨w.heap.size, 2, none⟩ = some (.int .i64 x.wallet) := B0.c 2 _ rfl
  have q0_3 : V1.cell? ⟨w.heap.size, 3, none⟩ = some (.slice ax0 x.chans.length cx0) := B0.c 3 _ rfl
  have q0_4 : V1.cell? ⟨w.heap.size, 4, none⟩ = some (.slice ax1 x.htlcs.length cx1) := B0.c 4 _ rfl
  have q0_5 : V1.cell? ⟨w.heap.size, 5, none⟩ = some (.slice ax2 x.circles.length cx2) := B0.c 5 _ rfl
  have f0 := B0.f
  have q1_0 : V1.cell? ⟨w.heap.size + 1, 0, none⟩ = some (.int .i64 y.tick) := B1.c 0 _ rfl
  have q1_1 : V1.cell? ⟨w.heap.size + 1, 1, none⟩ = some (.int .i64 y.next) := B1.c 1 _ rfl
  have q1_2 : V1.cell? ⟨w.heap.size + 1, 2, none⟩ = some (.int .i64 y.wallet) := B1.c 2 _ rfl
  have q1_3 : V1.cell? ⟨w.heap.size + 1, 3, none⟩ = some (.slice ay0 y.chans.length cy0) := B1.c 3 _ rfl
  have q1_4 : V1.cell? ⟨w.heap.size + 1, 4, none⟩ = some (.slice ay1 y.htlcs.length cy1) := B1.c 4 _ rfl
  have q1_5 : V1.cell? ⟨w.heap.size + 1, 5, none⟩ = some (.slice ay2 y.circles.length cy2) := B1.c 5 _ rfl
  have f1 := B1.f
  cases ox : bookOk x
  · have HR : Hid (sameBook x y = false) := by
      show _ = _
      rw [HP.out, ox]; rfl
    go_wp2_with fail
    all_goals
      go_ret
      exact ⟨by rw [HR.out]; rfl, G⟩
  obtain ⟨ln1, ln2, ln3⟩ := bookOk_len ox
  go_wp2_with fail
  refine (impl_BookOk_c y _ _ _ _ _ _ _ (Hy0.out.grow' repChan_stable (Grow.below G)) (Hy1.out.grow' repHtlc_stable (Grow.below G)) (Hy2.out.grow' repCircle_stable (Grow.below G)) hny).mono ?_
  rintro e V2 ⟨rfl, gs⟩
  clear z0 z1 q0_0 q0_1 q0_2 q0_3 q0_4 q0_5 f0 q1_0 q1_1 q1_2 q1_3 q1_4 q1_5 f1
  have ys := Grow.size gs
  replace B0 : Box V2 (w.heap.size) [.int .i64 x.tick, .int .i64 x.next, .int .i64 x.wallet, .slice ax0 x.chans.length cx0, .slice ax1 x.htlcs.length cx1, .slice ax2 x.circles.length cx2] := Box.grow B0 gs
  replace B1 : Box V2 (w.heap.size + 1) [.int .i64 y.tick, .int .i64 y.next, .int .i64 y.wallet, .slice ay0 y.chans.length cy0, .slice ay1 y.htlcs.length cy1, .slice ay2 y.circles.length cy2] := Box.grow B1 gs
  replace G : Grow w V2 := Grow.trans G gs
  clear gs
  have z0 := B0.lt
  have z1 := B1.lt
  have q0_0 : V2.cell? ⟨w.heap.size, 0, none⟩ = some (.int .i64 x.tick) := B0.c 0 _ rfl
  have q0_1 : V2.cell? ⟨w.heap.size, 1, none⟩ = some (.int .i64 x.next) := B0.c 1 _ rfl
  have q0_2 : V2.cell? ⟨w.heap.size, 2, none⟩ = some (.int .i64 x.wallet) := B0.c 2 _ rfl
  have q0_3 : V2.cell? ⟨w.heap.size, 3, none⟩ = some (.slice ax0 x.chans.length cx0) := B0.c 3 _ rfl
  have q0_4 : V2.cell? ⟨w.heap.size, 4, none⟩ = some (.slice ax1 x.htlcs.length cx1) := B0.c 4 _ rfl
  have q0_5 : V2.cell? ⟨w.heap.size, 5, none⟩ = some (.slice ax2 x.circles.length cx2) := B0.c 5 _ rfl
  have f0 := B0.f
  have q1_0 : V2.cell? ⟨w.heap.size + 1, 0, none⟩ = some (.int .i64 y.tick) := B1.c 0 _ rfl
  have q1_1 : V2.cell? ⟨w.heap.size + 1, 1, none⟩ = some (.int .i64 y.next) := B1.c 1 _ rfl
  have q1_2 : V2.cell? ⟨w.heap.size + 1, 2, none⟩ = some (.int .i64 y.wallet) := B1.c 2 _ rfl
  have q1_3 : V2.cell? ⟨w.heap.size + 1, 3, none⟩ = some (.slice ay0 y.chans.length cy0) := B1.c 3 _ rfl
  have q1_4 : V2.cell? ⟨w.heap.size + 1, 4, none⟩ = some (.slice ay1 y.htlcs.length cy1) := B1.c 4 _ rfl
  have q1_5 : V2.cell? ⟨w.heap.size + 1, 5, none⟩ = some (.slice ay2 y.circles.length cy2) := B1.c 5 _ rfl
  have f1 := B1.f
  cases oy : bookOk y
  · have HR : Hid (sameBook x y = false) := by
      show _ = _
      rw [HP.out, oy]; simp
    go_wp2_with fail
    all_goals
      go_ret
      exact ⟨by rw [HR.out]; rfl, G⟩
  have HPE : Hid (sameBook x y = eqBooks x y) := by
    show _ = _
    rw [HP.out, ox, oy]; rfl
  go_wp2_with fail
  refine (impl_equalBooks_c x _ _ _ _ _ _ y _ _ _ _ _ _ _ (Hx0.out.grow' repChan_stable (Grow.below G)) (Hx1.out.grow' repHtlc_stable (Grow.below G)) (Hx2.out.grow' repCircle_stable (Grow.below G)) (Hy0.out.grow' repChan_stable (Grow.below G)) (Hy1.out.grow' repHtlc_stable (Grow.below G)) (Hy2.out.grow' repCircle_stable (Grow.below G)) (by omega) (by omega) (by omega)).mono ?_
  rintro e V3 ⟨rfl, gs⟩
  clear z0 z1 q0_0 q0_1 q0_2 q0_3 q0_4 q0_5 f0 q1_0 q1_1 q1_2 q1_3 q1_4 q1_5 f1
  have ys := Grow.size gs
  replace B0 : Box V3 (w.heap.size) [.int .i64 x.tick, .int .i64 x.next, .int .i64 x.wallet, .slice ax0 x.chans.length cx0, .slice ax1 x.htlcs.length cx1, .slice ax2 x.circles.length cx2] := Box.grow B0 gs
  replace B1 : Box V3 (w.heap.size + 1) [.int .i64 y.tick, .int .i64 y.next, .int .i64 y.wallet, .slice ay0 y.chans.length cy0, .slice ay1 y.htlcs.length cy1, .slice ay2 y.circles.length cy2] := Box.grow B1 gs
  replace G : Grow w V3 := Grow.trans G gs
  clear gs
  have z0 := B0.lt
  have z1 := B1.lt
  have q0_0 : V3.cell? ⟨w.heap.size, 0, none⟩ = some (.int .i64 x.tick) := B0.c 0 _ rfl
  have q0_1 : V3.cell? ⟨w.heap.size, 1, none⟩ = some (.int .i64 x.next) := B0.c 1 _ rfl
  have q0_2 : V3.cell? ⟨w.heap.size, 2, none⟩ = some (.int .i64 x.wallet) := B0.c 2 _ rfl
  have q0_3 : V3.cell? ⟨w.heap.size, 3, none⟩ = some (.slice ax0 x.chans.length cx0) := B0.c 3 _ rfl
  have q0_4 : V3.cell? ⟨w.heap.size, 4, none⟩ = some (.slice ax1 x.htlcs.length cx1) := B0.c 4 _ rfl
  have q0_5 : V3.cell? ⟨w.heap.size, 5, none⟩ = some (.slice ax2 x.circles.length cx2) := B0.c 5 _ rfl
  have f0 := B0.f
  have q1_0 : V3.cell? ⟨w.heap.size + 1, 0, none⟩ = some (.int .i64 y.tick) := B1.c 0 _ rfl
  have q1_1 : V3.cell? ⟨w.heap.size + 1, 1, none⟩ = some (.int .i64 y.next) := B1.c 1 _ rfl
  have q1_2 : V3.cell? ⟨w.heap.size + 1, 2, none⟩ = some (.int .i64 y.wallet) := B1.c 2 _ rfl
  have q1_3 : V3.cell? ⟨w.heap.size + 1, 3, none⟩ = some (.slice ay0 y.chans.length cy0) := B1.c 3 _ rfl
  have q1_4 : V3.cell? ⟨w.heap.size + 1, 4, none⟩ = some (.slice ay1 y.htlcs.length cy1) := B1.c 4 _ rfl
  have q1_5 : V3.cell? ⟨w.heap.size + 1, 5, none⟩ = some (.slice ay2 y.circles.length cy2) := B1.c 5 _ rfl
  have f1 := B1.f
  go_wp2_with fail
  all_goals
    go_ret
    exact ⟨by rw [HPE.out]; simp_all, G⟩

set_option maxHeartbeats 8000000 in
set_option maxRecDepth 100000 in
theorem spec_SameBook_c (x : Book) (ax0 : Option Addr) (cx0 : Nat) (ax1 : Option Addr) (cx1 : Nat) (ax2 : Option Addr) (cx2 : Nat) (y : Book) (ay0 : Option Addr) (cy0 : Nat) (ay1 : Option Addr) (cy1 : Nat) (ay2 : Option Addr) (cy2 : Nat) (w : World) (hx0 : SlR 7 repChan w 0 w.heap.size (.slice ax0 x.chans.length cx0) x.chans) (hx1 : SlR 7 repHtlc w 0 w.heap.size (.slice ax1 x.htlcs.length cx1) x.htlcs) (hx2 : SlR 5 repCircle w 0 w.heap.size (.slice ax2 x.circles.length cx2) x.circles) (hy0 : SlR 7 repChan w 0 w.heap.size (.slice ay0 y.chans.length cy0) y.chans) (hy1 : SlR 7 repHtlc w 0 w.heap.size (.slice ay1 y.htlcs.length cy1) y.htlcs) (hy2 : SlR 5 repCircle w 0 w.heap.size (.slice ay2 y.circles.length cy2) y.circles) (hnx : x.chans.length ≤ 1048576) (hny : y.chans.length ≤ 1048576) :
    Calls Try.prog 25 #[.agg #[.int .i64 x.tick, .int .i64 x.next, .int .i64 x.wallet, .slice ax0 x.chans.length cx0, .slice ax1 x.htlcs.length cx1, .slice ax2 x.circles.length cx2], .agg #[.int .i64 y.tick, .int .i64 y.next, .int .i64 y.wallet, .slice ay0 y.chans.length cy0, .slice ay1 y.htlcs.length cy1, .slice ay2 y.circles.length cy2]] w fun e w' => e = .returned (.bool (sameBook x y)) ∧ Grow w w' := by
  have Hx0 := Lib.hid hx0; have Hx1 := Lib.hid hx1; have Hx2 := Lib.hid hx2
  clear hx0 hx1 hx2
  have Hy0 := Lib.hid hy0; have Hy1 := Lib.hid hy1; have Hy2 := Lib.hid hy2
  clear hy0 hy1 hy2
  have HP : Hid (sameBook x y = (bookOk x && bookOk y && eqBooks x y)) := rfl
  go_enter Try.func25, Try.ntmps25
  go_wp2_with fail
  refine (spec_BookOk_c x _ _ _ _ _ _ _ (Hx0.out.grow' repChan_stable (Grow.below (((Grow.refl w).alloc _ _).alloc _ _))) (Hx1.out.grow' repHtlc_stable (Grow.below (((Grow.refl w).alloc _ _).alloc _ _))) (Hx2.out.grow' repCircle_stable (Grow.below (((Grow.refl w).alloc _ _).alloc _ _))) hnx).mono ?_
  rintro e V1 ⟨rfl, gs⟩
  have ys := Grow.size gs
  simp only [World.size_setCell, World.size_alloc] at ys
  have B0 : Box V1 (w.heap.size) [.int .i64 x.tick, .int .i64 x.next, .int .i64 x.wallet, .slice ax0 x.chans.length cx0, .slice ax1 x.htlcs.length cx1, .slice ax2 x.circles.length cx2] := Box.grow ((Box.newAt (by simp) _ _).alloc _ _) gs
  have B1 : Box V1 (w.heap.size + 1) [.int .i64 y.tick, .int .i64 y.next, .int .i64 y.wallet, .slice ay0 y.chans.length cy0, .slice ay1 y.htlcs.length cy1, .slice ay2 y.circles.length cy2] := Box.grow (Box.newAt (by simp) _ _) gs
  have G : Grow w V1 := Grow.trans (((Grow.refl w).alloc _ _).alloc _ _) gs
  clear gs
  have z0 := B0.lt
  have z1 := B1.lt
  have q0_0 : V1.cell? ⟨w.heap.size, 0, none⟩ = some (.int .i64 x.tick) := B0.c 0 _ rfl
  have q0_1 : V1.cell? ⟨w.heap.size, 1, none⟩ = some (.int .i64 x.next) := B0.c 1 _ rfl
  have q0_2 : V1.cell? ⟨w.heap.size, 2, none⟩ = some (.int .i64 x.wallet) := B0.c 2 _ rfl
  have q0_3 : V1.cell? ⟨w.heap.size, 3, none⟩ = some (.slice ax0 x.chans.length cx0) := B0.c 3 _ rfl
  have q0_4 : V1.cell? ⟨w.heap.size, 4, none⟩ = some (.slice ax1 x.htlcs.length cx1) := B0.c 4 _ rfl
  have q0_5 : V1.cell? ⟨w.heap.size, 5, none⟩ = some (.slice ax2 x.circles.length cx2) := B0.c 5 _ rfl
  have f0 := B0.f
  have q1_0 : V1.cell? ⟨w.heap.size + 1, 0, none⟩ = some (.int .i64 y.tick) := B1.c 0 _ rfl
  have q1_1 : V1.cell? ⟨w.heap.size + 1, 1, none⟩ = some (.int .i64 y.next) := B1.c 1 _ rfl
  have q1_2 : V1.cell? ⟨w.heap.size + 1, 2, none⟩ = some (.int .i64 y.wallet) := B1.c 2 _ rfl
  have q1_3 : V1.cell? ⟨w.heap.size + 1, 3, none⟩ = some (.slice ay0 y.chans.length cy0) := B1.c 3 _ rfl
  have q1_4 : V1.cell? ⟨w.heap.size + 1, 4, none⟩ = some (.slice ay1 y.htlcs.length cy1) := B1.c 4 _ rfl
  have q1_5 : V1.cell? ⟨w.heap.size + 1, 5, none⟩ = some (.slice ay2 y.circles.length cy2) := B1.c 5 _ rfl
  have f1 := B1.f
  cases ox : bookOk x
  · have HR : Hid (sameBook x y = false) := by
      show _ = _
      rw [HP.out, ox]; rfl
    go_wp2_with fail
    all_goals
      go_ret
      exact ⟨by rw [HR.out]; rfl, G⟩
  obtain ⟨ln1, ln2, ln3⟩ := bookOk_len ox
  go_wp2_with fail
  refine (spec_BookOk_c y _ _ _ _ _ _ _ (Hy0.out.grow' repChan_stable (Grow.below G)) (Hy1.out.grow' repHtlc_stable (Grow.below G)) (Hy2.out.grow' repCircle_stable (Grow.below G)) hny).mono ?_
  rintro e V2 ⟨rfl, gs⟩
  clear z0 z1 q0_0 q0_1 q0_2 q0_3 q0_4 q0_5 f0 q1_0 q1_1 q1_2 q1_3 q1_4 q1_5 f1
  have ys := Grow.size gs
  replace B0 : Box V2 (w.heap.size) [.int .i64 x.tick, .int .i64 x.next, .int .i64 x.wallet, .slice ax0 x.chans.length cx0, .slice ax1 x.htlcs.length cx1, .slice ax2 x.circles.length cx2] := Box.grow B0 gs
  replace B1 : Box V2 (w.heap.size + 1) [.int .i64 y.tick, .int .i64 y.next, .int .i64 y.wallet, .slice ay0 y.chans.length cy0, .slice ay1 y.htlcs.length cy1, .slice ay2 y.circles.length cy2] := Box.grow B1 gs
  replace G : Grow w V2 := Grow.trans G gs
  clear gs
  have z0 := B0.lt
  have z1 := B1.lt
  have q0_0 : V2.cell? ⟨w.heap.size, 0, none⟩ = some (.int .i64 x.tick) := B0.c 0 _ rfl
  have q0_1 : V2.cell? ⟨w.heap.size, 1, none⟩ = some (.int .i64 x.next) := B0.c 1 _ rfl
  have q0_2 : V2.cell? ⟨w.heap.size, 2, none⟩ = some (.int .i64 x.wallet) := B0.c 2 _ rfl
  have q0_3 : V2.cell? ⟨w.heap.size, 3, none⟩ = some (.slice ax0 x.chans.length cx0) := B0.c 3 _ rfl
  have q0_4 : V2.cell? ⟨w.heap.size, 4, none⟩ = some (.slice ax1 x.htlcs.length cx1) := B0.c 4 _ rfl
  have q0_5 : V2.cell? ⟨w.heap.size, 5, none⟩ = some (.slice ax2 x.circles.length cx2) := B0.c 5 _ rfl
  have f0 := B0.f
  have q1_0 : V2.cell? ⟨w.heap.size + 1, 0, none⟩ = some (.int .i64 y.tick) := B1.c 0 _ rfl
  have q1_1 : V2.cell? ⟨w.heap.size + 1, 1, none⟩ = some (.int .i64 y.next) := B1.c 1 _ rfl
  have q1_2 : V2.cell? ⟨w.heap.size + 1, 2, none⟩ = some (.int .i64 y.wallet) := B1.c 2 _ rfl
  have q1_3 : V2.cell? ⟨w.heap.size + 1, 3, none⟩ = some (.slice ay0 y.chans.length cy0) := B1.c 3 _ rfl
  have q1_4 : V2.cell? ⟨w.heap.size + 1, 4, none⟩ = some (.slice ay1 y.htlcs.length cy1) := B1.c 4 _ rfl
  have q1_5 : V2.cell? ⟨w.heap.size + 1, 5, none⟩ = some (.slice ay2 y.circles.length cy2) := B1.c 5 _ rfl
  have f1 := B1.f
  cases oy : bookOk y
  · have HR : Hid (sameBook x y = false) := by
      show _ = _
      rw [HP.out, oy]; simp
    go_wp2_with fail
    all_goals
      go_ret
      exact ⟨by rw [HR.out]; rfl, G⟩
  have HPE : Hid (sameBook x y = eqBooks x y) := by
    show _ = _
    rw [HP.out, ox, oy]; rfl
  have HFULL : Hid (sameBook x y = (x.tick == y.tick && x.next == y.next && x.wallet == y.wallet && x.chans.length == y.chans.length && x.htlcs.length == y.htlcs.length && x.circles.length == y.circles.length && rowsEq x.chans y.chans && rowsEq x.htlcs y.htlcs && rowsEq x.circles y.circles)) := by
    show _ = _
    rw [HPE.out]; rfl
  by_cases hh : x.tick = y.tick ∧ x.next = y.next ∧ x.wallet = y.wallet ∧ x.chans.length = y.chans.length ∧ x.htlcs.length = y.htlcs.length ∧ x.circles.length = y.circles.length
  rotate_left
  · have HR : Hid (sameBook x y = false) := by
      show _ = _
      rw [HFULL.out]
      have hn : (x.tick == y.tick && x.next == y.next && x.wallet == y.wallet && x.chans.length == y.chans.length && x.htlcs.length == y.htlcs.length && x.circles.length == y.circles.length) = false := by
        rw [Bool.eq_false_iff]; intro h; apply hh; simpa [and_assoc] using h
      simp only [hn, Bool.false_and]
    have HH := Lib.hid hh; clear hh
    go_wp2_with fail
    all_goals first
      | (exfalso; apply HH.out; (try simp_all); omega)
      | (go_ret
         exact ⟨by rw [HR.out]; rfl, by first | exact G | exact ((Grow.refl _).alloc _ _).alloc _ _⟩)
  obtain ⟨hh0, hh1, hh2, hh3, hh4, hh5⟩ := hh
  have HFIN : Hid (sameBook x y = (rowsEq x.chans y.chans && rowsEq x.htlcs y.htlcs && rowsEq x.circles y.circles)) := by
    show _ = _
    rw [HFULL.out]; simp [hh0, hh1, hh2, hh3, hh4, hh5]
  have HLEN0 := Lib.hid hh3
  have HLEN1 := Lib.hid hh4
  have HLEN2 := Lib.hid hh5
  have qq0 : (x.tick != y.tick) = false := by simp [hh0]
  have qq1 : (x.next != y.next) = false := by simp [hh1]
  have qq2 : (x.wallet != y.wallet) = false := by simp [hh2]
  have qq3 : ((x.chans.length : Int) != (y.chans.length : Int)) = false := by simp [hh3]
  have qq4 : ((x.htlcs.length : Int) != (y.htlcs.length : Int)) = false := by simp [hh4]
  have qq5 : ((x.circles.length : Int) != (y.circles.length : Int)) = false := by simp [hh5]
  clear hh0 hh1 hh2 hh3 hh4 hh5
  go_wp2_with fail
  clear z0 z1 q0_0 q0_1 q0_2 q0_3 q0_4 q0_5 f0 q1_0 q1_1 q1_2 q1_3 q1_4 q1_5 f1
  go_loopg [67] x.chans.length (fun g i wr => ∃ k : Nat, k + g = x.chans.length ∧ i = .int .i64 k ∧ (∀ j, j < k → rowAt x.chans y.chans j = true) ∧ Grow w wr ∧ Box wr (w.heap.size) [.int .i64 x.tick, .int .i64 x.next, .int .i64 x.wallet, .slice ax0 x.chans.length cx0, .slice ax1 x.htlcs.length cx1, .slice ax2 x.circles.length cx2] ∧ Box wr (w.heap.size + 1) [.int .i64 y.tick, .int .i64 y.next, .int .i64 y.wallet, .slice ay0 y.chans.length cy0, .slice ay1 y.htlcs.length cy1, .slice ay2 y.circles.length cy2])
  case atStart => exact ⟨0, by simp, rfl, fun j h => absurd h (by omega), G, B0, B1⟩
  case round =>
    clear G B0 B1
    obtain ⟨k, hk, rfl, hall, G, B0, B1⟩ := hrel
    obtain ⟨R3, rfl⟩ : ∃ V, V = wr := ⟨_, rfl⟩
    have HALL := Lib.hid hall; clear hall
    by_cases hlt : k < x.chans.length
    · have hlt2 : k < y.chans.length := by have := HLEN0.out; omega
      have HK := Lib.hid hk; clear hk
      have HT : Hid (x.chans[k] = y.chans[k] → rowAt x.chans y.chans k = true) := rowAt_true hlt hlt2
      have HF : Hid (x.chans[k] ≠ y.chans[k] → sameBook x y = false) := fun h => by
        have h0 := range_no (p := rowAt x.chans y.chans) hlt (rowAt_false hlt hlt2 h)
        have h1 : rowsEq x.chans y.chans = false := h0
        rw [HFIN.out, h1]; simp
      have z0 := B0.lt
      have z1 := B1.lt
      have q0_0 : R3.cell? ⟨w.heap.size, 0, none⟩ = some (.int .i64 x.tick) := B0.c 0 _ rfl
      have q0_1 : R3.cell? ⟨w.heap.size, 1, none⟩ = some (.int .i64 x.next) := B0.c 1 _ rfl
      have q0_2 : R3.cell? ⟨w.heap.size, 2, none⟩ = some (.int .i64 x.wallet) := B0.c 2 _ rfl
      have q0_3 : R3.cell? ⟨w.heap.size, 3, none⟩ = some (.slice ax0 x.chans.length cx0) := B0.c 3 _ rfl
      have q0_4 : R3.cell? ⟨w.heap.size, 4, none⟩ = some (.slice ax1 x.htlcs.length cx1) := B0.c 4 _ rfl
      have q0_5 : R3.cell? ⟨w.heap.size, 5, none⟩ = some (.slice ax2 x.circles.length cx2) := B0.c 5 _ rfl
      have f0 := B0.f
      have q1_0 : R3.cell? ⟨w.heap.size + 1, 0, none⟩ = some (.int .i64 y.tick) := B1.c 0 _ rfl
      have q1_1 : R3.cell? ⟨w.heap.size + 1, 1, none⟩ = some (.int .i64 y.next) := B1.c 1 _ rfl
      have q1_2 : R3.cell? ⟨w.heap.size + 1, 2, none⟩ = some (.int .i64 y.wallet) := B1.c 2 _ rfl
      have q1_3 : R3.cell? ⟨w.heap.size + 1, 3, none⟩ = some (.slice ay0 y.chans.length cy0) := B1.c 3 _ rfl
      have q1_4 : R3.cell? ⟨w.heap.size + 1, 4, none⟩ = some (.slice ay1 y.htlcs.length cy1) := B1.c 4 _ rfl
      have q1_5 : R3.cell? ⟨w.heap.size + 1, 5, none⟩ = some (.slice ay2 y.circles.length cy2) := B1.c 5 _ rfl
      have f1 := B1.f
      obtain ⟨b_e, off_e, ha_e, hb1_e, hb2_e, hel_e⟩ := Hx0.out.elems k hlt
      obtain ⟨ee0, ee1, ee2, ee3, ee4, ee5, ee6, -⟩ := Chan.atCell (hel_e.same repChan_stable (G.same (Nat.le_refl _)) hb1_e hb2_e) k hlt
      subst ha_e
      clear hel_e
      obtain ⟨b_d, off_d, ha_d, hb1_d, hb2_d, hel_d⟩ := Hy0.out.elems k hlt2
      obtain ⟨ed0, ed1, ed2, ed3, ed4, ed5, ed6, -⟩ := Chan.atCell (hel_d.same repChan_stable (G.same (Nat.le_refl _)) hb1_d hb2_d) k hlt2
      subst ha_d
      clear hel_d
      generalize hee : x.chans[k] = e at *
      generalize hdd : y.chans[k] = d at *
      clear hee hdd
      by_cases hed : e = d
      · subst hed
        have HRT := Lib.hid (HT.out rfl)
        have hbo := neq_Chan_eq e
        go_wp2_with fail
        go_quiet (fail)
        go_wp2_with fail
        go_roundg (x.chans.length - (k + 1))
        case measure => have := HK.out; omega
        case rel => exact ⟨k + 1, by have := HK.out; omega, by go_num, fun j hj => by
                  by_cases he : j = k
                  · rw [he]; exact HRT.out
                  · exact HALL.out j (by omega), (G.drewN _), (B0.drewN _), (B1.drewN _)⟩
      · have HRF := Lib.hid (HF.out hed)
        have hbo := neq_Chan_ne hed
        clear hed
        go_wp2_with fail
        go_quiet (fail)
        go_wp2_with fail
        go_ret
        exact ⟨by rw [HRF.out]; rfl, (G.drewN _)⟩
    · have HRW0 : Hid (rowsEq x.chans y.chans = true) := range_yes (fun j hj => HALL.out j (by omega))
      have z0 := B0.lt
      have z1 := B1.lt
      have q0_0 : R3.cell? ⟨w.heap.size, 0, none⟩ = some (.int .i64 x.tick) := B0.c 0 _ rfl
      have q0_1 : R3.cell? ⟨w.heap.size, 1, none⟩ = some (.int .i64 x.next) := B0.c 1 _ rfl
      have q0_2 : R3.cell? ⟨w.heap.size, 2, none⟩ = some (.int .i64 x.wallet) := B0.c 2 _ rfl
      have q0_3 : R3.cell? ⟨w.heap.size, 3, none⟩ = some (.slice ax0 x.chans.length cx0) := B0.c 3 _ rfl
      have q0_4 : R3.cell? ⟨w.heap.size, 4, none⟩ = some (.slice ax1 x.htlcs.length cx1) := B0.c 4 _ rfl
      have q0_5 : R3.cell? ⟨w.heap.size, 5, none⟩ = some (.slice ax2 x.circles.length cx2) := B0.c 5 _ rfl
      have f0 := B0.f
      have q1_0 : R3.cell? ⟨w.heap.size + 1, 0, none⟩ = some (.int .i64 y.tick) := B1.c 0 _ rfl
      have q1_1 : R3.cell? ⟨w.heap.size + 1, 1, none⟩ = some (.int .i64 y.next) := B1.c 1 _ rfl
      have q1_2 : R3.cell? ⟨w.heap.size + 1, 2, none⟩ = some (.int .i64 y.wallet) := B1.c 2 _ rfl
      have q1_3 : R3.cell? ⟨w.heap.size + 1, 3, none⟩ = some (.slice ay0 y.chans.length cy0) := B1.c 3 _ rfl
      have q1_4 : R3.cell? ⟨w.heap.size + 1, 4, none⟩ = some (.slice ay1 y.htlcs.length cy1) := B1.c 4 _ rfl
      have q1_5 : R3.cell? ⟨w.heap.size + 1, 5, none⟩ = some (.slice ay2 y.circles.length cy2) := B1.c 5 _ rfl
      have f1 := B1.f
      go_wp2_with fail
      clear HALL hlt hk
      clear z0 z1 q0_0 q0_1 q0_2 q0_3 q0_4 q0_5 f0 q1_0 q1_1 q1_2 q1_3 q1_4 q1_5 f1
      go_loopg [85] x.htlcs.length (fun g i wr => ∃ k : Nat, k + g = x.htlcs.length ∧ i = .int .i64 k ∧ (∀ j, j < k → rowAt x.htlcs y.htlcs j = true) ∧ Grow w wr ∧ Box wr (w.heap.size) [.int .i64 x.tick, .int .i64 x.next, .int .i64 x.wallet, .slice ax0 x.chans.length cx0, .slice ax1 x.htlcs.length cx1, .slice ax2 x.circles.length cx2] ∧ Box wr (w.heap.size + 1) [.int .i64 y.tick, .int .i64 y.next, .int .i64 y.wallet, .slice ay0 y.chans.length cy0, .slice ay1 y.htlcs.length cy1, .slice ay2 y.circles.length cy2])
      case atStart => exact ⟨0, by simp, rfl, fun j h => absurd h (by omega), G, B0, B1⟩
      case round =>
        clear G B0 B1
        obtain ⟨k, hk, rfl, hall, G, B0, B1⟩ := hrel
        obtain ⟨R4, rfl⟩ : ∃ V, V = wr := ⟨_, rfl⟩
        have HALL := Lib.hid hall; clear hall
        by_cases hlt : k < x.htlcs.length
        · have hlt2 : k < y.htlcs.length := by have := HLEN1.out; omega
          have HK := Lib.hid hk; clear hk
          have HT : Hid (x.htlcs[k] = y.htlcs[k] → rowAt x.htlcs y.htlcs k = true) := rowAt_true hlt hlt2
          have HF : Hid (x.htlcs[k] ≠ y.htlcs[k] → sameBook x y = false) := fun h => by
            have h0 := range_no (p := rowAt x.htlcs y.htlcs) hlt (rowAt_false hlt hlt2 h)
            have h1 : rowsEq x.htlcs y.htlcs = false := h0
            rw [HFIN.out, h1]; simp
          have z0 := B0.lt
          have z1 := B1.lt
          have q0_0 : R4.cell? ⟨w.heap.size, 0, none⟩ = some (.int .i64 x.tick) := B0.c 0 _ rfl
          have q0_1 : R4.cell? ⟨w.heap.size, 1, none⟩ = some (.int .i64 x.next) := B0.c 1 _ rfl
          have q0_2 : R4.cell? ⟨w.heap.size, 2, none⟩ = some (.int .i64 x.wallet) := B0.c 2 _ rfl
          have q0_3 : R4.cell? ⟨w.heap.size, 3, none⟩ = some (.slice ax0 x.chans.length cx0) := B0.c 3 _ rfl
          have q0_4 : R4.cell? ⟨w.heap.size, 4, none⟩ = some (.slice ax1 x.htlcs.length cx1) := B0.c 4 _ rfl
          have q0_5 : R4.cell? ⟨w.heap.size, 5, none⟩ = some (.slice ax2 x.circles.length cx2) := B0.c 5 _ rfl
          have f0 := B0.f
          have q1_0 : R4.cell? ⟨w.heap.size + 1, 0, none⟩ = some (.int .i64 y.tick) := B1.c 0 _ rfl
          have q1_1 : R4.cell? ⟨w.heap.size + 1, 1, none⟩ = some (.int .i64 y.next) := B1.c 1 _ rfl
          have q1_2 : R4.cell? ⟨w.heap.size + 1, 2, none⟩ = some (.int .i64 y.wallet) := B1.c 2 _ rfl
          have q1_3 : R4.cell? ⟨w.heap.size + 1, 3, none⟩ = some (.slice ay0 y.chans.length cy0) := B1.c 3 _ rfl
          have q1_4 : R4.cell? ⟨w.heap.size + 1, 4, none⟩ = some (.slice ay1 y.htlcs.length cy1) := B1.c 4 _ rfl
          have q1_5 : R4.cell? ⟨w.heap.size + 1, 5, none⟩ = some (.slice ay2 y.circles.length cy2) := B1.c 5 _ rfl
          have f1 := B1.f
          obtain ⟨b_e, off_e, ha_e, hb1_e, hb2_e, hel_e⟩ := Hx1.out.elems k hlt
          obtain ⟨ee0, ee1, ee2, ee3, ee4, ee5, ee6, -⟩ := Htlc.atCell (hel_e.same repHtlc_stable (G.same (Nat.le_refl _)) hb1_e hb2_e) k hlt
          subst ha_e
          clear hel_e
          obtain ⟨b_d, off_d, ha_d, hb1_d, hb2_d, hel_d⟩ := Hy1.out.elems k hlt2
          obtain ⟨ed0, ed1, ed2, ed3, ed4, ed5, ed6, -⟩ := Htlc.atCell (hel_d.same repHtlc_stable (G.same (Nat.le_refl _)) hb1_d hb2_d) k hlt2
          subst ha_d
          clear hel_d
          generalize hee : x.htlcs[k] = e at *
          generalize hdd : y.htlcs[k] = d at *
          clear hee hdd
          by_cases hed : e = d
          · subst hed
            have HRT := Lib.hid (HT.out rfl)
            have hbo := neq_Htlc_eq e
            go_wp2_with fail
            go_quiet (fail)
            go_wp2_with fail
            go_roundg (x.htlcs.length - (k + 1))
            case measure => have := HK.out; omega
            case rel => exact ⟨k + 1, by have := HK.out; omega, by go_num, fun j hj => by
                      by_cases he : j = k
                      · rw [he]; exact HRT.out
                      · exact HALL.out j (by omega), (G.drewN _), (B0.drewN _), (B1.drewN _)⟩
          · have HRF := Lib.hid (HF.out hed)
            have hbo := neq_Htlc_ne hed
            clear hed
            go_wp2_with fail
            go_quiet (fail)
            go_wp2_with fail
            go_ret
            exact ⟨by rw [HRF.out]; rfl, (G.drewN _)⟩
        · have HRW1 : Hid (rowsEq x.htlcs y.htlcs = true) := range_yes (fun j hj => HALL.out j (by omega))
          have z0 := B0.lt
          have z1 := B1.lt
          have q0_0 : R4.cell? ⟨w.heap.size, 0, none⟩ = some (.int .i64 x.tick) := B0.c 0 _ rfl
          have q0_1 : R4.cell? ⟨w.heap.size, 1, none⟩ = some (.int .i64 x.next) := B0.c 1 _ rfl
          have q0_2 : R4.cell? ⟨w.heap.size, 2, none⟩ = some (.int .i64 x.wallet) := B0.c 2 _ rfl
          have q0_3 : R4.cell? ⟨w.heap.size, 3, none⟩ = some (.slice ax0 x.chans.length cx0) := B0.c 3 _ rfl
          have q0_4 : R4.cell? ⟨w.heap.size, 4, none⟩ = some (.slice ax1 x.htlcs.length cx1) := B0.c 4 _ rfl
          have q0_5 : R4.cell? ⟨w.heap.size, 5, none⟩ = some (.slice ax2 x.circles.length cx2) := B0.c 5 _ rfl
          have f0 := B0.f
          have q1_0 : R4.cell? ⟨w.heap.size + 1, 0, none⟩ = some (.int .i64 y.tick) := B1.c 0 _ rfl
          have q1_1 : R4.cell? ⟨w.heap.size + 1, 1, none⟩ = some (.int .i64 y.next) := B1.c 1 _ rfl
          have q1_2 : R4.cell? ⟨w.heap.size + 1, 2, none⟩ = some (.int .i64 y.wallet) := B1.c 2 _ rfl
          have q1_3 : R4.cell? ⟨w.heap.size + 1, 3, none⟩ = some (.slice ay0 y.chans.length cy0) := B1.c 3 _ rfl
          have q1_4 : R4.cell? ⟨w.heap.size + 1, 4, none⟩ = some (.slice ay1 y.htlcs.length cy1) := B1.c 4 _ rfl
          have q1_5 : R4.cell? ⟨w.heap.size + 1, 5, none⟩ = some (.slice ay2 y.circles.length cy2) := B1.c 5 _ rfl
          have f1 := B1.f
          go_wp2_with fail
          clear HALL hlt hk
          clear z0 z1 q0_0 q0_1 q0_2 q0_3 q0_4 q0_5 f0 q1_0 q1_1 q1_2 q1_3 q1_4 q1_5 f1
          go_loopg [103] x.circles.length (fun g i wr => ∃ k : Nat, k + g = x.circles.length ∧ i = .int .i64 k ∧ (∀ j, j < k → rowAt x.circles y.circles j = true) ∧ Grow w wr ∧ Box wr (w.heap.size) [.int .i64 x.tick, .int .i64 x.next, .int .i64 x.wallet, .slice ax0 x.chans.length cx0, .slice ax1 x.htlcs.length cx1, .slice ax2 x.circles.length cx2] ∧ Box wr (w.heap.size + 1) [.int .i64 y.tick, .int .i64 y.next, .int .i64 y.wallet, .slice ay0 y.chans.length cy0, .slice ay1 y.htlcs.length cy1, .slice ay2 y.circles.length cy2])
          case atStart => exact ⟨0, by simp, rfl, fun j h => absurd h (by omega), G, B0, B1⟩
          case round =>
            clear G B0 B1
            obtain ⟨k, hk, rfl, hall, G, B0, B1⟩ := hrel
            obtain ⟨R5, rfl⟩ : ∃ V, V = wr := ⟨_, rfl⟩
            have HALL := Lib.hid hall; clear hall
            by_cases hlt : k < x.circles.length
            · have hlt2 : k < y.circles.length := by have := HLEN2.out; omega
              have HK := Lib.hid hk; clear hk
              have HT : Hid (x.circles[k] = y.circles[k] → rowAt x.circles y.circles k = true) := rowAt_true hlt hlt2
              have HF : Hid (x.circles[k] ≠ y.circles[k] → sameBook x y = false) := fun h => by
                have h0 := range_no (p := rowAt x.circles y.circles) hlt (rowAt_false hlt hlt2 h)
                have h1 : rowsEq x.circles y.circles = false := h0
                rw [HFIN.out, h1]; simp
              have z0 := B0.lt
              have z1 := B1.lt
              have q0_0 : R5.cell? ⟨w.heap.size, 0, none⟩ = some (.int .i64 x.tick) := B0.c 0 _ rfl
              have q0_1 : R5.cell? ⟨w.heap.size, 1, none⟩ = some (.int .i64 x.next) := B0.c 1 _ rfl
              have q0_2 : R5.cell? ⟨w.heap.size, 2, none⟩ = some (.int .i64 x.wallet) := B0.c 2 _ rfl
              have q0_3 : R5.cell? ⟨w.heap.size, 3, none⟩ = some (.slice ax0 x.chans.length cx0) := B0.c 3 _ rfl
              have q0_4 : R5.cell? ⟨w.heap.size, 4, none⟩ = some (.slice ax1 x.htlcs.length cx1) := B0.c 4 _ rfl
              have q0_5 : R5.cell? ⟨w.heap.size, 5, none⟩ = some (.slice ax2 x.circles.length cx2) := B0.c 5 _ rfl
              have f0 := B0.f
              have q1_0 : R5.cell? ⟨w.heap.size + 1, 0, none⟩ = some (.int .i64 y.tick) := B1.c 0 _ rfl
              have q1_1 : R5.cell? ⟨w.heap.size + 1, 1, none⟩ = some (.int .i64 y.next) := B1.c 1 _ rfl
              have q1_2 : R5.cell? ⟨w.heap.size + 1, 2, none⟩ = some (.int .i64 y.wallet) := B1.c 2 _ rfl
              have q1_3 : R5.cell? ⟨w.heap.size + 1, 3, none⟩ = some (.slice ay0 y.chans.length cy0) := B1.c 3 _ rfl
              have q1_4 : R5.cell? ⟨w.heap.size + 1, 4, none⟩ = some (.slice ay1 y.htlcs.length cy1) := B1.c 4 _ rfl
              have q1_5 : R5.cell? ⟨w.heap.size + 1, 5, none⟩ = some (.slice ay2 y.circles.length cy2) := B1.c 5 _ rfl
              have f1 := B1.f
              obtain ⟨b_e, off_e, ha_e, hb1_e, hb2_e, hel_e⟩ := Hx2.out.elems k hlt
              obtain ⟨ee0, ee1, ee2, ee3, ee4, -⟩ := Circle.atCell (hel_e.same repCircle_stable (G.same (Nat.le_refl _)) hb1_e hb2_e) k hlt
              subst ha_e
              clear hel_e
              obtain ⟨b_d, off_d, ha_d, hb1_d, hb2_d, hel_d⟩ := Hy2.out.elems k hlt2
              obtain ⟨ed0, ed1, ed2, ed3, ed4, -⟩ := Circle.atCell (hel_d.same repCircle_stable (G.same (Nat.le_refl _)) hb1_d hb2_d) k hlt2
              subst ha_d
              clear hel_d
              generalize hee : x.circles[k] = e at *
              generalize hdd : y.circles[k] = d at *
              clear hee hdd
              by_cases hed : e = d
              · subst hed
                have HRT := Lib.hid (HT.out rfl)
                have hbo := neq_Circle_eq e
                go_wp2_with fail
                go_quiet (fail)
                go_wp2_with fail
                go_roundg (x.circles.length - (k + 1))
                case measure => have := HK.out; omega
                case rel => exact ⟨k + 1, by have := HK.out; omega, by go_num, fun j hj => by
                          by_cases he : j = k
                          · rw [he]; exact HRT.out
                          · exact HALL.out j (by omega), (G.drewN _), (B0.drewN _), (B1.drewN _)⟩
              · have HRF := Lib.hid (HF.out hed)
                have hbo := neq_Circle_ne hed
                clear hed
                go_wp2_with fail
                go_quiet (fail)
                go_wp2_with fail
                go_ret
                exact ⟨by rw [HRF.out]; rfl, (G.drewN _)⟩
            · have HRW2 : Hid (rowsEq x.circles y.circles = true) := range_yes (fun j hj => HALL.out j (by omega))
              have z0 := B0.lt
              have z1 := B1.lt
              have q0_0 : R5.cell? ⟨w.heap.size, 0, none⟩ = some (.int .i64 x.tick) := B0.c 0 _ rfl
              have q0_1 : R5.cell? ⟨w.heap.size, 1, none⟩ = some (.int .i64 x.next) := B0.c 1 _ rfl
              have q0_2 : R5.cell? ⟨w.heap.size, 2, none⟩ = some (.int .i64 x.wallet) := B0.c 2 _ rfl
              have q0_3 : R5.cell? ⟨w.heap.size, 3, none⟩ = some (.slice ax0 x.chans.length cx0) := B0.c 3 _ rfl
              have q0_4 : R5.cell? ⟨w.heap.size, 4, none⟩ = some (.slice ax1 x.htlcs.length cx1) := B0.c 4 _ rfl
              have q0_5 : R5.cell? ⟨w.heap.size, 5, none⟩ = some (.slice ax2 x.circles.length cx2) := B0.c 5 _ rfl
              have f0 := B0.f
              have q1_0 : R5.cell? ⟨w.heap.size + 1, 0, none⟩ = some (.int .i64 y.tick) := B1.c 0 _ rfl
              have q1_1 : R5.cell? ⟨w.heap.size + 1, 1, none⟩ = some (.int .i64 y.next) := B1.c 1 _ rfl
              have q1_2 : R5.cell? ⟨w.heap.size + 1, 2, none⟩ = some (.int .i64 y.wallet) := B1.c 2 _ rfl
              have q1_3 : R5.cell? ⟨w.heap.size + 1, 3, none⟩ = some (.slice ay0 y.chans.length cy0) := B1.c 3 _ rfl
              have q1_4 : R5.cell? ⟨w.heap.size + 1, 4, none⟩ = some (.slice ay1 y.htlcs.length cy1) := B1.c 4 _ rfl
              have q1_5 : R5.cell? ⟨w.heap.size + 1, 5, none⟩ = some (.slice ay2 y.circles.length cy2) := B1.c 5 _ rfl
              have f1 := B1.f
              have hr : sameBook x y = true := by rw [HFIN.out, HRW0.out, HRW1.out, HRW2.out]; rfl
              have HR := Lib.hid hr; clear hr
              go_wp2_with fail
              go_ret
              exact ⟨by rw [HR.out]; rfl, G⟩

end Go.Proofs.Ytigbjpllckgilaa
