/- The marks of []Edge. -/
import Derived.Test.YtbjnbhlpibadnaaMk
import Derived.Test.YtbjnbhlpibadnaaHEdge
namespace Go.Proofs.Ytbjnbhlpibadnaa
open Go.RowKit
set_option linter.unusedSimpArgs false
set_option linter.unusedVariables false

set_option maxHeartbeats 2000000 in
set_option maxRecDepth 100000 in
theorem markEdgeS_c (xs : List Edge) (a : Option Addr) (cap : Nat) (k : Int) (lo hi : Nat) (w : World) (hv : SlR 4 repEdge w lo hi (.slice a xs.length cap) xs) (nf : NF lo hi w) (hn : xs.length ≤ 16777216) (hk : 0 ≤ k) (hk2 : k ≤ 1000000000000) :
    Calls Try.prog 53 #[.slice a xs.length cap, .int .i64 k] w fun e w' => e = .returned (.int .i64 (mkEnd 4 k xs.length)) ∧ Put lo hi w w' ∧ HeldN (mvAt 99) 4 w' lo hi a xs.length k := by
  have HV := Lib.hid hv; clear hv
  have HN := Lib.hid nf; clear nf
  go_enter Try.func53, Try.ntmps53
  go_wp2
  go_loopg [1, 5] xs.length (fun g nn i wr => ∃ j : Nat, ∃ kk : Int, j + g = xs.length ∧ i = .int .i64 j ∧ nn = .int .i64 kk ∧ kk = mkEnd 4 k j ∧ Put lo hi w wr ∧ (∀ b off, a = some ⟨b, off, none⟩ → MkN (mvAt 99) 4 wr b off j k ∧ ∀ o, off + j * 4 ≤ o → wr.cell? ⟨b, o, none⟩ = w.cell? ⟨b, o, none⟩))
  case atStart => exact ⟨0, k, by omega, rfl, rfl, by simp [mkEnd], Put.refl _ _ _, fun b off _ => ⟨fun i c h => absurd h (by omega), fun _ _ => rfl⟩⟩
  case round =>
    obtain ⟨j, kk, hj, rfl, rfl, hkk, hp, hm⟩ := hrel
    have hkb : 0 ≤ kk ∧ kk ≤ 1073741824 + 1000000000000 := by
      have := mkEnd_bd (n := 4) (m := j) hk hk2 (by omega) (by omega)
      omega
    obtain ⟨hkb1, hkb2⟩ := hkb
    have HKK := Lib.hid hkk; clear hkk
    by_cases hlt : j < xs.length
    · obtain ⟨b, off, rfl, hb1, hb2, hel⟩ := HV.out.elems j hlt
      obtain ⟨hm1, hm2⟩ := hm b off rfl
      obtain ⟨e0, e1, e2, e3, _⟩ := Edge.atCell hel j hlt
      have c0 : wr.cell? ⟨b, off + j * 4, none⟩ = w.cell? ⟨b, off + j * 4, none⟩ := hm2 _ (by omega)
      rw [← c0] at e0
      have c1 : wr.cell? ⟨b, off + j * 4 + 1, none⟩ = w.cell? ⟨b, off + j * 4 + 1, none⟩ := hm2 _ (by omega)
      rw [← c1] at e1
      have c2 : wr.cell? ⟨b, off + j * 4 + 2, none⟩ = w.cell? ⟨b, off + j * 4 + 2, none⟩ := hm2 _ (by omega)
      rw [← c2] at e2
      have c3 : wr.cell? ⟨b, off + j * 4 + 3, none⟩ = w.cell? ⟨b, off + j * 4 + 3, none⟩ := hm2 _ (by omega)
      rw [← c3] at e3
      clear c0 c1 c2 c3
      have hbw : b < w.heap.size := by have := lt_of_cell e0; have := HV.out; obtain ⟨_, _, _, _, _, _⟩ := HV.out.elems j hlt; exact Nat.lt_of_lt_of_le (lt_of_cell (Edge.atCell hel j hlt).1) (Nat.le_refl _)
      have fz : ∀ o, wr.frozen? ⟨b, o, none⟩ = false := fun o => by rw [hp.frz b o hbw]; exact HN.out b o hb1 hb2
      have HP := Lib.hid hp; have HM1 := Lib.hid hm1; have HM2 := Lib.hid hm2; have HJ := Lib.hid hj
      have ROOM : Hid (∀ c, c < 4 → (wr.cell? ⟨b, off + j * 4 + c, none⟩).isSome = true) := fun c hc => by
        rcases c with _ | _ | _ | _ | c
        · simp only [Nat.add_zero]; rw [e0]; rfl
        · rw [e1]; rfl
        · rw [e2]; rfl
        · rw [e3]; rfl
        · omega
      clear hp hm hm1 hm2 hel hj
      generalize xs[j] = y at *
      go_wp2
      go_roundg (xs.length - (j + 1))
      case measure => have := HJ.out; omega
      case rel =>
        have hst := HM1.out.store [.int .i64 (kk), .int .i64 (kk + 1), .int .i64 (kk + 1 + 1), .int .i64 (kk + 1 + 1 + 1)] rfl (fun c hc => by
          have hq := HKK.out
          unfold mkEnd at hq
          rcases c with _ | _ | _ | _ | c
          · show some _ = some _; rw [mvAt_int (by omega)]; rw [show k + ((j * 4 + 0 : Nat) : Int) = kk by omega]
          · show some _ = some _; rw [mvAt_int (by omega)]; rw [show k + ((j * 4 + (1) : Nat) : Int) = kk + 1 by omega]
          · show some _ = some _; rw [mvAt_int (by omega)]; rw [show k + ((j * 4 + (2) : Nat) : Int) = kk + 1 + 1 by omega]
          · show some _ = some _; rw [mvAt_int (by omega)]; rw [show k + ((j * 4 + (3) : Nat) : Int) = kk + 1 + 1 + 1 by omega]
          · omega) ROOM.out
        refine ⟨j + 1, kk + 4, by have := HJ.out; omega, by go_num, by first | rfl | exact congrArg (Value.int .i64) (by omega), by rw [HKK.out]; unfold mkEnd; rw [Nat.add_mul]; omega, ((((HP.out.setCell (p := ⟨b, off + j * 4, none⟩) ⟨hb1, hb2⟩ _).setCell (p := ⟨b, off + j * 4 + 1, none⟩) ⟨hb1, hb2⟩ _).setCell (p := ⟨b, off + j * 4 + 2, none⟩) ⟨hb1, hb2⟩ _).setCell (p := ⟨b, off + j * 4 + 3, none⟩) ⟨hb1, hb2⟩ _), fun b' off' he => ?_⟩
        injection he with he
        injection he with q1 q2
        subst q1 q2
        refine ⟨hst, fun o h1 => ?_⟩
        rw [Nat.add_mul] at h1
        rw [World.cell?_setCell_other _ _ ⟨b, o, none⟩ _ (by intro e2; injection e2 with _ e3; omega)]; rw [World.cell?_setCell_other _ _ ⟨b, o, none⟩ _ (by intro e2; injection e2 with _ e3; omega)]; rw [World.cell?_setCell_other _ _ ⟨b, o, none⟩ _ (by intro e2; injection e2 with _ e3; omega)]; rw [World.cell?_setCell_other _ _ ⟨b, o, none⟩ _ (by intro e2; injection e2 with _ e3; omega)]
        exact HM2.out o (by omega)
    · obtain rfl : j = xs.length := by omega
      have HP := Lib.hid hp; have HM := Lib.hid hm; clear hp hm hj
      go_wp2
      go_ret
      refine ⟨by rw [HKK.out]; rfl, HP.out, ?_⟩
      obtain ⟨a_, c_, heq, _, _, h0⟩ := HV.out
      injection heq with q1 q2 q3
      subst q1
      rcases h0 with h0 | ⟨b, off, ha, hb1, hb2, _⟩
      · exact .inl (by rw [h0]; rfl)
      · exact .inr ⟨b, off, ha, hb1, hb2, (HM.out b off ha).1⟩

set_option maxHeartbeats 2000000 in
set_option maxRecDepth 100000 in
theorem heldEdgeS_c (n : Nat) (a : Option Addr) (cap : Nat) (k : Int) (lo hi : Nat) (w : World) (hv : HeldN (mvAt 99) 4 w lo hi a n k) (hc : n ≤ cap) (hn : n ≤ 16777216) (hk : 0 ≤ k) (hk2 : k ≤ 1000000000000) :
    Calls Try.prog 91 #[.slice a n cap, .int .i64 k] w fun e w' => e = .returned (.int .i64 (mkEnd 4 k n)) ∧ Grow w w' := by
  have HV := Lib.hid hv; clear hv
  go_enter Try.func91, Try.ntmps91
  go_wp2
  go_loopg [1, 5] n (fun g m i wr => ∃ j : Nat, ∃ kk : Int, j + g = n ∧ i = .int .i64 j ∧ m = .int .i64 kk ∧ kk = mkEnd 4 k j ∧ wr = w)
  case atStart => exact ⟨0, k, by omega, rfl, rfl, by simp [mkEnd], rfl⟩
  case round =>
    obtain ⟨j, kk, hj, rfl, rfl, hkk, rfl⟩ := hrel
    have hkb : 0 ≤ kk ∧ kk ≤ 1073741824 + 1000000000000 := by
      have := mkEnd_bd (n := 4) (m := j) hk hk2 (by omega) (by omega)
      omega
    obtain ⟨hkb1, hkb2⟩ := hkb
    have HKK := Lib.hid hkk; clear hkk
    by_cases hlt : j < n
    · rcases HV.out with h0 | ⟨b, off, rfl, hb1, hb2, hm⟩
      · omega
      have e0 : wr.cell? ⟨b, off + j * 4, none⟩ = some (.int .i64 (kk)) := by
        have h0 := hm j 0 hlt (by omega)
        rw [show k + ((j * 4 + 0 : Nat) : Int) = kk by have hq := HKK.out; unfold mkEnd at hq; omega] at h0
        skip
        rw [mvAt_int (by omega)] at h0
        exact h0
      have e1 : wr.cell? ⟨b, off + j * 4 + 1, none⟩ = some (.int .i64 (kk + 1)) := by
        have h0 := hm j 1 hlt (by omega)
        rw [show k + ((j * 4 + 1 : Nat) : Int) = kk + 1 by have hq := HKK.out; unfold mkEnd at hq; omega] at h0
        skip
        rw [mvAt_int (by omega)] at h0
        exact h0
      have e2 : wr.cell? ⟨b, off + j * 4 + 2, none⟩ = some (.int .i64 (kk + 1 + 1)) := by
        have h0 := hm j 2 hlt (by omega)
        rw [show k + ((j * 4 + 2 : Nat) : Int) = kk + 1 + 1 by have hq := HKK.out; unfold mkEnd at hq; omega] at h0
        skip
        rw [mvAt_int (by omega)] at h0
        exact h0
      have e3 : wr.cell? ⟨b, off + j * 4 + 3, none⟩ = some (.int .i64 (kk + 1 + 1 + 1)) := by
        have h0 := hm j 3 hlt (by omega)
        rw [show k + ((j * 4 + 3 : Nat) : Int) = kk + 1 + 1 + 1 by have hq := HKK.out; unfold mkEnd at hq; omega] at h0
        skip
        rw [mvAt_int (by omega)] at h0
        exact h0
      have HJ := Lib.hid hj; clear hj hm
      go_wp2
      go_roundg (n - (j + 1))
      case measure => have := HJ.out; omega
      case rel => exact ⟨j + 1, kk + 4, by have := HJ.out; omega, by go_num, by first | rfl | exact congrArg (Value.int .i64) (by omega), by rw [HKK.out]; unfold mkEnd; rw [Nat.add_mul]; omega, rfl⟩
    · obtain rfl : j = n := by omega
      go_wp2
      go_ret
      exact ⟨by rw [HKK.out]; rfl, Grow.refl _⟩
end Go.Proofs.Ytbjnbhlpibadnaa
