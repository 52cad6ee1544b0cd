/- The marks of []Chan. -/
import Derived.Test.YtbjnbhlpibadnaaMk
import Derived.Test.YtbjnbhlpibadnaaHChan
namespace Go.Proofs.Ytbjnbhlpibadnaa
open Go.RowKit
set_option linter.unusedSimpArgs false
set_option linter.unusedVariables false

set_option maxHeartbeats 2000000 in
set_option maxRecDepth 100000 in
theorem markChanS_c (xs : List Chan) (a : Option Addr) (cap : Nat) (k : Int) (lo hi : Nat) (w : World) (hv : SlR 7 repChan w lo hi (.slice a xs.length cap) xs) (nf : NF lo hi w) (hn : xs.length ≤ 16777216) (hk : 0 ≤ k) (hk2 : k ≤ 1000000000000) :
    Calls Try.prog 88 #[.slice a xs.length cap, .int .i64 k] w fun e w' => e = .returned (.int .i64 (mkEnd 7 k xs.length)) ∧ Put lo hi w w' ∧ HeldN (mvAt 99) 7 w' lo hi a xs.length k := by
  have HV := Lib.hid hv; clear hv
  have HN := Lib.hid nf; clear nf
  go_enter Try.func88, Try.ntmps88
  go_wp2
  go_loopg [1, 5] xs.length (fun g nn i wr => ∃ j : Nat, ∃ kk : Int, j + g = xs.length ∧ i = .int .i64 j ∧ nn = .int .i64 kk ∧ kk = mkEnd 7 k j ∧ Put lo hi w wr ∧ (∀ b off, a = some ⟨b, off, none⟩ → MkN (mvAt 99) 7 wr b off j k ∧ ∀ o, off + j * 7 ≤ o → wr.cell? ⟨b, o, none⟩ = w.cell? ⟨b, o, none⟩))
  case atStart => exact ⟨0, k, by omega, rfl, rfl, by simp [mkEnd], Put.refl _ _ _, fun b off _ => ⟨fun i c h => absurd h (by omega), fun _ _ => rfl⟩⟩
  case round =>
    obtain ⟨j, kk, hj, rfl, rfl, hkk, hp, hm⟩ := hrel
    have hkb : 0 ≤ kk ∧ kk ≤ 1073741824 + 1000000000000 := by
      have := mkEnd_bd (n := 7) (m := j) hk hk2 (by omega) (by omega)
      omega
    obtain ⟨hkb1, hkb2⟩ := hkb
    have HKK := Lib.hid hkk; clear hkk
    by_cases hlt : j < xs.length
    · obtain ⟨b, off, rfl, hb1, hb2, hel⟩ := HV.out.elems j hlt
      obtain ⟨hm1, hm2⟩ := hm b off rfl
      obtain ⟨e0, e1, e2, e3, e4, e5, e6, _⟩ := Chan.atCell hel j hlt
      have c0 : wr.cell? ⟨b, off + j * 7, none⟩ = w.cell? ⟨b, off + j * 7, none⟩ := hm2 _ (by omega)
      rw [← c0] at e0
      have c1 : wr.cell? ⟨b, off + j * 7 + 1, none⟩ = w.cell? ⟨b, off + j * 7 + 1, none⟩ := hm2 _ (by omega)
      rw [← c1] at e1
      have c2 : wr.cell? ⟨b, off + j * 7 + 2, none⟩ = w.cell? ⟨b, off + j * 7 + 2, none⟩ := hm2 _ (by omega)
      rw [← c2] at e2
      have c3 : wr.cell? ⟨b, off + j * 7 + 3, none⟩ = w.cell? ⟨b, off + j * 7 + 3, none⟩ := hm2 _ (by omega)
      rw [← c3] at e3
      have c4 : wr.cell? ⟨b, off + j * 7 + 4, none⟩ = w.cell? ⟨b, off + j * 7 + 4, none⟩ := hm2 _ (by omega)
      rw [← c4] at e4
      have c5 : wr.cell? ⟨b, off + j * 7 + 5, none⟩ = w.cell? ⟨b, off + j * 7 + 5, none⟩ := hm2 _ (by omega)
      rw [← c5] at e5
      have c6 : wr.cell? ⟨b, off + j * 7 + 6, none⟩ = w.cell? ⟨b, off + j * 7 + 6, none⟩ := hm2 _ (by omega)
      rw [← c6] at e6
      clear c0 c1 c2 c3 c4 c5 c6
      have hbw : b < w.heap.size := by have := lt_of_cell e0; have := HV.out; obtain ⟨_, _, _, _, _, _⟩ := HV.out.elems j hlt; exact Nat.lt_of_lt_of_le (lt_of_cell (Chan.atCell hel j hlt).1) (Nat.le_refl _)
      have fz : ∀ o, wr.frozen? ⟨b, o, none⟩ = false := fun o => by rw [hp.frz b o hbw]; exact HN.out b o hb1 hb2
      have HP := Lib.hid hp; have HM1 := Lib.hid hm1; have HM2 := Lib.hid hm2; have HJ := Lib.hid hj
      have ROOM : Hid (∀ c, c < 7 → (wr.cell? ⟨b, off + j * 7 + c, none⟩).isSome = true) := fun c hc => by
        rcases c with _ | _ | _ | _ | _ | _ | _ | c
        · simp only [Nat.add_zero]; rw [e0]; rfl
        · rw [e1]; rfl
        · rw [e2]; rfl
        · rw [e3]; rfl
        · rw [e4]; rfl
        · rw [e5]; rfl
        · rw [e6]; rfl
        · omega
      clear hp hm hm1 hm2 hel hj
      generalize xs[j] = y at *
      go_wp2
      go_roundg (xs.length - (j + 1))
      case measure => have := HJ.out; omega
      case rel =>
        have hst := HM1.out.store [.int .i64 (kk), .int .i64 (kk + 1), .int .i64 (kk + 1 + 1), .int .i64 (kk + 1 + 1 + 1), .int .i64 (kk + 1 + 1 + 1 + 1), .int .i64 (kk + 1 + 1 + 1 + 1 + 1), .int .i64 (kk + 1 + 1 + 1 + 1 + 1 + 1)] rfl (fun c hc => by
          have hq := HKK.out
          unfold mkEnd at hq
          rcases c with _ | _ | _ | _ | _ | _ | _ | c
          · show some _ = some _; rw [mvAt_int (by omega)]; rw [show k + ((j * 7 + 0 : Nat) : Int) = kk by omega]
          · show some _ = some _; rw [mvAt_int (by omega)]; rw [show k + ((j * 7 + (1) : Nat) : Int) = kk + 1 by omega]
          · show some _ = some _; rw [mvAt_int (by omega)]; rw [show k + ((j * 7 + (2) : Nat) : Int) = kk + 1 + 1 by omega]
          · show some _ = some _; rw [mvAt_int (by omega)]; rw [show k + ((j * 7 + (3) : Nat) : Int) = kk + 1 + 1 + 1 by omega]
          · show some _ = some _; rw [mvAt_int (by omega)]; rw [show k + ((j * 7 + (4) : Nat) : Int) = kk + 1 + 1 + 1 + 1 by omega]
          · show some _ = some _; rw [mvAt_int (by omega)]; rw [show k + ((j * 7 + (5) : Nat) : Int) = kk + 1 + 1 + 1 + 1 + 1 by omega]
          · show some _ = some _; rw [mvAt_int (by omega)]; rw [show k + ((j * 7 + (6) : Nat) : Int) = kk + 1 + 1 + 1 + 1 + 1 + 1 by omega]
          · omega) ROOM.out
        refine ⟨j + 1, kk + 7, by have := HJ.out; omega, by go_num, by first | rfl | exact congrArg (Value.int .i64) (by omega), by rw [HKK.out]; unfold mkEnd; rw [Nat.add_mul]; omega, (((((((HP.out.setCell (p := ⟨b, off + j * 7, none⟩) ⟨hb1, hb2⟩ _).setCell (p := ⟨b, off + j * 7 + 1, none⟩) ⟨hb1, hb2⟩ _).setCell (p := ⟨b, off + j * 7 + 2, none⟩) ⟨hb1, hb2⟩ _).setCell (p := ⟨b, off + j * 7 + 3, none⟩) ⟨hb1, hb2⟩ _).setCell (p := ⟨b, off + j * 7 + 4, none⟩) ⟨hb1, hb2⟩ _).setCell (p := ⟨b, off + j * 7 + 5, none⟩) ⟨hb1, hb2⟩ _).setCell (p := ⟨b, off + j * 7 + 6, none⟩) ⟨hb1, hb2⟩ _), fun b' off' he => ?_⟩
        injection he with he
        injection he with q1 q2
        subst q1 q2
        refine ⟨hst, fun o h1 => ?_⟩
        rw [Nat.add_mul] at h1
        rw [World.cell?_setCell_other _ _ ⟨b, o, none⟩ _ (by intro e2; injection e2 with _ e3; omega)]; rw [World.cell?_setCell_other _ _ ⟨b, o, none⟩ _ (by intro e2; injection e2 with _ e3; omega)]; rw [World.cell?_setCell_other _ _ ⟨b, o, none⟩ _ (by intro e2; injection e2 with _ e3; omega)]; rw [World.cell?_setCell_other _ _ ⟨b, o, none⟩ _ (by intro e2; injection e2 with _ e3; omega)]; rw [World.cell?_setCell_other _ _ ⟨b, o, none⟩ _ (by intro e2; injection e2 with _ e3; omega)]; rw [World.cell?_setCell_other _ _ ⟨b, o, none⟩ _ (by intro e2; injection e2 with _ e3; omega)]; rw [World.cell?_setCell_other _ _ ⟨b, o, none⟩ _ (by intro e2; injection e2 with _ e3; omega)]
        exact HM2.out o (by omega)
    · obtain rfl : j = xs.length := by omega
      have HP := Lib.hid hp; have HM := Lib.hid hm; clear hp hm hj
      go_wp2
      go_ret
      refine ⟨by rw [HKK.out]; rfl, HP.out, ?_⟩
      obtain ⟨a_, c_, heq, _, _, h0⟩ := HV.out
      injection heq with q1 q2 q3
      subst q1
      rcases h0 with h0 | ⟨b, off, ha, hb1, hb2, _⟩
      · exact .inl (by rw [h0]; rfl)
      · exact .inr ⟨b, off, ha, hb1, hb2, (HM.out b off ha).1⟩

end Go.Proofs.Ytbjnbhlpibadnaa
