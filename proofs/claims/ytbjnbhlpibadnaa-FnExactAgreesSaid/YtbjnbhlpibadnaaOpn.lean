/- What the reader of data reads of the laws' types, as plain data. -/
import Derived.Test.YtbjnbhlpibadnaaProg
import Derived.Test.YtbjnbhlpibadnaaDat
namespace Go.Proofs.Ytbjnbhlpibadnaa
open Go.RowKit
set_option linter.unusedSimpArgs false
set_option linter.unusedVariables false

theorem cellsIntL : Try.prog.cellsOf 25 = 1 := by kernel_rfl
theorem cellsLineL : Try.prog.cellsOf 48 = 1 := by kernel_rfl
theorem cellsChanL : Try.prog.cellsOf 43 = 1 := by kernel_rfl
theorem cellsHtlcL : Try.prog.cellsOf 44 = 1 := by kernel_rfl
theorem cellsCircleL : Try.prog.cellsOf 45 = 1 := by kernel_rfl
theorem cellsEdgeL : Try.prog.cellsOf 22 = 1 := by kernel_rfl
theorem cellsPriceL : Try.prog.cellsOf 67 = 1 := by kernel_rfl
theorem cellsBool : Try.prog.cellsOf 4 = 1 := by kernel_rfl
theorem u8_of_wf {n : Int} (h : (Lit.int .u8 n).wf = true) : 0 ≤ n ∧ n ≤ 255 := by
  simp [Lit.wf, IntKind.min, IntKind.max, IntKind.signed, IntKind.bits] at h
  omega

theorem cellsInt : Try.prog.cellsOf 3 = 1 := by kernel_rfl
theorem trodInt {H : Type} {enc : TypeId × Value → H} {w : World} {sp : Nat → Bool} {held : Bool} {fuel : Nat} {cs : List Value} {x : DataW H × List MemPlace} (h : DataW.trod enc Try.prog w 0 sp held fuel 3 cs = some x) : ∃ y : Int, repInt w 0 w.heap.size cs y := by
  obtain ⟨n, rfl, _, hw⟩ := DataW.trod_int Try.underlying3 h
  exact ⟨n, rfl, i64_of_wf hw⟩

theorem cellsAcc : Try.prog.cellsOf 155 = 2 := by kernel_rfl
theorem trodAcc {H : Type} {enc : TypeId × Value → H} {w : World} {sp : Nat → Bool} {held : Bool} {fuel : Nat} {cs : List Value} {x : DataW H × List MemPlace} (h : DataW.trod enc Try.prog w 0 sp held fuel 155 cs = some x) : ∃ y : Acc, repAcc w 0 w.heap.size cs y := by
  obtain ⟨xs, n, _, _, hl, hxs, hf⟩ := DataW.trod_struct Try.underlying155 h
  have hl := hl.trans cellsAcc
  have hxs : xs.length = 2 := hxs
  clear h
  obtain ⟨k0, cs0, rfl, hl0⟩ := listS hl
  obtain ⟨k1, rfl⟩ := list1 hl0
  obtain ⟨y0, e0⟩ := getElem_some (show 0 < xs.length by omega)
  have f0 := hf 0 ⟨_, _, _, _, _, _, _⟩ rfl
  rw [e0] at f0
  simp only [cellsInt, List.drop_zero, List.drop_succ_cons, List.take_succ_cons, List.take_zero] at f0
  obtain ⟨b0, q0, _, w0⟩ := DataW.trod_int Try.underlying3 f0
  obtain rfl : k0 = .int .i64 b0 := by simpa using q0
  obtain ⟨y1, e1⟩ := getElem_some (show 1 < xs.length by omega)
  have f1 := hf 1 ⟨_, _, _, _, _, _, _⟩ rfl
  rw [e1] at f1
  simp only [cellsInt, List.drop_zero, List.drop_succ_cons, List.take_succ_cons, List.take_zero] at f1
  obtain ⟨b1, q1, _, w1⟩ := DataW.trod_int Try.underlying3 f1
  obtain rfl : k1 = .int .i64 b1 := by simpa using q1
  exact ⟨⟨b0, b1⟩, rfl, ⟨i64_of_wf w0, i64_of_wf w1⟩⟩

theorem cellsLine : Try.prog.cellsOf 157 = 3 := by kernel_rfl
theorem trodLine {H : Type} {enc : TypeId × Value → H} {w : World} {sp : Nat → Bool} {held : Bool} {fuel : Nat} {cs : List Value} {x : DataW H × List MemPlace} (h : DataW.trod enc Try.prog w 0 sp held fuel 157 cs = some x) : ∃ y : Line, repLine w 0 w.heap.size cs y := by
  obtain ⟨xs, n, _, _, hl, hxs, hf⟩ := DataW.trod_struct Try.underlying157 h
  have hl := hl.trans cellsLine
  have hxs : xs.length = 2 := hxs
  clear h
  obtain ⟨k0, cs0, rfl, hl0⟩ := listS hl
  obtain ⟨k1, cs1, rfl, hl1⟩ := listS hl0
  obtain ⟨k2, rfl⟩ := list1 hl1
  obtain ⟨y0, e0⟩ := getElem_some (show 0 < xs.length by omega)
  have f0 := hf 0 ⟨_, _, _, _, _, _, _⟩ rfl
  rw [e0] at f0
  simp only [cellsAcc, List.drop_zero, List.drop_succ_cons, List.take_succ_cons, List.take_zero] at f0
  obtain ⟨b0, q0, w0⟩ := trodAcc f0
  simp only [encAcc, List.cons.injEq, and_true] at q0
  obtain ⟨rfl, rfl⟩ := q0
  obtain ⟨y1, e1⟩ := getElem_some (show 1 < xs.length by omega)
  have f1 := hf 1 ⟨_, _, _, _, _, _, _⟩ rfl
  rw [e1] at f1
  simp only [cellsInt, List.drop_zero, List.drop_succ_cons, List.take_succ_cons, List.take_zero] at f1
  obtain ⟨b1, q1, _, w1⟩ := DataW.trod_int Try.underlying3 f1
  obtain rfl : k2 = .int .i64 b1 := by simpa using q1
  exact ⟨⟨b0, b1⟩, rfl, ⟨w0.1, w0.2, i64_of_wf w1⟩⟩

theorem cellsLedger : Try.prog.cellsOf 50 = 2 := by kernel_rfl
theorem trodLedger {H : Type} {enc : TypeId × Value → H} {w : World} {sp : Nat → Bool} {held : Bool} {fuel : Nat} {cs : List Value} {x : DataW H × List MemPlace} (h : DataW.trod enc Try.prog w 0 sp held fuel 50 cs = some x) : ∃ y : Ledger, repLedger w 0 w.heap.size cs y := by
  obtain ⟨xs, n, _, _, hl, hxs, hf⟩ := DataW.trod_struct Try.underlying50 h
  have hl := hl.trans cellsLedger
  have hxs : xs.length = 2 := hxs
  clear h
  obtain ⟨k0, cs0, rfl, hl0⟩ := listS hl
  obtain ⟨k1, rfl⟩ := list1 hl0
  obtain ⟨y0, e0⟩ := getElem_some (show 0 < xs.length by omega)
  have f0 := hf 0 ⟨_, _, _, _, _, _, _⟩ rfl
  rw [e0] at f0
  simp only [cellsInt, List.drop_zero, List.drop_succ_cons, List.take_succ_cons, List.take_zero] at f0
  obtain ⟨b0, q0, _, w0⟩ := DataW.trod_int Try.underlying3 f0
  obtain rfl : k0 = .int .i64 b0 := by simpa using q0
  obtain ⟨y1, e1⟩ := getElem_some (show 1 < xs.length by omega)
  have f1 := hf 1 ⟨_, _, _, _, _, _, _⟩ rfl
  rw [e1] at f1
  simp only [cellsLineL, List.drop_zero, List.drop_succ_cons, List.take_succ_cons, List.take_zero] at f1
  obtain ⟨b1, r1⟩ := SlR.of_trod (rep := repLine) Try.underlying48 cellsLine (by decide) (fun _ _ _ h => trodLine h) f1
  exact ⟨⟨b0, b1⟩, k1, rfl, r1, i64_of_wf w0⟩

theorem cellsChan : Try.prog.cellsOf 149 = 7 := by kernel_rfl
theorem trodChan {H : Type} {enc : TypeId × Value → H} {w : World} {sp : Nat → Bool} {held : Bool} {fuel : Nat} {cs : List Value} {x : DataW H × List MemPlace} (h : DataW.trod enc Try.prog w 0 sp held fuel 149 cs = some x) : ∃ y : Chan, repChan w 0 w.heap.size cs y := by
  obtain ⟨xs, n, _, _, hl, hxs, hf⟩ := DataW.trod_struct Try.underlying149 h
  have hl := hl.trans cellsChan
  have hxs : xs.length = 7 := hxs
  clear h
  obtain ⟨k0, cs0, rfl, hl0⟩ := listS hl
  obtain ⟨k1, cs1, rfl, hl1⟩ := listS hl0
  obtain ⟨k2, cs2, rfl, hl2⟩ := listS hl1
  obtain ⟨k3, cs3, rfl, hl3⟩ := listS hl2
  obtain ⟨k4, cs4, rfl, hl4⟩ := listS hl3
  obtain ⟨k5, cs5, rfl, hl5⟩ := listS hl4
  obtain ⟨k6, rfl⟩ := list1 hl5
  obtain ⟨y0, e0⟩ := getElem_some (show 0 < xs.length by omega)
  have f0 := hf 0 ⟨_, _, _, _, _, _, _⟩ rfl
  rw [e0] at f0
  simp only [cellsInt, List.drop_zero, List.drop_succ_cons, List.take_succ_cons, List.take_zero] at f0
  obtain ⟨b0, q0, _, w0⟩ := DataW.trod_int Try.underlying3 f0
  obtain rfl : k0 = .int .i64 b0 := by simpa using q0
  obtain ⟨y1, e1⟩ := getElem_some (show 1 < xs.length by omega)
  have f1 := hf 1 ⟨_, _, _, _, _, _, _⟩ rfl
  rw [e1] at f1
  simp only [cellsInt, List.drop_zero, List.drop_succ_cons, List.take_succ_cons, List.take_zero] at f1
  obtain ⟨b1, q1, _, w1⟩ := DataW.trod_int Try.underlying3 f1
  obtain rfl : k1 = .int .i64 b1 := by simpa using q1
  obtain ⟨y2, e2⟩ := getElem_some (show 2 < xs.length by omega)
  have f2 := hf 2 ⟨_, _, _, _, _, _, _⟩ rfl
  rw [e2] at f2
  simp only [cellsInt, List.drop_zero, List.drop_succ_cons, List.take_succ_cons, List.take_zero] at f2
  obtain ⟨b2, q2, _, w2⟩ := DataW.trod_int Try.underlying3 f2
  obtain rfl : k2 = .int .i64 b2 := by simpa using q2
  obtain ⟨y3, e3⟩ := getElem_some (show 3 < xs.length by omega)
  have f3 := hf 3 ⟨_, _, _, _, _, _, _⟩ rfl
  rw [e3] at f3
  simp only [cellsInt, List.drop_zero, List.drop_succ_cons, List.take_succ_cons, List.take_zero] at f3
  obtain ⟨b3, q3, _, w3⟩ := DataW.trod_int Try.underlying3 f3
  obtain rfl : k3 = .int .i64 b3 := by simpa using q3
  obtain ⟨y4, e4⟩ := getElem_some (show 4 < xs.length by omega)
  have f4 := hf 4 ⟨_, _, _, _, _, _, _⟩ rfl
  rw [e4] at f4
  simp only [cellsInt, List.drop_zero, List.drop_succ_cons, List.take_succ_cons, List.take_zero] at f4
  obtain ⟨b4, q4, _, w4⟩ := DataW.trod_int Try.underlying3 f4
  obtain rfl : k4 = .int .i64 b4 := by simpa using q4
  obtain ⟨y5, e5⟩ := getElem_some (show 5 < xs.length by omega)
  have f5 := hf 5 ⟨_, _, _, _, _, _, _⟩ rfl
  rw [e5] at f5
  simp only [cellsInt, List.drop_zero, List.drop_succ_cons, List.take_succ_cons, List.take_zero] at f5
  obtain ⟨b5, q5, _, w5⟩ := DataW.trod_int Try.underlying3 f5
  obtain rfl : k5 = .int .i64 b5 := by simpa using q5
  obtain ⟨y6, e6⟩ := getElem_some (show 6 < xs.length by omega)
  have f6 := hf 6 ⟨_, _, _, _, _, _, _⟩ rfl
  rw [e6] at f6
  simp only [cellsInt, List.drop_zero, List.drop_succ_cons, List.take_succ_cons, List.take_zero] at f6
  obtain ⟨b6, q6, _, w6⟩ := DataW.trod_int Try.underlying3 f6
  obtain rfl : k6 = .int .i64 b6 := by simpa using q6
  exact ⟨⟨b0, b1, b2, b3, b4, b5, b6⟩, rfl, ⟨i64_of_wf w0, i64_of_wf w1, i64_of_wf w2, i64_of_wf w3, i64_of_wf w4, i64_of_wf w5, i64_of_wf w6⟩⟩

theorem cellsHtlc : Try.prog.cellsOf 151 = 7 := by kernel_rfl
theorem trodHtlc {H : Type} {enc : TypeId × Value → H} {w : World} {sp : Nat → Bool} {held : Bool} {fuel : Nat} {cs : List Value} {x : DataW H × List MemPlace} (h : DataW.trod enc Try.prog w 0 sp held fuel 151 cs = some x) : ∃ y : Htlc, repHtlc w 0 w.heap.size cs y := by
  obtain ⟨xs, n, _, _, hl, hxs, hf⟩ := DataW.trod_struct Try.underlying151 h
  have hl := hl.trans cellsHtlc
  have hxs : xs.length = 7 := hxs
  clear h
  obtain ⟨k0, cs0, rfl, hl0⟩ := listS hl
  obtain ⟨k1, cs1, rfl, hl1⟩ := listS hl0
  obtain ⟨k2, cs2, rfl, hl2⟩ := listS hl1
  obtain ⟨k3, cs3, rfl, hl3⟩ := listS hl2
  obtain ⟨k4, cs4, rfl, hl4⟩ := listS hl3
  obtain ⟨k5, cs5, rfl, hl5⟩ := listS hl4
  obtain ⟨k6, rfl⟩ := list1 hl5
  obtain ⟨y0, e0⟩ := getElem_some (show 0 < xs.length by omega)
  have f0 := hf 0 ⟨_, _, _, _, _, _, _⟩ rfl
  rw [e0] at f0
  simp only [cellsInt, List.drop_zero, List.drop_succ_cons, List.take_succ_cons, List.take_zero] at f0
  obtain ⟨b0, q0, _, w0⟩ := DataW.trod_int Try.underlying3 f0
  obtain rfl : k0 = .int .i64 b0 := by simpa using q0
  obtain ⟨y1, e1⟩ := getElem_some (show 1 < xs.length by omega)
  have f1 := hf 1 ⟨_, _, _, _, _, _, _⟩ rfl
  rw [e1] at f1
  simp only [cellsInt, List.drop_zero, List.drop_succ_cons, List.take_succ_cons, List.take_zero] at f1
  obtain ⟨b1, q1, _, w1⟩ := DataW.trod_int Try.underlying3 f1
  obtain rfl : k1 = .int .i64 b1 := by simpa using q1
  obtain ⟨y2, e2⟩ := getElem_some (show 2 < xs.length by omega)
  have f2 := hf 2 ⟨_, _, _, _, _, _, _⟩ rfl
  rw [e2] at f2
  simp only [cellsInt, List.drop_zero, List.drop_succ_cons, List.take_succ_cons, List.take_zero] at f2
  obtain ⟨b2, q2, _, w2⟩ := DataW.trod_int Try.underlying3 f2
  obtain rfl : k2 = .int .i64 b2 := by simpa using q2
  obtain ⟨y3, e3⟩ := getElem_some (show 3 < xs.length by omega)
  have f3 := hf 3 ⟨_, _, _, _, _, _, _⟩ rfl
  rw [e3] at f3
  simp only [cellsInt, List.drop_zero, List.drop_succ_cons, List.take_succ_cons, List.take_zero] at f3
  obtain ⟨b3, q3, _, w3⟩ := DataW.trod_int Try.underlying3 f3
  obtain rfl : k3 = .int .i64 b3 := by simpa using q3
  obtain ⟨y4, e4⟩ := getElem_some (show 4 < xs.length by omega)
  have f4 := hf 4 ⟨_, _, _, _, _, _, _⟩ rfl
  rw [e4] at f4
  simp only [cellsInt, List.drop_zero, List.drop_succ_cons, List.take_succ_cons, List.take_zero] at f4
  obtain ⟨b4, q4, _, w4⟩ := DataW.trod_int Try.underlying3 f4
  obtain rfl : k4 = .int .i64 b4 := by simpa using q4
  obtain ⟨y5, e5⟩ := getElem_some (show 5 < xs.length by omega)
  have f5 := hf 5 ⟨_, _, _, _, _, _, _⟩ rfl
  rw [e5] at f5
  simp only [cellsBool, List.drop_zero, List.drop_succ_cons, List.take_succ_cons, List.take_zero] at f5
  obtain ⟨b5, q5, _⟩ := DataW.trod_bool Try.underlying4 f5
  obtain rfl : k5 = .bool b5 := by simpa using q5
  obtain ⟨y6, e6⟩ := getElem_some (show 6 < xs.length by omega)
  have f6 := hf 6 ⟨_, _, _, _, _, _, _⟩ rfl
  rw [e6] at f6
  simp only [cellsInt, List.drop_zero, List.drop_succ_cons, List.take_succ_cons, List.take_zero] at f6
  obtain ⟨b6, q6, _, w6⟩ := DataW.trod_int Try.underlying3 f6
  obtain rfl : k6 = .int .i64 b6 := by simpa using q6
  exact ⟨⟨b0, b1, b2, b3, b4, b5, b6⟩, rfl, ⟨i64_of_wf w0, i64_of_wf w1, i64_of_wf w2, i64_of_wf w3, i64_of_wf w4, i64_of_wf w6⟩⟩

theorem cellsCircle : Try.prog.cellsOf 153 = 5 := by kernel_rfl
theorem trodCircle {H : Type} {enc : TypeId × Value → H} {w : World} {sp : Nat → Bool} {held : Bool} {fuel : Nat} {cs : List Value} {x : DataW H × List MemPlace} (h : DataW.trod enc Try.prog w 0 sp held fuel 153 cs = some x) : ∃ y : Circle, repCircle w 0 w.heap.size cs y := by
  obtain ⟨xs, n, _, _, hl, hxs, hf⟩ := DataW.trod_struct Try.underlying153 h
  have hl := hl.trans cellsCircle
  have hxs : xs.length = 5 := hxs
  clear h
  obtain ⟨k0, cs0, rfl, hl0⟩ := listS hl
  obtain ⟨k1, cs1, rfl, hl1⟩ := listS hl0
  obtain ⟨k2, cs2, rfl, hl2⟩ := listS hl1
  obtain ⟨k3, cs3, rfl, hl3⟩ := listS hl2
  obtain ⟨k4, rfl⟩ := list1 hl3
  obtain ⟨y0, e0⟩ := getElem_some (show 0 < xs.length by omega)
  have f0 := hf 0 ⟨_, _, _, _, _, _, _⟩ rfl
  rw [e0] at f0
  simp only [cellsInt, List.drop_zero, List.drop_succ_cons, List.take_succ_cons, List.take_zero] at f0
  obtain ⟨b0, q0, _, w0⟩ := DataW.trod_int Try.underlying3 f0
  obtain rfl : k0 = .int .i64 b0 := by simpa using q0
  obtain ⟨y1, e1⟩ := getElem_some (show 1 < xs.length by omega)
  have f1 := hf 1 ⟨_, _, _, _, _, _, _⟩ rfl
  rw [e1] at f1
  simp only [cellsInt, List.drop_zero, List.drop_succ_cons, List.take_succ_cons, List.take_zero] at f1
  obtain ⟨b1, q1, _, w1⟩ := DataW.trod_int Try.underlying3 f1
  obtain rfl : k1 = .int .i64 b1 := by simpa using q1
  obtain ⟨y2, e2⟩ := getElem_some (show 2 < xs.length by omega)
  have f2 := hf 2 ⟨_, _, _, _, _, _, _⟩ rfl
  rw [e2] at f2
  simp only [cellsInt, List.drop_zero, List.drop_succ_cons, List.take_succ_cons, List.take_zero] at f2
  obtain ⟨b2, q2, _, w2⟩ := DataW.trod_int Try.underlying3 f2
  obtain rfl : k2 = .int .i64 b2 := by simpa using q2
  obtain ⟨y3, e3⟩ := getElem_some (show 3 < xs.length by omega)
  have f3 := hf 3 ⟨_, _, _, _, _, _, _⟩ rfl
  rw [e3] at f3
  simp only [cellsInt, List.drop_zero, List.drop_succ_cons, List.take_succ_cons, List.take_zero] at f3
  obtain ⟨b3, q3, _, w3⟩ := DataW.trod_int Try.underlying3 f3
  obtain rfl : k3 = .int .i64 b3 := by simpa using q3
  obtain ⟨y4, e4⟩ := getElem_some (show 4 < xs.length by omega)
  have f4 := hf 4 ⟨_, _, _, _, _, _, _⟩ rfl
  rw [e4] at f4
  simp only [cellsInt, List.drop_zero, List.drop_succ_cons, List.take_succ_cons, List.take_zero] at f4
  obtain ⟨b4, q4, _, w4⟩ := DataW.trod_int Try.underlying3 f4
  obtain rfl : k4 = .int .i64 b4 := by simpa using q4
  exact ⟨⟨b0, b1, b2, b3, b4⟩, rfl, ⟨i64_of_wf w0, i64_of_wf w1, i64_of_wf w2, i64_of_wf w3, i64_of_wf w4⟩⟩

theorem cellsBook : Try.prog.cellsOf 47 = 6 := by kernel_rfl
theorem trodBook {H : Type} {enc : TypeId × Value → H} {w : World} {sp : Nat → Bool} {held : Bool} {fuel : Nat} {cs : List Value} {x : DataW H × List MemPlace} (h : DataW.trod enc Try.prog w 0 sp held fuel 47 cs = some x) : ∃ y : Book, repBook w 0 w.heap.size cs y := by
  obtain ⟨xs, n, _, _, hl, hxs, hf⟩ := DataW.trod_struct Try.underlying47 h
  have hl := hl.trans cellsBook
  have hxs : xs.length = 6 := hxs
  clear h
  obtain ⟨k0, cs0, rfl, hl0⟩ := listS hl
  obtain ⟨k1, cs1, rfl, hl1⟩ := listS hl0
  obtain ⟨k2, cs2, rfl, hl2⟩ := listS hl1
  obtain ⟨k3, cs3, rfl, hl3⟩ := listS hl2
  obtain ⟨k4, cs4, rfl, hl4⟩ := listS hl3
  obtain ⟨k5, rfl⟩ := list1 hl4
  obtain ⟨y0, e0⟩ := getElem_some (show 0 < xs.length by omega)
  have f0 := hf 0 ⟨_, _, _, _, _, _, _⟩ rfl
  rw [e0] at f0
  simp only [cellsInt, List.drop_zero, List.drop_succ_cons, List.take_succ_cons, List.take_zero] at f0
  obtain ⟨b0, q0, _, w0⟩ := DataW.trod_int Try.underlying3 f0
  obtain rfl : k0 = .int .i64 b0 := by simpa using q0
  obtain ⟨y1, e1⟩ := getElem_some (show 1 < xs.length by omega)
  have f1 := hf 1 ⟨_, _, _, _, _, _, _⟩ rfl
  rw [e1] at f1
  simp only [cellsInt, List.drop_zero, List.drop_succ_cons, List.take_succ_cons, List.take_zero] at f1
  obtain ⟨b1, q1, _, w1⟩ := DataW.trod_int Try.underlying3 f1
  obtain rfl : k1 = .int .i64 b1 := by simpa using q1
  obtain ⟨y2, e2⟩ := getElem_some (show 2 < xs.length by omega)
  have f2 := hf 2 ⟨_, _, _, _, _, _, _⟩ rfl
  rw [e2] at f2
  simp only [cellsInt, List.drop_zero, List.drop_succ_cons, List.take_succ_cons, List.take_zero] at f2
  obtain ⟨b2, q2, _, w2⟩ := DataW.trod_int Try.underlying3 f2
  obtain rfl : k2 = .int .i64 b2 := by simpa using q2
  obtain ⟨y3, e3⟩ := getElem_some (show 3 < xs.length by omega)
  have f3 := hf 3 ⟨_, _, _, _, _, _, _⟩ rfl
  rw [e3] at f3
  simp only [cellsChanL, List.drop_zero, List.drop_succ_cons, List.take_succ_cons, List.take_zero] at f3
  obtain ⟨b3, r3⟩ := SlR.of_trod (rep := repChan) Try.underlying43 cellsChan (by decide) (fun _ _ _ h => trodChan h) f3
  obtain ⟨y4, e4⟩ := getElem_some (show 4 < xs.length by omega)
  have f4 := hf 4 ⟨_, _, _, _, _, _, _⟩ rfl
  rw [e4] at f4
  simp only [cellsHtlcL, List.drop_zero, List.drop_succ_cons, List.take_succ_cons, List.take_zero] at f4
  obtain ⟨b4, r4⟩ := SlR.of_trod (rep := repHtlc) Try.underlying44 cellsHtlc (by decide) (fun _ _ _ h => trodHtlc h) f4
  obtain ⟨y5, e5⟩ := getElem_some (show 5 < xs.length by omega)
  have f5 := hf 5 ⟨_, _, _, _, _, _, _⟩ rfl
  rw [e5] at f5
  simp only [cellsCircleL, List.drop_zero, List.drop_succ_cons, List.take_succ_cons, List.take_zero] at f5
  obtain ⟨b5, r5⟩ := SlR.of_trod (rep := repCircle) Try.underlying45 cellsCircle (by decide) (fun _ _ _ h => trodCircle h) f5
  exact ⟨⟨b0, b1, b2, b3, b4, b5⟩, k3, k4, k5, rfl, r3, r4, r5, ⟨i64_of_wf w0, i64_of_wf w1, i64_of_wf w2⟩⟩

theorem cellsEdge : Try.prog.cellsOf 137 = 4 := by kernel_rfl
theorem trodEdge {H : Type} {enc : TypeId × Value → H} {w : World} {sp : Nat → Bool} {held : Bool} {fuel : Nat} {cs : List Value} {x : DataW H × List MemPlace} (h : DataW.trod enc Try.prog w 0 sp held fuel 137 cs = some x) : ∃ y : Edge, repEdge w 0 w.heap.size cs y := by
  obtain ⟨xs, n, _, _, hl, hxs, hf⟩ := DataW.trod_struct Try.underlying137 h
  have hl := hl.trans cellsEdge
  have hxs : xs.length = 4 := hxs
  clear h
  obtain ⟨k0, cs0, rfl, hl0⟩ := listS hl
  obtain ⟨k1, cs1, rfl, hl1⟩ := listS hl0
  obtain ⟨k2, cs2, rfl, hl2⟩ := listS hl1
  obtain ⟨k3, rfl⟩ := list1 hl2
  obtain ⟨y0, e0⟩ := getElem_some (show 0 < xs.length by omega)
  have f0 := hf 0 ⟨_, _, _, _, _, _, _⟩ rfl
  rw [e0] at f0
  simp only [cellsInt, List.drop_zero, List.drop_succ_cons, List.take_succ_cons, List.take_zero] at f0
  obtain ⟨b0, q0, _, w0⟩ := DataW.trod_int Try.underlying3 f0
  obtain rfl : k0 = .int .i64 b0 := by simpa using q0
  obtain ⟨y1, e1⟩ := getElem_some (show 1 < xs.length by omega)
  have f1 := hf 1 ⟨_, _, _, _, _, _, _⟩ rfl
  rw [e1] at f1
  simp only [cellsInt, List.drop_zero, List.drop_succ_cons, List.take_succ_cons, List.take_zero] at f1
  obtain ⟨b1, q1, _, w1⟩ := DataW.trod_int Try.underlying3 f1
  obtain rfl : k1 = .int .i64 b1 := by simpa using q1
  obtain ⟨y2, e2⟩ := getElem_some (show 2 < xs.length by omega)
  have f2 := hf 2 ⟨_, _, _, _, _, _, _⟩ rfl
  rw [e2] at f2
  simp only [cellsInt, List.drop_zero, List.drop_succ_cons, List.take_succ_cons, List.take_zero] at f2
  obtain ⟨b2, q2, _, w2⟩ := DataW.trod_int Try.underlying3 f2
  obtain rfl : k2 = .int .i64 b2 := by simpa using q2
  obtain ⟨y3, e3⟩ := getElem_some (show 3 < xs.length by omega)
  have f3 := hf 3 ⟨_, _, _, _, _, _, _⟩ rfl
  rw [e3] at f3
  simp only [cellsInt, List.drop_zero, List.drop_succ_cons, List.take_succ_cons, List.take_zero] at f3
  obtain ⟨b3, q3, _, w3⟩ := DataW.trod_int Try.underlying3 f3
  obtain rfl : k3 = .int .i64 b3 := by simpa using q3
  exact ⟨⟨b0, b1, b2, b3⟩, rfl, ⟨i64_of_wf w0, i64_of_wf w1, i64_of_wf w2, i64_of_wf w3⟩⟩

theorem cellsGraph : Try.prog.cellsOf 24 = 2 := by kernel_rfl
theorem trodGraph {H : Type} {enc : TypeId × Value → H} {w : World} {sp : Nat → Bool} {held : Bool} {fuel : Nat} {cs : List Value} {x : DataW H × List MemPlace} (h : DataW.trod enc Try.prog w 0 sp held fuel 24 cs = some x) : ∃ y : Graph, repGraph w 0 w.heap.size cs y := by
  obtain ⟨xs, n, _, _, hl, hxs, hf⟩ := DataW.trod_struct Try.underlying24 h
  have hl := hl.trans cellsGraph
  have hxs : xs.length = 2 := hxs
  clear h
  obtain ⟨k0, cs0, rfl, hl0⟩ := listS hl
  obtain ⟨k1, rfl⟩ := list1 hl0
  obtain ⟨y0, e0⟩ := getElem_some (show 0 < xs.length by omega)
  have f0 := hf 0 ⟨_, _, _, _, _, _, _⟩ rfl
  rw [e0] at f0
  simp only [cellsInt, List.drop_zero, List.drop_succ_cons, List.take_succ_cons, List.take_zero] at f0
  obtain ⟨b0, q0, _, w0⟩ := DataW.trod_int Try.underlying3 f0
  obtain rfl : k0 = .int .i64 b0 := by simpa using q0
  obtain ⟨y1, e1⟩ := getElem_some (show 1 < xs.length by omega)
  have f1 := hf 1 ⟨_, _, _, _, _, _, _⟩ rfl
  rw [e1] at f1
  simp only [cellsEdgeL, List.drop_zero, List.drop_succ_cons, List.take_succ_cons, List.take_zero] at f1
  obtain ⟨b1, r1⟩ := SlR.of_trod (rep := repEdge) Try.underlying22 cellsEdge (by decide) (fun _ _ _ h => trodEdge h) f1
  exact ⟨⟨b0, b1⟩, k1, rfl, r1, i64_of_wf w0⟩

theorem cellsPrice : Try.prog.cellsOf 127 = 3 := by kernel_rfl
theorem trodPrice {H : Type} {enc : TypeId × Value → H} {w : World} {sp : Nat → Bool} {held : Bool} {fuel : Nat} {cs : List Value} {x : DataW H × List MemPlace} (h : DataW.trod enc Try.prog w 0 sp held fuel 127 cs = some x) : ∃ y : Price, repPrice w 0 w.heap.size cs y := by
  obtain ⟨xs, n, _, _, hl, hxs, hf⟩ := DataW.trod_struct Try.underlying127 h
  have hl := hl.trans cellsPrice
  have hxs : xs.length = 3 := hxs
  clear h
  obtain ⟨k0, cs0, rfl, hl0⟩ := listS hl
  obtain ⟨k1, cs1, rfl, hl1⟩ := listS hl0
  obtain ⟨k2, rfl⟩ := list1 hl1
  obtain ⟨y0, e0⟩ := getElem_some (show 0 < xs.length by omega)
  have f0 := hf 0 ⟨_, _, _, _, _, _, _⟩ rfl
  rw [e0] at f0
  simp only [cellsInt, List.drop_zero, List.drop_succ_cons, List.take_succ_cons, List.take_zero] at f0
  obtain ⟨b0, q0, _, w0⟩ := DataW.trod_int Try.underlying3 f0
  obtain rfl : k0 = .int .i64 b0 := by simpa using q0
  obtain ⟨y1, e1⟩ := getElem_some (show 1 < xs.length by omega)
  have f1 := hf 1 ⟨_, _, _, _, _, _, _⟩ rfl
  rw [e1] at f1
  simp only [cellsInt, List.drop_zero, List.drop_succ_cons, List.take_succ_cons, List.take_zero] at f1
  obtain ⟨b1, q1, _, w1⟩ := DataW.trod_int Try.underlying3 f1
  obtain rfl : k1 = .int .i64 b1 := by simpa using q1
  obtain ⟨y2, e2⟩ := getElem_some (show 2 < xs.length by omega)
  have f2 := hf 2 ⟨_, _, _, _, _, _, _⟩ rfl
  rw [e2] at f2
  simp only [cellsInt, List.drop_zero, List.drop_succ_cons, List.take_succ_cons, List.take_zero] at f2
  obtain ⟨b2, q2, _, w2⟩ := DataW.trod_int Try.underlying3 f2
  obtain rfl : k2 = .int .i64 b2 := by simpa using q2
  exact ⟨⟨b0, b1, b2⟩, rfl, ⟨i64_of_wf w0, i64_of_wf w1, i64_of_wf w2⟩⟩

end Go.Proofs.Ytbjnbhlpibadnaa
