/- What the reader of data reads of the laws' types, as plain data. -/
import Derived.Test.YtohobndkbmpfcaaGreatProg
import Derived.Test.YtohobndkbmpfcaaGreatKDat
namespace Go.Proofs.YtohobndkbmpfcaaGreat
open Go.RowKit
set_option linter.unusedSimpArgs false
set_option linter.unusedVariables false
theorem cellsChanL : Tryz.prog.cellsOf 22 = 1 := by kernel_rfl
theorem cellsHtlcL : Tryz.prog.cellsOf 23 = 1 := by kernel_rfl
theorem cellsCircleL : Tryz.prog.cellsOf 24 = 1 := by kernel_rfl
theorem cellsBool : Tryz.prog.cellsOf 4 = 1 := by kernel_rfl
theorem cellsInt : Tryz.prog.cellsOf 3 = 1 := by kernel_rfl
theorem cellsEvent : Tryz.prog.cellsOf 28 = 7 := by kernel_rfl
theorem trodEvent {H : Type} {enc : TypeId × Value → H} {w : World} {sp : Nat → Bool} {held : Bool} {fuel : Nat} {cs : List Value} {x : DataW H × List MemPlace} (h : DataW.trod enc Tryz.prog w 0 sp held fuel 28 cs = some x) : ∃ y : Event,repEvent w 0 w.heap.size cs y := by
  obtain ⟨xs,n,_,_,hl,hxs,hf⟩ := DataW.trod_struct Tryz.underlying28 h
  have hl := hl.trans cellsEvent
  have hxs : xs.length = 7 := hxs
  clear h
  obtain ⟨k0,cs0,rfl,hl0⟩ := listS hl
  obtain ⟨k1,cs1,rfl,hl1⟩ := listS hl0
  obtain ⟨k2,cs2,rfl,hl2⟩ := listS hl1
  obtain ⟨k3,cs3,rfl,hl3⟩ := listS hl2
  obtain ⟨k4,cs4,rfl,hl4⟩ := listS hl3
  obtain ⟨k5,cs5,rfl,hl5⟩ := listS hl4
  obtain ⟨k6,rfl⟩ := list1 hl5
  obtain ⟨y0,e0⟩ := getElem_some (show 0 < xs.length by omega)
  have f0 := hf 0 ⟨_,_,_,_,_,_,_⟩ rfl
  rw [e0] at f0
  simp only [cellsInt,List.drop_zero,List.drop_succ_cons,List.take_succ_cons,List.take_zero] at f0
  obtain ⟨b0,q0,_,w0⟩ := DataW.trod_int Tryz.underlying3 f0
  obtain rfl : k0 = .int .i64 b0 := by simpa using q0
  obtain ⟨y1,e1⟩ := getElem_some (show 1 < xs.length by omega)
  have f1 := hf 1 ⟨_,_,_,_,_,_,_⟩ rfl
  rw [e1] at f1
  simp only [cellsInt,List.drop_zero,List.drop_succ_cons,List.take_succ_cons,List.take_zero] at f1
  obtain ⟨b1,q1,_,w1⟩ := DataW.trod_int Tryz.underlying3 f1
  obtain rfl : k1 = .int .i64 b1 := by simpa using q1
  obtain ⟨y2,e2⟩ := getElem_some (show 2 < xs.length by omega)
  have f2 := hf 2 ⟨_,_,_,_,_,_,_⟩ rfl
  rw [e2] at f2
  simp only [cellsInt,List.drop_zero,List.drop_succ_cons,List.take_succ_cons,List.take_zero] at f2
  obtain ⟨b2,q2,_,w2⟩ := DataW.trod_int Tryz.underlying3 f2
  obtain rfl : k2 = .int .i64 b2 := by simpa using q2
  obtain ⟨y3,e3⟩ := getElem_some (show 3 < xs.length by omega)
  have f3 := hf 3 ⟨_,_,_,_,_,_,_⟩ rfl
  rw [e3] at f3
  simp only [cellsInt,List.drop_zero,List.drop_succ_cons,List.take_succ_cons,List.take_zero] at f3
  obtain ⟨b3,q3,_,w3⟩ := DataW.trod_int Tryz.underlying3 f3
  obtain rfl : k3 = .int .i64 b3 := by simpa using q3
  obtain ⟨y4,e4⟩ := getElem_some (show 4 < xs.length by omega)
  have f4 := hf 4 ⟨_,_,_,_,_,_,_⟩ rfl
  rw [e4] at f4
  simp only [cellsInt,List.drop_zero,List.drop_succ_cons,List.take_succ_cons,List.take_zero] at f4
  obtain ⟨b4,q4,_,w4⟩ := DataW.trod_int Tryz.underlying3 f4
  obtain rfl : k4 = .int .i64 b4 := by simpa using q4
  obtain ⟨y5,e5⟩ := getElem_some (show 5 < xs.length by omega)
  have f5 := hf 5 ⟨_,_,_,_,_,_,_⟩ rfl
  rw [e5] at f5
  simp only [cellsInt,List.drop_zero,List.drop_succ_cons,List.take_succ_cons,List.take_zero] at f5
  obtain ⟨b5,q5,_,w5⟩ := DataW.trod_int Tryz.underlying3 f5
  obtain rfl : k5 = .int .i64 b5 := by simpa using q5
  obtain ⟨y6,e6⟩ := getElem_some (show 6 < xs.length by omega)
  have f6 := hf 6 ⟨_,_,_,_,_,_,_⟩ rfl
  rw [e6] at f6
  simp only [cellsBool,List.drop_zero,List.drop_succ_cons,List.take_succ_cons,List.take_zero] at f6
  obtain ⟨b6,q6,_⟩ := DataW.trod_bool Tryz.underlying4 f6
  obtain rfl : k6 = .bool b6 := by simpa using q6
  exact ⟨⟨b0,b1,b2,b3,b4,b5,b6⟩,rfl,⟨i64_of_wf w0,i64_of_wf w1,i64_of_wf w2,i64_of_wf w3,i64_of_wf w4,i64_of_wf w5⟩⟩
theorem cellsChan : Tryz.prog.cellsOf 122 = 7 := by kernel_rfl
theorem trodChan {H : Type} {enc : TypeId × Value → H} {w : World} {sp : Nat → Bool} {held : Bool} {fuel : Nat} {cs : List Value} {x : DataW H × List MemPlace} (h : DataW.trod enc Tryz.prog w 0 sp held fuel 122 cs = some x) : ∃ y : Chan,repChan w 0 w.heap.size cs y := by
  obtain ⟨xs,n,_,_,hl,hxs,hf⟩ := DataW.trod_struct Tryz.underlying122 h
  have hl := hl.trans cellsChan
  have hxs : xs.length = 7 := hxs
  clear h
  obtain ⟨k0,cs0,rfl,hl0⟩ := listS hl
  obtain ⟨k1,cs1,rfl,hl1⟩ := listS hl0
  obtain ⟨k2,cs2,rfl,hl2⟩ := listS hl1
  obtain ⟨k3,cs3,rfl,hl3⟩ := listS hl2
  obtain ⟨k4,cs4,rfl,hl4⟩ := listS hl3
  obtain ⟨k5,cs5,rfl,hl5⟩ := listS hl4
  obtain ⟨k6,rfl⟩ := list1 hl5
  obtain ⟨y0,e0⟩ := getElem_some (show 0 < xs.length by omega)
  have f0 := hf 0 ⟨_,_,_,_,_,_,_⟩ rfl
  rw [e0] at f0
  simp only [cellsInt,List.drop_zero,List.drop_succ_cons,List.take_succ_cons,List.take_zero] at f0
  obtain ⟨b0,q0,_,w0⟩ := DataW.trod_int Tryz.underlying3 f0
  obtain rfl : k0 = .int .i64 b0 := by simpa using q0
  obtain ⟨y1,e1⟩ := getElem_some (show 1 < xs.length by omega)
  have f1 := hf 1 ⟨_,_,_,_,_,_,_⟩ rfl
  rw [e1] at f1
  simp only [cellsInt,List.drop_zero,List.drop_succ_cons,List.take_succ_cons,List.take_zero] at f1
  obtain ⟨b1,q1,_,w1⟩ := DataW.trod_int Tryz.underlying3 f1
  obtain rfl : k1 = .int .i64 b1 := by simpa using q1
  obtain ⟨y2,e2⟩ := getElem_some (show 2 < xs.length by omega)
  have f2 := hf 2 ⟨_,_,_,_,_,_,_⟩ rfl
  rw [e2] at f2
  simp only [cellsInt,List.drop_zero,List.drop_succ_cons,List.take_succ_cons,List.take_zero] at f2
  obtain ⟨b2,q2,_,w2⟩ := DataW.trod_int Tryz.underlying3 f2
  obtain rfl : k2 = .int .i64 b2 := by simpa using q2
  obtain ⟨y3,e3⟩ := getElem_some (show 3 < xs.length by omega)
  have f3 := hf 3 ⟨_,_,_,_,_,_,_⟩ rfl
  rw [e3] at f3
  simp only [cellsInt,List.drop_zero,List.drop_succ_cons,List.take_succ_cons,List.take_zero] at f3
  obtain ⟨b3,q3,_,w3⟩ := DataW.trod_int Tryz.underlying3 f3
  obtain rfl : k3 = .int .i64 b3 := by simpa using q3
  obtain ⟨y4,e4⟩ := getElem_some (show 4 < xs.length by omega)
  have f4 := hf 4 ⟨_,_,_,_,_,_,_⟩ rfl
  rw [e4] at f4
  simp only [cellsInt,List.drop_zero,List.drop_succ_cons,List.take_succ_cons,List.take_zero] at f4
  obtain ⟨b4,q4,_,w4⟩ := DataW.trod_int Tryz.underlying3 f4
  obtain rfl : k4 = .int .i64 b4 := by simpa using q4
  obtain ⟨y5,e5⟩ := getElem_some (show 5 < xs.length by omega)
  have f5 := hf 5 ⟨_,_,_,_,_,_,_⟩ rfl
  rw [e5] at f5
  simp only [cellsInt,List.drop_zero,List.drop_succ_cons,List.take_succ_cons,List.take_zero] at f5
  obtain ⟨b5,q5,_,w5⟩ := DataW.trod_int Tryz.underlying3 f5
  obtain rfl : k5 = .int .i64 b5 := by simpa using q5
  obtain ⟨y6,e6⟩ := getElem_some (show 6 < xs.length by omega)
  have f6 := hf 6 ⟨_,_,_,_,_,_,_⟩ rfl
  rw [e6] at f6
  simp only [cellsInt,List.drop_zero,List.drop_succ_cons,List.take_succ_cons,List.take_zero] at f6
  obtain ⟨b6,q6,_,w6⟩ := DataW.trod_int Tryz.underlying3 f6
  obtain rfl : k6 = .int .i64 b6 := by simpa using q6
  exact ⟨⟨b0,b1,b2,b3,b4,b5,b6⟩,rfl,⟨i64_of_wf w0,i64_of_wf w1,i64_of_wf w2,i64_of_wf w3,i64_of_wf w4,i64_of_wf w5,i64_of_wf w6⟩⟩
theorem cellsHtlc : Tryz.prog.cellsOf 124 = 7 := by kernel_rfl
theorem trodHtlc {H : Type} {enc : TypeId × Value → H} {w : World} {sp : Nat → Bool} {held : Bool} {fuel : Nat} {cs : List Value} {x : DataW H × List MemPlace} (h : DataW.trod enc Tryz.prog w 0 sp held fuel 124 cs = some x) : ∃ y : Htlc,repHtlc w 0 w.heap.size cs y := by
  obtain ⟨xs,n,_,_,hl,hxs,hf⟩ := DataW.trod_struct Tryz.underlying124 h
  have hl := hl.trans cellsHtlc
  have hxs : xs.length = 7 := hxs
  clear h
  obtain ⟨k0,cs0,rfl,hl0⟩ := listS hl
  obtain ⟨k1,cs1,rfl,hl1⟩ := listS hl0
  obtain ⟨k2,cs2,rfl,hl2⟩ := listS hl1
  obtain ⟨k3,cs3,rfl,hl3⟩ := listS hl2
  obtain ⟨k4,cs4,rfl,hl4⟩ := listS hl3
  obtain ⟨k5,cs5,rfl,hl5⟩ := listS hl4
  obtain ⟨k6,rfl⟩ := list1 hl5
  obtain ⟨y0,e0⟩ := getElem_some (show 0 < xs.length by omega)
  have f0 := hf 0 ⟨_,_,_,_,_,_,_⟩ rfl
  rw [e0] at f0
  simp only [cellsInt,List.drop_zero,List.drop_succ_cons,List.take_succ_cons,List.take_zero] at f0
  obtain ⟨b0,q0,_,w0⟩ := DataW.trod_int Tryz.underlying3 f0
  obtain rfl : k0 = .int .i64 b0 := by simpa using q0
  obtain ⟨y1,e1⟩ := getElem_some (show 1 < xs.length by omega)
  have f1 := hf 1 ⟨_,_,_,_,_,_,_⟩ rfl
  rw [e1] at f1
  simp only [cellsInt,List.drop_zero,List.drop_succ_cons,List.take_succ_cons,List.take_zero] at f1
  obtain ⟨b1,q1,_,w1⟩ := DataW.trod_int Tryz.underlying3 f1
  obtain rfl : k1 = .int .i64 b1 := by simpa using q1
  obtain ⟨y2,e2⟩ := getElem_some (show 2 < xs.length by omega)
  have f2 := hf 2 ⟨_,_,_,_,_,_,_⟩ rfl
  rw [e2] at f2
  simp only [cellsInt,List.drop_zero,List.drop_succ_cons,List.take_succ_cons,List.take_zero] at f2
  obtain ⟨b2,q2,_,w2⟩ := DataW.trod_int Tryz.underlying3 f2
  obtain rfl : k2 = .int .i64 b2 := by simpa using q2
  obtain ⟨y3,e3⟩ := getElem_some (show 3 < xs.length by omega)
  have f3 := hf 3 ⟨_,_,_,_,_,_,_⟩ rfl
  rw [e3] at f3
  simp only [cellsInt,List.drop_zero,List.drop_succ_cons,List.take_succ_cons,List.take_zero] at f3
  obtain ⟨b3,q3,_,w3⟩ := DataW.trod_int Tryz.underlying3 f3
  obtain rfl : k3 = .int .i64 b3 := by simpa using q3
  obtain ⟨y4,e4⟩ := getElem_some (show 4 < xs.length by omega)
  have f4 := hf 4 ⟨_,_,_,_,_,_,_⟩ rfl
  rw [e4] at f4
  simp only [cellsInt,List.drop_zero,List.drop_succ_cons,List.take_succ_cons,List.take_zero] at f4
  obtain ⟨b4,q4,_,w4⟩ := DataW.trod_int Tryz.underlying3 f4
  obtain rfl : k4 = .int .i64 b4 := by simpa using q4
  obtain ⟨y5,e5⟩ := getElem_some (show 5 < xs.length by omega)
  have f5 := hf 5 ⟨_,_,_,_,_,_,_⟩ rfl
  rw [e5] at f5
  simp only [cellsBool,List.drop_zero,List.drop_succ_cons,List.take_succ_cons,List.take_zero] at f5
  obtain ⟨b5,q5,_⟩ := DataW.trod_bool Tryz.underlying4 f5
  obtain rfl : k5 = .bool b5 := by simpa using q5
  obtain ⟨y6,e6⟩ := getElem_some (show 6 < xs.length by omega)
  have f6 := hf 6 ⟨_,_,_,_,_,_,_⟩ rfl
  rw [e6] at f6
  simp only [cellsInt,List.drop_zero,List.drop_succ_cons,List.take_succ_cons,List.take_zero] at f6
  obtain ⟨b6,q6,_,w6⟩ := DataW.trod_int Tryz.underlying3 f6
  obtain rfl : k6 = .int .i64 b6 := by simpa using q6
  exact ⟨⟨b0,b1,b2,b3,b4,b5,b6⟩,rfl,⟨i64_of_wf w0,i64_of_wf w1,i64_of_wf w2,i64_of_wf w3,i64_of_wf w4,i64_of_wf w6⟩⟩
theorem cellsCircle : Tryz.prog.cellsOf 126 = 5 := by kernel_rfl
theorem trodCircle {H : Type} {enc : TypeId × Value → H} {w : World} {sp : Nat → Bool} {held : Bool} {fuel : Nat} {cs : List Value} {x : DataW H × List MemPlace} (h : DataW.trod enc Tryz.prog w 0 sp held fuel 126 cs = some x) : ∃ y : Circle,repCircle w 0 w.heap.size cs y := by
  obtain ⟨xs,n,_,_,hl,hxs,hf⟩ := DataW.trod_struct Tryz.underlying126 h
  have hl := hl.trans cellsCircle
  have hxs : xs.length = 5 := hxs
  clear h
  obtain ⟨k0,cs0,rfl,hl0⟩ := listS hl
  obtain ⟨k1,cs1,rfl,hl1⟩ := listS hl0
  obtain ⟨k2,cs2,rfl,hl2⟩ := listS hl1
  obtain ⟨k3,cs3,rfl,hl3⟩ := listS hl2
  obtain ⟨k4,rfl⟩ := list1 hl3
  obtain ⟨y0,e0⟩ := getElem_some (show 0 < xs.length by omega)
  have f0 := hf 0 ⟨_,_,_,_,_,_,_⟩ rfl
  rw [e0] at f0
  simp only [cellsInt,List.drop_zero,List.drop_succ_cons,List.take_succ_cons,List.take_zero] at f0
  obtain ⟨b0,q0,_,w0⟩ := DataW.trod_int Tryz.underlying3 f0
  obtain rfl : k0 = .int .i64 b0 := by simpa using q0
  obtain ⟨y1,e1⟩ := getElem_some (show 1 < xs.length by omega)
  have f1 := hf 1 ⟨_,_,_,_,_,_,_⟩ rfl
  rw [e1] at f1
  simp only [cellsInt,List.drop_zero,List.drop_succ_cons,List.take_succ_cons,List.take_zero] at f1
  obtain ⟨b1,q1,_,w1⟩ := DataW.trod_int Tryz.underlying3 f1
  obtain rfl : k1 = .int .i64 b1 := by simpa using q1
  obtain ⟨y2,e2⟩ := getElem_some (show 2 < xs.length by omega)
  have f2 := hf 2 ⟨_,_,_,_,_,_,_⟩ rfl
  rw [e2] at f2
  simp only [cellsInt,List.drop_zero,List.drop_succ_cons,List.take_succ_cons,List.take_zero] at f2
  obtain ⟨b2,q2,_,w2⟩ := DataW.trod_int Tryz.underlying3 f2
  obtain rfl : k2 = .int .i64 b2 := by simpa using q2
  obtain ⟨y3,e3⟩ := getElem_some (show 3 < xs.length by omega)
  have f3 := hf 3 ⟨_,_,_,_,_,_,_⟩ rfl
  rw [e3] at f3
  simp only [cellsInt,List.drop_zero,List.drop_succ_cons,List.take_succ_cons,List.take_zero] at f3
  obtain ⟨b3,q3,_,w3⟩ := DataW.trod_int Tryz.underlying3 f3
  obtain rfl : k3 = .int .i64 b3 := by simpa using q3
  obtain ⟨y4,e4⟩ := getElem_some (show 4 < xs.length by omega)
  have f4 := hf 4 ⟨_,_,_,_,_,_,_⟩ rfl
  rw [e4] at f4
  simp only [cellsInt,List.drop_zero,List.drop_succ_cons,List.take_succ_cons,List.take_zero] at f4
  obtain ⟨b4,q4,_,w4⟩ := DataW.trod_int Tryz.underlying3 f4
  obtain rfl : k4 = .int .i64 b4 := by simpa using q4
  exact ⟨⟨b0,b1,b2,b3,b4⟩,rfl,⟨i64_of_wf w0,i64_of_wf w1,i64_of_wf w2,i64_of_wf w3,i64_of_wf w4⟩⟩
theorem cellsBook : Tryz.prog.cellsOf 26 = 6 := by kernel_rfl
theorem trodBook {H : Type} {enc : TypeId × Value → H} {w : World} {sp : Nat → Bool} {held : Bool} {fuel : Nat} {cs : List Value} {x : DataW H × List MemPlace} (h : DataW.trod enc Tryz.prog w 0 sp held fuel 26 cs = some x) : ∃ y : Book,repBook w 0 w.heap.size cs y := by
  obtain ⟨xs,n,_,_,hl,hxs,hf⟩ := DataW.trod_struct Tryz.underlying26 h
  have hl := hl.trans cellsBook
  have hxs : xs.length = 6 := hxs
  clear h
  obtain ⟨k0,cs0,rfl,hl0⟩ := listS hl
  obtain ⟨k1,cs1,rfl,hl1⟩ := listS hl0
  obtain ⟨k2,cs2,rfl,hl2⟩ := listS hl1
  obtain ⟨k3,cs3,rfl,hl3⟩ := listS hl2
  obtain ⟨k4,cs4,rfl,hl4⟩ := listS hl3
  obtain ⟨k5,rfl⟩ := list1 hl4
  obtain ⟨y0,e0⟩ := getElem_some (show 0 < xs.length by omega)
  have f0 := hf 0 ⟨_,_,_,_,_,_,_⟩ rfl
  rw [e0] at f0
  simp only [cellsInt,List.drop_zero,List.drop_succ_cons,List.take_succ_cons,List.take_zero] at f0
  obtain ⟨b0,q0,_,w0⟩ := DataW.trod_int Tryz.underlying3 f0
  obtain rfl : k0 = .int .i64 b0 := by simpa using q0
  obtain ⟨y1,e1⟩ := getElem_some (show 1 < xs.length by omega)
  have f1 := hf 1 ⟨_,_,_,_,_,_,_⟩ rfl
  rw [e1] at f1
  simp only [cellsInt,List.drop_zero,List.drop_succ_cons,List.take_succ_cons,List.take_zero] at f1
  obtain ⟨b1,q1,_,w1⟩ := DataW.trod_int Tryz.underlying3 f1
  obtain rfl : k1 = .int .i64 b1 := by simpa using q1
  obtain ⟨y2,e2⟩ := getElem_some (show 2 < xs.length by omega)
  have f2 := hf 2 ⟨_,_,_,_,_,_,_⟩ rfl
  rw [e2] at f2
  simp only [cellsInt,List.drop_zero,List.drop_succ_cons,List.take_succ_cons,List.take_zero] at f2
  obtain ⟨b2,q2,_,w2⟩ := DataW.trod_int Tryz.underlying3 f2
  obtain rfl : k2 = .int .i64 b2 := by simpa using q2
  obtain ⟨y3,e3⟩ := getElem_some (show 3 < xs.length by omega)
  have f3 := hf 3 ⟨_,_,_,_,_,_,_⟩ rfl
  rw [e3] at f3
  simp only [cellsChanL,List.drop_zero,List.drop_succ_cons,List.take_succ_cons,List.take_zero] at f3
  obtain ⟨b3,r3⟩ := SlR.of_trod (rep := repChan) Tryz.underlying22 cellsChan (by decide) (fun _ _ _ h => trodChan h) f3
  obtain ⟨y4,e4⟩ := getElem_some (show 4 < xs.length by omega)
  have f4 := hf 4 ⟨_,_,_,_,_,_,_⟩ rfl
  rw [e4] at f4
  simp only [cellsHtlcL,List.drop_zero,List.drop_succ_cons,List.take_succ_cons,List.take_zero] at f4
  obtain ⟨b4,r4⟩ := SlR.of_trod (rep := repHtlc) Tryz.underlying23 cellsHtlc (by decide) (fun _ _ _ h => trodHtlc h) f4
  obtain ⟨y5,e5⟩ := getElem_some (show 5 < xs.length by omega)
  have f5 := hf 5 ⟨_,_,_,_,_,_,_⟩ rfl
  rw [e5] at f5
  simp only [cellsCircleL,List.drop_zero,List.drop_succ_cons,List.take_succ_cons,List.take_zero] at f5
  obtain ⟨b5,r5⟩ := SlR.of_trod (rep := repCircle) Tryz.underlying24 cellsCircle (by decide) (fun _ _ _ h => trodCircle h) f5
  exact ⟨⟨b0,b1,b2,b3,b4,b5⟩,k3,k4,k5,rfl,r3,r4,r5,⟨i64_of_wf w0,i64_of_wf w1,i64_of_wf w2⟩⟩
end Go.Proofs.YtohobndkbmpfcaaGreat
