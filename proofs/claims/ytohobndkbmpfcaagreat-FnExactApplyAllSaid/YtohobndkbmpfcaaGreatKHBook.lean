/- Contracts of the harness functions of Book -/
import Derived.Test.YtohobndkbmpfcaaGreatKBox
import Derived.Test.YtohobndkbmpfcaaGreatKHChan
import Derived.Test.YtohobndkbmpfcaaGreatKHHtlc
import Derived.Test.YtohobndkbmpfcaaGreatKHCircle
namespace Go.Proofs.YtohobndkbmpfcaaGreat
open Go.RowKit
set_option maxHeartbeats 16000000
set_option maxRecDepth 100000
set_option linter.unusedSimpArgs false
set_option linter.unusedVariables false
def szBook (x : Book) (l : Int) : Int := szN (szL x.chans.length l) fun l => szN (szL x.htlcs.length l) fun l => szN (szL x.circles.length l) fun l => l
theorem szBook_le (x : Book) (l : Int) (h : 0 ≤ szBook x l) (hl : l ≤ 1048576) : szBook x l ≤ l ∧ (x.chans.length ≤ 1048576) ∧ (x.htlcs.length ≤ 1048576) ∧ (x.circles.length ≤ 1048576) := by
  unfold szBook at h ⊢
  obtain ⟨p0,h0,e0⟩ := szN_le h
  obtain ⟨r0,b0⟩ := szL_le _ _ p0
  obtain ⟨p1,h1,e1⟩ := szN_le h0
  obtain ⟨r1,b1⟩ := szL_le _ _ p1
  obtain ⟨p2,h2,e2⟩ := szN_le h1
  obtain ⟨r2,b2⟩ := szL_le _ _ p2
  rw [e0,e1,e2]
  exact ⟨by omega,by omega,by omega,by omega⟩
theorem szBook_c (x : Book) (a0 : Option Addr) (c0 : Nat) (a1 : Option Addr) (c1 : Nat) (a2 : Option Addr) (c2 : Nat) (l : Int) (w : World) (m0 : SlR 7 repChan w 0 w.heap.size (.slice a0 x.chans.length c0) x.chans) (m1 : SlR 7 repHtlc w 0 w.heap.size (.slice a1 x.htlcs.length c1) x.htlcs) (m2 : SlR 5 repCircle w 0 w.heap.size (.slice a2 x.circles.length c2) x.circles) (l1 : 0 ≤ l) (l2 : l ≤ 1048576) :
    Calls Tryz.prog 5 #[.agg #[.int .i64 x.tick,.int .i64 x.next,.int .i64 x.wallet,.slice a0 x.chans.length c0,.slice a1 x.htlcs.length c1,.slice a2 x.circles.length c2],.int .i64 l] w fun e w' => e = .returned (.int .i64 (szBook x l)) ∧ Grow w w' := by
  unfold szBook
  by_cases t1 : szL x.chans.length (l) < 0
  · have T1 := Lib.hid t1
    go_enter Tryz.func5,Tryz.ntmps5
    go_wp2_with fail
    refine (szChanS_c _ _ _ _ _ (by have := m0;obtain ⟨_,_,_,hh1,hh2,_⟩ := this;unfold maxLen at hh2;omega) (by omega) (by omega)).mono ?_
    rintro e w1 ⟨rfl,g1⟩
    obtain ⟨k1,f1⟩ := bcell g1
    have z1 : w.heap.size < w1.heap.size := by have := g1.size;(try simp at this);omega
    go_wp2_with fail
    go_ret
    refine ⟨by have t1 := T1.out;simp only [szN,if_pos (show szL x.chans.length (l) < 0 by omega)];rfl,?_⟩
    repeat (first | exact Grow.refl _ | (refine Grow.setCell ?_ (by dsimp only;(try simp only [World.size_alloc,World.size_setCell]);omega) _) | (refine Grow.alloc ?_ _ _) | (refine Grow.drew ?_) | (refine Grow.trans ?_ (by assumption)))
  have y1 := (szL_le _ _ (Int.not_lt.1 t1)).1
  by_cases t2 : szL x.htlcs.length (szL x.chans.length (l)) < 0
  · have T1 := Lib.hid t1
    have T2 := Lib.hid t2
    go_enter Tryz.func5,Tryz.ntmps5
    go_wp2_with fail
    refine (szChanS_c _ _ _ _ _ (by have := m0;obtain ⟨_,_,_,hh1,hh2,_⟩ := this;unfold maxLen at hh2;omega) (by omega) (by omega)).mono ?_
    rintro e w1 ⟨rfl,g1⟩
    obtain ⟨k1,f1⟩ := bcell g1
    have z1 : w.heap.size < w1.heap.size := by have := g1.size;(try simp at this);omega
    go_wp2_with fail
    refine (szHtlcS_c _ _ _ _ _ (by have := m1;obtain ⟨_,_,_,hh1,hh2,_⟩ := this;unfold maxLen at hh2;omega) (by omega) (by omega)).mono ?_
    rintro e w2 ⟨rfl,g2⟩
    obtain ⟨k2,f2⟩ := bcell g2
    have z2 : w.heap.size < w2.heap.size := by have := g2.size;(try simp at this);omega
    go_wp2_with fail
    go_ret
    refine ⟨by have t1 := T1.out;have t2 := T2.out;simp only [szN,if_neg (show ¬ szL x.chans.length (l) < 0 by omega),if_pos (show szL x.htlcs.length (szL x.chans.length (l)) < 0 by omega)];rfl,?_⟩
    repeat (first | exact Grow.refl _ | (refine Grow.setCell ?_ (by dsimp only;(try simp only [World.size_alloc,World.size_setCell]);omega) _) | (refine Grow.alloc ?_ _ _) | (refine Grow.drew ?_) | (refine Grow.trans ?_ (by assumption)))
  have y2 := (szL_le _ _ (Int.not_lt.1 t2)).1
  by_cases t3 : szL x.circles.length (szL x.htlcs.length (szL x.chans.length (l))) < 0
  · have T1 := Lib.hid t1
    have T2 := Lib.hid t2
    have T3 := Lib.hid t3
    go_enter Tryz.func5,Tryz.ntmps5
    go_wp2_with fail
    refine (szChanS_c _ _ _ _ _ (by have := m0;obtain ⟨_,_,_,hh1,hh2,_⟩ := this;unfold maxLen at hh2;omega) (by omega) (by omega)).mono ?_
    rintro e w1 ⟨rfl,g1⟩
    obtain ⟨k1,f1⟩ := bcell g1
    have z1 : w.heap.size < w1.heap.size := by have := g1.size;(try simp at this);omega
    go_wp2_with fail
    refine (szHtlcS_c _ _ _ _ _ (by have := m1;obtain ⟨_,_,_,hh1,hh2,_⟩ := this;unfold maxLen at hh2;omega) (by omega) (by omega)).mono ?_
    rintro e w2 ⟨rfl,g2⟩
    obtain ⟨k2,f2⟩ := bcell g2
    have z2 : w.heap.size < w2.heap.size := by have := g2.size;(try simp at this);omega
    go_wp2_with fail
    refine (szCircleS_c _ _ _ _ _ (by have := m2;obtain ⟨_,_,_,hh1,hh2,_⟩ := this;unfold maxLen at hh2;omega) (by omega) (by omega)).mono ?_
    rintro e w3 ⟨rfl,g3⟩
    obtain ⟨k3,f3⟩ := bcell g3
    have z3 : w.heap.size < w3.heap.size := by have := g3.size;(try simp at this);omega
    go_wp2_with fail
    go_ret
    refine ⟨by have t1 := T1.out;have t2 := T2.out;have t3 := T3.out;simp only [szN,if_neg (show ¬ szL x.chans.length (l) < 0 by omega),if_neg (show ¬ szL x.htlcs.length (szL x.chans.length (l)) < 0 by omega),if_pos (show szL x.circles.length (szL x.htlcs.length (szL x.chans.length (l))) < 0 by omega)];rfl,?_⟩
    repeat (first | exact Grow.refl _ | (refine Grow.setCell ?_ (by dsimp only;(try simp only [World.size_alloc,World.size_setCell]);omega) _) | (refine Grow.alloc ?_ _ _) | (refine Grow.drew ?_) | (refine Grow.trans ?_ (by assumption)))
  have y3 := (szL_le _ _ (Int.not_lt.1 t3)).1
  have T1 := Lib.hid t1
  have T2 := Lib.hid t2
  have T3 := Lib.hid t3
  go_enter Tryz.func5,Tryz.ntmps5
  go_wp2_with fail
  refine (szChanS_c _ _ _ _ _ (by have := m0;obtain ⟨_,_,_,hh1,hh2,_⟩ := this;unfold maxLen at hh2;omega) (by omega) (by omega)).mono ?_
  rintro e w1 ⟨rfl,g1⟩
  obtain ⟨k1,f1⟩ := bcell g1
  have z1 : w.heap.size < w1.heap.size := by have := g1.size;(try simp at this);omega
  go_wp2_with fail
  refine (szHtlcS_c _ _ _ _ _ (by have := m1;obtain ⟨_,_,_,hh1,hh2,_⟩ := this;unfold maxLen at hh2;omega) (by omega) (by omega)).mono ?_
  rintro e w2 ⟨rfl,g2⟩
  obtain ⟨k2,f2⟩ := bcell g2
  have z2 : w.heap.size < w2.heap.size := by have := g2.size;(try simp at this);omega
  go_wp2_with fail
  refine (szCircleS_c _ _ _ _ _ (by have := m2;obtain ⟨_,_,_,hh1,hh2,_⟩ := this;unfold maxLen at hh2;omega) (by omega) (by omega)).mono ?_
  rintro e w3 ⟨rfl,g3⟩
  obtain ⟨k3,f3⟩ := bcell g3
  have z3 : w.heap.size < w3.heap.size := by have := g3.size;(try simp at this);omega
  go_wp2_with fail
  go_ret
  refine ⟨by have t1 := T1.out;have t2 := T2.out;have t3 := T3.out;simp only [szN,if_neg (show ¬ szL x.chans.length (l) < 0 by omega),if_neg (show ¬ szL x.htlcs.length (szL x.chans.length (l)) < 0 by omega),if_neg (show ¬ szL x.circles.length (szL x.htlcs.length (szL x.chans.length (l))) < 0 by omega)];rfl,?_⟩
  repeat (first | exact Grow.refl _ | (refine Grow.setCell ?_ (by dsimp only;(try simp only [World.size_alloc,World.size_setCell]);omega) _) | (refine Grow.alloc ?_ _ _) | (refine Grow.drew ?_) | (refine Grow.trans ?_ (by assumption)))
end Go.Proofs.YtohobndkbmpfcaaGreat
