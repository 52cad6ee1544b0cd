/- Turns and Steady, of the program and of the reference. -/
import Derived.Test.YtogkbcmfoalpiaaGreatKBook9
import Derived.Test.YtogkbcmfoalpiaaGreatKPrice2
import Derived.Test.YtogkbcmfoalpiaaGreatKAp
namespace Go.Proofs.YtogkbcmfoalpiaaGreat
open Go.RowKit
set_option maxHeartbeats 16000000
set_option maxRecDepth 100000
set_option linter.unusedSimpArgs false
set_option linter.unusedVariables false
def turnEv (r : Rule) (c : Chan) : Event := ⟨4,0,c.id,0,c.base,nextPpm c r,false⟩
def turnOf (r : Rule) (c : Chan) : Option Event := if nextPpm c r = c.ppm then none else some (turnEv r c)
def turnsOf (x : Book) (r : Rule) : List Event := if bookOk x = true ∧ ruleOk r = true then x.chans.filterMap (turnOf r) else []
theorem turnOf_none {r : Rule} {c : Chan} (h : nextPpm c r = c.ppm) : turnOf r c = none := if_pos h
theorem turnOf_some {r : Rule} {c : Chan} (h : ¬ nextPpm c r = c.ppm) : turnOf r c = some (turnEv r c) := if_neg h
theorem nextPpm_bd {r : Rule} (c : Chan) (h : ruleOk r = true) : -1 ≤ nextPpm c r ∧ nextPpm c r ≤ 1000000 := by
 obtain ⟨_,_,_,_,_,h1,h2,h3⟩ := ruleOk_iff.1 h
 unfold nextPpm
 split
 ·unfold clamp;(repeat' split) <;> omega
 ·omega
theorem turnEv_wf {r : Rule} {c : Chan} (h : ruleOk r = true) (hc : wfChan c) : wfEvent (turnEv r c) := by
 obtain ⟨h1,h2⟩ := nextPpm_bd c h
 obtain ⟨a,b,d,e,f,_⟩ := hc
 refine ⟨?_,?_,a,?_,f,?_⟩ <;> (unfold turnEv i64;dsimp only;omega)
theorem bookOk_len' {x : Book} (h : bookOk x = true) : x.chans.length ≤ 20 := by
 unfold bookOk at h
 simp only [Bool.and_eq_true,decide_eq_true_eq] at h
 exact h.1.1.2
theorem turnsOf_len {x : Book} {r : Rule} : (turnsOf x r).length ≤ 20 := by
 unfold turnsOf
 split
 ·rename_i h
  have := List.length_filterMap_le (turnOf r) x.chans
  have := (bookOk_len' h.1)
  omega
 ·simp
theorem turns_wf {x : Book} {r : Rule} (h : ruleOk r = true) (hc : ∀ c ∈ x.chans,wfChan c) : ∀ e ∈ x.chans.filterMap (turnOf r),wfEvent e := fun e he => by
 obtain ⟨c,hcm,hct⟩ := List.mem_filterMap.1 he
 unfold turnOf at hct
 split at hct
 ·exact absurd hct (by simp)
 ·injection hct with hct
  subst hct
  exact turnEv_wf h (hc c hcm)
theorem length_encEvent (x : Event) : (encEvent x).length = 7 := rfl
theorem infoEvent' : (Tryz.prog.info? 29).map (fun i => (i.zero,i.size,i.bytes)) = some (some (.agg #[.int .i64 0,.int .i64 0,.int .i64 0,.int .i64 0,.int .i64 0,.int .i64 0,.bool false]),7,56) := by kernel_rfl
theorem one_ev (a b c d e f : Int) (g : Bool) : ∀ u ∈ [Value.int .i64 a,.int .i64 b,.int .i64 c,.int .i64 d,.int .i64 e,.int .i64 f,.bool g],u.oneCell' = true := by
 intro u hu
 simp only [List.mem_cons,List.not_mem_nil,or_false] at hu
 rcases hu with rfl | rfl | rfl | rfl | rfl | rfl | rfl <;> rfl
theorem impl_Turns_c (x : Book) (a0 : Option Addr) (c0 : Nat) (a1 : Option Addr) (c1 : Nat) (a2 : Option Addr) (c2 : Nat) (r : Rule) (w : World) (h0 : SlR 7 repChan w 0 w.heap.size (.slice a0 x.chans.length c0) x.chans) (h1 : SlR 7 repHtlc w 0 w.heap.size (.slice a1 x.htlcs.length c1) x.htlcs) (h2 : SlR 5 repCircle w 0 w.heap.size (.slice a2 x.circles.length c2) x.circles) (hn : x.chans.length ≤ 1048576) :
 Calls Tryz.prog 24 #[.agg #[.int .i64 x.tick,.int .i64 x.next,.int .i64 x.wallet,.slice a0 x.chans.length c0,.slice a1 x.htlcs.length c1,.slice a2 x.circles.length c2],.agg #[.int .i64 r.lo,.int .i64 r.hi,.int .i64 r.step,.int .i64 r.min,.int .i64 r.max]] w fun e w' => ∃ a c,e = .returned (.slice a (turnsOf x r).length c) ∧ Grow w w' ∧ SlR 7 repEvent w' w.heap.size w'.heap.size (.slice a (turnsOf x r).length c) (turnsOf x r) := by
 obtain ⟨i0,hi0,hz0,hz1,hz2⟩ := info_parts infoEvent'
 have hwf := h0.wfAll (P := wfChan) (fun _ _ hr => hr.2)
 have HWF := Lib.hid hwf;clear hwf
 have H0 := Lib.hid h0;have H1 := Lib.hid h1;have H2 := Lib.hid h2
 clear h0 h1 h2
 have HP : Hid (turnsOf x r = if bookOk x = true ∧ ruleOk r = true then x.chans.filterMap (turnOf r) else []) := rfl
 go_enter Tryz.func24,Tryz.ntmps24
 go_wp2_with fail
 refine (impl_BookOk_c x _ _ _ _ _ _ _ (H0.out.grow' repChan_stable (Grow.below (((Grow.refl w).alloc _ _).alloc _ _))) (H1.out.grow' repHtlc_stable (Grow.below (((Grow.refl w).alloc _ _).alloc _ _))) (H2.out.grow' repCircle_stable (Grow.below (((Grow.refl w).alloc _ _).alloc _ _))) hn).mono ?_
 rintro e V1 ⟨rfl,gs⟩
 have ys := Grow.size gs
 simp only [World.size_setCell,World.size_alloc] at ys
 have B0 : Box V1 (w.heap.size) [.int .i64 x.tick,.int .i64 x.next,.int .i64 x.wallet,.slice a0 x.chans.length c0,.slice a1 x.htlcs.length c1,.slice a2 x.circles.length c2] := Box.grow ((Box.newAt (by simp) _ _).alloc _ _) gs
 have B1 : Box V1 (w.heap.size + 1) [.int .i64 r.lo,.int .i64 r.hi,.int .i64 r.step,.int .i64 r.min,.int .i64 r.max] := Box.grow (Box.newAt (by simp) _ _) gs
 have G : Grow w V1 := Grow.trans (((Grow.refl w).alloc _ _).alloc _ _) gs
 clear gs
 have z0 := B0.lt
 have z1 := B1.lt
 have q0_0 : V1.cell? ⟨w.heap.size,0,none⟩ = some (.int .i64 x.tick) := B0.c 0 _ rfl
 have q0_1 : V1.cell? ⟨w.heap.size,1,none⟩ = some (.int .i64 x.next) := B0.c 1 _ rfl
 have q0_2 : V1.cell? ⟨w.heap.size,2,none⟩ = some (.int .i64 x.wallet) := B0.c 2 _ rfl
 have q0_3 : V1.cell? ⟨w.heap.size,3,none⟩ = some (.slice a0 x.chans.length c0) := B0.c 3 _ rfl
 have q0_4 : V1.cell? ⟨w.heap.size,4,none⟩ = some (.slice a1 x.htlcs.length c1) := B0.c 4 _ rfl
 have q0_5 : V1.cell? ⟨w.heap.size,5,none⟩ = some (.slice a2 x.circles.length c2) := B0.c 5 _ rfl
 have f0 := B0.f
 have q1_0 : V1.cell? ⟨w.heap.size + 1,0,none⟩ = some (.int .i64 r.lo) := B1.c 0 _ rfl
 have q1_1 : V1.cell? ⟨w.heap.size + 1,1,none⟩ = some (.int .i64 r.hi) := B1.c 1 _ rfl
 have q1_2 : V1.cell? ⟨w.heap.size + 1,2,none⟩ = some (.int .i64 r.step) := B1.c 2 _ rfl
 have q1_3 : V1.cell? ⟨w.heap.size + 1,3,none⟩ = some (.int .i64 r.min) := B1.c 3 _ rfl
 have q1_4 : V1.cell? ⟨w.heap.size + 1,4,none⟩ = some (.int .i64 r.max) := B1.c 4 _ rfl
 have f1 := B1.f
 cases hb : bookOk x
 ·have HR : Hid (turnsOf x r = []) := by
   show _ = _
   rw [HP.out,hb];simp
  go_wp2_with fail
  go_ret
  exact ⟨none,0,by rw [HR.out];rfl,G,by rw [HR.out];exact SlR.nil⟩
 go_wp2_with fail
 refine (impl_RuleOk_c r _).mono ?_
 rintro e V2 ⟨rfl,gs⟩
 clear z0 z1 q0_0 q0_1 q0_2 q0_3 q0_4 q0_5 f0 q1_0 q1_1 q1_2 q1_3 q1_4 f1
 have ys := Grow.size gs
 replace B0 : Box V2 (w.heap.size) [.int .i64 x.tick,.int .i64 x.next,.int .i64 x.wallet,.slice a0 x.chans.length c0,.slice a1 x.htlcs.length c1,.slice a2 x.circles.length c2] := Box.grow B0 gs
 replace B1 : Box V2 (w.heap.size + 1) [.int .i64 r.lo,.int .i64 r.hi,.int .i64 r.step,.int .i64 r.min,.int .i64 r.max] := Box.grow B1 gs
 replace G : Grow w V2 := Grow.trans G gs
 clear gs
 have z0 := B0.lt
 have z1 := B1.lt
 have q0_0 : V2.cell? ⟨w.heap.size,0,none⟩ = some (.int .i64 x.tick) := B0.c 0 _ rfl
 have q0_1 : V2.cell? ⟨w.heap.size,1,none⟩ = some (.int .i64 x.next) := B0.c 1 _ rfl
 have q0_2 : V2.cell? ⟨w.heap.size,2,none⟩ = some (.int .i64 x.wallet) := B0.c 2 _ rfl
 have q0_3 : V2.cell? ⟨w.heap.size,3,none⟩ = some (.slice a0 x.chans.length c0) := B0.c 3 _ rfl
 have q0_4 : V2.cell? ⟨w.heap.size,4,none⟩ = some (.slice a1 x.htlcs.length c1) := B0.c 4 _ rfl
 have q0_5 : V2.cell? ⟨w.heap.size,5,none⟩ = some (.slice a2 x.circles.length c2) := B0.c 5 _ rfl
 have f0 := B0.f
 have q1_0 : V2.cell? ⟨w.heap.size + 1,0,none⟩ = some (.int .i64 r.lo) := B1.c 0 _ rfl
 have q1_1 : V2.cell? ⟨w.heap.size + 1,1,none⟩ = some (.int .i64 r.hi) := B1.c 1 _ rfl
 have q1_2 : V2.cell? ⟨w.heap.size + 1,2,none⟩ = some (.int .i64 r.step) := B1.c 2 _ rfl
 have q1_3 : V2.cell? ⟨w.heap.size + 1,3,none⟩ = some (.int .i64 r.min) := B1.c 3 _ rfl
 have q1_4 : V2.cell? ⟨w.heap.size + 1,4,none⟩ = some (.int .i64 r.max) := B1.c 4 _ rfl
 have f1 := B1.f
 cases hr : ruleOk r
 ·have HR : Hid (turnsOf x r = []) := by
   show _ = _
   rw [HP.out,hr];simp
  go_wp2_with fail
  go_ret
  exact ⟨none,0,by rw [HR.out];rfl,G,by rw [HR.out];exact SlR.nil⟩
 have HR : Hid (turnsOf x r = x.chans.filterMap (turnOf r)) := by
  show _ = _
  rw [HP.out,hb,hr];simp
 have HLN := Lib.hid (bookOk_len' hb)
 have HRO := Lib.hid hr
 have hln := HLN.out
 go_wp2_with fail
 clear z0 z1 q0_0 q0_1 q0_2 q0_3 q0_4 q0_5 f0 q1_0 q1_1 q1_2 q1_3 q1_4 f1
 go_loopg [5,20] x.chans.length (fun g v i wr => ∃ k : Nat,k + g = x.chans.length ∧ i = .int .i64 k ∧ Grow V2 wr ∧ wr.ownsRow V2.heap.size 29 7 v ((x.chans.take k).filterMap (turnOf r)).length (((x.chans.take k).filterMap (turnOf r)).flatMap encEvent))
 case atStart => exact ⟨0,by simp,rfl,Grow.refl _,World.ownsRow_nil _ _ _ _⟩
 case round =>
  obtain ⟨k,hk,rfl,hg,hown⟩ := hrel
  have HOWN := Lib.hid hown;clear hown
  obtain ⟨R3,rfl⟩ : ∃ V,V = wr := ⟨_,rfl⟩
  have HGW := Lib.hid hg
  replace B0 := B0.grow hg
  replace B1 := B1.grow hg
  have G0 := Lib.hid G
  replace G := G0.out.trans hg
  clear hg
  by_cases hlt : k < x.chans.length
  ·have HK := Lib.hid hk;clear hk
   have HM : Hid ((x.chans.take (k+1)).filterMap (turnOf r) = (x.chans.take k).filterMap (turnOf r) ++ (turnOf r x.chans[k]).toList) := filterMap_take_succ hlt
   have HL : Hid (((x.chans.take k).filterMap (turnOf r)).length ≤ 20) := by
    show _ ≤ _
    have := List.length_filterMap_le (turnOf r) (x.chans.take k)
    rw [List.length_take] at this
    have := HLN.out;omega
   have z0 := B0.lt
   have z1 := B1.lt
   have q0_0 : R3.cell? ⟨w.heap.size,0,none⟩ = some (.int .i64 x.tick) := B0.c 0 _ rfl
   have q0_1 : R3.cell? ⟨w.heap.size,1,none⟩ = some (.int .i64 x.next) := B0.c 1 _ rfl
   have q0_2 : R3.cell? ⟨w.heap.size,2,none⟩ = some (.int .i64 x.wallet) := B0.c 2 _ rfl
   have q0_3 : R3.cell? ⟨w.heap.size,3,none⟩ = some (.slice a0 x.chans.length c0) := B0.c 3 _ rfl
   have q0_4 : R3.cell? ⟨w.heap.size,4,none⟩ = some (.slice a1 x.htlcs.length c1) := B0.c 4 _ rfl
   have q0_5 : R3.cell? ⟨w.heap.size,5,none⟩ = some (.slice a2 x.circles.length c2) := B0.c 5 _ rfl
   have f0 := B0.f
   have q1_0 : R3.cell? ⟨w.heap.size + 1,0,none⟩ = some (.int .i64 r.lo) := B1.c 0 _ rfl
   have q1_1 : R3.cell? ⟨w.heap.size + 1,1,none⟩ = some (.int .i64 r.hi) := B1.c 1 _ rfl
   have q1_2 : R3.cell? ⟨w.heap.size + 1,2,none⟩ = some (.int .i64 r.step) := B1.c 2 _ rfl
   have q1_3 : R3.cell? ⟨w.heap.size + 1,3,none⟩ = some (.int .i64 r.min) := B1.c 3 _ rfl
   have q1_4 : R3.cell? ⟨w.heap.size + 1,4,none⟩ = some (.int .i64 r.max) := B1.c 4 _ rfl
   have f1 := B1.f
   obtain ⟨b_c,off_c,ha_c,hb1_c,hb2_c,hel_c⟩ := H0.out.elems k hlt
   obtain ⟨ec0,ec1,ec2,ec3,ec4,ec5,ec6,-⟩ := Chan.atCell (hel_c.same repChan_stable (G.same (Nat.le_refl _)) hb1_c hb2_c) k hlt
   subst ha_c
   clear hel_c
   generalize x.chans[k] = c at *
   generalize hks : (x.chans.take k).filterMap (turnOf r) = ks at *
   have HKS := Lib.hid hks;clear hks
   go_wp2_with fail
   refine (impl_NextPpm_c c r _).mono ?_
   rintro e U ⟨rfl,gs⟩
   have GS := Lib.hid (((Grow.refl R3).alloc _ _).trans gs)
   clear z0 z1 q0_0 q0_1 q0_2 q0_3 q0_4 q0_5 f0 q1_0 q1_1 q1_2 q1_3 q1_4 f1
   replace B0 : Box U (w.heap.size) [.int .i64 x.tick,.int .i64 x.next,.int .i64 x.wallet,.slice (some ⟨b_c,off_c,none⟩) x.chans.length c0,.slice a1 x.htlcs.length c1,.slice a2 x.circles.length c2] := ((B0.alloc _ _).grow gs)
   replace B1 : Box U (w.heap.size + 1) [.int .i64 r.lo,.int .i64 r.hi,.int .i64 r.step,.int .i64 r.min,.int .i64 r.max] := ((B1.alloc _ _).grow gs)
   have B2 : Box U (R3.heap.size) [.int .i64 c.id,.int .i64 c.size,.int .i64 c.loc,.int .i64 c.remote,.int .i64 c.base,.int .i64 c.ppm,.int .i64 c.score] := (Box.new R3 _ _).grow gs
   have HGU := Lib.hid (HGW.out.trans GS.out)
   replace G := (G.alloc _ _).trans gs
   clear gs
   have HOU := Lib.hid (own_grow HOWN.out GS.out)
   have z0 := B0.lt
   have z1 := B1.lt
   have z2 := B2.lt
   have q0_0 : U.cell? ⟨w.heap.size,0,none⟩ = some (.int .i64 x.tick) := B0.c 0 _ rfl
   have q0_1 : U.cell? ⟨w.heap.size,1,none⟩ = some (.int .i64 x.next) := B0.c 1 _ rfl
   have q0_2 : U.cell? ⟨w.heap.size,2,none⟩ = some (.int .i64 x.wallet) := B0.c 2 _ rfl
   have q0_3 : U.cell? ⟨w.heap.size,3,none⟩ = some (.slice (some ⟨b_c,off_c,none⟩) x.chans.length c0) := B0.c 3 _ rfl
   have q0_4 : U.cell? ⟨w.heap.size,4,none⟩ = some (.slice a1 x.htlcs.length c1) := B0.c 4 _ rfl
   have q0_5 : U.cell? ⟨w.heap.size,5,none⟩ = some (.slice a2 x.circles.length c2) := B0.c 5 _ rfl
   have f0 := B0.f
   have q1_0 : U.cell? ⟨w.heap.size + 1,0,none⟩ = some (.int .i64 r.lo) := B1.c 0 _ rfl
   have q1_1 : U.cell? ⟨w.heap.size + 1,1,none⟩ = some (.int .i64 r.hi) := B1.c 1 _ rfl
   have q1_2 : U.cell? ⟨w.heap.size + 1,2,none⟩ = some (.int .i64 r.step) := B1.c 2 _ rfl
   have q1_3 : U.cell? ⟨w.heap.size + 1,3,none⟩ = some (.int .i64 r.min) := B1.c 3 _ rfl
   have q1_4 : U.cell? ⟨w.heap.size + 1,4,none⟩ = some (.int .i64 r.max) := B1.c 4 _ rfl
   have f1 := B1.f
   have q2_0 : U.cell? ⟨R3.heap.size,0,none⟩ = some (.int .i64 c.id) := B2.c 0 _ rfl
   have q2_1 : U.cell? ⟨R3.heap.size,1,none⟩ = some (.int .i64 c.size) := B2.c 1 _ rfl
   have q2_2 : U.cell? ⟨R3.heap.size,2,none⟩ = some (.int .i64 c.loc) := B2.c 2 _ rfl
   have q2_3 : U.cell? ⟨R3.heap.size,3,none⟩ = some (.int .i64 c.remote) := B2.c 3 _ rfl
   have q2_4 : U.cell? ⟨R3.heap.size,4,none⟩ = some (.int .i64 c.base) := B2.c 4 _ rfl
   have q2_5 : U.cell? ⟨R3.heap.size,5,none⟩ = some (.int .i64 c.ppm) := B2.c 5 _ rfl
   have q2_6 : U.cell? ⟨R3.heap.size,6,none⟩ = some (.int .i64 c.score) := B2.c 6 _ rfl
   have f2 := B2.f
   by_cases t : nextPpm c r = c.ppm
   ·have HT := Lib.hid (turnOf_none t)
    go_wp2_with fail
    go_roundg (x.chans.length - (k + 1))
    case measure => have := HK.out;omega
    case rel => exact ⟨k + 1,by have := HK.out;omega,by go_num,HGU.out,by rw [HM.out,HT.out];simpa using HOU.out⟩
   ·have HT := Lib.hid (turnOf_some t)
    have hbne : (nextPpm c r != c.ppm) = true := by simpa using t
    go_wp2_with (at_builtin
                 refine wpList_append_g rfl (.tmp 31) (.tmp 38) 44 rfl V2 (HGU.out.alloc _ _) 29 i0 _ 7 56 Tryz.underlying44 hi0 hz0 hz1 hz2 rfl (by omega) u5 ks.length (ks.flatMap encEvent) rfl (own_grow HOU.out ((Grow.refl _).alloc _ _)) ⟨U.heap.size,0,none⟩ 1 1 [.int .i64 4,.int .i64 0,.int .i64 c.id,.int .i64 0,.int .i64 c.base,.int .i64 (nextPpm c r),.bool false] rfl rfl (news_of _ _ _ _ rfl) (one_ev _ _ _ _ _ _ _) (by have := HL.out;simp only [maxLen];omega) (by have := HL.out;omega) ?_
                 intro v' w' hown' hg' hgb hat
                 have HOWN' := Lib.hid (own_snocF (f := encEvent) (y := turnEv r c) hown');have HG' := Lib.hid hg';clear hown' hg' hgb hat)
    go_roundg (x.chans.length - (k + 1))
    case measure => have := HK.out;omega
    case rel => exact ⟨k + 1,by have := HK.out;omega,by go_num,HG'.out,by rw [HM.out,HT.out];exact HOWN'.out⟩
  ·have hke : k = x.chans.length := by omega
   have hown := HOWN.out
   rw [hke,List.take_length,← HR.out] at hown
   have hsl : SlR 7 repEvent R3 V2.heap.size R3.heap.size u5 (turnsOf x r) := SlR.of_own length_encEvent hown (fun y hy => ⟨rfl,by rw [HR.out] at hy;exact turns_wf HRO.out HWF.out y hy⟩)
   have hsl := hsl.stable repEvent_stable (Same.refl _ _ _) (lo' := w.heap.size) (by have := G0.out.size;omega) (Nat.le_refl _)
   have hsl' := hsl
   obtain ⟨av,cv,rfl,_,_,_⟩ := hsl'
   have HSL := Lib.hid hsl
   clear hke hown HOWN hsl HWF
   have z0 := B0.lt
   have z1 := B1.lt
   have q0_0 : R3.cell? ⟨w.heap.size,0,none⟩ = some (.int .i64 x.tick) := B0.c 0 _ rfl
   have q0_1 : R3.cell? ⟨w.heap.size,1,none⟩ = some (.int .i64 x.next) := B0.c 1 _ rfl
   have q0_2 : R3.cell? ⟨w.heap.size,2,none⟩ = some (.int .i64 x.wallet) := B0.c 2 _ rfl
   have q0_3 : R3.cell? ⟨w.heap.size,3,none⟩ = some (.slice a0 x.chans.length c0) := B0.c 3 _ rfl
   have q0_4 : R3.cell? ⟨w.heap.size,4,none⟩ = some (.slice a1 x.htlcs.length c1) := B0.c 4 _ rfl
   have q0_5 : R3.cell? ⟨w.heap.size,5,none⟩ = some (.slice a2 x.circles.length c2) := B0.c 5 _ rfl
   have f0 := B0.f
   have q1_0 : R3.cell? ⟨w.heap.size + 1,0,none⟩ = some (.int .i64 r.lo) := B1.c 0 _ rfl
   have q1_1 : R3.cell? ⟨w.heap.size + 1,1,none⟩ = some (.int .i64 r.hi) := B1.c 1 _ rfl
   have q1_2 : R3.cell? ⟨w.heap.size + 1,2,none⟩ = some (.int .i64 r.step) := B1.c 2 _ rfl
   have q1_3 : R3.cell? ⟨w.heap.size + 1,3,none⟩ = some (.int .i64 r.min) := B1.c 3 _ rfl
   have q1_4 : R3.cell? ⟨w.heap.size + 1,4,none⟩ = some (.int .i64 r.max) := B1.c 4 _ rfl
   have f1 := B1.f
   go_wp2_with fail
   go_ret
   exact ⟨av,cv,rfl,G,HSL.out⟩
theorem spec_Turns_c (x : Book) (a0 : Option Addr) (c0 : Nat) (a1 : Option Addr) (c1 : Nat) (a2 : Option Addr) (c2 : Nat) (r : Rule) (w : World) (h0 : SlR 7 repChan w 0 w.heap.size (.slice a0 x.chans.length c0) x.chans) (h1 : SlR 7 repHtlc w 0 w.heap.size (.slice a1 x.htlcs.length c1) x.htlcs) (h2 : SlR 5 repCircle w 0 w.heap.size (.slice a2 x.circles.length c2) x.circles) (hn : x.chans.length ≤ 1048576) :
 Calls Tryz.prog 25 #[.agg #[.int .i64 x.tick,.int .i64 x.next,.int .i64 x.wallet,.slice a0 x.chans.length c0,.slice a1 x.htlcs.length c1,.slice a2 x.circles.length c2],.agg #[.int .i64 r.lo,.int .i64 r.hi,.int .i64 r.step,.int .i64 r.min,.int .i64 r.max]] w fun e w' => ∃ a c,e = .returned (.slice a (turnsOf x r).length c) ∧ Grow w w' ∧ SlR 7 repEvent w' w.heap.size w'.heap.size (.slice a (turnsOf x r).length c) (turnsOf x r) := by
 obtain ⟨i0,hi0,hz0,hz1,hz2⟩ := info_parts infoEvent'
 have hwf := h0.wfAll (P := wfChan) (fun _ _ hr => hr.2)
 have HWF := Lib.hid hwf;clear hwf
 have H0 := Lib.hid h0;have H1 := Lib.hid h1;have H2 := Lib.hid h2
 clear h0 h1 h2
 have HP : Hid (turnsOf x r = if bookOk x = true ∧ ruleOk r = true then x.chans.filterMap (turnOf r) else []) := rfl
 go_enter Tryz.func25,Tryz.ntmps25
 go_wp2_with fail
 obtain ⟨V1,hV⟩ : ∃ V,V = ((w.alloc (.cells #[.int .i64 x.tick,.int .i64 x.next,.int .i64 x.wallet,.slice a0 x.chans.length c0,.slice a1 x.htlcs.length c1,.slice a2 x.circles.length c2] 27)).alloc (.cells #[.int .i64 r.lo,.int .i64 r.hi,.int .i64 r.step,.int .i64 r.min,.int .i64 r.max] 59)) := ⟨_,rfl⟩
 have G' : Grow w V1 := by rw [hV];exact (((Grow.refl w).alloc _ _).alloc _ _)
 have gs : Grow w V1 := by rw [hV];exact (((Grow.refl w).alloc _ _).alloc _ _)
 have B0 : Box V1 (w.heap.size) [.int .i64 x.tick,.int .i64 x.next,.int .i64 x.wallet,.slice a0 x.chans.length c0,.slice a1 x.htlcs.length c1,.slice a2 x.circles.length c2] := by rw [hV];exact (Box.newAt (by simp) _ _).alloc _ _
 have B1 : Box V1 (w.heap.size + 1) [.int .i64 r.lo,.int .i64 r.hi,.int .i64 r.step,.int .i64 r.min,.int .i64 r.max] := by rw [hV];exact Box.newAt (by simp) _ _
 have ys : V1.heap.size = w.heap.size + 2 := by rw [hV];simp
 have G := G'
 clear G'
 rw [← hV]
 clear hV
 clear gs
 have z0 := B0.lt
 have z1 := B1.lt
 have q0_0 : V1.cell? ⟨w.heap.size,0,none⟩ = some (.int .i64 x.tick) := B0.c 0 _ rfl
 have q0_1 : V1.cell? ⟨w.heap.size,1,none⟩ = some (.int .i64 x.next) := B0.c 1 _ rfl
 have q0_2 : V1.cell? ⟨w.heap.size,2,none⟩ = some (.int .i64 x.wallet) := B0.c 2 _ rfl
 have q0_3 : V1.cell? ⟨w.heap.size,3,none⟩ = some (.slice a0 x.chans.length c0) := B0.c 3 _ rfl
 have q0_4 : V1.cell? ⟨w.heap.size,4,none⟩ = some (.slice a1 x.htlcs.length c1) := B0.c 4 _ rfl
 have q0_5 : V1.cell? ⟨w.heap.size,5,none⟩ = some (.slice a2 x.circles.length c2) := B0.c 5 _ rfl
 have f0 := B0.f
 have q1_0 : V1.cell? ⟨w.heap.size + 1,0,none⟩ = some (.int .i64 r.lo) := B1.c 0 _ rfl
 have q1_1 : V1.cell? ⟨w.heap.size + 1,1,none⟩ = some (.int .i64 r.hi) := B1.c 1 _ rfl
 have q1_2 : V1.cell? ⟨w.heap.size + 1,2,none⟩ = some (.int .i64 r.step) := B1.c 2 _ rfl
 have q1_3 : V1.cell? ⟨w.heap.size + 1,3,none⟩ = some (.int .i64 r.min) := B1.c 3 _ rfl
 have q1_4 : V1.cell? ⟨w.heap.size + 1,4,none⟩ = some (.int .i64 r.max) := B1.c 4 _ rfl
 have f1 := B1.f
 have GW := Grow.refl V1
 have GV := G
 have BV0 := Lib.hid B0;have BV1 := Lib.hid B1
 obtain ⟨V2,hV⟩ : ∃ V,V = (V1.alloc (.cells #[] 29)) := ⟨_,rfl⟩
 have G' : Grow w V2 := by rw [hV];exact (G.alloc _ _)
 have gs : Grow V1 V2 := by rw [hV];exact ((Grow.refl V1).alloc _ _)
 replace B0 : Box V2 (w.heap.size) [.int .i64 x.tick,.int .i64 x.next,.int .i64 x.wallet,.slice a0 x.chans.length c0,.slice a1 x.htlcs.length c1,.slice a2 x.circles.length c2] := by rw [hV];exact (B0.alloc _ _)
 replace B1 : Box V2 (w.heap.size + 1) [.int .i64 r.lo,.int .i64 r.hi,.int .i64 r.step,.int .i64 r.min,.int .i64 r.max] := by rw [hV];exact (B1.alloc _ _)
 have B2 : Box V2 (V1.heap.size) [] := by rw [hV];exact Box.newAt (by simp) _ _
 have ys : V2.heap.size = V1.heap.size + 1 := by rw [hV];simp
 replace G := G'
 clear G'
 have OWN0 : V2.ownsRow V1.heap.size 29 7 (.slice (some ⟨w.heap.size + 1 + 1,0,none⟩) 0 0) 0 [] := by
  have e : V1.heap.size = w.heap.size + 1 + 1 := by omega
  rw [hV,show (⟨w.heap.size + 1 + 1,0,none⟩ : Addr) = ⟨V1.heap.size,0,none⟩ by rw [e]]
  have hm := World.ownsRow_made (base := V1.heap.size) (e := 29) (size := 7) V1 #[] 0 (Nat.le_refl _) (by simp [maxLen]) (by simp)
  simpa using hm
 replace GW := Grow.trans GW gs
 rw [← hV]
 clear hV
 clear gs
 clear z0 z1 q0_0 q0_1 q0_2 q0_3 q0_4 q0_5 f0 q1_0 q1_1 q1_2 q1_3 q1_4 f1
 have z0 := B0.lt
 have z1 := B1.lt
 have z2 := B2.lt
 have q0_0 : V2.cell? ⟨w.heap.size,0,none⟩ = some (.int .i64 x.tick) := B0.c 0 _ rfl
 have q0_1 : V2.cell? ⟨w.heap.size,1,none⟩ = some (.int .i64 x.next) := B0.c 1 _ rfl
 have q0_2 : V2.cell? ⟨w.heap.size,2,none⟩ = some (.int .i64 x.wallet) := B0.c 2 _ rfl
 have q0_3 : V2.cell? ⟨w.heap.size,3,none⟩ = some (.slice a0 x.chans.length c0) := B0.c 3 _ rfl
 have q0_4 : V2.cell? ⟨w.heap.size,4,none⟩ = some (.slice a1 x.htlcs.length c1) := B0.c 4 _ rfl
 have q0_5 : V2.cell? ⟨w.heap.size,5,none⟩ = some (.slice a2 x.circles.length c2) := B0.c 5 _ rfl
 have f0 := B0.f
 have q1_0 : V2.cell? ⟨w.heap.size + 1,0,none⟩ = some (.int .i64 r.lo) := B1.c 0 _ rfl
 have q1_1 : V2.cell? ⟨w.heap.size + 1,1,none⟩ = some (.int .i64 r.hi) := B1.c 1 _ rfl
 have q1_2 : V2.cell? ⟨w.heap.size + 1,2,none⟩ = some (.int .i64 r.step) := B1.c 2 _ rfl
 have q1_3 : V2.cell? ⟨w.heap.size + 1,3,none⟩ = some (.int .i64 r.min) := B1.c 3 _ rfl
 have q1_4 : V2.cell? ⟨w.heap.size + 1,4,none⟩ = some (.int .i64 r.max) := B1.c 4 _ rfl
 have f1 := B1.f
 have f2 := B2.f
 refine (spec_BookOk_c x _ _ _ _ _ _ _ (H0.out.grow' repChan_stable (Grow.below G)) (H1.out.grow' repHtlc_stable (Grow.below G)) (H2.out.grow' repCircle_stable (Grow.below G)) hn).mono ?_
 rintro e V3 ⟨rfl,gs⟩
 clear z0 z1 z2 q0_0 q0_1 q0_2 q0_3 q0_4 q0_5 f0 q1_0 q1_1 q1_2 q1_3 q1_4 f1 f2
 have ys := Grow.size gs
 replace B0 : Box V3 (w.heap.size) [.int .i64 x.tick,.int .i64 x.next,.int .i64 x.wallet,.slice a0 x.chans.length c0,.slice a1 x.htlcs.length c1,.slice a2 x.circles.length c2] := Box.grow B0 gs
 replace B1 : Box V3 (w.heap.size + 1) [.int .i64 r.lo,.int .i64 r.hi,.int .i64 r.step,.int .i64 r.min,.int .i64 r.max] := Box.grow B1 gs
 replace B2 : Box V3 (V1.heap.size) [] := Box.grow B2 gs
 replace OWN0 := own_grow OWN0 (Grow.trans (Grow.refl _) gs)
 replace GW := Grow.trans GW (Grow.trans (Grow.refl _) gs)
 replace G : Grow w V3 := Grow.trans G gs
 clear gs
 have z0 := B0.lt
 have z1 := B1.lt
 have z2 := B2.lt
 have q0_0 : V3.cell? ⟨w.heap.size,0,none⟩ = some (.int .i64 x.tick) := B0.c 0 _ rfl
 have q0_1 : V3.cell? ⟨w.heap.size,1,none⟩ = some (.int .i64 x.next) := B0.c 1 _ rfl
 have q0_2 : V3.cell? ⟨w.heap.size,2,none⟩ = some (.int .i64 x.wallet) := B0.c 2 _ rfl
 have q0_3 : V3.cell? ⟨w.heap.size,3,none⟩ = some (.slice a0 x.chans.length c0) := B0.c 3 _ rfl
 have q0_4 : V3.cell? ⟨w.heap.size,4,none⟩ = some (.slice a1 x.htlcs.length c1) := B0.c 4 _ rfl
 have q0_5 : V3.cell? ⟨w.heap.size,5,none⟩ = some (.slice a2 x.circles.length c2) := B0.c 5 _ rfl
 have f0 := B0.f
 have q1_0 : V3.cell? ⟨w.heap.size + 1,0,none⟩ = some (.int .i64 r.lo) := B1.c 0 _ rfl
 have q1_1 : V3.cell? ⟨w.heap.size + 1,1,none⟩ = some (.int .i64 r.hi) := B1.c 1 _ rfl
 have q1_2 : V3.cell? ⟨w.heap.size + 1,2,none⟩ = some (.int .i64 r.step) := B1.c 2 _ rfl
 have q1_3 : V3.cell? ⟨w.heap.size + 1,3,none⟩ = some (.int .i64 r.min) := B1.c 3 _ rfl
 have q1_4 : V3.cell? ⟨w.heap.size + 1,4,none⟩ = some (.int .i64 r.max) := B1.c 4 _ rfl
 have f1 := B1.f
 have f2 := B2.f
 cases hb : bookOk x
 ·have HR : Hid (turnsOf x r = []) := by
   show _ = _
   rw [HP.out,hb];simp
  go_wp2_with fail
  go_ret
  exact ⟨_,0,by rw [HR.out];rfl,G,by rw [HR.out];exact SlR.empty⟩
 go_wp2_with fail
 refine (spec_RuleOk_c r _).mono ?_
 rintro e V4 ⟨rfl,gs⟩
 clear z0 z1 z2 q0_0 q0_1 q0_2 q0_3 q0_4 q0_5 f0 q1_0 q1_1 q1_2 q1_3 q1_4 f1 f2
 have ys := Grow.size gs
 replace B0 : Box V4 (w.heap.size) [.int .i64 x.tick,.int .i64 x.next,.int .i64 x.wallet,.slice a0 x.chans.length c0,.slice a1 x.htlcs.length c1,.slice a2 x.circles.length c2] := Box.grow B0 gs
 replace B1 : Box V4 (w.heap.size + 1) [.int .i64 r.lo,.int .i64 r.hi,.int .i64 r.step,.int .i64 r.min,.int .i64 r.max] := Box.grow B1 gs
 replace B2 : Box V4 (V1.heap.size) [] := Box.grow B2 gs
 replace OWN0 := own_grow OWN0 (Grow.trans (Grow.refl _) gs)
 replace GW := Grow.trans GW (Grow.trans (Grow.refl _) gs)
 replace G : Grow w V4 := Grow.trans G gs
 clear gs
 have z0 := B0.lt
 have z1 := B1.lt
 have z2 := B2.lt
 have q0_0 : V4.cell? ⟨w.heap.size,0,none⟩ = some (.int .i64 x.tick) := B0.c 0 _ rfl
 have q0_1 : V4.cell? ⟨w.heap.size,1,none⟩ = some (.int .i64 x.next) := B0.c 1 _ rfl
 have q0_2 : V4.cell? ⟨w.heap.size,2,none⟩ = some (.int .i64 x.wallet) := B0.c 2 _ rfl
 have q0_3 : V4.cell? ⟨w.heap.size,3,none⟩ = some (.slice a0 x.chans.length c0) := B0.c 3 _ rfl
 have q0_4 : V4.cell? ⟨w.heap.size,4,none⟩ = some (.slice a1 x.htlcs.length c1) := B0.c 4 _ rfl
 have q0_5 : V4.cell? ⟨w.heap.size,5,none⟩ = some (.slice a2 x.circles.length c2) := B0.c 5 _ rfl
 have f0 := B0.f
 have q1_0 : V4.cell? ⟨w.heap.size + 1,0,none⟩ = some (.int .i64 r.lo) := B1.c 0 _ rfl
 have q1_1 : V4.cell? ⟨w.heap.size + 1,1,none⟩ = some (.int .i64 r.hi) := B1.c 1 _ rfl
 have q1_2 : V4.cell? ⟨w.heap.size + 1,2,none⟩ = some (.int .i64 r.step) := B1.c 2 _ rfl
 have q1_3 : V4.cell? ⟨w.heap.size + 1,3,none⟩ = some (.int .i64 r.min) := B1.c 3 _ rfl
 have q1_4 : V4.cell? ⟨w.heap.size + 1,4,none⟩ = some (.int .i64 r.max) := B1.c 4 _ rfl
 have f1 := B1.f
 have f2 := B2.f
 cases hr : ruleOk r
 ·have HR : Hid (turnsOf x r = []) := by
   show _ = _
   rw [HP.out,hr];simp
  go_wp2_with fail
  go_ret
  exact ⟨_,0,by rw [HR.out];rfl,G,by rw [HR.out];exact SlR.empty⟩
 have HR : Hid (turnsOf x r = x.chans.filterMap (turnOf r)) := by
  show _ = _
  rw [HP.out,hb,hr];simp
 have HLN := Lib.hid (bookOk_len' hb)
 have HRO := Lib.hid hr
 have hln := HLN.out
 go_wp2_with fail
 clear z0 z1 z2 q0_0 q0_1 q0_2 q0_3 q0_4 q0_5 f0 q1_0 q1_1 q1_2 q1_3 q1_4 f1 f2
 go_loopg [5,22] x.chans.length (fun g v i wr => ∃ k : Nat,k + g = x.chans.length ∧ i = .int .i64 k ∧ Grow V1 wr ∧ wr.ownsRow V1.heap.size 29 7 v ((x.chans.take k).filterMap (turnOf r)).length (((x.chans.take k).filterMap (turnOf r)).flatMap encEvent))
 case atStart => exact ⟨0,by simp,rfl,GW,OWN0⟩
 case round =>
  obtain ⟨k,hk,rfl,hg,hown⟩ := hrel
  have HOWN := Lib.hid hown;clear hown
  obtain ⟨R5,rfl⟩ : ∃ V,V = wr := ⟨_,rfl⟩
  have HGW := Lib.hid hg
  replace B0 := BV0.out.grow hg
  replace B1 := BV1.out.grow hg
  have G0 := Lib.hid GV
  replace G := G0.out.trans hg
  clear hg
  by_cases hlt : k < x.chans.length
  ·have HK := Lib.hid hk;clear hk
   have HM : Hid ((x.chans.take (k+1)).filterMap (turnOf r) = (x.chans.take k).filterMap (turnOf r) ++ (turnOf r x.chans[k]).toList) := filterMap_take_succ hlt
   have HL : Hid (((x.chans.take k).filterMap (turnOf r)).length ≤ 20) := by
    show _ ≤ _
    have := List.length_filterMap_le (turnOf r) (x.chans.take k)
    rw [List.length_take] at this
    have := HLN.out;omega
   have z0 := B0.lt
   have z1 := B1.lt
   have q0_0 : R5.cell? ⟨w.heap.size,0,none⟩ = some (.int .i64 x.tick) := B0.c 0 _ rfl
   have q0_1 : R5.cell? ⟨w.heap.size,1,none⟩ = some (.int .i64 x.next) := B0.c 1 _ rfl
   have q0_2 : R5.cell? ⟨w.heap.size,2,none⟩ = some (.int .i64 x.wallet) := B0.c 2 _ rfl
   have q0_3 : R5.cell? ⟨w.heap.size,3,none⟩ = some (.slice a0 x.chans.length c0) := B0.c 3 _ rfl
   have q0_4 : R5.cell? ⟨w.heap.size,4,none⟩ = some (.slice a1 x.htlcs.length c1) := B0.c 4 _ rfl
   have q0_5 : R5.cell? ⟨w.heap.size,5,none⟩ = some (.slice a2 x.circles.length c2) := B0.c 5 _ rfl
   have f0 := B0.f
   have q1_0 : R5.cell? ⟨w.heap.size + 1,0,none⟩ = some (.int .i64 r.lo) := B1.c 0 _ rfl
   have q1_1 : R5.cell? ⟨w.heap.size + 1,1,none⟩ = some (.int .i64 r.hi) := B1.c 1 _ rfl
   have q1_2 : R5.cell? ⟨w.heap.size + 1,2,none⟩ = some (.int .i64 r.step) := B1.c 2 _ rfl
   have q1_3 : R5.cell? ⟨w.heap.size + 1,3,none⟩ = some (.int .i64 r.min) := B1.c 3 _ rfl
   have q1_4 : R5.cell? ⟨w.heap.size + 1,4,none⟩ = some (.int .i64 r.max) := B1.c 4 _ rfl
   have f1 := B1.f
   obtain ⟨b_c,off_c,ha_c,hb1_c,hb2_c,hel_c⟩ := H0.out.elems k hlt
   obtain ⟨ec0,ec1,ec2,ec3,ec4,ec5,ec6,-⟩ := Chan.atCell (hel_c.same repChan_stable (G.same (Nat.le_refl _)) hb1_c hb2_c) k hlt
   subst ha_c
   clear hel_c
   generalize x.chans[k] = c at *
   generalize hks : (x.chans.take k).filterMap (turnOf r) = ks at *
   have HKS := Lib.hid hks;clear hks
   go_wp2_with fail
   refine (spec_NextPpm_c c r _).mono ?_
   rintro e U ⟨rfl,gs⟩
   have GS := Lib.hid (((Grow.refl R5).alloc _ _).trans gs)
   clear z0 z1 q0_0 q0_1 q0_2 q0_3 q0_4 q0_5 f0 q1_0 q1_1 q1_2 q1_3 q1_4 f1
   replace B0 : Box U (w.heap.size) [.int .i64 x.tick,.int .i64 x.next,.int .i64 x.wallet,.slice (some ⟨b_c,off_c,none⟩) x.chans.length c0,.slice a1 x.htlcs.length c1,.slice a2 x.circles.length c2] := ((B0.alloc _ _).grow gs)
   replace B1 : Box U (w.heap.size + 1) [.int .i64 r.lo,.int .i64 r.hi,.int .i64 r.step,.int .i64 r.min,.int .i64 r.max] := ((B1.alloc _ _).grow gs)
   have B2 : Box U (R5.heap.size) [.int .i64 c.id,.int .i64 c.size,.int .i64 c.loc,.int .i64 c.remote,.int .i64 c.base,.int .i64 c.ppm,.int .i64 c.score] := (Box.new R5 _ _).grow gs
   have HGU := Lib.hid (HGW.out.trans GS.out)
   replace G := (G.alloc _ _).trans gs
   clear gs
   have HOU := Lib.hid (own_grow HOWN.out GS.out)
   have z0 := B0.lt
   have z1 := B1.lt
   have z2 := B2.lt
   have q0_0 : U.cell? ⟨w.heap.size,0,none⟩ = some (.int .i64 x.tick) := B0.c 0 _ rfl
   have q0_1 : U.cell? ⟨w.heap.size,1,none⟩ = some (.int .i64 x.next) := B0.c 1 _ rfl
   have q0_2 : U.cell? ⟨w.heap.size,2,none⟩ = some (.int .i64 x.wallet) := B0.c 2 _ rfl
   have q0_3 : U.cell? ⟨w.heap.size,3,none⟩ = some (.slice (some ⟨b_c,off_c,none⟩) x.chans.length c0) := B0.c 3 _ rfl
   have q0_4 : U.cell? ⟨w.heap.size,4,none⟩ = some (.slice a1 x.htlcs.length c1) := B0.c 4 _ rfl
   have q0_5 : U.cell? ⟨w.heap.size,5,none⟩ = some (.slice a2 x.circles.length c2) := B0.c 5 _ rfl
   have f0 := B0.f
   have q1_0 : U.cell? ⟨w.heap.size + 1,0,none⟩ = some (.int .i64 r.lo) := B1.c 0 _ rfl
   have q1_1 : U.cell? ⟨w.heap.size + 1,1,none⟩ = some (.int .i64 r.hi) := B1.c 1 _ rfl
   have q1_2 : U.cell? ⟨w.heap.size + 1,2,none⟩ = some (.int .i64 r.step) := B1.c 2 _ rfl
   have q1_3 : U.cell? ⟨w.heap.size + 1,3,none⟩ = some (.int .i64 r.min) := B1.c 3 _ rfl
   have q1_4 : U.cell? ⟨w.heap.size + 1,4,none⟩ = some (.int .i64 r.max) := B1.c 4 _ rfl
   have f1 := B1.f
   have q2_0 : U.cell? ⟨R5.heap.size,0,none⟩ = some (.int .i64 c.id) := B2.c 0 _ rfl
   have q2_1 : U.cell? ⟨R5.heap.size,1,none⟩ = some (.int .i64 c.size) := B2.c 1 _ rfl
   have q2_2 : U.cell? ⟨R5.heap.size,2,none⟩ = some (.int .i64 c.loc) := B2.c 2 _ rfl
   have q2_3 : U.cell? ⟨R5.heap.size,3,none⟩ = some (.int .i64 c.remote) := B2.c 3 _ rfl
   have q2_4 : U.cell? ⟨R5.heap.size,4,none⟩ = some (.int .i64 c.base) := B2.c 4 _ rfl
   have q2_5 : U.cell? ⟨R5.heap.size,5,none⟩ = some (.int .i64 c.ppm) := B2.c 5 _ rfl
   have q2_6 : U.cell? ⟨R5.heap.size,6,none⟩ = some (.int .i64 c.score) := B2.c 6 _ rfl
   have f2 := B2.f
   by_cases t : nextPpm c r = c.ppm
   ·have HT := Lib.hid (turnOf_none t)
    go_wp2_with fail
    go_roundg (x.chans.length - (k + 1))
    case measure => have := HK.out;omega
    case rel => exact ⟨k + 1,by have := HK.out;omega,by go_num,HGU.out,by rw [HM.out,HT.out];simpa using HOU.out⟩
   ·have HT := Lib.hid (turnOf_some t)
    have hbne : (nextPpm c r != c.ppm) = true := by simpa using t
    go_wp2_with (at_builtin
                 refine wpList_append_g rfl (.tmp 33) (.tmp 40) 44 rfl V1 (HGU.out.alloc _ _) 29 i0 _ 7 56 Tryz.underlying44 hi0 hz0 hz1 hz2 rfl (by omega) u5 ks.length (ks.flatMap encEvent) rfl (own_grow HOU.out ((Grow.refl _).alloc _ _)) ⟨U.heap.size,0,none⟩ 1 1 [.int .i64 4,.int .i64 0,.int .i64 c.id,.int .i64 0,.int .i64 c.base,.int .i64 (nextPpm c r),.bool false] rfl rfl (news_of _ _ _ _ rfl) (one_ev _ _ _ _ _ _ _) (by have := HL.out;simp only [maxLen];omega) (by have := HL.out;omega) ?_
                 intro v' w' hown' hg' hgb hat
                 have HOWN' := Lib.hid (own_snocF (f := encEvent) (y := turnEv r c) hown');have HG' := Lib.hid hg';clear hown' hg' hgb hat)
    go_roundg (x.chans.length - (k + 1))
    case measure => have := HK.out;omega
    case rel => exact ⟨k + 1,by have := HK.out;omega,by go_num,HG'.out,by rw [HM.out,HT.out];exact HOWN'.out⟩
  ·have hke : k = x.chans.length := by omega
   have hown := HOWN.out
   rw [hke,List.take_length,← HR.out] at hown
   have hsl : SlR 7 repEvent R5 V1.heap.size R5.heap.size u5 (turnsOf x r) := SlR.of_own length_encEvent hown (fun y hy => ⟨rfl,by rw [HR.out] at hy;exact turns_wf HRO.out HWF.out y hy⟩)
   have hsl := hsl.stable repEvent_stable (Same.refl _ _ _) (lo' := w.heap.size) (by have := G0.out.size;omega) (Nat.le_refl _)
   have hsl' := hsl
   obtain ⟨av,cv,rfl,_,_,_⟩ := hsl'
   have HSL := Lib.hid hsl
   clear hke hown HOWN hsl HWF
   have z0 := B0.lt
   have z1 := B1.lt
   have q0_0 : R5.cell? ⟨w.heap.size,0,none⟩ = some (.int .i64 x.tick) := B0.c 0 _ rfl
   have q0_1 : R5.cell? ⟨w.heap.size,1,none⟩ = some (.int .i64 x.next) := B0.c 1 _ rfl
   have q0_2 : R5.cell? ⟨w.heap.size,2,none⟩ = some (.int .i64 x.wallet) := B0.c 2 _ rfl
   have q0_3 : R5.cell? ⟨w.heap.size,3,none⟩ = some (.slice a0 x.chans.length c0) := B0.c 3 _ rfl
   have q0_4 : R5.cell? ⟨w.heap.size,4,none⟩ = some (.slice a1 x.htlcs.length c1) := B0.c 4 _ rfl
   have q0_5 : R5.cell? ⟨w.heap.size,5,none⟩ = some (.slice a2 x.circles.length c2) := B0.c 5 _ rfl
   have f0 := B0.f
   have q1_0 : R5.cell? ⟨w.heap.size + 1,0,none⟩ = some (.int .i64 r.lo) := B1.c 0 _ rfl
   have q1_1 : R5.cell? ⟨w.heap.size + 1,1,none⟩ = some (.int .i64 r.hi) := B1.c 1 _ rfl
   have q1_2 : R5.cell? ⟨w.heap.size + 1,2,none⟩ = some (.int .i64 r.step) := B1.c 2 _ rfl
   have q1_3 : R5.cell? ⟨w.heap.size + 1,3,none⟩ = some (.int .i64 r.min) := B1.c 3 _ rfl
   have q1_4 : R5.cell? ⟨w.heap.size + 1,4,none⟩ = some (.int .i64 r.max) := B1.c 4 _ rfl
   have f1 := B1.f
   go_wp2_with fail
   go_ret
   exact ⟨av,cv,rfl,G,HSL.out⟩
end Go.Proofs.YtogkbcmfoalpiaaGreat
