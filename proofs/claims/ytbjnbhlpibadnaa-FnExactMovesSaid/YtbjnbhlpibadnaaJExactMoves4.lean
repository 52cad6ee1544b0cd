/- Texts of the proof of FnExactMoves, joined: Plan, IntRow, Flow2I, Flow2S. -/
import Derived.Test.YtbjnbhlpibadnaaJExactMoves3
import Derived.Deep.RegionHeld3
import Derived.Test.YtbjnbhlpibadnaaJExactMoves2
import Derived.Test.YtbjnbhlpibadnaaJExactMoves1
/- PlanGraph, of the program and of the reference. -/
namespace Go.Proofs.Ytbjnbhlpibadnaa
open Go.RowKit
set_option linter.unusedSimpArgs false
set_option linter.unusedVariables false

theorem spec_Cap_c (n : Int) (w : World) (h : 0 ≤ n) : Calls Try.prog 81 #[.int .i64 n] w fun e w' => e = .returned (.int .i64 (capE n)) ∧ w = w' := by
  have hc : clamp n 0 1000000000 = capE n := by
    unfold clamp capE
    rw [if_neg (by omega)]
    split <;> omega
  go_enter Try.func81, Try.ntmps81
  go_wp2_with (go_at_call 117; refine (spec_Clamp_c _ _ _ _).mono ?_; rw [hc]; rintro e w' ⟨rfl, rfl⟩)
  go_ret
  exact ⟨rfl, rfl⟩

set_option maxHeartbeats 8000000 in
set_option maxRecDepth 100000 in
theorem impl_PlanGraph_c (x : Book) (a0 : Option Addr) (c0 : Nat) (a1 : Option Addr) (c1 : Nat) (a2 : Option Addr) (c2 : Nat) (lo hi gain : Int) (l : List Price) (a3 : Option Addr) (c3 : Nat) (w : World) (h0 : SlR 7 repChan w 0 w.heap.size (.slice a0 x.chans.length c0) x.chans) (h1 : SlR 7 repHtlc w 0 w.heap.size (.slice a1 x.htlcs.length c1) x.htlcs) (h2 : SlR 5 repCircle w 0 w.heap.size (.slice a2 x.circles.length c2) x.circles) (h3 : SlR 3 repPrice w 0 w.heap.size (.slice a3 l.length c3) l) (hn : x.chans.length ≤ 1048576) (hl : l.length ≤ 1048576) :
    Calls Try.prog 34 #[.agg #[.int .i64 x.tick, .int .i64 x.next, .int .i64 x.wallet, .slice a0 x.chans.length c0, .slice a1 x.htlcs.length c1, .slice a2 x.circles.length c2], .int .i64 lo, .int .i64 hi, .int .i64 gain, .slice a3 l.length c3] w fun e w' => ∃ a c, e = .returned (.tuple #[.agg #[.int .i64 (planG x lo hi gain l).n, .slice a (planG x lo hi gain l).edges.length c], .bool (planOk x lo hi gain l)]) ∧ Grow w w' ∧ SlR 4 repEdge w' w.heap.size w'.heap.size (.slice a (planG x lo hi gain l).edges.length c) (planG x lo hi gain l).edges := by
  obtain ⟨i0, hi0, hz0, hz1, hz2⟩ := info_parts infoEdge'
  have H0 := Lib.hid h0; have H1 := Lib.hid h1; have H2 := Lib.hid h2; have H3 := Lib.hid h3
  clear h0 h1 h2 h3
  have HP : Hid (planOk x lo hi gain l = (pricesOk x l && band lo hi && inB gain 0 1000000)) := rfl
  have HNG : Hid (planOk x lo hi gain l = false → planG x lo hi gain l = ⟨0, []⟩) := fun h => if_neg (by rw [h]; simp)
  have HYG : Hid (planOk x lo hi gain l = true → planG x lo hi gain l = ⟨((x.chans.length : Int) + 1), planE x.chans lo hi gain l⟩) := fun h => if_pos h
  have HL := Lib.hid hl
  go_enter Try.func34, Try.ntmps34
  go_wp2_with fail
  refine (impl_PricesOk_c x _ _ _ _ _ _ l _ _ _ (H0.out.grow' repChan_stable (Grow.below (((Grow.refl w).alloc _ _).alloc _ _))) (H1.out.grow' repHtlc_stable (Grow.below (((Grow.refl w).alloc _ _).alloc _ _))) (H2.out.grow' repCircle_stable (Grow.below (((Grow.refl w).alloc _ _).alloc _ _))) (H3.out.grow' repPrice_stable (Grow.below (((Grow.refl w).alloc _ _).alloc _ _))) hn hl).mono ?_
  rintro e V1 ⟨rfl, gs⟩
  have ys := Grow.size gs
  simp only [World.size_setCell, World.size_alloc] at ys
  have B0 : Box V1 (w.heap.size) [.int .i64 x.tick, .int .i64 x.next, .int .i64 x.wallet, .slice a0 x.chans.length c0, .slice a1 x.htlcs.length c1, .slice a2 x.circles.length c2] := Box.grow ((Box.newAt (by simp) _ _).alloc _ _) gs
  have B1 : Box V1 (w.heap.size + 1) [.int .i64 0, .slice none 0 0] := Box.grow (Box.newAt (by simp) _ _) gs
  have G : Grow w V1 := Grow.trans (((Grow.refl w).alloc _ _).alloc _ _) gs
  clear gs
  have z0 := B0.lt
  have z1 := B1.lt
  have q0_0 : V1.cell? ⟨w.heap.size, 0, none⟩ = some (.int .i64 x.tick) := B0.c 0 _ rfl
  have q0_1 : V1.cell? ⟨w.heap.size, 1, none⟩ = some (.int .i64 x.next) := B0.c 1 _ rfl
  have q0_2 : V1.cell? ⟨w.heap.size, 2, none⟩ = some (.int .i64 x.wallet) := B0.c 2 _ rfl
  have q0_3 : V1.cell? ⟨w.heap.size, 3, none⟩ = some (.slice a0 x.chans.length c0) := B0.c 3 _ rfl
  have q0_4 : V1.cell? ⟨w.heap.size, 4, none⟩ = some (.slice a1 x.htlcs.length c1) := B0.c 4 _ rfl
  have q0_5 : V1.cell? ⟨w.heap.size, 5, none⟩ = some (.slice a2 x.circles.length c2) := B0.c 5 _ rfl
  have f0 := B0.f
  have q1_0 : V1.cell? ⟨w.heap.size + 1, 0, none⟩ = some (.int .i64 0) := B1.c 0 _ rfl
  have q1_1 : V1.cell? ⟨w.heap.size + 1, 1, none⟩ = some (.slice none 0 0) := B1.c 1 _ rfl
  have f1 := B1.f
  cases hp : pricesOk x l
  · have HB : Hid (planOk x lo hi gain l = false) := by
      show _ = _
      rw [HP.out, hp]; simp
    have HG := Lib.hid (HNG.out HB.out)
    go_wp2_with (first | (go_at_call 84; refine (impl_isBand_c _ _ _).mono ?_; (try rw [hb]); rintro e w' ⟨rfl, rfl⟩) | (go_at_call 85; refine (in_c _ _ _ _).mono ?_; (try rw [hg]); rintro e w' ⟨rfl, rfl⟩))
    all_goals
      refine bodyPost_ret (v := .tuple #[.agg #[.int .i64 0, .slice none 0 0], .bool false]) (by simp [results, Try.results34, go_sem, q1_0, q1_1]) rfl ⟨none, 0, ?_, ?_, ?_⟩
      · rw [HG.out, HB.out]; rfl
      · exact ((G.setCell (by show w.heap.size ≤ w.heap.size + 1; omega) _).setCell (by show w.heap.size ≤ w.heap.size + 1; omega) _)
      · rw [HG.out]; exact SlR.nil
  cases hb : band lo hi
  · have HB : Hid (planOk x lo hi gain l = false) := by
      show _ = _
      rw [HP.out, hp, hb]; simp
    have HG := Lib.hid (HNG.out HB.out)
    go_wp2_with (first | (go_at_call 84; refine (impl_isBand_c _ _ _).mono ?_; (try rw [hb]); rintro e w' ⟨rfl, rfl⟩) | (go_at_call 85; refine (in_c _ _ _ _).mono ?_; (try rw [hg]); rintro e w' ⟨rfl, rfl⟩))
    all_goals
      refine bodyPost_ret (v := .tuple #[.agg #[.int .i64 0, .slice none 0 0], .bool false]) (by simp [results, Try.results34, go_sem, q1_0, q1_1]) rfl ⟨none, 0, ?_, ?_, ?_⟩
      · rw [HG.out, HB.out]; rfl
      · exact ((G.setCell (by show w.heap.size ≤ w.heap.size + 1; omega) _).setCell (by show w.heap.size ≤ w.heap.size + 1; omega) _)
      · rw [HG.out]; exact SlR.nil
  cases hg : inB gain 0 1000000
  · have HB : Hid (planOk x lo hi gain l = false) := by
      show _ = _
      rw [HP.out, hp, hb, hg]; simp
    have HG := Lib.hid (HNG.out HB.out)
    go_wp2_with (first | (go_at_call 84; refine (impl_isBand_c _ _ _).mono ?_; (try rw [hb]); rintro e w' ⟨rfl, rfl⟩) | (go_at_call 85; refine (in_c _ _ _ _).mono ?_; (try rw [hg]); rintro e w' ⟨rfl, rfl⟩))
    all_goals
      refine bodyPost_ret (v := .tuple #[.agg #[.int .i64 0, .slice none 0 0], .bool false]) (by simp [results, Try.results34, go_sem, q1_0, q1_1]) rfl ⟨none, 0, ?_, ?_, ?_⟩
      · rw [HG.out, HB.out]; rfl
      · exact ((G.setCell (by show w.heap.size ≤ w.heap.size + 1; omega) _).setCell (by show w.heap.size ≤ w.heap.size + 1; omega) _)
      · rw [HG.out]; exact SlR.nil
  have hok : planOk x lo hi gain l = true := by rw [HP.out, hp, hb, hg]; rfl
  obtain ⟨hc20, hl20, hloc, hg1, hg2⟩ := planOk_facts hok
  have HSM := Lib.hid (plan_small hok (prices_ppm hp))
  have HLOC := Lib.hid hloc; clear hloc
  have HOK := Lib.hid hok; clear hok
  go_wp2_with (first | (go_at_call 84; refine (impl_isBand_c _ _ _).mono ?_; (try rw [hb]); rintro e w' ⟨rfl, rfl⟩) | (go_at_call 85; refine (in_c _ _ _ _).mono ?_; (try rw [hg]); rintro e w' ⟨rfl, rfl⟩))
  clear hp hb hg
  have GR : GRow (V1.alloc (.cells #[.int .i64 ((x.chans.length : Int) + 1), .slice none 0 0] 31)) V1 V1.heap.size ((x.chans.length : Int) + 1) (.slice none 0 0) [] := ⟨Box.new _ _ _, World.ownsRow_nil _ _ _ _, by simp [Value.ownBlock]⟩
  have hg : Grow V1 (V1.alloc (.cells #[.int .i64 ((x.chans.length : Int) + 1), .slice none 0 0] 31)) := (Grow.refl _).alloc _ _
  have HG0 := Lib.hid G; have HB0 := Lib.hid B0; have HB1 := Lib.hid B1
  have hgw : w.heap.size + 1 < V1.heap.size := B1.lt
  clear z0 z1 q0_0 q0_1 q0_2 q0_3 q0_4 q0_5 f0 q1_0 q1_1 f1
  clear G B0 B1
  go_loopg [47] x.chans.length (fun g i wr => ∃ (k : Nat) (v : Value), k + g = x.chans.length ∧ i = .int .i64 k ∧ GRow wr V1 V1.heap.size ((x.chans.length : Int) + 1) v (upK (overE lo hi) x.chans k) ∧ Grow V1 wr)
  case atStart => exact ⟨0, .slice none 0 0, by simp, rfl, GR, hg⟩
  case round =>
    clear hg GR
    obtain ⟨k, v, hk, rfl, GR, hg⟩ := hrel
    obtain ⟨R2, rfl⟩ : ∃ V, V = wr := ⟨_, rfl⟩
    have G := HG0.out.trans hg
    have B0 := HB0.out.grow hg
    have B1 := HB1.out.grow hg
    have HGR := Lib.hid GR; clear GR
    by_cases hlt : k < x.chans.length
    · have HK := Lib.hid hk; clear hk
      have HGV := Lib.hid hg; clear hg
      have HM : Hid (upK (overE lo hi) x.chans (k+1) = upK (overE lo hi) x.chans k ++ overE lo hi k x.chans[k]) := upK_succ hlt
      have hel20 : (upK (overE lo hi) x.chans k).length ≤ 60 := by have := upK_len (f := overE lo hi) (l := x.chans) (overE_len lo hi) k; omega
      have HNE : Hid (v.ownBlock ≠ some R2.heap.size) := own_ne HGR.out.own (Nat.le_refl _)
      have gzr : V1.heap.size < R2.heap.size := HGR.out.box.lt
      have z0 := B0.lt
      have z1 := B1.lt
      have q0_0 : R2.cell? ⟨w.heap.size, 0, none⟩ = some (.int .i64 x.tick) := B0.c 0 _ rfl
      have q0_1 : R2.cell? ⟨w.heap.size, 1, none⟩ = some (.int .i64 x.next) := B0.c 1 _ rfl
      have q0_2 : R2.cell? ⟨w.heap.size, 2, none⟩ = some (.int .i64 x.wallet) := B0.c 2 _ rfl
      have q0_3 : R2.cell? ⟨w.heap.size, 3, none⟩ = some (.slice a0 x.chans.length c0) := B0.c 3 _ rfl
      have q0_4 : R2.cell? ⟨w.heap.size, 4, none⟩ = some (.slice a1 x.htlcs.length c1) := B0.c 4 _ rfl
      have q0_5 : R2.cell? ⟨w.heap.size, 5, none⟩ = some (.slice a2 x.circles.length c2) := B0.c 5 _ rfl
      have f0 := B0.f
      have q1_0 : R2.cell? ⟨w.heap.size + 1, 0, none⟩ = some (.int .i64 0) := B1.c 0 _ rfl
      have q1_1 : R2.cell? ⟨w.heap.size + 1, 1, none⟩ = some (.slice none 0 0) := B1.c 1 _ rfl
      have f1 := B1.f
      have hcl := HLOC.out _ (List.getElem_mem hlt)
      obtain ⟨b_c, off_c, ha_c, hb1_c, hb2_c, hel_c⟩ := H0.out.elems k hlt
      obtain ⟨ec0, ec1, ec2, ec3, ec4, ec5, ec6, -⟩ := Chan.atCell (hel_c.same repChan_stable (G.same (Nat.le_refl _)) hb1_c hb2_c) k hlt
      subst ha_c
      clear hel_c
      generalize x.chans[k] = c at *
      obtain ⟨hcl1, hcl2⟩ := hcl
      generalize hes : (upK (overE lo hi) x.chans k) = es at *
      have HES := Lib.hid hes; clear hes
      have hkk : (k : Int) ≤ 60 := by omega
      go_wp2_with fail
      refine (impl_Ends_c c lo hi _).mono ?_
      rintro e U ⟨rfl, gs⟩
      have gU : Grow R2 U := ((Grow.refl R2).alloc _ _).trans gs
      have BC : Box U R2.heap.size [.int .i64 c.id, .int .i64 c.size, .int .i64 c.loc, .int .i64 c.remote, .int .i64 c.base, .int .i64 c.ppm, .int .i64 c.score] := (Box.new R2 _ _).grow gs
      clear gs
      clear z0 z1 q0_0 q0_1 q0_2 q0_3 q0_4 q0_5 f0 q1_0 q1_1 f1
      replace HGR : Hid (GRow U V1 V1.heap.size ((x.chans.length : Int) + 1) v es) := HGR.out.grow gU
      replace HGV : Hid (Grow V1 U) := HGV.out.trans gU
      replace G := G.trans gU
      replace B0 := B0.grow gU
      replace B1 := B1.grow gU
      clear gU
      have z0 := B0.lt
      have z1 := B1.lt
      have q0_0 : U.cell? ⟨w.heap.size, 0, none⟩ = some (.int .i64 x.tick) := B0.c 0 _ rfl
      have q0_1 : U.cell? ⟨w.heap.size, 1, none⟩ = some (.int .i64 x.next) := B0.c 1 _ rfl
      have q0_2 : U.cell? ⟨w.heap.size, 2, none⟩ = some (.int .i64 x.wallet) := B0.c 2 _ rfl
      have q0_3 : U.cell? ⟨w.heap.size, 3, none⟩ = some (.slice (some ⟨b_c, off_c, none⟩) x.chans.length c0) := B0.c 3 _ rfl
      have q0_4 : U.cell? ⟨w.heap.size, 4, none⟩ = some (.slice a1 x.htlcs.length c1) := B0.c 4 _ rfl
      have q0_5 : U.cell? ⟨w.heap.size, 5, none⟩ = some (.slice a2 x.circles.length c2) := B0.c 5 _ rfl
      have f0 := B0.f
      have q1_0 : U.cell? ⟨w.heap.size + 1, 0, none⟩ = some (.int .i64 0) := B1.c 0 _ rfl
      have q1_1 : U.cell? ⟨w.heap.size + 1, 1, none⟩ = some (.slice none 0 0) := B1.c 1 _ rfl
      have f1 := B1.f
      have zc := BC.lt
      have qc0 : U.cell? ⟨R2.heap.size, 0, none⟩ = some (.int .i64 c.id) := BC.c 0 _ rfl
      have qc1 : U.cell? ⟨R2.heap.size, 1, none⟩ = some (.int .i64 c.size) := BC.c 1 _ rfl
      have qc2 : U.cell? ⟨R2.heap.size, 2, none⟩ = some (.int .i64 c.loc) := BC.c 2 _ rfl
      have qc3 : U.cell? ⟨R2.heap.size, 3, none⟩ = some (.int .i64 c.remote) := BC.c 3 _ rfl
      have qc4 : U.cell? ⟨R2.heap.size, 4, none⟩ = some (.int .i64 c.base) := BC.c 4 _ rfl
      have qc5 : U.cell? ⟨R2.heap.size, 5, none⟩ = some (.int .i64 c.ppm) := BC.c 5 _ rfl
      have qc6 : U.cell? ⟨R2.heap.size, 6, none⟩ = some (.int .i64 c.score) := BC.c 6 _ rfl
      have gq0 : U.cell? ⟨V1.heap.size, 0, none⟩ = some (.int .i64 ((x.chans.length : Int) + 1)) := HGR.out.box.c 0 _ rfl
      have gq1 : U.cell? ⟨V1.heap.size, 1, none⟩ = some v := HGR.out.box.c 1 _ rfl
      have gz : V1.heap.size < U.heap.size := HGR.out.box.lt
      have hebd := ends_bd (size := c.size) (lo := lo) (hi := hi)
      obtain ⟨⟨he1, he2⟩, he3, he4⟩ := hebd
      by_cases t : ends2 c.size lo hi < c.loc
      · have HT := Lib.hid (overE_yes (lo := lo) (hi := hi) (i := k) (c := c) t)
        have T : decide (ends2 c.size lo hi < c.loc) = true := by simpa using t
        generalize ends1 c.size lo hi = e1 at *
        generalize ends2 c.size lo hi = e2 at *
        have hcap : capE (c.loc - e2) = min (c.loc - e2) 1000000000 := rfl
        have hcb : -1 ≤ capE (c.loc - e2) ∧ capE (c.loc - e2) ≤ 1000000000 := by rw [hcap]; omega
        obtain ⟨hcb1, hcb2⟩ := hcb
        have hq1 : IntKind.i64.wrap ((k : Int) + 1) = (k : Int) + 1 := by rw [IntKind.wrap_i64]; omega
        have hq2 : IntKind.i64.wrap (c.loc - e2) = c.loc - e2 := by rw [IntKind.wrap_i64]; omega
        have hq3 : IntKind.i64.wrap (-gain) = -gain := by rw [IntKind.wrap_i64]; omega
        go_wp2_with (at_builtin
                     go_loud (refine wpList_append_g rfl (.tmp 64) (.tmp 73) 29 rfl V1 (HGV.out.alloc _ _) 123 i0 _ 4 32 Try.underlying29 hi0 hz0 hz1 hz2 rfl (by omega) v es.length (es.flatMap encEdge) rfl (own_grow HGR.out.own ((Grow.refl _).alloc _ _)) ⟨U.heap.size, 0, none⟩ 1 1 [.int .i64 0, .int .i64 ((k : Int) + 1), .int .i64 (capE (c.loc - e2)), .int .i64 0] rfl rfl (news_of _ _ _ _ rfl) (one_edge _ _ _ _) (by simp only [maxLen]; omega) (by omega) ?_)
                     intro v1 w1 hown' hg' hgb hat
                     obtain ⟨va, vc, rfl⟩ := own_form hown'
                     have hgu := (Grow.refl U).alloc #[.int .i64 0, .int .i64 ((k : Int) + 1), .int .i64 (capE (c.loc - e2)), .int .i64 0] 123
                     have s0 : w1.cell? ⟨V1.heap.size, 0, none⟩ = some (.int .i64 ((x.chans.length : Int) + 1)) := cellKept hgb HGR.out.ne (cellGrow hgu gq0)
                     have s1 : w1.cell? ⟨V1.heap.size, 1, none⟩ = some v := cellKept hgb HGR.out.ne (cellGrow hgu gq1)
                     have z1 : V1.heap.size < w1.heap.size := lt_of_cell s0
                     have fz1 : ∀ o, w1.frozen? ⟨V1.heap.size, o, none⟩ = false := fun o => hg'.nf _ o (by omega) z1
                     have HPUSH := Lib.hid (GRow.push (e := ⟨0, (k : Int) + 1, capE (c.loc - e2), 0⟩) (HGR.out.grow hgu) hown' hgb hat)
                     have HGN := Lib.hid (hg'.setCell (p := ⟨V1.heap.size, 1, none⟩) (Nat.le_refl _) (.slice va (es.length + 1) vc))
                     clear hown' hg' hgb hat hgu)
        go_roundg (x.chans.length - (k + 1))
        case measure => have := HK.out; omega
        case rel => exact ⟨k + 1, (.slice va (es.length + 1) vc), by have := HK.out; omega, by go_num, by rw [HM.out, HT.out]; first | exact HPUSH.out | (rw [← List.append_assoc, HES.out]; exact HPUSH.out), HGN.out⟩
      · have HT := Lib.hid (overE_no (lo := lo) (hi := hi) (i := k) (c := c) t)
        have T : decide (ends2 c.size lo hi < c.loc) = false := by simpa using t
        generalize ends1 c.size lo hi = e1 at *
        generalize ends2 c.size lo hi = e2 at *
        go_wp2_with fail
        go_roundg (x.chans.length - (k + 1))
        case measure => have := HK.out; omega
        case rel => exact ⟨k + 1, v, by have := HK.out; omega, by go_num, by rw [HM.out, HT.out]; rw [List.append_nil]; first | exact HGR.out | (rw [HES.out]; exact HGR.out), HGV.out⟩
    · obtain rfl : k = x.chans.length := by omega
      clear hk hlt
      have z0 := B0.lt
      have z1 := B1.lt
      have q0_0 : R2.cell? ⟨w.heap.size, 0, none⟩ = some (.int .i64 x.tick) := B0.c 0 _ rfl
      have q0_1 : R2.cell? ⟨w.heap.size, 1, none⟩ = some (.int .i64 x.next) := B0.c 1 _ rfl
      have q0_2 : R2.cell? ⟨w.heap.size, 2, none⟩ = some (.int .i64 x.wallet) := B0.c 2 _ rfl
      have q0_3 : R2.cell? ⟨w.heap.size, 3, none⟩ = some (.slice a0 x.chans.length c0) := B0.c 3 _ rfl
      have q0_4 : R2.cell? ⟨w.heap.size, 4, none⟩ = some (.slice a1 x.htlcs.length c1) := B0.c 4 _ rfl
      have q0_5 : R2.cell? ⟨w.heap.size, 5, none⟩ = some (.slice a2 x.circles.length c2) := B0.c 5 _ rfl
      have f0 := B0.f
      have q1_0 : R2.cell? ⟨w.heap.size + 1, 0, none⟩ = some (.int .i64 0) := B1.c 0 _ rfl
      have q1_1 : R2.cell? ⟨w.heap.size + 1, 1, none⟩ = some (.slice none 0 0) := B1.c 1 _ rfl
      have f1 := B1.f
      go_wp2_with fail
      clear z0 z1 q0_0 q0_1 q0_2 q0_3 q0_4 q0_5 f0 q1_0 q1_1 f1
      go_loopg [80] x.chans.length (fun g i wr => ∃ (k : Nat) (v : Value), k + g = x.chans.length ∧ i = .int .i64 k ∧ GRow wr V1 V1.heap.size ((x.chans.length : Int) + 1) v (upK (overE lo hi) x.chans x.chans.length ++ upK (underE lo hi gain) x.chans k) ∧ Grow V1 wr)
      case atStart => exact ⟨0, v, by simp, rfl, by simpa [upK] using HGR.out, hg⟩
      case round =>
        clear hg HGR G B0 B1
        obtain ⟨k, v, hk, rfl, GR, hg⟩ := hrel
        obtain ⟨R3, rfl⟩ : ∃ V, V = wr := ⟨_, rfl⟩
        have G := HG0.out.trans hg
        have B0 := HB0.out.grow hg
        have B1 := HB1.out.grow hg
        have HGR := Lib.hid GR; clear GR
        by_cases hlt : k < x.chans.length
        · have HK := Lib.hid hk; clear hk
          have HGV := Lib.hid hg; clear hg
          have HM : Hid (upK (underE lo hi gain) x.chans (k+1) = upK (underE lo hi gain) x.chans k ++ underE lo hi gain k x.chans[k]) := upK_succ hlt
          have hel20 : ((upK (overE lo hi) x.chans x.chans.length ++ upK (underE lo hi gain) x.chans k)).length ≤ 60 := by have := upK_len (f := overE lo hi) (l := x.chans) (overE_len lo hi) x.chans.length; have := upK_len (f := underE lo hi gain) (l := x.chans) (underE_len lo hi gain) k; rw [List.length_append]; omega
          have HNE : Hid (v.ownBlock ≠ some R3.heap.size) := own_ne HGR.out.own (Nat.le_refl _)
          have gzr : V1.heap.size < R3.heap.size := HGR.out.box.lt
          have z0 := B0.lt
          have z1 := B1.lt
          have q0_0 : R3.cell? ⟨w.heap.size, 0, none⟩ = some (.int .i64 x.tick) := B0.c 0 _ rfl
          have q0_1 : R3.cell? ⟨w.heap.size, 1, none⟩ = some (.int .i64 x.next) := B0.c 1 _ rfl
          have q0_2 : R3.cell? ⟨w.heap.size, 2, none⟩ = some (.int .i64 x.wallet) := B0.c 2 _ rfl
          have q0_3 : R3.cell? ⟨w.heap.size, 3, none⟩ = some (.slice a0 x.chans.length c0) := B0.c 3 _ rfl
          have q0_4 : R3.cell? ⟨w.heap.size, 4, none⟩ = some (.slice a1 x.htlcs.length c1) := B0.c 4 _ rfl
          have q0_5 : R3.cell? ⟨w.heap.size, 5, none⟩ = some (.slice a2 x.circles.length c2) := B0.c 5 _ rfl
          have f0 := B0.f
          have q1_0 : R3.cell? ⟨w.heap.size + 1, 0, none⟩ = some (.int .i64 0) := B1.c 0 _ rfl
          have q1_1 : R3.cell? ⟨w.heap.size + 1, 1, none⟩ = some (.slice none 0 0) := B1.c 1 _ rfl
          have f1 := B1.f
          have hcl := HLOC.out _ (List.getElem_mem hlt)
          obtain ⟨b_c, off_c, ha_c, hb1_c, hb2_c, hel_c⟩ := H0.out.elems k hlt
          obtain ⟨ec0, ec1, ec2, ec3, ec4, ec5, ec6, -⟩ := Chan.atCell (hel_c.same repChan_stable (G.same (Nat.le_refl _)) hb1_c hb2_c) k hlt
          subst ha_c
          clear hel_c
          generalize x.chans[k] = c at *
          obtain ⟨hcl1, hcl2⟩ := hcl
          generalize hes : (upK (overE lo hi) x.chans x.chans.length ++ upK (underE lo hi gain) x.chans k) = es at *
          have HES := Lib.hid hes; clear hes
          have hkk : (k : Int) ≤ 60 := by omega
          go_wp2_with fail
          refine (impl_Ends_c c lo hi _).mono ?_
          rintro e U ⟨rfl, gs⟩
          have gU : Grow R3 U := ((Grow.refl R3).alloc _ _).trans gs
          have BC : Box U R3.heap.size [.int .i64 c.id, .int .i64 c.size, .int .i64 c.loc, .int .i64 c.remote, .int .i64 c.base, .int .i64 c.ppm, .int .i64 c.score] := (Box.new R3 _ _).grow gs
          clear gs
          clear z0 z1 q0_0 q0_1 q0_2 q0_3 q0_4 q0_5 f0 q1_0 q1_1 f1
          replace HGR : Hid (GRow U V1 V1.heap.size ((x.chans.length : Int) + 1) v es) := HGR.out.grow gU
          replace HGV : Hid (Grow V1 U) := HGV.out.trans gU
          replace G := G.trans gU
          replace B0 := B0.grow gU
          replace B1 := B1.grow gU
          clear gU
          have z0 := B0.lt
          have z1 := B1.lt
          have q0_0 : U.cell? ⟨w.heap.size, 0, none⟩ = some (.int .i64 x.tick) := B0.c 0 _ rfl
          have q0_1 : U.cell? ⟨w.heap.size, 1, none⟩ = some (.int .i64 x.next) := B0.c 1 _ rfl
          have q0_2 : U.cell? ⟨w.heap.size, 2, none⟩ = some (.int .i64 x.wallet) := B0.c 2 _ rfl
          have q0_3 : U.cell? ⟨w.heap.size, 3, none⟩ = some (.slice (some ⟨b_c, off_c, none⟩) x.chans.length c0) := B0.c 3 _ rfl
          have q0_4 : U.cell? ⟨w.heap.size, 4, none⟩ = some (.slice a1 x.htlcs.length c1) := B0.c 4 _ rfl
          have q0_5 : U.cell? ⟨w.heap.size, 5, none⟩ = some (.slice a2 x.circles.length c2) := B0.c 5 _ rfl
          have f0 := B0.f
          have q1_0 : U.cell? ⟨w.heap.size + 1, 0, none⟩ = some (.int .i64 0) := B1.c 0 _ rfl
          have q1_1 : U.cell? ⟨w.heap.size + 1, 1, none⟩ = some (.slice none 0 0) := B1.c 1 _ rfl
          have f1 := B1.f
          have zc := BC.lt
          have qc0 : U.cell? ⟨R3.heap.size, 0, none⟩ = some (.int .i64 c.id) := BC.c 0 _ rfl
          have qc1 : U.cell? ⟨R3.heap.size, 1, none⟩ = some (.int .i64 c.size) := BC.c 1 _ rfl
          have qc2 : U.cell? ⟨R3.heap.size, 2, none⟩ = some (.int .i64 c.loc) := BC.c 2 _ rfl
          have qc3 : U.cell? ⟨R3.heap.size, 3, none⟩ = some (.int .i64 c.remote) := BC.c 3 _ rfl
          have qc4 : U.cell? ⟨R3.heap.size, 4, none⟩ = some (.int .i64 c.base) := BC.c 4 _ rfl
          have qc5 : U.cell? ⟨R3.heap.size, 5, none⟩ = some (.int .i64 c.ppm) := BC.c 5 _ rfl
          have qc6 : U.cell? ⟨R3.heap.size, 6, none⟩ = some (.int .i64 c.score) := BC.c 6 _ rfl
          have gq0 : U.cell? ⟨V1.heap.size, 0, none⟩ = some (.int .i64 ((x.chans.length : Int) + 1)) := HGR.out.box.c 0 _ rfl
          have gq1 : U.cell? ⟨V1.heap.size, 1, none⟩ = some v := HGR.out.box.c 1 _ rfl
          have gz : V1.heap.size < U.heap.size := HGR.out.box.lt
          have hebd := ends_bd (size := c.size) (lo := lo) (hi := hi)
          obtain ⟨⟨he1, he2⟩, he3, he4⟩ := hebd
          by_cases t : c.loc < ends1 c.size lo hi
          · have HT := Lib.hid (underE_yes (lo := lo) (hi := hi) (gain := gain) (i := k) (c := c) t)
            have T : decide (c.loc < ends1 c.size lo hi) = true := by simpa using t
            generalize ends1 c.size lo hi = e1 at *
            generalize ends2 c.size lo hi = e2 at *
            have hcap : capE (e1 - c.loc) = min (e1 - c.loc) 1000000000 := rfl
            have hcb : -1 ≤ capE (e1 - c.loc) ∧ capE (e1 - c.loc) ≤ 1000000000 := by rw [hcap]; omega
            obtain ⟨hcb1, hcb2⟩ := hcb
            have hq1 : IntKind.i64.wrap ((k : Int) + 1) = (k : Int) + 1 := by rw [IntKind.wrap_i64]; omega
            have hq2 : IntKind.i64.wrap (e1 - c.loc) = e1 - c.loc := by rw [IntKind.wrap_i64]; omega
            have hq3 : IntKind.i64.wrap (-gain) = -gain := by rw [IntKind.wrap_i64]; omega
            go_wp2_with (at_builtin
                         go_loud (refine wpList_append_g rfl (.tmp 97) (.tmp 108) 29 rfl V1 (HGV.out.alloc _ _) 123 i0 _ 4 32 Try.underlying29 hi0 hz0 hz1 hz2 rfl (by omega) v es.length (es.flatMap encEdge) rfl (own_grow HGR.out.own ((Grow.refl _).alloc _ _)) ⟨U.heap.size, 0, none⟩ 1 1 [.int .i64 ((k : Int) + 1), .int .i64 0, .int .i64 (capE (e1 - c.loc)), .int .i64 (-gain)] rfl rfl (news_of _ _ _ _ rfl) (one_edge _ _ _ _) (by simp only [maxLen]; omega) (by omega) ?_)
                         intro v1 w1 hown' hg' hgb hat
                         obtain ⟨va, vc, rfl⟩ := own_form hown'
                         have hgu := (Grow.refl U).alloc #[.int .i64 ((k : Int) + 1), .int .i64 0, .int .i64 (capE (e1 - c.loc)), .int .i64 (-gain)] 123
                         have s0 : w1.cell? ⟨V1.heap.size, 0, none⟩ = some (.int .i64 ((x.chans.length : Int) + 1)) := cellKept hgb HGR.out.ne (cellGrow hgu gq0)
                         have s1 : w1.cell? ⟨V1.heap.size, 1, none⟩ = some v := cellKept hgb HGR.out.ne (cellGrow hgu gq1)
                         have z1 : V1.heap.size < w1.heap.size := lt_of_cell s0
                         have fz1 : ∀ o, w1.frozen? ⟨V1.heap.size, o, none⟩ = false := fun o => hg'.nf _ o (by omega) z1
                         have HPUSH := Lib.hid (GRow.push (e := ⟨(k : Int) + 1, 0, capE (e1 - c.loc), -gain⟩) (HGR.out.grow hgu) hown' hgb hat)
                         have HGN := Lib.hid (hg'.setCell (p := ⟨V1.heap.size, 1, none⟩) (Nat.le_refl _) (.slice va (es.length + 1) vc))
                         clear hown' hg' hgb hat hgu)
            go_roundg (x.chans.length - (k + 1))
            case measure => have := HK.out; omega
            case rel => exact ⟨k + 1, (.slice va (es.length + 1) vc), by have := HK.out; omega, by go_num, by rw [HM.out, HT.out]; first | exact HPUSH.out | (rw [← List.append_assoc, HES.out]; exact HPUSH.out), HGN.out⟩
          · have HT := Lib.hid (underE_no (lo := lo) (hi := hi) (gain := gain) (i := k) (c := c) t)
            have T : decide (c.loc < ends1 c.size lo hi) = false := by simpa using t
            generalize ends1 c.size lo hi = e1 at *
            generalize ends2 c.size lo hi = e2 at *
            go_wp2_with fail
            go_roundg (x.chans.length - (k + 1))
            case measure => have := HK.out; omega
            case rel => exact ⟨k + 1, v, by have := HK.out; omega, by go_num, by rw [HM.out, HT.out]; rw [List.append_nil]; first | exact HGR.out | (rw [HES.out]; exact HGR.out), HGV.out⟩
        · obtain rfl : k = x.chans.length := by omega
          clear hk hlt
          have z0 := B0.lt
          have z1 := B1.lt
          have q0_0 : R3.cell? ⟨w.heap.size, 0, none⟩ = some (.int .i64 x.tick) := B0.c 0 _ rfl
          have q0_1 : R3.cell? ⟨w.heap.size, 1, none⟩ = some (.int .i64 x.next) := B0.c 1 _ rfl
          have q0_2 : R3.cell? ⟨w.heap.size, 2, none⟩ = some (.int .i64 x.wallet) := B0.c 2 _ rfl
          have q0_3 : R3.cell? ⟨w.heap.size, 3, none⟩ = some (.slice a0 x.chans.length c0) := B0.c 3 _ rfl
          have q0_4 : R3.cell? ⟨w.heap.size, 4, none⟩ = some (.slice a1 x.htlcs.length c1) := B0.c 4 _ rfl
          have q0_5 : R3.cell? ⟨w.heap.size, 5, none⟩ = some (.slice a2 x.circles.length c2) := B0.c 5 _ rfl
          have f0 := B0.f
          have q1_0 : R3.cell? ⟨w.heap.size + 1, 0, none⟩ = some (.int .i64 0) := B1.c 0 _ rfl
          have q1_1 : R3.cell? ⟨w.heap.size + 1, 1, none⟩ = some (.slice none 0 0) := B1.c 1 _ rfl
          have f1 := B1.f
          go_wp2_with fail
          clear z0 z1 q0_0 q0_1 q0_2 q0_3 q0_4 q0_5 f0 q1_0 q1_1 f1
          go_loopg [114] l.length (fun g i wr => ∃ (k : Nat) (v : Value), k + g = l.length ∧ i = .int .i64 k ∧ GRow wr V1 V1.heap.size ((x.chans.length : Int) + 1) v (upK (overE lo hi) x.chans x.chans.length ++ upK (underE lo hi gain) x.chans x.chans.length ++ (l.take k).map (priceE x.chans)) ∧ Grow V1 wr)
          case atStart => exact ⟨0, v, by simp, rfl, by simpa using HGR.out, hg⟩
          case round =>
            clear hg HGR G B0 B1
            obtain ⟨k, v, hk, rfl, GR, hg⟩ := hrel
            obtain ⟨R4, rfl⟩ : ∃ V, V = wr := ⟨_, rfl⟩
            have G := HG0.out.trans hg
            have B0 := HB0.out.grow hg
            have B1 := HB1.out.grow hg
            have HGR := Lib.hid GR; clear GR
            by_cases hlt : k < l.length
            · have HK := Lib.hid hk; clear hk
              have HGV := Lib.hid hg; clear hg
              have HM : Hid ((l.take (k+1)).map (priceE x.chans) = (l.take k).map (priceE x.chans) ++ [priceE x.chans l[k]]) := by show _ = _; rw [List.take_succ_eq_append_getElem hlt, List.map_append]; rfl
              have hel20 : ((upK (overE lo hi) x.chans x.chans.length ++ upK (underE lo hi gain) x.chans x.chans.length ++ (l.take k).map (priceE x.chans))).length ≤ 60 := by have := upK_len (f := overE lo hi) (l := x.chans) (overE_len lo hi) x.chans.length; have := upK_len (f := underE lo hi gain) (l := x.chans) (underE_len lo hi gain) x.chans.length; simp only [List.length_append, List.length_map, List.length_take]; omega
              have HNE : Hid (v.ownBlock ≠ some R4.heap.size) := own_ne HGR.out.own (Nat.le_refl _)
              have gzr : V1.heap.size < R4.heap.size := HGR.out.box.lt
              have z0 := B0.lt
              have z1 := B1.lt
              have q0_0 : R4.cell? ⟨w.heap.size, 0, none⟩ = some (.int .i64 x.tick) := B0.c 0 _ rfl
              have q0_1 : R4.cell? ⟨w.heap.size, 1, none⟩ = some (.int .i64 x.next) := B0.c 1 _ rfl
              have q0_2 : R4.cell? ⟨w.heap.size, 2, none⟩ = some (.int .i64 x.wallet) := B0.c 2 _ rfl
              have q0_3 : R4.cell? ⟨w.heap.size, 3, none⟩ = some (.slice a0 x.chans.length c0) := B0.c 3 _ rfl
              have q0_4 : R4.cell? ⟨w.heap.size, 4, none⟩ = some (.slice a1 x.htlcs.length c1) := B0.c 4 _ rfl
              have q0_5 : R4.cell? ⟨w.heap.size, 5, none⟩ = some (.slice a2 x.circles.length c2) := B0.c 5 _ rfl
              have f0 := B0.f
              have q1_0 : R4.cell? ⟨w.heap.size + 1, 0, none⟩ = some (.int .i64 0) := B1.c 0 _ rfl
              have q1_1 : R4.cell? ⟨w.heap.size + 1, 1, none⟩ = some (.slice none 0 0) := B1.c 1 _ rfl
              have f1 := B1.f
              obtain ⟨b_e, off_e, ha_e, hb1_e, hb2_e, hel_e⟩ := H3.out.elems k hlt
              obtain ⟨ee0, ee1, ee2, -⟩ := Price.atCell (hel_e.same repPrice_stable (G.same (Nat.le_refl _)) hb1_e hb2_e) k hlt
              subst ha_e
              clear hel_e
              generalize l[k] = e at *
              generalize hes : (upK (overE lo hi) x.chans x.chans.length ++ upK (underE lo hi gain) x.chans x.chans.length ++ (l.take k).map (priceE x.chans)) = es at *
              have HES := Lib.hid hes; clear hes
              have hkk : (k : Int) ≤ 60 := by omega
              go_wp2_with fail
              obtain ⟨U, hU⟩ : ∃ U, U = R4.alloc (.cells #[.int .i64 e.frm, .int .i64 e.to, .int .i64 e.ppm] 125) := ⟨_, rfl⟩
              have gU : Grow R4 U := by rw [hU]; exact (Grow.refl _).alloc _ _
              have BC : Box U R4.heap.size [.int .i64 e.frm, .int .i64 e.to, .int .i64 e.ppm] := by rw [hU]; exact Box.new R4 _ _
              rw [← hU]
              clear hU
              clear z0 z1 q0_0 q0_1 q0_2 q0_3 q0_4 q0_5 f0 q1_0 q1_1 f1
              replace HGR : Hid (GRow U V1 V1.heap.size ((x.chans.length : Int) + 1) v es) := HGR.out.grow gU
              replace HGV : Hid (Grow V1 U) := HGV.out.trans gU
              replace G := G.trans gU
              replace B0 := B0.grow gU
              replace B1 := B1.grow gU
              clear gU
              have z0 := B0.lt
              have z1 := B1.lt
              have q0_0 : U.cell? ⟨w.heap.size, 0, none⟩ = some (.int .i64 x.tick) := B0.c 0 _ rfl
              have q0_1 : U.cell? ⟨w.heap.size, 1, none⟩ = some (.int .i64 x.next) := B0.c 1 _ rfl
              have q0_2 : U.cell? ⟨w.heap.size, 2, none⟩ = some (.int .i64 x.wallet) := B0.c 2 _ rfl
              have q0_3 : U.cell? ⟨w.heap.size, 3, none⟩ = some (.slice a0 x.chans.length c0) := B0.c 3 _ rfl
              have q0_4 : U.cell? ⟨w.heap.size, 4, none⟩ = some (.slice a1 x.htlcs.length c1) := B0.c 4 _ rfl
              have q0_5 : U.cell? ⟨w.heap.size, 5, none⟩ = some (.slice a2 x.circles.length c2) := B0.c 5 _ rfl
              have f0 := B0.f
              have q1_0 : U.cell? ⟨w.heap.size + 1, 0, none⟩ = some (.int .i64 0) := B1.c 0 _ rfl
              have q1_1 : U.cell? ⟨w.heap.size + 1, 1, none⟩ = some (.slice none 0 0) := B1.c 1 _ rfl
              have f1 := B1.f
              have zc := BC.lt
              have qc0 : U.cell? ⟨R4.heap.size, 0, none⟩ = some (.int .i64 e.frm) := BC.c 0 _ rfl
              have qc1 : U.cell? ⟨R4.heap.size, 1, none⟩ = some (.int .i64 e.to) := BC.c 1 _ rfl
              have qc2 : U.cell? ⟨R4.heap.size, 2, none⟩ = some (.int .i64 e.ppm) := BC.c 2 _ rfl
              have gq0 : U.cell? ⟨V1.heap.size, 0, none⟩ = some (.int .i64 ((x.chans.length : Int) + 1)) := HGR.out.box.c 0 _ rfl
              have gq1 : U.cell? ⟨V1.heap.size, 1, none⟩ = some v := HGR.out.box.c 1 _ rfl
              have gz : V1.heap.size < U.heap.size := HGR.out.box.lt
              have hb1 := chanAt_bd x.chans e.frm
              have hb2 := chanAt_bd x.chans e.to
              have HPE : Hid (priceE x.chans e = ⟨chanAt x.chans e.frm + 1, chanAt x.chans e.to + 1, 1000000000, e.ppm⟩) := rfl
              have HC1 : Hid (∀ (W : World) (hw : Grow w W), Calls Try.prog 72 #[.agg #[.int .i64 x.tick, .int .i64 x.next, .int .i64 x.wallet, .slice a0 x.chans.length c0, .slice a1 x.htlcs.length c1, .slice a2 x.circles.length c2], .int .i64 e.frm] W fun e' w' => e' = .returned (.int .i64 (chanAt x.chans e.frm)) ∧ Grow W w') := fun W hw => impl_chanAt_c x _ _ _ _ _ _ e.frm W (H0.out.grow' repChan_stable (Grow.below hw)) hn
              have HC2 : Hid (∀ (W : World) (hw : Grow w W), Calls Try.prog 72 #[.agg #[.int .i64 x.tick, .int .i64 x.next, .int .i64 x.wallet, .slice a0 x.chans.length c0, .slice a1 x.htlcs.length c1, .slice a2 x.circles.length c2], .int .i64 e.to] W fun e' w' => e' = .returned (.int .i64 (chanAt x.chans e.to)) ∧ Grow W w') := fun W hw => impl_chanAt_c x _ _ _ _ _ _ e.to W (H0.out.grow' repChan_stable (Grow.below hw)) hn
              generalize chanAt x.chans e.frm = p1 at *
              generalize chanAt x.chans e.to = p2 at *
              have hq1 : IntKind.i64.wrap (p1 + 1) = p1 + 1 := by rw [IntKind.wrap_i64]; omega
              have hq2 : IntKind.i64.wrap (p2 + 1) = p2 + 1 := by rw [IntKind.wrap_i64]; omega
              have HU := Lib.hid G
              have gq1d : U.drew.cell? ⟨V1.heap.size, 1, none⟩ = some v := gq1
              have hS0 : (fun W : World => W.cell? ⟨V1.heap.size, 1, none⟩ = some v ∧ W.cell? ⟨w.heap.size, 0, none⟩ = some (.int .i64 x.tick) ∧ W.cell? ⟨w.heap.size, 1, none⟩ = some (.int .i64 x.next) ∧ W.cell? ⟨w.heap.size, 2, none⟩ = some (.int .i64 x.wallet) ∧ W.cell? ⟨w.heap.size, 3, none⟩ = some (.slice a0 x.chans.length c0) ∧ W.cell? ⟨w.heap.size, 4, none⟩ = some (.slice a1 x.htlcs.length c1) ∧ W.cell? ⟨w.heap.size, 5, none⟩ = some (.slice a2 x.circles.length c2) ∧ W.cell? ⟨R4.heap.size, 0, none⟩ = some (.int .i64 e.frm) ∧ W.cell? ⟨R4.heap.size, 1, none⟩ = some (.int .i64 e.to) ∧ W.cell? ⟨R4.heap.size, 2, none⟩ = some (.int .i64 e.ppm)) U.drew := ⟨gq1, q0_0, q0_1, q0_2, q0_3, q0_4, q0_5, qc0, qc1, qc2⟩
              refine wp_region_G (f := 18) (S := fun W => W.cell? ⟨V1.heap.size, 1, none⟩ = some v ∧ W.cell? ⟨w.heap.size, 0, none⟩ = some (.int .i64 x.tick) ∧ W.cell? ⟨w.heap.size, 1, none⟩ = some (.int .i64 x.next) ∧ W.cell? ⟨w.heap.size, 2, none⟩ = some (.int .i64 x.wallet) ∧ W.cell? ⟨w.heap.size, 3, none⟩ = some (.slice a0 x.chans.length c0) ∧ W.cell? ⟨w.heap.size, 4, none⟩ = some (.slice a1 x.htlcs.length c1) ∧ W.cell? ⟨w.heap.size, 5, none⟩ = some (.slice a2 x.circles.length c2) ∧ W.cell? ⟨R4.heap.size, 0, none⟩ = some (.int .i64 e.frm) ∧ W.cell? ⟨R4.heap.size, 1, none⟩ = some (.int .i64 e.to) ∧ W.cell? ⟨R4.heap.size, 2, none⟩ = some (.int .i64 e.ppm)) (by kernel_rfl) ?_
              change wpAnyG _ _ _ _ _ _ 19 _ _ _
              refine wpAnyG_take' (i := 0) (by simp only [List.getElem?_toArray, List.getElem?_cons_succ, List.getElem?_cons_zero]; rfl) ?_
              refine ⟨by kernel_rfl, by kernel_rfl, by kernel_rfl, by kernel_rfl, by kernel_rfl, fun _ _ _ _ h => h, hS0, ?vprice0, Or.inl ⟨by rfl, ?hyprice0⟩, ?restprice0⟩
              case hyprice0 =>
                intro W hSw
                obtain ⟨s_0, s_1, s_2, s_3, s_4, s_5, s_6, s_7, s_8, s_9⟩ := hSw
                go_simp
                try with_reducible rfl
              (try simp only [Act.put, List.setIfInBounds_toArray, List.set_cons_zero, List.set_cons_succ])
              refine wpAnyG_take' (i := 1) (by simp only [List.getElem?_toArray, List.getElem?_cons_succ, List.getElem?_cons_zero]; rfl) ?_
              refine ⟨by kernel_rfl, by kernel_rfl, by kernel_rfl, by kernel_rfl, by kernel_rfl, fun _ _ _ _ h => h, hS0, ?vprice1, Or.inl ⟨by rfl, ?hyprice1⟩, ?restprice1⟩
              case hyprice1 =>
                intro W hSw
                obtain ⟨s_0, s_1, s_2, s_3, s_4, s_5, s_6, s_7, s_8, s_9⟩ := hSw
                go_simp
                try with_reducible rfl
              (try simp only [Act.put, List.setIfInBounds_toArray, List.set_cons_zero, List.set_cons_succ])
              refine wpAnyG_take' (i := 2) (by simp only [List.getElem?_toArray, List.getElem?_cons_succ, List.getElem?_cons_zero]; rfl) ?_
              refine ⟨by kernel_rfl, by kernel_rfl, by kernel_rfl, by kernel_rfl, by kernel_rfl, fun _ _ _ _ h => h, hS0, ?vprice2, Or.inl ⟨by rfl, ?hyprice2⟩, ?restprice2⟩
              case hyprice2 =>
                intro W hSw
                obtain ⟨s_0, s_1, s_2, s_3, s_4, s_5, s_6, s_7, s_8, s_9⟩ := hSw
                go_simp
                try with_reducible rfl
              (try simp only [Act.put, List.setIfInBounds_toArray, List.set_cons_zero, List.set_cons_succ])
              refine wpAnyG_take' (i := 3) (by simp only [List.getElem?_toArray, List.getElem?_cons_succ, List.getElem?_cons_zero]; rfl) ?_
              refine ⟨by kernel_rfl, by kernel_rfl, by kernel_rfl, by kernel_rfl, by kernel_rfl, fun _ _ _ _ h => h, hS0, ?vprice3, Or.inl ⟨by rfl, ?hyprice3⟩, ?restprice3⟩
              case hyprice3 =>
                intro W hSw
                obtain ⟨s_0, s_1, s_2, s_3, s_4, s_5, s_6, s_7, s_8, s_9⟩ := hSw
                go_simp
                try with_reducible rfl
              (try simp only [Act.put, List.setIfInBounds_toArray, List.set_cons_zero, List.set_cons_succ])
              refine wpAnyG_take' (i := 4) (by simp only [List.getElem?_toArray, List.getElem?_cons_succ, List.getElem?_cons_zero]; rfl) ?_
              refine ⟨by kernel_rfl, by kernel_rfl, by kernel_rfl, by kernel_rfl, by kernel_rfl, fun _ _ _ _ h => h, hS0, ?vprice4, Or.inl ⟨by rfl, ?hyprice4⟩, ?restprice4⟩
              case hyprice4 =>
                intro W hSw
                obtain ⟨s_0, s_1, s_2, s_3, s_4, s_5, s_6, s_7, s_8, s_9⟩ := hSw
                go_simp
                try with_reducible rfl
              (try simp only [Act.put, List.setIfInBounds_toArray, List.set_cons_zero, List.set_cons_succ])
              refine wpAnyG_take' (i := 7) (by simp only [List.getElem?_toArray, List.getElem?_cons_succ, List.getElem?_cons_zero]; rfl) ?_
              refine ⟨by kernel_rfl, by kernel_rfl, by kernel_rfl, by kernel_rfl, by kernel_rfl, fun _ _ _ _ h => h, hS0, ?vprice7, Or.inl ⟨by rfl, ?hyprice7⟩, ?restprice7⟩
              case hyprice7 =>
                intro W hSw
                obtain ⟨s_0, s_1, s_2, s_3, s_4, s_5, s_6, s_7, s_8, s_9⟩ := hSw
                go_simp
                try with_reducible rfl
              (try simp only [Act.put, List.setIfInBounds_toArray, List.set_cons_zero, List.set_cons_succ])
              refine wpAnyG_take' (i := 8) (by simp only [List.getElem?_toArray, List.getElem?_cons_succ, List.getElem?_cons_zero]; rfl) ?_
              refine ⟨by kernel_rfl, by kernel_rfl, by kernel_rfl, by kernel_rfl, by kernel_rfl, fun _ _ _ _ h => h, hS0, ?vprice8, Or.inl ⟨by rfl, ?hyprice8⟩, ?restprice8⟩
              case hyprice8 =>
                intro W hSw
                obtain ⟨s_0, s_1, s_2, s_3, s_4, s_5, s_6, s_7, s_8, s_9⟩ := hSw
                go_simp
                try with_reducible rfl
              (try simp only [Act.put, List.setIfInBounds_toArray, List.set_cons_zero, List.set_cons_succ])
              refine wpAnyG_take' (i := 9) (by simp only [List.getElem?_toArray, List.getElem?_cons_succ, List.getElem?_cons_zero]; rfl) ?_
              refine ⟨by kernel_rfl, by kernel_rfl, by kernel_rfl, by kernel_rfl, by kernel_rfl, fun _ _ _ _ h => h, hS0, ?vprice9, Or.inl ⟨by rfl, ?hyprice9⟩, ?restprice9⟩
              case hyprice9 =>
                intro W hSw
                obtain ⟨s_0, s_1, s_2, s_3, s_4, s_5, s_6, s_7, s_8, s_9⟩ := hSw
                go_simp
                try with_reducible rfl
              (try simp only [Act.put, List.setIfInBounds_toArray, List.set_cons_zero, List.set_cons_succ])
              refine wpAnyG_take' (i := 12) (by simp only [List.getElem?_toArray, List.getElem?_cons_succ, List.getElem?_cons_zero]; rfl) ?_
              refine ⟨by kernel_rfl, by kernel_rfl, by kernel_rfl, by kernel_rfl, by kernel_rfl, fun _ _ _ _ h => h, hS0, ?vprice12, Or.inl ⟨by rfl, ?hyprice12⟩, ?restprice12⟩
              case hyprice12 =>
                intro W hSw
                obtain ⟨s_0, s_1, s_2, s_3, s_4, s_5, s_6, s_7, s_8, s_9⟩ := hSw
                go_simp
                try with_reducible rfl
              (try simp only [Act.put, List.setIfInBounds_toArray, List.set_cons_zero, List.set_cons_succ])
              refine wpAnyG_take' (i := 13) (by simp only [List.getElem?_toArray, List.getElem?_cons_succ, List.getElem?_cons_zero]; rfl) ?_
              refine ⟨by kernel_rfl, by kernel_rfl, by kernel_rfl, by kernel_rfl, by kernel_rfl, fun _ _ _ _ h => h, hS0, ?vprice13, Or.inl ⟨by rfl, ?hyprice13⟩, ?restprice13⟩
              case hyprice13 =>
                intro W hSw
                obtain ⟨s_0, s_1, s_2, s_3, s_4, s_5, s_6, s_7, s_8, s_9⟩ := hSw
                go_simp
                try with_reducible rfl
              (try simp only [Act.put, List.setIfInBounds_toArray, List.set_cons_zero, List.set_cons_succ])
              refine wpAnyG_one (i := 5) (o := _) (by simp only [List.getElem?_toArray, List.getElem?_cons_succ, List.getElem?_cons_zero]; rfl) (by kernel_rfl) ?_
              intro K' hK
              have HK_ := Lib.hid hK; clear hK
              rw [if_pos (by rfl)]
              go_simp
              go_at_call 72
              refine (HC1.out _ HU.out.drew).mono ?_
              rintro e' w1 ⟨rfl, g1⟩
              have gU1 : Grow U w1 := ((Grow.refl U).drew).trans g1
              have hS1 : (fun W : World => W.cell? ⟨V1.heap.size, 1, none⟩ = some v ∧ W.cell? ⟨w.heap.size, 0, none⟩ = some (.int .i64 x.tick) ∧ W.cell? ⟨w.heap.size, 1, none⟩ = some (.int .i64 x.next) ∧ W.cell? ⟨w.heap.size, 2, none⟩ = some (.int .i64 x.wallet) ∧ W.cell? ⟨w.heap.size, 3, none⟩ = some (.slice a0 x.chans.length c0) ∧ W.cell? ⟨w.heap.size, 4, none⟩ = some (.slice a1 x.htlcs.length c1) ∧ W.cell? ⟨w.heap.size, 5, none⟩ = some (.slice a2 x.circles.length c2) ∧ W.cell? ⟨R4.heap.size, 0, none⟩ = some (.int .i64 e.frm) ∧ W.cell? ⟨R4.heap.size, 1, none⟩ = some (.int .i64 e.to) ∧ W.cell? ⟨R4.heap.size, 2, none⟩ = some (.int .i64 e.ppm)) w1 := ⟨cellGrow gU1 gq1, cellGrow gU1 q0_0, cellGrow gU1 q0_1, cellGrow gU1 q0_2, cellGrow gU1 q0_3, cellGrow gU1 q0_4, cellGrow gU1 q0_5, cellGrow gU1 qc0, cellGrow gU1 qc1, cellGrow gU1 qc2⟩
              refine HK_.out _ _ (fun _ => hS1) ?_
              (try simp only [Act.put, List.setIfInBounds_toArray, List.set_cons_zero, List.set_cons_succ])
              refine wpAnyG_take' (i := 6) (by simp only [List.getElem?_toArray, List.getElem?_cons_succ, List.getElem?_cons_zero]; rfl) ?_
              refine ⟨by kernel_rfl, by kernel_rfl, by kernel_rfl, by kernel_rfl, by kernel_rfl, fun _ _ _ _ h => h, hS1, ?vprice6, Or.inl ⟨by rfl, ?hyprice6⟩, ?restprice6⟩
              case hyprice6 =>
                intro W hSw
                obtain ⟨s_0, s_1, s_2, s_3, s_4, s_5, s_6, s_7, s_8, s_9⟩ := hSw
                go_simp
                try with_reducible rfl
              (try simp only [Act.put, List.setIfInBounds_toArray, List.set_cons_zero, List.set_cons_succ])
              refine wpAnyG_one (i := 10) (o := _) (by simp only [List.getElem?_toArray, List.getElem?_cons_succ, List.getElem?_cons_zero]; rfl) (by kernel_rfl) ?_
              intro K' hK
              have HK_ := Lib.hid hK; clear hK
              rw [if_pos (by rfl)]
              go_simp
              go_at_call 72
              refine (HC2.out _ (HU.out.trans gU1)).mono ?_
              rintro e' w2 ⟨rfl, g2⟩
              have gU2 : Grow U w2 := gU1.trans g2
              have hS2 : (fun W : World => W.cell? ⟨V1.heap.size, 1, none⟩ = some v ∧ W.cell? ⟨w.heap.size, 0, none⟩ = some (.int .i64 x.tick) ∧ W.cell? ⟨w.heap.size, 1, none⟩ = some (.int .i64 x.next) ∧ W.cell? ⟨w.heap.size, 2, none⟩ = some (.int .i64 x.wallet) ∧ W.cell? ⟨w.heap.size, 3, none⟩ = some (.slice a0 x.chans.length c0) ∧ W.cell? ⟨w.heap.size, 4, none⟩ = some (.slice a1 x.htlcs.length c1) ∧ W.cell? ⟨w.heap.size, 5, none⟩ = some (.slice a2 x.circles.length c2) ∧ W.cell? ⟨R4.heap.size, 0, none⟩ = some (.int .i64 e.frm) ∧ W.cell? ⟨R4.heap.size, 1, none⟩ = some (.int .i64 e.to) ∧ W.cell? ⟨R4.heap.size, 2, none⟩ = some (.int .i64 e.ppm)) w2 := ⟨cellGrow gU2 gq1, cellGrow gU2 q0_0, cellGrow gU2 q0_1, cellGrow gU2 q0_2, cellGrow gU2 q0_3, cellGrow gU2 q0_4, cellGrow gU2 q0_5, cellGrow gU2 qc0, cellGrow gU2 qc1, cellGrow gU2 qc2⟩
              refine HK_.out _ _ (fun _ => hS2) ?_
              (try simp only [Act.put, List.setIfInBounds_toArray, List.set_cons_zero, List.set_cons_succ])
              refine wpAnyG_take' (i := 11) (by simp only [List.getElem?_toArray, List.getElem?_cons_succ, List.getElem?_cons_zero]; rfl) ?_
              refine ⟨by kernel_rfl, by kernel_rfl, by kernel_rfl, by kernel_rfl, by kernel_rfl, fun _ _ _ _ h => h, hS2, ?vprice11, Or.inl ⟨by rfl, ?hyprice11⟩, ?restprice11⟩
              case hyprice11 =>
                intro W hSw
                obtain ⟨s_0, s_1, s_2, s_3, s_4, s_5, s_6, s_7, s_8, s_9⟩ := hSw
                go_simp
                try with_reducible rfl
              (try simp only [Act.put, List.setIfInBounds_toArray, List.set_cons_zero, List.set_cons_succ])
              refine wpAnyG_take' (i := 14) (by simp only [List.getElem?_toArray, List.getElem?_cons_succ, List.getElem?_cons_zero]; rfl) ?_
              refine ⟨by kernel_rfl, by kernel_rfl, by kernel_rfl, by kernel_rfl, by kernel_rfl, fun _ _ _ _ h => h, hS2, ?vprice14, Or.inl ⟨by rfl, ?hyprice14⟩, ?restprice14⟩
              case hyprice14 =>
                intro W hSw
                obtain ⟨s_0, s_1, s_2, s_3, s_4, s_5, s_6, s_7, s_8, s_9⟩ := hSw
                go_simp
                try with_reducible rfl
              (try simp only [Act.put, List.setIfInBounds_toArray, List.set_cons_zero, List.set_cons_succ])
              refine wpAnyG_one (i := 15) (o := _) (by simp only [List.getElem?_toArray, List.getElem?_cons_succ, List.getElem?_cons_zero]; rfl) (by kernel_rfl) ?_
              intro K' hK
              have HK_ := Lib.hid hK; clear hK
              rw [if_pos (by rfl)]
              go_simp
              have hS3 : (fun W : World => W.cell? ⟨V1.heap.size, 1, none⟩ = some v ∧ W.cell? ⟨w.heap.size, 0, none⟩ = some (.int .i64 x.tick) ∧ W.cell? ⟨w.heap.size, 1, none⟩ = some (.int .i64 x.next) ∧ W.cell? ⟨w.heap.size, 2, none⟩ = some (.int .i64 x.wallet) ∧ W.cell? ⟨w.heap.size, 3, none⟩ = some (.slice a0 x.chans.length c0) ∧ W.cell? ⟨w.heap.size, 4, none⟩ = some (.slice a1 x.htlcs.length c1) ∧ W.cell? ⟨w.heap.size, 5, none⟩ = some (.slice a2 x.circles.length c2) ∧ W.cell? ⟨R4.heap.size, 0, none⟩ = some (.int .i64 e.frm) ∧ W.cell? ⟨R4.heap.size, 1, none⟩ = some (.int .i64 e.to) ∧ W.cell? ⟨R4.heap.size, 2, none⟩ = some (.int .i64 e.ppm)) (w2.alloc (.cells #[.int .i64 (p1 + 1), .int .i64 (p2 + 1), .int .i64 1000000000, .int .i64 e.ppm] 123)) := ⟨cellGrow (gU2.alloc _ _) gq1, cellGrow (gU2.alloc _ _) q0_0, cellGrow (gU2.alloc _ _) q0_1, cellGrow (gU2.alloc _ _) q0_2, cellGrow (gU2.alloc _ _) q0_3, cellGrow (gU2.alloc _ _) q0_4, cellGrow (gU2.alloc _ _) q0_5, cellGrow (gU2.alloc _ _) qc0, cellGrow (gU2.alloc _ _) qc1, cellGrow (gU2.alloc _ _) qc2⟩
              refine HK_.out _ _ (fun _ => hS3) ?_
              (try simp only [Act.put, List.setIfInBounds_toArray, List.set_cons_zero, List.set_cons_succ])
              refine wpAnyG_one (i := 16) (o := _) (by simp only [List.getElem?_toArray, List.getElem?_cons_succ, List.getElem?_cons_zero]; rfl) (by kernel_rfl) ?_
              intro K' hK
              have HK_ := Lib.hid hK; clear hK
              refine step_append_g rfl (.tmp 119) (.tmp 133) 29 rfl V1 ((HGV.out.trans gU2).alloc _ _) 123 i0 _ 4 32 Try.underlying29 hi0 hz0 hz1 hz2 rfl (by omega) v es.length (es.flatMap encEdge) rfl (own_grow HGR.out.own (gU2.alloc _ _)) ⟨w2.heap.size, 0, none⟩ 1 1 [.int .i64 (p1 + 1), .int .i64 (p2 + 1), .int .i64 1000000000, .int .i64 e.ppm] rfl rfl (news_of _ _ _ _ (by simp [hq1, hq2])) (one_edge _ _ _ _) (by simp only [maxLen]; omega) (by omega) ?_
              intro v1 w3 hown' hg' hgb hat
              obtain ⟨va, vc, rfl⟩ := own_form hown'
              (try simp only [hq1, hq2] at hgb)
              have hgu : Grow U (w2.alloc (.cells #[.int .i64 (p1 + 1), .int .i64 (p2 + 1), .int .i64 1000000000, .int .i64 e.ppm] 123)) := gU2.alloc _ _
              have s0 : w3.cell? ⟨V1.heap.size, 0, none⟩ = some (.int .i64 ((x.chans.length : Int) + 1)) := cellKept hgb HGR.out.ne (cellGrow hgu gq0)
              have s1 : w3.cell? ⟨V1.heap.size, 1, none⟩ = some v := cellKept hgb HGR.out.ne (cellGrow hgu gq1)
              have z1 : V1.heap.size < w3.heap.size := lt_of_cell s0
              have fz1 : ∀ o, w3.frozen? ⟨V1.heap.size, o, none⟩ = false := fun o => hg'.nf _ o (by omega) z1
              have HPUSH := Lib.hid (GRow.push (e := ⟨p1 + 1, p2 + 1, 1000000000, e.ppm⟩) (HGR.out.grow hgu) hown' hgb hat)
              have HGN := Lib.hid (hg'.setCell (p := ⟨V1.heap.size, 1, none⟩) (Nat.le_refl _) (.slice va (es.length + 1) vc))
              have r0 : w3.cell? ⟨w.heap.size, 0, none⟩ = some (.int .i64 x.tick) := cellGrow hg' (cell_back HGV.out (by omega) q0_0)
              have r1 : w3.cell? ⟨w.heap.size, 1, none⟩ = some (.int .i64 x.next) := cellGrow hg' (cell_back HGV.out (by omega) q0_1)
              have r2 : w3.cell? ⟨w.heap.size, 2, none⟩ = some (.int .i64 x.wallet) := cellGrow hg' (cell_back HGV.out (by omega) q0_2)
              have r3 : w3.cell? ⟨w.heap.size, 3, none⟩ = some (.slice a0 x.chans.length c0) := cellGrow hg' (cell_back HGV.out (by omega) q0_3)
              have r4 : w3.cell? ⟨w.heap.size, 4, none⟩ = some (.slice a1 x.htlcs.length c1) := cellGrow hg' (cell_back HGV.out (by omega) q0_4)
              have r5 : w3.cell? ⟨w.heap.size, 5, none⟩ = some (.slice a2 x.circles.length c2) := cellGrow hg' (cell_back HGV.out (by omega) q0_5)
              have r6 : w3.cell? ⟨R4.heap.size, 0, none⟩ = some (.int .i64 e.frm) := cellKept hgb HNE.out (cellGrow hgu qc0)
              have r7 : w3.cell? ⟨R4.heap.size, 1, none⟩ = some (.int .i64 e.to) := cellKept hgb HNE.out (cellGrow hgu qc1)
              have r8 : w3.cell? ⟨R4.heap.size, 2, none⟩ = some (.int .i64 e.ppm) := cellKept hgb HNE.out (cellGrow hgu qc2)
              clear hown' hg' hgb hat hgu
              have hS4 : (fun W : World => W.cell? ⟨V1.heap.size, 1, none⟩ = some v ∧ W.cell? ⟨w.heap.size, 0, none⟩ = some (.int .i64 x.tick) ∧ W.cell? ⟨w.heap.size, 1, none⟩ = some (.int .i64 x.next) ∧ W.cell? ⟨w.heap.size, 2, none⟩ = some (.int .i64 x.wallet) ∧ W.cell? ⟨w.heap.size, 3, none⟩ = some (.slice a0 x.chans.length c0) ∧ W.cell? ⟨w.heap.size, 4, none⟩ = some (.slice a1 x.htlcs.length c1) ∧ W.cell? ⟨w.heap.size, 5, none⟩ = some (.slice a2 x.circles.length c2) ∧ W.cell? ⟨R4.heap.size, 0, none⟩ = some (.int .i64 e.frm) ∧ W.cell? ⟨R4.heap.size, 1, none⟩ = some (.int .i64 e.to) ∧ W.cell? ⟨R4.heap.size, 2, none⟩ = some (.int .i64 e.ppm)) w3 := ⟨s1, r0, r1, r2, r3, r4, r5, r6, r7, r8⟩
              refine HK_.out _ _ (fun _ => hS4) ?_
              (try simp only [Act.put, List.setIfInBounds_toArray, List.set_cons_zero, List.set_cons_succ])
              refine wpAnyG_take' (i := 17) (by simp only [List.getElem?_toArray, List.getElem?_cons_succ, List.getElem?_cons_zero]; rfl) ?_
              refine ⟨by kernel_rfl, by kernel_rfl, by kernel_rfl, by kernel_rfl, by kernel_rfl, fun _ _ _ _ h => h, hS4, ?vprice17, Or.inl ⟨by rfl, ?hyprice17⟩, ?restprice17⟩
              case hyprice17 =>
                intro W hSw
                obtain ⟨s_0, s_1, s_2, s_3, s_4, s_5, s_6, s_7, s_8, s_9⟩ := hSw
                go_simp
                try with_reducible rfl
              (try simp only [Act.put, List.setIfInBounds_toArray, List.set_cons_zero, List.set_cons_succ])
              refine wpAnyG_one (i := 18) (o := _) (by simp only [List.getElem?_toArray, List.getElem?_cons_succ, List.getElem?_cons_zero]; rfl) (by kernel_rfl) ?_
              intro K' hK
              have HK_ := Lib.hid hK; clear hK
              rw [if_pos (by rfl)]
              go_simp
              refine HK_.out _ _ (fun h => absurd rfl h) (wpAnyG_done (by kernel_rfl) ?_ _)
              all_goals (go_wp2_with fail)
              all_goals
                go_roundg (l.length - (k + 1))
                case measure => have := HK.out; omega
                case rel => exact ⟨k + 1, (.slice va (es.length + 1) vc), by have := HK.out; omega, by go_num, by rw [HM.out, HPE.out]; first | exact HPUSH.out | (rw [← List.append_assoc, HES.out]; exact HPUSH.out), HGN.out⟩
            · obtain rfl : k = l.length := by omega
              clear hk hlt
              have hge := HYG.out HOK.out
              have HGE := Lib.hid hge; clear hge
              have hgr := HGR.out
              rw [List.take_length] at hgr
              have hpe : upK (overE lo hi) x.chans x.chans.length ++ upK (underE lo hi gain) x.chans x.chans.length ++ l.map (priceE x.chans) = planE x.chans lo hi gain l := rfl
              rw [hpe] at hgr
              clear hpe
              have SE : SlR 4 repEdge R4 V1.heap.size R4.heap.size v (planE x.chans lo hi gain l) := SlR.of_own length_encEdge hgr.own (fun y hy => ⟨rfl, (HSM.out y hy).wf⟩)
              have SE' := SE
              obtain ⟨av, cv, rfl, _, _, _⟩ := SE'
              have HSE := Lib.hid SE; clear SE
              have gq0 := hgr.box.c 0 _ rfl
              have gq1 := hgr.box.c 1 _ rfl
              have gz := hgr.box.lt
              clear hgr
              have z0 := B0.lt
              have z1 := B1.lt
              have q0_0 : R4.cell? ⟨w.heap.size, 0, none⟩ = some (.int .i64 x.tick) := B0.c 0 _ rfl
              have q0_1 : R4.cell? ⟨w.heap.size, 1, none⟩ = some (.int .i64 x.next) := B0.c 1 _ rfl
              have q0_2 : R4.cell? ⟨w.heap.size, 2, none⟩ = some (.int .i64 x.wallet) := B0.c 2 _ rfl
              have q0_3 : R4.cell? ⟨w.heap.size, 3, none⟩ = some (.slice a0 x.chans.length c0) := B0.c 3 _ rfl
              have q0_4 : R4.cell? ⟨w.heap.size, 4, none⟩ = some (.slice a1 x.htlcs.length c1) := B0.c 4 _ rfl
              have q0_5 : R4.cell? ⟨w.heap.size, 5, none⟩ = some (.slice a2 x.circles.length c2) := B0.c 5 _ rfl
              have f0 := B0.f
              have q1_0 : R4.cell? ⟨w.heap.size + 1, 0, none⟩ = some (.int .i64 0) := B1.c 0 _ rfl
              have q1_1 : R4.cell? ⟨w.heap.size + 1, 1, none⟩ = some (.slice none 0 0) := B1.c 1 _ rfl
              have f1 := B1.f
              generalize hpl : planE x.chans lo hi gain l = pe at *
              have HPL := Lib.hid hpl; clear hpl
              go_wp2_with fail
              refine bodyPost_ret (v := .tuple #[.agg #[.int .i64 ((x.chans.length : Int) + 1), .slice av pe.length cv], .bool true]) (by simp [results, Try.results34, go_sem, q1_0, q1_1]) rfl ⟨av, cv, ?_, ?_, ?_⟩
              · rw [HGE.out, HOK.out]
              · exact ((G.setCell (by show w.heap.size ≤ w.heap.size + 1; omega) _).setCell (by show w.heap.size ≤ w.heap.size + 1; omega) _)
              · rw [HGE.out]
                have h := (HSE.out.same repEdge_stable (((Same.refl _ _ _).setCell (p := ⟨w.heap.size + 1, 0, none⟩) (.inl hgw) (.int .i64 ((x.chans.length : Int) + 1))).setCell (p := ⟨w.heap.size + 1, 1, none⟩) (.inl hgw) (.slice av pe.length cv))).stable repEdge_stable (Same.refl _ _ _) (lo' := w.heap.size) (by omega) (Nat.le_refl _)
                have e : ∀ (W : World) p u q t, ((W.setCell p u).setCell q t).heap.size = W.heap.size := fun W p u q t => by rw [World.size_setCell, World.size_setCell]
                refine h.stable repEdge_stable (Same.refl _ _ _) (Nat.le_refl _) (by rw [World.size_setCell, World.size_setCell]; exact Nat.le_refl _)

set_option maxHeartbeats 8000000 in
set_option maxRecDepth 100000 in
theorem spec_PlanGraph_c (x : Book) (a0 : Option Addr) (c0 : Nat) (a1 : Option Addr) (c1 : Nat) (a2 : Option Addr) (c2 : Nat) (lo hi gain : Int) (l : List Price) (a3 : Option Addr) (c3 : Nat) (w : World) (h0 : SlR 7 repChan w 0 w.heap.size (.slice a0 x.chans.length c0) x.chans) (h1 : SlR 7 repHtlc w 0 w.heap.size (.slice a1 x.htlcs.length c1) x.htlcs) (h2 : SlR 5 repCircle w 0 w.heap.size (.slice a2 x.circles.length c2) x.circles) (h3 : SlR 3 repPrice w 0 w.heap.size (.slice a3 l.length c3) l) (hn : x.chans.length ≤ 1048576) (hl : l.length ≤ 1048576) :
    Calls Try.prog 32 #[.agg #[.int .i64 x.tick, .int .i64 x.next, .int .i64 x.wallet, .slice a0 x.chans.length c0, .slice a1 x.htlcs.length c1, .slice a2 x.circles.length c2], .int .i64 lo, .int .i64 hi, .int .i64 gain, .slice a3 l.length c3] w fun e w' => ∃ a c, e = .returned (.tuple #[.agg #[.int .i64 (planG x lo hi gain l).n, .slice a (planG x lo hi gain l).edges.length c], .bool (planOk x lo hi gain l)]) ∧ Grow w w' ∧ SlR 4 repEdge w' w.heap.size w'.heap.size (.slice a (planG x lo hi gain l).edges.length c) (planG x lo hi gain l).edges := by
  obtain ⟨i0, hi0, hz0, hz1, hz2⟩ := info_parts infoEdge'
  have H0 := Lib.hid h0; have H1 := Lib.hid h1; have H2 := Lib.hid h2; have H3 := Lib.hid h3
  clear h0 h1 h2 h3
  have HP : Hid (planOk x lo hi gain l = (pricesOk x l && band lo hi && inB gain 0 1000000)) := rfl
  have HNG : Hid (planOk x lo hi gain l = false → planG x lo hi gain l = ⟨0, []⟩) := fun h => if_neg (by rw [h]; simp)
  have HYG : Hid (planOk x lo hi gain l = true → planG x lo hi gain l = ⟨((x.chans.length : Int) + 1), planE x.chans lo hi gain l⟩) := fun h => if_pos h
  have HL := Lib.hid hl
  go_enter Try.func32, Try.ntmps32
  go_wp2_with fail
  refine (spec_PricesOk_c x _ _ _ _ _ _ l _ _ _ (H0.out.grow' repChan_stable (Grow.below (((Grow.refl w).alloc _ _).alloc _ _))) (H1.out.grow' repHtlc_stable (Grow.below (((Grow.refl w).alloc _ _).alloc _ _))) (H2.out.grow' repCircle_stable (Grow.below (((Grow.refl w).alloc _ _).alloc _ _))) (H3.out.grow' repPrice_stable (Grow.below (((Grow.refl w).alloc _ _).alloc _ _))) hn hl).mono ?_
  rintro e V1 ⟨rfl, gs⟩
  have ys := Grow.size gs
  simp only [World.size_setCell, World.size_alloc] at ys
  have B0 : Box V1 (w.heap.size) [.int .i64 x.tick, .int .i64 x.next, .int .i64 x.wallet, .slice a0 x.chans.length c0, .slice a1 x.htlcs.length c1, .slice a2 x.circles.length c2] := Box.grow ((Box.newAt (by simp) _ _).alloc _ _) gs
  have B1 : Box V1 (w.heap.size + 1) [.int .i64 0, .slice none 0 0] := Box.grow (Box.newAt (by simp) _ _) gs
  have G : Grow w V1 := Grow.trans (((Grow.refl w).alloc _ _).alloc _ _) gs
  clear gs
  have z0 := B0.lt
  have z1 := B1.lt
  have q0_0 : V1.cell? ⟨w.heap.size, 0, none⟩ = some (.int .i64 x.tick) := B0.c 0 _ rfl
  have q0_1 : V1.cell? ⟨w.heap.size, 1, none⟩ = some (.int .i64 x.next) := B0.c 1 _ rfl
  have q0_2 : V1.cell? ⟨w.heap.size, 2, none⟩ = some (.int .i64 x.wallet) := B0.c 2 _ rfl
  have q0_3 : V1.cell? ⟨w.heap.size, 3, none⟩ = some (.slice a0 x.chans.length c0) := B0.c 3 _ rfl
  have q0_4 : V1.cell? ⟨w.heap.size, 4, none⟩ = some (.slice a1 x.htlcs.length c1) := B0.c 4 _ rfl
  have q0_5 : V1.cell? ⟨w.heap.size, 5, none⟩ = some (.slice a2 x.circles.length c2) := B0.c 5 _ rfl
  have f0 := B0.f
  have q1_0 : V1.cell? ⟨w.heap.size + 1, 0, none⟩ = some (.int .i64 0) := B1.c 0 _ rfl
  have q1_1 : V1.cell? ⟨w.heap.size + 1, 1, none⟩ = some (.slice none 0 0) := B1.c 1 _ rfl
  have f1 := B1.f
  cases hp : pricesOk x l
  · have HB : Hid (planOk x lo hi gain l = false) := by
      show _ = _
      rw [HP.out, hp]; simp
    have HG := Lib.hid (HNG.out HB.out)
    go_wp2_with (go_at_call 79; refine (spec_Band_c _ _ _).mono ?_; (try rw [hb]); rintro e w' ⟨rfl, rfl⟩)
    all_goals
      refine bodyPost_ret (v := .tuple #[.agg #[.int .i64 0, .slice none 0 0], .bool false]) (by simp [results, Try.results32, go_sem, q1_0, q1_1]) rfl ⟨none, 0, ?_, ?_, ?_⟩
      · rw [HG.out, HB.out]; rfl
      · exact ((G.setCell (by show w.heap.size ≤ w.heap.size + 1; omega) _).setCell (by show w.heap.size ≤ w.heap.size + 1; omega) _)
      · rw [HG.out]; exact SlR.nil
  cases hb : band lo hi
  · have HB : Hid (planOk x lo hi gain l = false) := by
      show _ = _
      rw [HP.out, hp, hb]; simp
    have HG := Lib.hid (HNG.out HB.out)
    go_wp2_with (go_at_call 79; refine (spec_Band_c _ _ _).mono ?_; (try rw [hb]); rintro e w' ⟨rfl, rfl⟩)
    all_goals
      refine bodyPost_ret (v := .tuple #[.agg #[.int .i64 0, .slice none 0 0], .bool false]) (by simp [results, Try.results32, go_sem, q1_0, q1_1]) rfl ⟨none, 0, ?_, ?_, ?_⟩
      · rw [HG.out, HB.out]; rfl
      · exact ((G.setCell (by show w.heap.size ≤ w.heap.size + 1; omega) _).setCell (by show w.heap.size ≤ w.heap.size + 1; omega) _)
      · rw [HG.out]; exact SlR.nil
  cases hg : inB gain 0 1000000
  · rcases inB_false.1 hg with hg2 | hg2
    · have qg : decide (gain < 0) = true := by simp; omega
      have HB : Hid (planOk x lo hi gain l = false) := by
        show _ = _
        rw [HP.out, hp, hb, hg]; simp
      have HG := Lib.hid (HNG.out HB.out)
      go_wp2_with (go_at_call 79; refine (spec_Band_c _ _ _).mono ?_; (try rw [hb]); rintro e w' ⟨rfl, rfl⟩)
      all_goals
        refine bodyPost_ret (v := .tuple #[.agg #[.int .i64 0, .slice none 0 0], .bool false]) (by simp [results, Try.results32, go_sem, q1_0, q1_1]) rfl ⟨none, 0, ?_, ?_, ?_⟩
        · rw [HG.out, HB.out]; rfl
        · exact ((G.setCell (by show w.heap.size ≤ w.heap.size + 1; omega) _).setCell (by show w.heap.size ≤ w.heap.size + 1; omega) _)
        · rw [HG.out]; exact SlR.nil
    · have qg : decide (gain < 0) = false := by simp; omega
      have qg2 : decide (1000000 < gain) = true := by simp; omega
      have HB : Hid (planOk x lo hi gain l = false) := by
        show _ = _
        rw [HP.out, hp, hb, hg]; simp
      have HG := Lib.hid (HNG.out HB.out)
      go_wp2_with (go_at_call 79; refine (spec_Band_c _ _ _).mono ?_; (try rw [hb]); rintro e w' ⟨rfl, rfl⟩)
      all_goals
        refine bodyPost_ret (v := .tuple #[.agg #[.int .i64 0, .slice none 0 0], .bool false]) (by simp [results, Try.results32, go_sem, q1_0, q1_1]) rfl ⟨none, 0, ?_, ?_, ?_⟩
        · rw [HG.out, HB.out]; rfl
        · exact ((G.setCell (by show w.heap.size ≤ w.heap.size + 1; omega) _).setCell (by show w.heap.size ≤ w.heap.size + 1; omega) _)
        · rw [HG.out]; exact SlR.nil
  have hok : planOk x lo hi gain l = true := by rw [HP.out, hp, hb, hg]; rfl
  obtain ⟨hc20, hl20, hloc, hg1, hg2⟩ := planOk_facts hok
  have HSM := Lib.hid (plan_small hok (prices_ppm hp))
  have HLOC := Lib.hid hloc; clear hloc
  have HOK := Lib.hid hok; clear hok
  have qg : decide (gain < 0) = false := by simp; omega
  have qg2 : decide (1000000 < gain) = false := by simp; omega
  go_wp2_with (go_at_call 79; refine (spec_Band_c _ _ _).mono ?_; (try rw [hb]); rintro e w' ⟨rfl, rfl⟩)
  clear hp hb hg qg qg2
  have GR : GRow (V1.alloc (.cells #[.int .i64 ((x.chans.length : Int) + 1), .slice none 0 0] 31)) V1 V1.heap.size ((x.chans.length : Int) + 1) (.slice none 0 0) [] := ⟨Box.new _ _ _, World.ownsRow_nil _ _ _ _, by simp [Value.ownBlock]⟩
  have hg : Grow V1 (V1.alloc (.cells #[.int .i64 ((x.chans.length : Int) + 1), .slice none 0 0] 31)) := (Grow.refl _).alloc _ _
  have HG0 := Lib.hid G; have HB0 := Lib.hid B0; have HB1 := Lib.hid B1
  have hgw : w.heap.size + 1 < V1.heap.size := B1.lt
  clear z0 z1 q0_0 q0_1 q0_2 q0_3 q0_4 q0_5 f0 q1_0 q1_1 f1
  clear G B0 B1
  go_loopg [50] x.chans.length (fun g i wr => ∃ (k : Nat) (v : Value), k + g = x.chans.length ∧ i = .int .i64 k ∧ GRow wr V1 V1.heap.size ((x.chans.length : Int) + 1) v (upK (overE lo hi) x.chans k) ∧ Grow V1 wr)
  case atStart => exact ⟨0, .slice none 0 0, by simp, rfl, GR, hg⟩
  case round =>
    clear hg GR
    obtain ⟨k, v, hk, rfl, GR, hg⟩ := hrel
    obtain ⟨R2, rfl⟩ : ∃ V, V = wr := ⟨_, rfl⟩
    have G := HG0.out.trans hg
    have B0 := HB0.out.grow hg
    have B1 := HB1.out.grow hg
    have HGR := Lib.hid GR; clear GR
    by_cases hlt : k < x.chans.length
    · have HK := Lib.hid hk; clear hk
      have HGV := Lib.hid hg; clear hg
      have HM : Hid (upK (overE lo hi) x.chans (k+1) = upK (overE lo hi) x.chans k ++ overE lo hi k x.chans[k]) := upK_succ hlt
      have hel20 : (upK (overE lo hi) x.chans k).length ≤ 60 := by have := upK_len (f := overE lo hi) (l := x.chans) (overE_len lo hi) k; omega
      have HNE : Hid (v.ownBlock ≠ some R2.heap.size) := own_ne HGR.out.own (Nat.le_refl _)
      have gzr : V1.heap.size < R2.heap.size := HGR.out.box.lt
      have z0 := B0.lt
      have z1 := B1.lt
      have q0_0 : R2.cell? ⟨w.heap.size, 0, none⟩ = some (.int .i64 x.tick) := B0.c 0 _ rfl
      have q0_1 : R2.cell? ⟨w.heap.size, 1, none⟩ = some (.int .i64 x.next) := B0.c 1 _ rfl
      have q0_2 : R2.cell? ⟨w.heap.size, 2, none⟩ = some (.int .i64 x.wallet) := B0.c 2 _ rfl
      have q0_3 : R2.cell? ⟨w.heap.size, 3, none⟩ = some (.slice a0 x.chans.length c0) := B0.c 3 _ rfl
      have q0_4 : R2.cell? ⟨w.heap.size, 4, none⟩ = some (.slice a1 x.htlcs.length c1) := B0.c 4 _ rfl
      have q0_5 : R2.cell? ⟨w.heap.size, 5, none⟩ = some (.slice a2 x.circles.length c2) := B0.c 5 _ rfl
      have f0 := B0.f
      have q1_0 : R2.cell? ⟨w.heap.size + 1, 0, none⟩ = some (.int .i64 0) := B1.c 0 _ rfl
      have q1_1 : R2.cell? ⟨w.heap.size + 1, 1, none⟩ = some (.slice none 0 0) := B1.c 1 _ rfl
      have f1 := B1.f
      have hcl := HLOC.out _ (List.getElem_mem hlt)
      obtain ⟨b_c, off_c, ha_c, hb1_c, hb2_c, hel_c⟩ := H0.out.elems k hlt
      obtain ⟨ec0, ec1, ec2, ec3, ec4, ec5, ec6, -⟩ := Chan.atCell (hel_c.same repChan_stable (G.same (Nat.le_refl _)) hb1_c hb2_c) k hlt
      subst ha_c
      clear hel_c
      generalize x.chans[k] = c at *
      obtain ⟨hcl1, hcl2⟩ := hcl
      generalize hes : (upK (overE lo hi) x.chans k) = es at *
      have HES := Lib.hid hes; clear hes
      have hkk : (k : Int) ≤ 60 := by omega
      go_wp2_with fail
      refine (spec_Ends_c c lo hi _).mono ?_
      rintro e U ⟨rfl, gs⟩
      have gU : Grow R2 U := ((Grow.refl R2).alloc _ _).trans gs
      have BC : Box U R2.heap.size [.int .i64 c.id, .int .i64 c.size, .int .i64 c.loc, .int .i64 c.remote, .int .i64 c.base, .int .i64 c.ppm, .int .i64 c.score] := (Box.new R2 _ _).grow gs
      clear gs
      clear z0 z1 q0_0 q0_1 q0_2 q0_3 q0_4 q0_5 f0 q1_0 q1_1 f1
      replace HGR : Hid (GRow U V1 V1.heap.size ((x.chans.length : Int) + 1) v es) := HGR.out.grow gU
      replace HGV : Hid (Grow V1 U) := HGV.out.trans gU
      replace G := G.trans gU
      replace B0 := B0.grow gU
      replace B1 := B1.grow gU
      clear gU
      have z0 := B0.lt
      have z1 := B1.lt
      have q0_0 : U.cell? ⟨w.heap.size, 0, none⟩ = some (.int .i64 x.tick) := B0.c 0 _ rfl
      have q0_1 : U.cell? ⟨w.heap.size, 1, none⟩ = some (.int .i64 x.next) := B0.c 1 _ rfl
      have q0_2 : U.cell? ⟨w.heap.size, 2, none⟩ = some (.int .i64 x.wallet) := B0.c 2 _ rfl
      have q0_3 : U.cell? ⟨w.heap.size, 3, none⟩ = some (.slice (some ⟨b_c, off_c, none⟩) x.chans.length c0) := B0.c 3 _ rfl
      have q0_4 : U.cell? ⟨w.heap.size, 4, none⟩ = some (.slice a1 x.htlcs.length c1) := B0.c 4 _ rfl
      have q0_5 : U.cell? ⟨w.heap.size, 5, none⟩ = some (.slice a2 x.circles.length c2) := B0.c 5 _ rfl
      have f0 := B0.f
      have q1_0 : U.cell? ⟨w.heap.size + 1, 0, none⟩ = some (.int .i64 0) := B1.c 0 _ rfl
      have q1_1 : U.cell? ⟨w.heap.size + 1, 1, none⟩ = some (.slice none 0 0) := B1.c 1 _ rfl
      have f1 := B1.f
      have zc := BC.lt
      have qc0 : U.cell? ⟨R2.heap.size, 0, none⟩ = some (.int .i64 c.id) := BC.c 0 _ rfl
      have qc1 : U.cell? ⟨R2.heap.size, 1, none⟩ = some (.int .i64 c.size) := BC.c 1 _ rfl
      have qc2 : U.cell? ⟨R2.heap.size, 2, none⟩ = some (.int .i64 c.loc) := BC.c 2 _ rfl
      have qc3 : U.cell? ⟨R2.heap.size, 3, none⟩ = some (.int .i64 c.remote) := BC.c 3 _ rfl
      have qc4 : U.cell? ⟨R2.heap.size, 4, none⟩ = some (.int .i64 c.base) := BC.c 4 _ rfl
      have qc5 : U.cell? ⟨R2.heap.size, 5, none⟩ = some (.int .i64 c.ppm) := BC.c 5 _ rfl
      have qc6 : U.cell? ⟨R2.heap.size, 6, none⟩ = some (.int .i64 c.score) := BC.c 6 _ rfl
      have gq0 : U.cell? ⟨V1.heap.size, 0, none⟩ = some (.int .i64 ((x.chans.length : Int) + 1)) := HGR.out.box.c 0 _ rfl
      have gq1 : U.cell? ⟨V1.heap.size, 1, none⟩ = some v := HGR.out.box.c 1 _ rfl
      have gz : V1.heap.size < U.heap.size := HGR.out.box.lt
      have hebd := ends_bd (size := c.size) (lo := lo) (hi := hi)
      obtain ⟨⟨he1, he2⟩, he3, he4⟩ := hebd
      by_cases t : ends2 c.size lo hi < c.loc
      · have HT := Lib.hid (overE_yes (lo := lo) (hi := hi) (i := k) (c := c) t)
        have T : decide (ends2 c.size lo hi < c.loc) = true := by simpa using t
        generalize ends1 c.size lo hi = e1 at *
        generalize ends2 c.size lo hi = e2 at *
        have hcap : capE (c.loc - e2) = min (c.loc - e2) 1000000000 := rfl
        have hcb : -1 ≤ capE (c.loc - e2) ∧ capE (c.loc - e2) ≤ 1000000000 := by rw [hcap]; omega
        obtain ⟨hcb1, hcb2⟩ := hcb
        have hq1 : IntKind.i64.wrap ((k : Int) + 1) = (k : Int) + 1 := by rw [IntKind.wrap_i64]; omega
        have hq2 : IntKind.i64.wrap (c.loc - e2) = c.loc - e2 := by rw [IntKind.wrap_i64]; omega
        have hq3 : IntKind.i64.wrap (-gain) = -gain := by rw [IntKind.wrap_i64]; omega
        go_wp2_with fail
        have gd : Grow U U.drew := (Grow.refl U).drew
        have hS0 : (fun W : World => W.cell? ⟨V1.heap.size, 1, none⟩ = some v ∧ W.cell? ⟨R2.heap.size, 0, none⟩ = some (.int .i64 c.id) ∧ W.cell? ⟨R2.heap.size, 1, none⟩ = some (.int .i64 c.size) ∧ W.cell? ⟨R2.heap.size, 2, none⟩ = some (.int .i64 c.loc) ∧ W.cell? ⟨R2.heap.size, 3, none⟩ = some (.int .i64 c.remote) ∧ W.cell? ⟨R2.heap.size, 4, none⟩ = some (.int .i64 c.base) ∧ W.cell? ⟨R2.heap.size, 5, none⟩ = some (.int .i64 c.ppm) ∧ W.cell? ⟨R2.heap.size, 6, none⟩ = some (.int .i64 c.score)) U.drew := ⟨gq1, qc0, qc1, qc2, qc3, qc4, qc5, qc6⟩
        refine wp_region_G (f := 13) (S := fun W => W.cell? ⟨V1.heap.size, 1, none⟩ = some v ∧ W.cell? ⟨R2.heap.size, 0, none⟩ = some (.int .i64 c.id) ∧ W.cell? ⟨R2.heap.size, 1, none⟩ = some (.int .i64 c.size) ∧ W.cell? ⟨R2.heap.size, 2, none⟩ = some (.int .i64 c.loc) ∧ W.cell? ⟨R2.heap.size, 3, none⟩ = some (.int .i64 c.remote) ∧ W.cell? ⟨R2.heap.size, 4, none⟩ = some (.int .i64 c.base) ∧ W.cell? ⟨R2.heap.size, 5, none⟩ = some (.int .i64 c.ppm) ∧ W.cell? ⟨R2.heap.size, 6, none⟩ = some (.int .i64 c.score)) (by kernel_rfl) ?_
        change wpAnyG _ _ _ _ _ _ 14 _ _ _
        refine wpAnyG_take' (i := 0) (by simp only [List.getElem?_toArray, List.getElem?_cons_succ, List.getElem?_cons_zero]; rfl) ?_
        refine ⟨by kernel_rfl, by kernel_rfl, by kernel_rfl, by kernel_rfl, by kernel_rfl, fun _ _ _ _ h => h, hS0, ?vover0, Or.inl ⟨by rfl, ?hyover0⟩, ?restover0⟩
        case hyover0 =>
          intro W hSw
          obtain ⟨s_0, s_1, s_2, s_3, s_4, s_5, s_6, s_7⟩ := hSw
          go_simp
          try with_reducible rfl
        (try simp only [Act.put, List.setIfInBounds_toArray, List.set_cons_zero, List.set_cons_succ])
        refine wpAnyG_take' (i := 1) (by simp only [List.getElem?_toArray, List.getElem?_cons_succ, List.getElem?_cons_zero]; rfl) ?_
        refine ⟨by kernel_rfl, by kernel_rfl, by kernel_rfl, by kernel_rfl, by kernel_rfl, fun _ _ _ _ h => h, hS0, ?vover1, Or.inl ⟨by rfl, ?hyover1⟩, ?restover1⟩
        case hyover1 =>
          intro W hSw
          obtain ⟨s_0, s_1, s_2, s_3, s_4, s_5, s_6, s_7⟩ := hSw
          go_simp
          try with_reducible rfl
        (try simp only [Act.put, List.setIfInBounds_toArray, List.set_cons_zero, List.set_cons_succ])
        refine wpAnyG_take' (i := 2) (by simp only [List.getElem?_toArray, List.getElem?_cons_succ, List.getElem?_cons_zero]; rfl) ?_
        refine ⟨by kernel_rfl, by kernel_rfl, by kernel_rfl, by kernel_rfl, by kernel_rfl, fun _ _ _ _ h => h, hS0, ?vover2, Or.inl ⟨by rfl, ?hyover2⟩, ?restover2⟩
        case hyover2 =>
          intro W hSw
          obtain ⟨s_0, s_1, s_2, s_3, s_4, s_5, s_6, s_7⟩ := hSw
          go_simp
          try with_reducible rfl
        (try simp only [Act.put, List.setIfInBounds_toArray, List.set_cons_zero, List.set_cons_succ])
        refine wpAnyG_take' (i := 3) (by simp only [List.getElem?_toArray, List.getElem?_cons_succ, List.getElem?_cons_zero]; rfl) ?_
        refine ⟨by kernel_rfl, by kernel_rfl, by kernel_rfl, by kernel_rfl, by kernel_rfl, fun _ _ _ _ h => h, hS0, ?vover3, Or.inl ⟨by rfl, ?hyover3⟩, ?restover3⟩
        case hyover3 =>
          intro W hSw
          obtain ⟨s_0, s_1, s_2, s_3, s_4, s_5, s_6, s_7⟩ := hSw
          go_simp
          try with_reducible rfl
        (try simp only [Act.put, List.setIfInBounds_toArray, List.set_cons_zero, List.set_cons_succ])
        refine wpAnyG_take' (i := 4) (by simp only [List.getElem?_toArray, List.getElem?_cons_succ, List.getElem?_cons_zero]; rfl) ?_
        refine ⟨by kernel_rfl, by kernel_rfl, by kernel_rfl, by kernel_rfl, by kernel_rfl, fun _ _ _ _ h => h, hS0, ?vover4, Or.inl ⟨by rfl, ?hyover4⟩, ?restover4⟩
        case hyover4 =>
          intro W hSw
          obtain ⟨s_0, s_1, s_2, s_3, s_4, s_5, s_6, s_7⟩ := hSw
          go_simp
          try with_reducible rfl
        (try simp only [Act.put, List.setIfInBounds_toArray, List.set_cons_zero, List.set_cons_succ])
        refine wpAnyG_take' (i := 5) (by simp only [List.getElem?_toArray, List.getElem?_cons_succ, List.getElem?_cons_zero]; rfl) ?_
        refine ⟨by kernel_rfl, by kernel_rfl, by kernel_rfl, by kernel_rfl, by kernel_rfl, fun _ _ _ _ h => h, hS0, ?vover5, Or.inl ⟨by rfl, ?hyover5⟩, ?restover5⟩
        case hyover5 =>
          intro W hSw
          obtain ⟨s_0, s_1, s_2, s_3, s_4, s_5, s_6, s_7⟩ := hSw
          go_simp
          try with_reducible rfl
        (try simp only [Act.put, List.setIfInBounds_toArray, List.set_cons_zero, List.set_cons_succ])
        refine wpAnyG_take' (i := 6) (by simp only [List.getElem?_toArray, List.getElem?_cons_succ, List.getElem?_cons_zero]; rfl) ?_
        refine ⟨by kernel_rfl, by kernel_rfl, by kernel_rfl, by kernel_rfl, by kernel_rfl, fun _ _ _ _ h => h, hS0, ?vover6, Or.inl ⟨by rfl, ?hyover6⟩, ?restover6⟩
        case hyover6 =>
          intro W hSw
          obtain ⟨s_0, s_1, s_2, s_3, s_4, s_5, s_6, s_7⟩ := hSw
          go_simp
          try with_reducible rfl
        (try simp only [Act.put, List.setIfInBounds_toArray, List.set_cons_zero, List.set_cons_succ])
        refine wpAnyG_take' (i := 7) (by simp only [List.getElem?_toArray, List.getElem?_cons_succ, List.getElem?_cons_zero]; rfl) ?_
        refine ⟨by kernel_rfl, by kernel_rfl, by kernel_rfl, by kernel_rfl, by kernel_rfl, fun _ _ _ _ h => h, hS0, ?vover7, Or.inl ⟨by rfl, ?hyover7⟩, ?restover7⟩
        case hyover7 =>
          intro W hSw
          obtain ⟨s_0, s_1, s_2, s_3, s_4, s_5, s_6, s_7⟩ := hSw
          go_simp
          try with_reducible rfl
        (try simp only [Act.put, List.setIfInBounds_toArray, List.set_cons_zero, List.set_cons_succ])
        refine wpAnyG_one (i := 8) (o := _) (by simp only [List.getElem?_toArray, List.getElem?_cons_succ, List.getElem?_cons_zero]; rfl) (by kernel_rfl) ?_
        intro K' hK
        have HK_ := Lib.hid hK; clear hK
        rw [if_pos (by rfl)]
        go_simp
        go_at_call 81
        (try simp only [hq2])
        refine (spec_Cap_c _ _ (by omega)).mono ?_
        rintro e' w' ⟨rfl, rfl⟩
        refine HK_.out _ _ (fun _ => hS0) ?_
        (try simp only [Act.put, List.setIfInBounds_toArray, List.set_cons_zero, List.set_cons_succ])
        refine wpAnyG_take' (i := 9) (by simp only [List.getElem?_toArray, List.getElem?_cons_succ, List.getElem?_cons_zero]; rfl) ?_
        refine ⟨by kernel_rfl, by kernel_rfl, by kernel_rfl, by kernel_rfl, by kernel_rfl, fun _ _ _ _ h => h, hS0, ?vover9, Or.inl ⟨by rfl, ?hyover9⟩, ?restover9⟩
        case hyover9 =>
          intro W hSw
          obtain ⟨s_0, s_1, s_2, s_3, s_4, s_5, s_6, s_7⟩ := hSw
          go_simp
          try with_reducible rfl
        (try simp only [Act.put, List.setIfInBounds_toArray, List.set_cons_zero, List.set_cons_succ])
        refine wpAnyG_one (i := 10) (o := _) (by simp only [List.getElem?_toArray, List.getElem?_cons_succ, List.getElem?_cons_zero]; rfl) (by kernel_rfl) ?_
        intro K' hK
        have HK_ := Lib.hid hK; clear hK
        rw [if_pos (by rfl)]
        go_simp
        have hS3 : (fun W : World => W.cell? ⟨V1.heap.size, 1, none⟩ = some v ∧ W.cell? ⟨R2.heap.size, 0, none⟩ = some (.int .i64 c.id) ∧ W.cell? ⟨R2.heap.size, 1, none⟩ = some (.int .i64 c.size) ∧ W.cell? ⟨R2.heap.size, 2, none⟩ = some (.int .i64 c.loc) ∧ W.cell? ⟨R2.heap.size, 3, none⟩ = some (.int .i64 c.remote) ∧ W.cell? ⟨R2.heap.size, 4, none⟩ = some (.int .i64 c.base) ∧ W.cell? ⟨R2.heap.size, 5, none⟩ = some (.int .i64 c.ppm) ∧ W.cell? ⟨R2.heap.size, 6, none⟩ = some (.int .i64 c.score)) (U.drew.alloc (.cells #[.int .i64 0, .int .i64 ((k : Int) + 1), .int .i64 (capE (c.loc - e2)), .int .i64 0] 123)) := ⟨cellGrow (gd.alloc _ _) gq1, cellGrow (gd.alloc _ _) qc0, cellGrow (gd.alloc _ _) qc1, cellGrow (gd.alloc _ _) qc2, cellGrow (gd.alloc _ _) qc3, cellGrow (gd.alloc _ _) qc4, cellGrow (gd.alloc _ _) qc5, cellGrow (gd.alloc _ _) qc6⟩
        (try simp only [hq1, hq2, hq3])
        refine HK_.out _ _ (fun _ => hS3) ?_
        (try simp only [Act.put, List.setIfInBounds_toArray, List.set_cons_zero, List.set_cons_succ])
        refine wpAnyG_one (i := 11) (o := _) (by simp only [List.getElem?_toArray, List.getElem?_cons_succ, List.getElem?_cons_zero]; rfl) (by kernel_rfl) ?_
        intro K' hK
        have HK_ := Lib.hid hK; clear hK
        refine step_append_g rfl (.tmp 67) (.tmp 76) 29 rfl V1 ((HGV.out.trans gd).alloc _ _) 123 i0 _ 4 32 Try.underlying29 hi0 hz0 hz1 hz2 rfl (by omega) v es.length (es.flatMap encEdge) rfl (own_grow HGR.out.own (gd.alloc _ _)) ⟨U.heap.size, 0, none⟩ 1 1 [.int .i64 0, .int .i64 ((k : Int) + 1), .int .i64 (capE (c.loc - e2)), .int .i64 0] rfl rfl (news_of _ _ _ _ (by simp [hq1, hq2, hq3, hcap])) (one_edge _ _ _ _) (by simp only [maxLen]; omega) (by omega) ?_
        intro v1 w1 hown' hg' hgb hat
        obtain ⟨va, vc, rfl⟩ := own_form hown'
        (try simp only [hq1, hq2, hq3] at hgb)
        have hgu : Grow U (U.drew.alloc (.cells #[.int .i64 0, .int .i64 ((k : Int) + 1), .int .i64 (capE (c.loc - e2)), .int .i64 0] 123)) := gd.alloc _ _
        have s0 : w1.cell? ⟨V1.heap.size, 0, none⟩ = some (.int .i64 ((x.chans.length : Int) + 1)) := cellKept hgb HGR.out.ne (cellGrow hgu gq0)
        have s1 : w1.cell? ⟨V1.heap.size, 1, none⟩ = some v := cellKept hgb HGR.out.ne (cellGrow hgu gq1)
        have z1 : V1.heap.size < w1.heap.size := lt_of_cell s0
        have fz1 : ∀ o, w1.frozen? ⟨V1.heap.size, o, none⟩ = false := fun o => hg'.nf _ o (by omega) z1
        have HPUSH := Lib.hid (GRow.push (e := ⟨0, (k : Int) + 1, capE (c.loc - e2), 0⟩) (HGR.out.grow hgu) hown' hgb hat)
        have HGN := Lib.hid (hg'.setCell (p := ⟨V1.heap.size, 1, none⟩) (Nat.le_refl _) (.slice va (es.length + 1) vc))
        have r0 : w1.cell? ⟨R2.heap.size, 0, none⟩ = some (.int .i64 c.id) := cellKept hgb HNE.out (cellGrow hgu qc0)
        have r1 : w1.cell? ⟨R2.heap.size, 1, none⟩ = some (.int .i64 c.size) := cellKept hgb HNE.out (cellGrow hgu qc1)
        have r2 : w1.cell? ⟨R2.heap.size, 2, none⟩ = some (.int .i64 c.loc) := cellKept hgb HNE.out (cellGrow hgu qc2)
        have r3 : w1.cell? ⟨R2.heap.size, 3, none⟩ = some (.int .i64 c.remote) := cellKept hgb HNE.out (cellGrow hgu qc3)
        have r4 : w1.cell? ⟨R2.heap.size, 4, none⟩ = some (.int .i64 c.base) := cellKept hgb HNE.out (cellGrow hgu qc4)
        have r5 : w1.cell? ⟨R2.heap.size, 5, none⟩ = some (.int .i64 c.ppm) := cellKept hgb HNE.out (cellGrow hgu qc5)
        have r6 : w1.cell? ⟨R2.heap.size, 6, none⟩ = some (.int .i64 c.score) := cellKept hgb HNE.out (cellGrow hgu qc6)
        clear hown' hg' hgb hat hgu
        have hS4 : (fun W : World => W.cell? ⟨V1.heap.size, 1, none⟩ = some v ∧ W.cell? ⟨R2.heap.size, 0, none⟩ = some (.int .i64 c.id) ∧ W.cell? ⟨R2.heap.size, 1, none⟩ = some (.int .i64 c.size) ∧ W.cell? ⟨R2.heap.size, 2, none⟩ = some (.int .i64 c.loc) ∧ W.cell? ⟨R2.heap.size, 3, none⟩ = some (.int .i64 c.remote) ∧ W.cell? ⟨R2.heap.size, 4, none⟩ = some (.int .i64 c.base) ∧ W.cell? ⟨R2.heap.size, 5, none⟩ = some (.int .i64 c.ppm) ∧ W.cell? ⟨R2.heap.size, 6, none⟩ = some (.int .i64 c.score)) w1 := ⟨s1, r0, r1, r2, r3, r4, r5, r6⟩
        refine HK_.out _ _ (fun _ => hS4) ?_
        (try simp only [Act.put, List.setIfInBounds_toArray, List.set_cons_zero, List.set_cons_succ])
        refine wpAnyG_take' (i := 12) (by simp only [List.getElem?_toArray, List.getElem?_cons_succ, List.getElem?_cons_zero]; rfl) ?_
        refine ⟨by kernel_rfl, by kernel_rfl, by kernel_rfl, by kernel_rfl, by kernel_rfl, fun _ _ _ _ h => h, hS4, ?vover12, Or.inl ⟨by rfl, ?hyover12⟩, ?restover12⟩
        case hyover12 =>
          intro W hSw
          obtain ⟨s_0, s_1, s_2, s_3, s_4, s_5, s_6, s_7⟩ := hSw
          go_simp
          try with_reducible rfl
        (try simp only [Act.put, List.setIfInBounds_toArray, List.set_cons_zero, List.set_cons_succ])
        refine wpAnyG_one (i := 13) (o := _) (by simp only [List.getElem?_toArray, List.getElem?_cons_succ, List.getElem?_cons_zero]; rfl) (by kernel_rfl) ?_
        intro K' hK
        have HK_ := Lib.hid hK; clear hK
        rw [if_pos (by rfl)]
        go_simp
        refine HK_.out _ _ (fun h => absurd rfl h) (wpAnyG_done (by kernel_rfl) ?_ _)
        go_wp2_with fail
        go_roundg (x.chans.length - (k + 1))
        case measure => have := HK.out; omega
        case rel => exact ⟨k + 1, (.slice va (es.length + 1) vc), by have := HK.out; omega, by go_num, by rw [HM.out, HT.out]; first | exact HPUSH.out | (rw [← List.append_assoc, HES.out]; exact HPUSH.out), HGN.out⟩
      · have HT := Lib.hid (overE_no (lo := lo) (hi := hi) (i := k) (c := c) t)
        have T : decide (ends2 c.size lo hi < c.loc) = false := by simpa using t
        generalize ends1 c.size lo hi = e1 at *
        generalize ends2 c.size lo hi = e2 at *
        go_wp2_with fail
        go_roundg (x.chans.length - (k + 1))
        case measure => have := HK.out; omega
        case rel => exact ⟨k + 1, v, by have := HK.out; omega, by go_num, by rw [HM.out, HT.out]; rw [List.append_nil]; first | exact HGR.out | (rw [HES.out]; exact HGR.out), HGV.out⟩
    · obtain rfl : k = x.chans.length := by omega
      clear hk hlt
      have z0 := B0.lt
      have z1 := B1.lt
      have q0_0 : R2.cell? ⟨w.heap.size, 0, none⟩ = some (.int .i64 x.tick) := B0.c 0 _ rfl
      have q0_1 : R2.cell? ⟨w.heap.size, 1, none⟩ = some (.int .i64 x.next) := B0.c 1 _ rfl
      have q0_2 : R2.cell? ⟨w.heap.size, 2, none⟩ = some (.int .i64 x.wallet) := B0.c 2 _ rfl
      have q0_3 : R2.cell? ⟨w.heap.size, 3, none⟩ = some (.slice a0 x.chans.length c0) := B0.c 3 _ rfl
      have q0_4 : R2.cell? ⟨w.heap.size, 4, none⟩ = some (.slice a1 x.htlcs.length c1) := B0.c 4 _ rfl
      have q0_5 : R2.cell? ⟨w.heap.size, 5, none⟩ = some (.slice a2 x.circles.length c2) := B0.c 5 _ rfl
      have f0 := B0.f
      have q1_0 : R2.cell? ⟨w.heap.size + 1, 0, none⟩ = some (.int .i64 0) := B1.c 0 _ rfl
      have q1_1 : R2.cell? ⟨w.heap.size + 1, 1, none⟩ = some (.slice none 0 0) := B1.c 1 _ rfl
      have f1 := B1.f
      go_wp2_with fail
      clear z0 z1 q0_0 q0_1 q0_2 q0_3 q0_4 q0_5 f0 q1_0 q1_1 f1
      go_loopg [83] x.chans.length (fun g i wr => ∃ (k : Nat) (v : Value), k + g = x.chans.length ∧ i = .int .i64 k ∧ GRow wr V1 V1.heap.size ((x.chans.length : Int) + 1) v (upK (overE lo hi) x.chans x.chans.length ++ upK (underE lo hi gain) x.chans k) ∧ Grow V1 wr)
      case atStart => exact ⟨0, v, by simp, rfl, by simpa [upK] using HGR.out, hg⟩
      case round =>
        clear hg HGR G B0 B1
        obtain ⟨k, v, hk, rfl, GR, hg⟩ := hrel
        obtain ⟨R3, rfl⟩ : ∃ V, V = wr := ⟨_, rfl⟩
        have G := HG0.out.trans hg
        have B0 := HB0.out.grow hg
        have B1 := HB1.out.grow hg
        have HGR := Lib.hid GR; clear GR
        by_cases hlt : k < x.chans.length
        · have HK := Lib.hid hk; clear hk
          have HGV := Lib.hid hg; clear hg
          have HM : Hid (upK (underE lo hi gain) x.chans (k+1) = upK (underE lo hi gain) x.chans k ++ underE lo hi gain k x.chans[k]) := upK_succ hlt
          have hel20 : ((upK (overE lo hi) x.chans x.chans.length ++ upK (underE lo hi gain) x.chans k)).length ≤ 60 := by have := upK_len (f := overE lo hi) (l := x.chans) (overE_len lo hi) x.chans.length; have := upK_len (f := underE lo hi gain) (l := x.chans) (underE_len lo hi gain) k; rw [List.length_append]; omega
          have HNE : Hid (v.ownBlock ≠ some R3.heap.size) := own_ne HGR.out.own (Nat.le_refl _)
          have gzr : V1.heap.size < R3.heap.size := HGR.out.box.lt
          have z0 := B0.lt
          have z1 := B1.lt
          have q0_0 : R3.cell? ⟨w.heap.size, 0, none⟩ = some (.int .i64 x.tick) := B0.c 0 _ rfl
          have q0_1 : R3.cell? ⟨w.heap.size, 1, none⟩ = some (.int .i64 x.next) := B0.c 1 _ rfl
          have q0_2 : R3.cell? ⟨w.heap.size, 2, none⟩ = some (.int .i64 x.wallet) := B0.c 2 _ rfl
          have q0_3 : R3.cell? ⟨w.heap.size, 3, none⟩ = some (.slice a0 x.chans.length c0) := B0.c 3 _ rfl
          have q0_4 : R3.cell? ⟨w.heap.size, 4, none⟩ = some (.slice a1 x.htlcs.length c1) := B0.c 4 _ rfl
          have q0_5 : R3.cell? ⟨w.heap.size, 5, none⟩ = some (.slice a2 x.circles.length c2) := B0.c 5 _ rfl
          have f0 := B0.f
          have q1_0 : R3.cell? ⟨w.heap.size + 1, 0, none⟩ = some (.int .i64 0) := B1.c 0 _ rfl
          have q1_1 : R3.cell? ⟨w.heap.size + 1, 1, none⟩ = some (.slice none 0 0) := B1.c 1 _ rfl
          have f1 := B1.f
          have hcl := HLOC.out _ (List.getElem_mem hlt)
          obtain ⟨b_c, off_c, ha_c, hb1_c, hb2_c, hel_c⟩ := H0.out.elems k hlt
          obtain ⟨ec0, ec1, ec2, ec3, ec4, ec5, ec6, -⟩ := Chan.atCell (hel_c.same repChan_stable (G.same (Nat.le_refl _)) hb1_c hb2_c) k hlt
          subst ha_c
          clear hel_c
          generalize x.chans[k] = c at *
          obtain ⟨hcl1, hcl2⟩ := hcl
          generalize hes : (upK (overE lo hi) x.chans x.chans.length ++ upK (underE lo hi gain) x.chans k) = es at *
          have HES := Lib.hid hes; clear hes
          have hkk : (k : Int) ≤ 60 := by omega
          go_wp2_with fail
          refine (spec_Ends_c c lo hi _).mono ?_
          rintro e U ⟨rfl, gs⟩
          have gU : Grow R3 U := ((Grow.refl R3).alloc _ _).trans gs
          have BC : Box U R3.heap.size [.int .i64 c.id, .int .i64 c.size, .int .i64 c.loc, .int .i64 c.remote, .int .i64 c.base, .int .i64 c.ppm, .int .i64 c.score] := (Box.new R3 _ _).grow gs
          clear gs
          clear z0 z1 q0_0 q0_1 q0_2 q0_3 q0_4 q0_5 f0 q1_0 q1_1 f1
          replace HGR : Hid (GRow U V1 V1.heap.size ((x.chans.length : Int) + 1) v es) := HGR.out.grow gU
          replace HGV : Hid (Grow V1 U) := HGV.out.trans gU
          replace G := G.trans gU
          replace B0 := B0.grow gU
          replace B1 := B1.grow gU
          clear gU
          have z0 := B0.lt
          have z1 := B1.lt
          have q0_0 : U.cell? ⟨w.heap.size, 0, none⟩ = some (.int .i64 x.tick) := B0.c 0 _ rfl
          have q0_1 : U.cell? ⟨w.heap.size, 1, none⟩ = some (.int .i64 x.next) := B0.c 1 _ rfl
          have q0_2 : U.cell? ⟨w.heap.size, 2, none⟩ = some (.int .i64 x.wallet) := B0.c 2 _ rfl
          have q0_3 : U.cell? ⟨w.heap.size, 3, none⟩ = some (.slice (some ⟨b_c, off_c, none⟩) x.chans.length c0) := B0.c 3 _ rfl
          have q0_4 : U.cell? ⟨w.heap.size, 4, none⟩ = some (.slice a1 x.htlcs.length c1) := B0.c 4 _ rfl
          have q0_5 : U.cell? ⟨w.heap.size, 5, none⟩ = some (.slice a2 x.circles.length c2) := B0.c 5 _ rfl
          have f0 := B0.f
          have q1_0 : U.cell? ⟨w.heap.size + 1, 0, none⟩ = some (.int .i64 0) := B1.c 0 _ rfl
          have q1_1 : U.cell? ⟨w.heap.size + 1, 1, none⟩ = some (.slice none 0 0) := B1.c 1 _ rfl
          have f1 := B1.f
          have zc := BC.lt
          have qc0 : U.cell? ⟨R3.heap.size, 0, none⟩ = some (.int .i64 c.id) := BC.c 0 _ rfl
          have qc1 : U.cell? ⟨R3.heap.size, 1, none⟩ = some (.int .i64 c.size) := BC.c 1 _ rfl
          have qc2 : U.cell? ⟨R3.heap.size, 2, none⟩ = some (.int .i64 c.loc) := BC.c 2 _ rfl
          have qc3 : U.cell? ⟨R3.heap.size, 3, none⟩ = some (.int .i64 c.remote) := BC.c 3 _ rfl
          have qc4 : U.cell? ⟨R3.heap.size, 4, none⟩ = some (.int .i64 c.base) := BC.c 4 _ rfl
          have qc5 : U.cell? ⟨R3.heap.size, 5, none⟩ = some (.int .i64 c.ppm) := BC.c 5 _ rfl
          have qc6 : U.cell? ⟨R3.heap.size, 6, none⟩ = some (.int .i64 c.score) := BC.c 6 _ rfl
          have gq0 : U.cell? ⟨V1.heap.size, 0, none⟩ = some (.int .i64 ((x.chans.length : Int) + 1)) := HGR.out.box.c 0 _ rfl
          have gq1 : U.cell? ⟨V1.heap.size, 1, none⟩ = some v := HGR.out.box.c 1 _ rfl
          have gz : V1.heap.size < U.heap.size := HGR.out.box.lt
          have hebd := ends_bd (size := c.size) (lo := lo) (hi := hi)
          obtain ⟨⟨he1, he2⟩, he3, he4⟩ := hebd
          by_cases t : c.loc < ends1 c.size lo hi
          · have HT := Lib.hid (underE_yes (lo := lo) (hi := hi) (gain := gain) (i := k) (c := c) t)
            have T : decide (c.loc < ends1 c.size lo hi) = true := by simpa using t
            generalize ends1 c.size lo hi = e1 at *
            generalize ends2 c.size lo hi = e2 at *
            have hcap : capE (e1 - c.loc) = min (e1 - c.loc) 1000000000 := rfl
            have hcb : -1 ≤ capE (e1 - c.loc) ∧ capE (e1 - c.loc) ≤ 1000000000 := by rw [hcap]; omega
            obtain ⟨hcb1, hcb2⟩ := hcb
            have hq1 : IntKind.i64.wrap ((k : Int) + 1) = (k : Int) + 1 := by rw [IntKind.wrap_i64]; omega
            have hq2 : IntKind.i64.wrap (e1 - c.loc) = e1 - c.loc := by rw [IntKind.wrap_i64]; omega
            have hq3 : IntKind.i64.wrap (-gain) = -gain := by rw [IntKind.wrap_i64]; omega
            go_wp2_with fail
            have gd : Grow U U.drew := (Grow.refl U).drew
            have hS0 : (fun W : World => W.cell? ⟨V1.heap.size, 1, none⟩ = some v ∧ W.cell? ⟨R3.heap.size, 0, none⟩ = some (.int .i64 c.id) ∧ W.cell? ⟨R3.heap.size, 1, none⟩ = some (.int .i64 c.size) ∧ W.cell? ⟨R3.heap.size, 2, none⟩ = some (.int .i64 c.loc) ∧ W.cell? ⟨R3.heap.size, 3, none⟩ = some (.int .i64 c.remote) ∧ W.cell? ⟨R3.heap.size, 4, none⟩ = some (.int .i64 c.base) ∧ W.cell? ⟨R3.heap.size, 5, none⟩ = some (.int .i64 c.ppm) ∧ W.cell? ⟨R3.heap.size, 6, none⟩ = some (.int .i64 c.score)) U.drew := ⟨gq1, qc0, qc1, qc2, qc3, qc4, qc5, qc6⟩
            refine wp_region_G (f := 15) (S := fun W => W.cell? ⟨V1.heap.size, 1, none⟩ = some v ∧ W.cell? ⟨R3.heap.size, 0, none⟩ = some (.int .i64 c.id) ∧ W.cell? ⟨R3.heap.size, 1, none⟩ = some (.int .i64 c.size) ∧ W.cell? ⟨R3.heap.size, 2, none⟩ = some (.int .i64 c.loc) ∧ W.cell? ⟨R3.heap.size, 3, none⟩ = some (.int .i64 c.remote) ∧ W.cell? ⟨R3.heap.size, 4, none⟩ = some (.int .i64 c.base) ∧ W.cell? ⟨R3.heap.size, 5, none⟩ = some (.int .i64 c.ppm) ∧ W.cell? ⟨R3.heap.size, 6, none⟩ = some (.int .i64 c.score)) (by kernel_rfl) ?_
            change wpAnyG _ _ _ _ _ _ 16 _ _ _
            refine wpAnyG_take' (i := 0) (by simp only [List.getElem?_toArray, List.getElem?_cons_succ, List.getElem?_cons_zero]; rfl) ?_
            refine ⟨by kernel_rfl, by kernel_rfl, by kernel_rfl, by kernel_rfl, by kernel_rfl, fun _ _ _ _ h => h, hS0, ?vunder0, Or.inl ⟨by rfl, ?hyunder0⟩, ?restunder0⟩
            case hyunder0 =>
              intro W hSw
              obtain ⟨s_0, s_1, s_2, s_3, s_4, s_5, s_6, s_7⟩ := hSw
              go_simp
              try with_reducible rfl
            (try simp only [Act.put, List.setIfInBounds_toArray, List.set_cons_zero, List.set_cons_succ])
            refine wpAnyG_take' (i := 1) (by simp only [List.getElem?_toArray, List.getElem?_cons_succ, List.getElem?_cons_zero]; rfl) ?_
            refine ⟨by kernel_rfl, by kernel_rfl, by kernel_rfl, by kernel_rfl, by kernel_rfl, fun _ _ _ _ h => h, hS0, ?vunder1, Or.inl ⟨by rfl, ?hyunder1⟩, ?restunder1⟩
            case hyunder1 =>
              intro W hSw
              obtain ⟨s_0, s_1, s_2, s_3, s_4, s_5, s_6, s_7⟩ := hSw
              go_simp
              try with_reducible rfl
            (try simp only [Act.put, List.setIfInBounds_toArray, List.set_cons_zero, List.set_cons_succ])
            refine wpAnyG_take' (i := 2) (by simp only [List.getElem?_toArray, List.getElem?_cons_succ, List.getElem?_cons_zero]; rfl) ?_
            refine ⟨by kernel_rfl, by kernel_rfl, by kernel_rfl, by kernel_rfl, by kernel_rfl, fun _ _ _ _ h => h, hS0, ?vunder2, Or.inl ⟨by rfl, ?hyunder2⟩, ?restunder2⟩
            case hyunder2 =>
              intro W hSw
              obtain ⟨s_0, s_1, s_2, s_3, s_4, s_5, s_6, s_7⟩ := hSw
              go_simp
              try with_reducible rfl
            (try simp only [Act.put, List.setIfInBounds_toArray, List.set_cons_zero, List.set_cons_succ])
            refine wpAnyG_take' (i := 3) (by simp only [List.getElem?_toArray, List.getElem?_cons_succ, List.getElem?_cons_zero]; rfl) ?_
            refine ⟨by kernel_rfl, by kernel_rfl, by kernel_rfl, by kernel_rfl, by kernel_rfl, fun _ _ _ _ h => h, hS0, ?vunder3, Or.inl ⟨by rfl, ?hyunder3⟩, ?restunder3⟩
            case hyunder3 =>
              intro W hSw
              obtain ⟨s_0, s_1, s_2, s_3, s_4, s_5, s_6, s_7⟩ := hSw
              go_simp
              try with_reducible rfl
            (try simp only [Act.put, List.setIfInBounds_toArray, List.set_cons_zero, List.set_cons_succ])
            refine wpAnyG_take' (i := 4) (by simp only [List.getElem?_toArray, List.getElem?_cons_succ, List.getElem?_cons_zero]; rfl) ?_
            refine ⟨by kernel_rfl, by kernel_rfl, by kernel_rfl, by kernel_rfl, by kernel_rfl, fun _ _ _ _ h => h, hS0, ?vunder4, Or.inl ⟨by rfl, ?hyunder4⟩, ?restunder4⟩
            case hyunder4 =>
              intro W hSw
              obtain ⟨s_0, s_1, s_2, s_3, s_4, s_5, s_6, s_7⟩ := hSw
              go_simp
              try with_reducible rfl
            (try simp only [Act.put, List.setIfInBounds_toArray, List.set_cons_zero, List.set_cons_succ])
            refine wpAnyG_take' (i := 5) (by simp only [List.getElem?_toArray, List.getElem?_cons_succ, List.getElem?_cons_zero]; rfl) ?_
            refine ⟨by kernel_rfl, by kernel_rfl, by kernel_rfl, by kernel_rfl, by kernel_rfl, fun _ _ _ _ h => h, hS0, ?vunder5, Or.inl ⟨by rfl, ?hyunder5⟩, ?restunder5⟩
            case hyunder5 =>
              intro W hSw
              obtain ⟨s_0, s_1, s_2, s_3, s_4, s_5, s_6, s_7⟩ := hSw
              go_simp
              try with_reducible rfl
            (try simp only [Act.put, List.setIfInBounds_toArray, List.set_cons_zero, List.set_cons_succ])
            refine wpAnyG_take' (i := 6) (by simp only [List.getElem?_toArray, List.getElem?_cons_succ, List.getElem?_cons_zero]; rfl) ?_
            refine ⟨by kernel_rfl, by kernel_rfl, by kernel_rfl, by kernel_rfl, by kernel_rfl, fun _ _ _ _ h => h, hS0, ?vunder6, Or.inl ⟨by rfl, ?hyunder6⟩, ?restunder6⟩
            case hyunder6 =>
              intro W hSw
              obtain ⟨s_0, s_1, s_2, s_3, s_4, s_5, s_6, s_7⟩ := hSw
              go_simp
              try with_reducible rfl
            (try simp only [Act.put, List.setIfInBounds_toArray, List.set_cons_zero, List.set_cons_succ])
            refine wpAnyG_take' (i := 7) (by simp only [List.getElem?_toArray, List.getElem?_cons_succ, List.getElem?_cons_zero]; rfl) ?_
            refine ⟨by kernel_rfl, by kernel_rfl, by kernel_rfl, by kernel_rfl, by kernel_rfl, fun _ _ _ _ h => h, hS0, ?vunder7, Or.inl ⟨by rfl, ?hyunder7⟩, ?restunder7⟩
            case hyunder7 =>
              intro W hSw
              obtain ⟨s_0, s_1, s_2, s_3, s_4, s_5, s_6, s_7⟩ := hSw
              go_simp
              try with_reducible rfl
            (try simp only [Act.put, List.setIfInBounds_toArray, List.set_cons_zero, List.set_cons_succ])
            refine wpAnyG_take' (i := 9) (by simp only [List.getElem?_toArray, List.getElem?_cons_succ, List.getElem?_cons_zero]; rfl) ?_
            refine ⟨by kernel_rfl, by kernel_rfl, by kernel_rfl, by kernel_rfl, by kernel_rfl, fun _ _ _ _ h => h, hS0, ?vunder9, Or.inl ⟨by rfl, ?hyunder9⟩, ?restunder9⟩
            case hyunder9 =>
              intro W hSw
              obtain ⟨s_0, s_1, s_2, s_3, s_4, s_5, s_6, s_7⟩ := hSw
              go_simp
              try with_reducible rfl
            (try simp only [Act.put, List.setIfInBounds_toArray, List.set_cons_zero, List.set_cons_succ])
            refine wpAnyG_take' (i := 10) (by simp only [List.getElem?_toArray, List.getElem?_cons_succ, List.getElem?_cons_zero]; rfl) ?_
            refine ⟨by kernel_rfl, by kernel_rfl, by kernel_rfl, by kernel_rfl, by kernel_rfl, fun _ _ _ _ h => h, hS0, ?vunder10, Or.inl ⟨by rfl, ?hyunder10⟩, ?restunder10⟩
            case hyunder10 =>
              intro W hSw
              obtain ⟨s_0, s_1, s_2, s_3, s_4, s_5, s_6, s_7⟩ := hSw
              go_simp
              try with_reducible rfl
            (try simp only [Act.put, List.setIfInBounds_toArray, List.set_cons_zero, List.set_cons_succ])
            refine wpAnyG_one (i := 8) (o := _) (by simp only [List.getElem?_toArray, List.getElem?_cons_succ, List.getElem?_cons_zero]; rfl) (by kernel_rfl) ?_
            intro K' hK
            have HK_ := Lib.hid hK; clear hK
            rw [if_pos (by rfl)]
            go_simp
            go_at_call 81
            (try simp only [hq2])
            refine (spec_Cap_c _ _ (by omega)).mono ?_
            rintro e' w' ⟨rfl, rfl⟩
            refine HK_.out _ _ (fun _ => hS0) ?_
            (try simp only [Act.put, List.setIfInBounds_toArray, List.set_cons_zero, List.set_cons_succ])
            refine wpAnyG_take' (i := 11) (by simp only [List.getElem?_toArray, List.getElem?_cons_succ, List.getElem?_cons_zero]; rfl) ?_
            refine ⟨by kernel_rfl, by kernel_rfl, by kernel_rfl, by kernel_rfl, by kernel_rfl, fun _ _ _ _ h => h, hS0, ?vunder11, Or.inl ⟨by rfl, ?hyunder11⟩, ?restunder11⟩
            case hyunder11 =>
              intro W hSw
              obtain ⟨s_0, s_1, s_2, s_3, s_4, s_5, s_6, s_7⟩ := hSw
              go_simp
              try with_reducible rfl
            (try simp only [Act.put, List.setIfInBounds_toArray, List.set_cons_zero, List.set_cons_succ])
            refine wpAnyG_one (i := 12) (o := _) (by simp only [List.getElem?_toArray, List.getElem?_cons_succ, List.getElem?_cons_zero]; rfl) (by kernel_rfl) ?_
            intro K' hK
            have HK_ := Lib.hid hK; clear hK
            rw [if_pos (by rfl)]
            go_simp
            have hS3 : (fun W : World => W.cell? ⟨V1.heap.size, 1, none⟩ = some v ∧ W.cell? ⟨R3.heap.size, 0, none⟩ = some (.int .i64 c.id) ∧ W.cell? ⟨R3.heap.size, 1, none⟩ = some (.int .i64 c.size) ∧ W.cell? ⟨R3.heap.size, 2, none⟩ = some (.int .i64 c.loc) ∧ W.cell? ⟨R3.heap.size, 3, none⟩ = some (.int .i64 c.remote) ∧ W.cell? ⟨R3.heap.size, 4, none⟩ = some (.int .i64 c.base) ∧ W.cell? ⟨R3.heap.size, 5, none⟩ = some (.int .i64 c.ppm) ∧ W.cell? ⟨R3.heap.size, 6, none⟩ = some (.int .i64 c.score)) (U.drew.alloc (.cells #[.int .i64 ((k : Int) + 1), .int .i64 0, .int .i64 (capE (e1 - c.loc)), .int .i64 (-gain)] 123)) := ⟨cellGrow (gd.alloc _ _) gq1, cellGrow (gd.alloc _ _) qc0, cellGrow (gd.alloc _ _) qc1, cellGrow (gd.alloc _ _) qc2, cellGrow (gd.alloc _ _) qc3, cellGrow (gd.alloc _ _) qc4, cellGrow (gd.alloc _ _) qc5, cellGrow (gd.alloc _ _) qc6⟩
            (try simp only [hq1, hq2, hq3])
            refine HK_.out _ _ (fun _ => hS3) ?_
            (try simp only [Act.put, List.setIfInBounds_toArray, List.set_cons_zero, List.set_cons_succ])
            refine wpAnyG_one (i := 13) (o := _) (by simp only [List.getElem?_toArray, List.getElem?_cons_succ, List.getElem?_cons_zero]; rfl) (by kernel_rfl) ?_
            intro K' hK
            have HK_ := Lib.hid hK; clear hK
            refine step_append_g rfl (.tmp 100) (.tmp 111) 29 rfl V1 ((HGV.out.trans gd).alloc _ _) 123 i0 _ 4 32 Try.underlying29 hi0 hz0 hz1 hz2 rfl (by omega) v es.length (es.flatMap encEdge) rfl (own_grow HGR.out.own (gd.alloc _ _)) ⟨U.heap.size, 0, none⟩ 1 1 [.int .i64 ((k : Int) + 1), .int .i64 0, .int .i64 (capE (e1 - c.loc)), .int .i64 (-gain)] rfl rfl (news_of _ _ _ _ (by simp [hq1, hq2, hq3, hcap])) (one_edge _ _ _ _) (by simp only [maxLen]; omega) (by omega) ?_
            intro v1 w1 hown' hg' hgb hat
            obtain ⟨va, vc, rfl⟩ := own_form hown'
            (try simp only [hq1, hq2, hq3] at hgb)
            have hgu : Grow U (U.drew.alloc (.cells #[.int .i64 ((k : Int) + 1), .int .i64 0, .int .i64 (capE (e1 - c.loc)), .int .i64 (-gain)] 123)) := gd.alloc _ _
            have s0 : w1.cell? ⟨V1.heap.size, 0, none⟩ = some (.int .i64 ((x.chans.length : Int) + 1)) := cellKept hgb HGR.out.ne (cellGrow hgu gq0)
            have s1 : w1.cell? ⟨V1.heap.size, 1, none⟩ = some v := cellKept hgb HGR.out.ne (cellGrow hgu gq1)
            have z1 : V1.heap.size < w1.heap.size := lt_of_cell s0
            have fz1 : ∀ o, w1.frozen? ⟨V1.heap.size, o, none⟩ = false := fun o => hg'.nf _ o (by omega) z1
            have HPUSH := Lib.hid (GRow.push (e := ⟨(k : Int) + 1, 0, capE (e1 - c.loc), -gain⟩) (HGR.out.grow hgu) hown' hgb hat)
            have HGN := Lib.hid (hg'.setCell (p := ⟨V1.heap.size, 1, none⟩) (Nat.le_refl _) (.slice va (es.length + 1) vc))
            have r0 : w1.cell? ⟨R3.heap.size, 0, none⟩ = some (.int .i64 c.id) := cellKept hgb HNE.out (cellGrow hgu qc0)
            have r1 : w1.cell? ⟨R3.heap.size, 1, none⟩ = some (.int .i64 c.size) := cellKept hgb HNE.out (cellGrow hgu qc1)
            have r2 : w1.cell? ⟨R3.heap.size, 2, none⟩ = some (.int .i64 c.loc) := cellKept hgb HNE.out (cellGrow hgu qc2)
            have r3 : w1.cell? ⟨R3.heap.size, 3, none⟩ = some (.int .i64 c.remote) := cellKept hgb HNE.out (cellGrow hgu qc3)
            have r4 : w1.cell? ⟨R3.heap.size, 4, none⟩ = some (.int .i64 c.base) := cellKept hgb HNE.out (cellGrow hgu qc4)
            have r5 : w1.cell? ⟨R3.heap.size, 5, none⟩ = some (.int .i64 c.ppm) := cellKept hgb HNE.out (cellGrow hgu qc5)
            have r6 : w1.cell? ⟨R3.heap.size, 6, none⟩ = some (.int .i64 c.score) := cellKept hgb HNE.out (cellGrow hgu qc6)
            clear hown' hg' hgb hat hgu
            have hS4 : (fun W : World => W.cell? ⟨V1.heap.size, 1, none⟩ = some v ∧ W.cell? ⟨R3.heap.size, 0, none⟩ = some (.int .i64 c.id) ∧ W.cell? ⟨R3.heap.size, 1, none⟩ = some (.int .i64 c.size) ∧ W.cell? ⟨R3.heap.size, 2, none⟩ = some (.int .i64 c.loc) ∧ W.cell? ⟨R3.heap.size, 3, none⟩ = some (.int .i64 c.remote) ∧ W.cell? ⟨R3.heap.size, 4, none⟩ = some (.int .i64 c.base) ∧ W.cell? ⟨R3.heap.size, 5, none⟩ = some (.int .i64 c.ppm) ∧ W.cell? ⟨R3.heap.size, 6, none⟩ = some (.int .i64 c.score)) w1 := ⟨s1, r0, r1, r2, r3, r4, r5, r6⟩
            refine HK_.out _ _ (fun _ => hS4) ?_
            (try simp only [Act.put, List.setIfInBounds_toArray, List.set_cons_zero, List.set_cons_succ])
            refine wpAnyG_take' (i := 14) (by simp only [List.getElem?_toArray, List.getElem?_cons_succ, List.getElem?_cons_zero]; rfl) ?_
            refine ⟨by kernel_rfl, by kernel_rfl, by kernel_rfl, by kernel_rfl, by kernel_rfl, fun _ _ _ _ h => h, hS4, ?vunder14, Or.inl ⟨by rfl, ?hyunder14⟩, ?restunder14⟩
            case hyunder14 =>
              intro W hSw
              obtain ⟨s_0, s_1, s_2, s_3, s_4, s_5, s_6, s_7⟩ := hSw
              go_simp
              try with_reducible rfl
            (try simp only [Act.put, List.setIfInBounds_toArray, List.set_cons_zero, List.set_cons_succ])
            refine wpAnyG_one (i := 15) (o := _) (by simp only [List.getElem?_toArray, List.getElem?_cons_succ, List.getElem?_cons_zero]; rfl) (by kernel_rfl) ?_
            intro K' hK
            have HK_ := Lib.hid hK; clear hK
            rw [if_pos (by rfl)]
            go_simp
            refine HK_.out _ _ (fun h => absurd rfl h) (wpAnyG_done (by kernel_rfl) ?_ _)
            go_wp2_with fail
            go_roundg (x.chans.length - (k + 1))
            case measure => have := HK.out; omega
            case rel => exact ⟨k + 1, (.slice va (es.length + 1) vc), by have := HK.out; omega, by go_num, by rw [HM.out, HT.out]; first | exact HPUSH.out | (rw [← List.append_assoc, HES.out]; exact HPUSH.out), HGN.out⟩
          · have HT := Lib.hid (underE_no (lo := lo) (hi := hi) (gain := gain) (i := k) (c := c) t)
            have T : decide (c.loc < ends1 c.size lo hi) = false := by simpa using t
            generalize ends1 c.size lo hi = e1 at *
            generalize ends2 c.size lo hi = e2 at *
            go_wp2_with fail
            go_roundg (x.chans.length - (k + 1))
            case measure => have := HK.out; omega
            case rel => exact ⟨k + 1, v, by have := HK.out; omega, by go_num, by rw [HM.out, HT.out]; rw [List.append_nil]; first | exact HGR.out | (rw [HES.out]; exact HGR.out), HGV.out⟩
        · obtain rfl : k = x.chans.length := by omega
          clear hk hlt
          have z0 := B0.lt
          have z1 := B1.lt
          have q0_0 : R3.cell? ⟨w.heap.size, 0, none⟩ = some (.int .i64 x.tick) := B0.c 0 _ rfl
          have q0_1 : R3.cell? ⟨w.heap.size, 1, none⟩ = some (.int .i64 x.next) := B0.c 1 _ rfl
          have q0_2 : R3.cell? ⟨w.heap.size, 2, none⟩ = some (.int .i64 x.wallet) := B0.c 2 _ rfl
          have q0_3 : R3.cell? ⟨w.heap.size, 3, none⟩ = some (.slice a0 x.chans.length c0) := B0.c 3 _ rfl
          have q0_4 : R3.cell? ⟨w.heap.size, 4, none⟩ = some (.slice a1 x.htlcs.length c1) := B0.c 4 _ rfl
          have q0_5 : R3.cell? ⟨w.heap.size, 5, none⟩ = some (.slice a2 x.circles.length c2) := B0.c 5 _ rfl
          have f0 := B0.f
          have q1_0 : R3.cell? ⟨w.heap.size + 1, 0, none⟩ = some (.int .i64 0) := B1.c 0 _ rfl
          have q1_1 : R3.cell? ⟨w.heap.size + 1, 1, none⟩ = some (.slice none 0 0) := B1.c 1 _ rfl
          have f1 := B1.f
          go_wp2_with fail
          clear z0 z1 q0_0 q0_1 q0_2 q0_3 q0_4 q0_5 f0 q1_0 q1_1 f1
          go_loopg [117] l.length (fun g i wr => ∃ (k : Nat) (v : Value), k + g = l.length ∧ i = .int .i64 k ∧ GRow wr V1 V1.heap.size ((x.chans.length : Int) + 1) v (upK (overE lo hi) x.chans x.chans.length ++ upK (underE lo hi gain) x.chans x.chans.length ++ (l.take k).map (priceE x.chans)) ∧ Grow V1 wr)
          case atStart => exact ⟨0, v, by simp, rfl, by simpa using HGR.out, hg⟩
          case round =>
            clear hg HGR G B0 B1
            obtain ⟨k, v, hk, rfl, GR, hg⟩ := hrel
            obtain ⟨R4, rfl⟩ : ∃ V, V = wr := ⟨_, rfl⟩
            have G := HG0.out.trans hg
            have B0 := HB0.out.grow hg
            have B1 := HB1.out.grow hg
            have HGR := Lib.hid GR; clear GR
            by_cases hlt : k < l.length
            · have HK := Lib.hid hk; clear hk
              have HGV := Lib.hid hg; clear hg
              have HM : Hid ((l.take (k+1)).map (priceE x.chans) = (l.take k).map (priceE x.chans) ++ [priceE x.chans l[k]]) := by show _ = _; rw [List.take_succ_eq_append_getElem hlt, List.map_append]; rfl
              have hel20 : ((upK (overE lo hi) x.chans x.chans.length ++ upK (underE lo hi gain) x.chans x.chans.length ++ (l.take k).map (priceE x.chans))).length ≤ 60 := by have := upK_len (f := overE lo hi) (l := x.chans) (overE_len lo hi) x.chans.length; have := upK_len (f := underE lo hi gain) (l := x.chans) (underE_len lo hi gain) x.chans.length; simp only [List.length_append, List.length_map, List.length_take]; omega
              have HNE : Hid (v.ownBlock ≠ some R4.heap.size) := own_ne HGR.out.own (Nat.le_refl _)
              have gzr : V1.heap.size < R4.heap.size := HGR.out.box.lt
              have z0 := B0.lt
              have z1 := B1.lt
              have q0_0 : R4.cell? ⟨w.heap.size, 0, none⟩ = some (.int .i64 x.tick) := B0.c 0 _ rfl
              have q0_1 : R4.cell? ⟨w.heap.size, 1, none⟩ = some (.int .i64 x.next) := B0.c 1 _ rfl
              have q0_2 : R4.cell? ⟨w.heap.size, 2, none⟩ = some (.int .i64 x.wallet) := B0.c 2 _ rfl
              have q0_3 : R4.cell? ⟨w.heap.size, 3, none⟩ = some (.slice a0 x.chans.length c0) := B0.c 3 _ rfl
              have q0_4 : R4.cell? ⟨w.heap.size, 4, none⟩ = some (.slice a1 x.htlcs.length c1) := B0.c 4 _ rfl
              have q0_5 : R4.cell? ⟨w.heap.size, 5, none⟩ = some (.slice a2 x.circles.length c2) := B0.c 5 _ rfl
              have f0 := B0.f
              have q1_0 : R4.cell? ⟨w.heap.size + 1, 0, none⟩ = some (.int .i64 0) := B1.c 0 _ rfl
              have q1_1 : R4.cell? ⟨w.heap.size + 1, 1, none⟩ = some (.slice none 0 0) := B1.c 1 _ rfl
              have f1 := B1.f
              obtain ⟨b_e, off_e, ha_e, hb1_e, hb2_e, hel_e⟩ := H3.out.elems k hlt
              obtain ⟨ee0, ee1, ee2, -⟩ := Price.atCell (hel_e.same repPrice_stable (G.same (Nat.le_refl _)) hb1_e hb2_e) k hlt
              subst ha_e
              clear hel_e
              generalize l[k] = e at *
              generalize hes : (upK (overE lo hi) x.chans x.chans.length ++ upK (underE lo hi gain) x.chans x.chans.length ++ (l.take k).map (priceE x.chans)) = es at *
              have HES := Lib.hid hes; clear hes
              have hkk : (k : Int) ≤ 60 := by omega
              go_wp2_with fail
              obtain ⟨U, hU⟩ : ∃ U, U = R4.alloc (.cells #[.int .i64 e.frm, .int .i64 e.to, .int .i64 e.ppm] 125) := ⟨_, rfl⟩
              have gU : Grow R4 U := by rw [hU]; exact (Grow.refl _).alloc _ _
              have BC : Box U R4.heap.size [.int .i64 e.frm, .int .i64 e.to, .int .i64 e.ppm] := by rw [hU]; exact Box.new R4 _ _
              rw [← hU]
              clear hU
              clear z0 z1 q0_0 q0_1 q0_2 q0_3 q0_4 q0_5 f0 q1_0 q1_1 f1
              replace HGR : Hid (GRow U V1 V1.heap.size ((x.chans.length : Int) + 1) v es) := HGR.out.grow gU
              replace HGV : Hid (Grow V1 U) := HGV.out.trans gU
              replace G := G.trans gU
              replace B0 := B0.grow gU
              replace B1 := B1.grow gU
              clear gU
              have z0 := B0.lt
              have z1 := B1.lt
              have q0_0 : U.cell? ⟨w.heap.size, 0, none⟩ = some (.int .i64 x.tick) := B0.c 0 _ rfl
              have q0_1 : U.cell? ⟨w.heap.size, 1, none⟩ = some (.int .i64 x.next) := B0.c 1 _ rfl
              have q0_2 : U.cell? ⟨w.heap.size, 2, none⟩ = some (.int .i64 x.wallet) := B0.c 2 _ rfl
              have q0_3 : U.cell? ⟨w.heap.size, 3, none⟩ = some (.slice a0 x.chans.length c0) := B0.c 3 _ rfl
              have q0_4 : U.cell? ⟨w.heap.size, 4, none⟩ = some (.slice a1 x.htlcs.length c1) := B0.c 4 _ rfl
              have q0_5 : U.cell? ⟨w.heap.size, 5, none⟩ = some (.slice a2 x.circles.length c2) := B0.c 5 _ rfl
              have f0 := B0.f
              have q1_0 : U.cell? ⟨w.heap.size + 1, 0, none⟩ = some (.int .i64 0) := B1.c 0 _ rfl
              have q1_1 : U.cell? ⟨w.heap.size + 1, 1, none⟩ = some (.slice none 0 0) := B1.c 1 _ rfl
              have f1 := B1.f
              have zc := BC.lt
              have qc0 : U.cell? ⟨R4.heap.size, 0, none⟩ = some (.int .i64 e.frm) := BC.c 0 _ rfl
              have qc1 : U.cell? ⟨R4.heap.size, 1, none⟩ = some (.int .i64 e.to) := BC.c 1 _ rfl
              have qc2 : U.cell? ⟨R4.heap.size, 2, none⟩ = some (.int .i64 e.ppm) := BC.c 2 _ rfl
              have gq0 : U.cell? ⟨V1.heap.size, 0, none⟩ = some (.int .i64 ((x.chans.length : Int) + 1)) := HGR.out.box.c 0 _ rfl
              have gq1 : U.cell? ⟨V1.heap.size, 1, none⟩ = some v := HGR.out.box.c 1 _ rfl
              have gz : V1.heap.size < U.heap.size := HGR.out.box.lt
              have hb1 := chanAt_bd x.chans e.frm
              have hb2 := chanAt_bd x.chans e.to
              have HPE : Hid (priceE x.chans e = ⟨chanAt x.chans e.frm + 1, chanAt x.chans e.to + 1, 1000000000, e.ppm⟩) := rfl
              have HC1 : Hid (∀ (W : World) (hw : Grow w W), Calls Try.prog 63 #[.agg #[.int .i64 x.tick, .int .i64 x.next, .int .i64 x.wallet, .slice a0 x.chans.length c0, .slice a1 x.htlcs.length c1, .slice a2 x.circles.length c2], .int .i64 e.frm] W fun e' w' => e' = .returned (.int .i64 (chanAt x.chans e.frm)) ∧ Grow W w') := fun W hw => spec_At_c x _ _ _ _ _ _ e.frm W (H0.out.grow' repChan_stable (Grow.below hw)) hn
              have HC2 : Hid (∀ (W : World) (hw : Grow w W), Calls Try.prog 63 #[.agg #[.int .i64 x.tick, .int .i64 x.next, .int .i64 x.wallet, .slice a0 x.chans.length c0, .slice a1 x.htlcs.length c1, .slice a2 x.circles.length c2], .int .i64 e.to] W fun e' w' => e' = .returned (.int .i64 (chanAt x.chans e.to)) ∧ Grow W w') := fun W hw => spec_At_c x _ _ _ _ _ _ e.to W (H0.out.grow' repChan_stable (Grow.below hw)) hn
              generalize chanAt x.chans e.frm = p1 at *
              generalize chanAt x.chans e.to = p2 at *
              have hq1 : IntKind.i64.wrap (p1 + 1) = p1 + 1 := by rw [IntKind.wrap_i64]; omega
              have hq2 : IntKind.i64.wrap (p2 + 1) = p2 + 1 := by rw [IntKind.wrap_i64]; omega
              have HU := Lib.hid G
              have gq1d : U.drew.cell? ⟨V1.heap.size, 1, none⟩ = some v := gq1
              have hS0 : (fun W : World => W.cell? ⟨V1.heap.size, 1, none⟩ = some v ∧ W.cell? ⟨w.heap.size, 0, none⟩ = some (.int .i64 x.tick) ∧ W.cell? ⟨w.heap.size, 1, none⟩ = some (.int .i64 x.next) ∧ W.cell? ⟨w.heap.size, 2, none⟩ = some (.int .i64 x.wallet) ∧ W.cell? ⟨w.heap.size, 3, none⟩ = some (.slice a0 x.chans.length c0) ∧ W.cell? ⟨w.heap.size, 4, none⟩ = some (.slice a1 x.htlcs.length c1) ∧ W.cell? ⟨w.heap.size, 5, none⟩ = some (.slice a2 x.circles.length c2) ∧ W.cell? ⟨R4.heap.size, 0, none⟩ = some (.int .i64 e.frm) ∧ W.cell? ⟨R4.heap.size, 1, none⟩ = some (.int .i64 e.to) ∧ W.cell? ⟨R4.heap.size, 2, none⟩ = some (.int .i64 e.ppm)) U.drew := ⟨gq1, q0_0, q0_1, q0_2, q0_3, q0_4, q0_5, qc0, qc1, qc2⟩
              refine wp_region_G (f := 18) (S := fun W => W.cell? ⟨V1.heap.size, 1, none⟩ = some v ∧ W.cell? ⟨w.heap.size, 0, none⟩ = some (.int .i64 x.tick) ∧ W.cell? ⟨w.heap.size, 1, none⟩ = some (.int .i64 x.next) ∧ W.cell? ⟨w.heap.size, 2, none⟩ = some (.int .i64 x.wallet) ∧ W.cell? ⟨w.heap.size, 3, none⟩ = some (.slice a0 x.chans.length c0) ∧ W.cell? ⟨w.heap.size, 4, none⟩ = some (.slice a1 x.htlcs.length c1) ∧ W.cell? ⟨w.heap.size, 5, none⟩ = some (.slice a2 x.circles.length c2) ∧ W.cell? ⟨R4.heap.size, 0, none⟩ = some (.int .i64 e.frm) ∧ W.cell? ⟨R4.heap.size, 1, none⟩ = some (.int .i64 e.to) ∧ W.cell? ⟨R4.heap.size, 2, none⟩ = some (.int .i64 e.ppm)) (by kernel_rfl) ?_
              change wpAnyG _ _ _ _ _ _ 19 _ _ _
              refine wpAnyG_take' (i := 0) (by simp only [List.getElem?_toArray, List.getElem?_cons_succ, List.getElem?_cons_zero]; rfl) ?_
              refine ⟨by kernel_rfl, by kernel_rfl, by kernel_rfl, by kernel_rfl, by kernel_rfl, fun _ _ _ _ h => h, hS0, ?vprice0, Or.inl ⟨by rfl, ?hyprice0⟩, ?restprice0⟩
              case hyprice0 =>
                intro W hSw
                obtain ⟨s_0, s_1, s_2, s_3, s_4, s_5, s_6, s_7, s_8, s_9⟩ := hSw
                go_simp
                try with_reducible rfl
              (try simp only [Act.put, List.setIfInBounds_toArray, List.set_cons_zero, List.set_cons_succ])
              refine wpAnyG_take' (i := 1) (by simp only [List.getElem?_toArray, List.getElem?_cons_succ, List.getElem?_cons_zero]; rfl) ?_
              refine ⟨by kernel_rfl, by kernel_rfl, by kernel_rfl, by kernel_rfl, by kernel_rfl, fun _ _ _ _ h => h, hS0, ?vprice1, Or.inl ⟨by rfl, ?hyprice1⟩, ?restprice1⟩
              case hyprice1 =>
                intro W hSw
                obtain ⟨s_0, s_1, s_2, s_3, s_4, s_5, s_6, s_7, s_8, s_9⟩ := hSw
                go_simp
                try with_reducible rfl
              (try simp only [Act.put, List.setIfInBounds_toArray, List.set_cons_zero, List.set_cons_succ])
              refine wpAnyG_take' (i := 2) (by simp only [List.getElem?_toArray, List.getElem?_cons_succ, List.getElem?_cons_zero]; rfl) ?_
              refine ⟨by kernel_rfl, by kernel_rfl, by kernel_rfl, by kernel_rfl, by kernel_rfl, fun _ _ _ _ h => h, hS0, ?vprice2, Or.inl ⟨by rfl, ?hyprice2⟩, ?restprice2⟩
              case hyprice2 =>
                intro W hSw
                obtain ⟨s_0, s_1, s_2, s_3, s_4, s_5, s_6, s_7, s_8, s_9⟩ := hSw
                go_simp
                try with_reducible rfl
              (try simp only [Act.put, List.setIfInBounds_toArray, List.set_cons_zero, List.set_cons_succ])
              refine wpAnyG_take' (i := 3) (by simp only [List.getElem?_toArray, List.getElem?_cons_succ, List.getElem?_cons_zero]; rfl) ?_
              refine ⟨by kernel_rfl, by kernel_rfl, by kernel_rfl, by kernel_rfl, by kernel_rfl, fun _ _ _ _ h => h, hS0, ?vprice3, Or.inl ⟨by rfl, ?hyprice3⟩, ?restprice3⟩
              case hyprice3 =>
                intro W hSw
                obtain ⟨s_0, s_1, s_2, s_3, s_4, s_5, s_6, s_7, s_8, s_9⟩ := hSw
                go_simp
                try with_reducible rfl
              (try simp only [Act.put, List.setIfInBounds_toArray, List.set_cons_zero, List.set_cons_succ])
              refine wpAnyG_take' (i := 4) (by simp only [List.getElem?_toArray, List.getElem?_cons_succ, List.getElem?_cons_zero]; rfl) ?_
              refine ⟨by kernel_rfl, by kernel_rfl, by kernel_rfl, by kernel_rfl, by kernel_rfl, fun _ _ _ _ h => h, hS0, ?vprice4, Or.inl ⟨by rfl, ?hyprice4⟩, ?restprice4⟩
              case hyprice4 =>
                intro W hSw
                obtain ⟨s_0, s_1, s_2, s_3, s_4, s_5, s_6, s_7, s_8, s_9⟩ := hSw
                go_simp
                try with_reducible rfl
              (try simp only [Act.put, List.setIfInBounds_toArray, List.set_cons_zero, List.set_cons_succ])
              refine wpAnyG_take' (i := 7) (by simp only [List.getElem?_toArray, List.getElem?_cons_succ, List.getElem?_cons_zero]; rfl) ?_
              refine ⟨by kernel_rfl, by kernel_rfl, by kernel_rfl, by kernel_rfl, by kernel_rfl, fun _ _ _ _ h => h, hS0, ?vprice7, Or.inl ⟨by rfl, ?hyprice7⟩, ?restprice7⟩
              case hyprice7 =>
                intro W hSw
                obtain ⟨s_0, s_1, s_2, s_3, s_4, s_5, s_6, s_7, s_8, s_9⟩ := hSw
                go_simp
                try with_reducible rfl
              (try simp only [Act.put, List.setIfInBounds_toArray, List.set_cons_zero, List.set_cons_succ])
              refine wpAnyG_take' (i := 8) (by simp only [List.getElem?_toArray, List.getElem?_cons_succ, List.getElem?_cons_zero]; rfl) ?_
              refine ⟨by kernel_rfl, by kernel_rfl, by kernel_rfl, by kernel_rfl, by kernel_rfl, fun _ _ _ _ h => h, hS0, ?vprice8, Or.inl ⟨by rfl, ?hyprice8⟩, ?restprice8⟩
              case hyprice8 =>
                intro W hSw
                obtain ⟨s_0, s_1, s_2, s_3, s_4, s_5, s_6, s_7, s_8, s_9⟩ := hSw
                go_simp
                try with_reducible rfl
              (try simp only [Act.put, List.setIfInBounds_toArray, List.set_cons_zero, List.set_cons_succ])
              refine wpAnyG_take' (i := 9) (by simp only [List.getElem?_toArray, List.getElem?_cons_succ, List.getElem?_cons_zero]; rfl) ?_
              refine ⟨by kernel_rfl, by kernel_rfl, by kernel_rfl, by kernel_rfl, by kernel_rfl, fun _ _ _ _ h => h, hS0, ?vprice9, Or.inl ⟨by rfl, ?hyprice9⟩, ?restprice9⟩
              case hyprice9 =>
                intro W hSw
                obtain ⟨s_0, s_1, s_2, s_3, s_4, s_5, s_6, s_7, s_8, s_9⟩ := hSw
                go_simp
                try with_reducible rfl
              (try simp only [Act.put, List.setIfInBounds_toArray, List.set_cons_zero, List.set_cons_succ])
              refine wpAnyG_take' (i := 12) (by simp only [List.getElem?_toArray, List.getElem?_cons_succ, List.getElem?_cons_zero]; rfl) ?_
              refine ⟨by kernel_rfl, by kernel_rfl, by kernel_rfl, by kernel_rfl, by kernel_rfl, fun _ _ _ _ h => h, hS0, ?vprice12, Or.inl ⟨by rfl, ?hyprice12⟩, ?restprice12⟩
              case hyprice12 =>
                intro W hSw
                obtain ⟨s_0, s_1, s_2, s_3, s_4, s_5, s_6, s_7, s_8, s_9⟩ := hSw
                go_simp
                try with_reducible rfl
              (try simp only [Act.put, List.setIfInBounds_toArray, List.set_cons_zero, List.set_cons_succ])
              refine wpAnyG_take' (i := 13) (by simp only [List.getElem?_toArray, List.getElem?_cons_succ, List.getElem?_cons_zero]; rfl) ?_
              refine ⟨by kernel_rfl, by kernel_rfl, by kernel_rfl, by kernel_rfl, by kernel_rfl, fun _ _ _ _ h => h, hS0, ?vprice13, Or.inl ⟨by rfl, ?hyprice13⟩, ?restprice13⟩
              case hyprice13 =>
                intro W hSw
                obtain ⟨s_0, s_1, s_2, s_3, s_4, s_5, s_6, s_7, s_8, s_9⟩ := hSw
                go_simp
                try with_reducible rfl
              (try simp only [Act.put, List.setIfInBounds_toArray, List.set_cons_zero, List.set_cons_succ])
              refine wpAnyG_one (i := 5) (o := _) (by simp only [List.getElem?_toArray, List.getElem?_cons_succ, List.getElem?_cons_zero]; rfl) (by kernel_rfl) ?_
              intro K' hK
              have HK_ := Lib.hid hK; clear hK
              rw [if_pos (by rfl)]
              go_simp
              go_at_call 63
              refine (HC1.out _ HU.out.drew).mono ?_
              rintro e' w1 ⟨rfl, g1⟩
              have gU1 : Grow U w1 := ((Grow.refl U).drew).trans g1
              have hS1 : (fun W : World => W.cell? ⟨V1.heap.size, 1, none⟩ = some v ∧ W.cell? ⟨w.heap.size, 0, none⟩ = some (.int .i64 x.tick) ∧ W.cell? ⟨w.heap.size, 1, none⟩ = some (.int .i64 x.next) ∧ W.cell? ⟨w.heap.size, 2, none⟩ = some (.int .i64 x.wallet) ∧ W.cell? ⟨w.heap.size, 3, none⟩ = some (.slice a0 x.chans.length c0) ∧ W.cell? ⟨w.heap.size, 4, none⟩ = some (.slice a1 x.htlcs.length c1) ∧ W.cell? ⟨w.heap.size, 5, none⟩ = some (.slice a2 x.circles.length c2) ∧ W.cell? ⟨R4.heap.size, 0, none⟩ = some (.int .i64 e.frm) ∧ W.cell? ⟨R4.heap.size, 1, none⟩ = some (.int .i64 e.to) ∧ W.cell? ⟨R4.heap.size, 2, none⟩ = some (.int .i64 e.ppm)) w1 := ⟨cellGrow gU1 gq1, cellGrow gU1 q0_0, cellGrow gU1 q0_1, cellGrow gU1 q0_2, cellGrow gU1 q0_3, cellGrow gU1 q0_4, cellGrow gU1 q0_5, cellGrow gU1 qc0, cellGrow gU1 qc1, cellGrow gU1 qc2⟩
              refine HK_.out _ _ (fun _ => hS1) ?_
              (try simp only [Act.put, List.setIfInBounds_toArray, List.set_cons_zero, List.set_cons_succ])
              refine wpAnyG_take' (i := 6) (by simp only [List.getElem?_toArray, List.getElem?_cons_succ, List.getElem?_cons_zero]; rfl) ?_
              refine ⟨by kernel_rfl, by kernel_rfl, by kernel_rfl, by kernel_rfl, by kernel_rfl, fun _ _ _ _ h => h, hS1, ?vprice6, Or.inl ⟨by rfl, ?hyprice6⟩, ?restprice6⟩
              case hyprice6 =>
                intro W hSw
                obtain ⟨s_0, s_1, s_2, s_3, s_4, s_5, s_6, s_7, s_8, s_9⟩ := hSw
                go_simp
                try with_reducible rfl
              (try simp only [Act.put, List.setIfInBounds_toArray, List.set_cons_zero, List.set_cons_succ])
              refine wpAnyG_one (i := 10) (o := _) (by simp only [List.getElem?_toArray, List.getElem?_cons_succ, List.getElem?_cons_zero]; rfl) (by kernel_rfl) ?_
              intro K' hK
              have HK_ := Lib.hid hK; clear hK
              rw [if_pos (by rfl)]
              go_simp
              go_at_call 63
              refine (HC2.out _ (HU.out.trans gU1)).mono ?_
              rintro e' w2 ⟨rfl, g2⟩
              have gU2 : Grow U w2 := gU1.trans g2
              have hS2 : (fun W : World => W.cell? ⟨V1.heap.size, 1, none⟩ = some v ∧ W.cell? ⟨w.heap.size, 0, none⟩ = some (.int .i64 x.tick) ∧ W.cell? ⟨w.heap.size, 1, none⟩ = some (.int .i64 x.next) ∧ W.cell? ⟨w.heap.size, 2, none⟩ = some (.int .i64 x.wallet) ∧ W.cell? ⟨w.heap.size, 3, none⟩ = some (.slice a0 x.chans.length c0) ∧ W.cell? ⟨w.heap.size, 4, none⟩ = some (.slice a1 x.htlcs.length c1) ∧ W.cell? ⟨w.heap.size, 5, none⟩ = some (.slice a2 x.circles.length c2) ∧ W.cell? ⟨R4.heap.size, 0, none⟩ = some (.int .i64 e.frm) ∧ W.cell? ⟨R4.heap.size, 1, none⟩ = some (.int .i64 e.to) ∧ W.cell? ⟨R4.heap.size, 2, none⟩ = some (.int .i64 e.ppm)) w2 := ⟨cellGrow gU2 gq1, cellGrow gU2 q0_0, cellGrow gU2 q0_1, cellGrow gU2 q0_2, cellGrow gU2 q0_3, cellGrow gU2 q0_4, cellGrow gU2 q0_5, cellGrow gU2 qc0, cellGrow gU2 qc1, cellGrow gU2 qc2⟩
              refine HK_.out _ _ (fun _ => hS2) ?_
              (try simp only [Act.put, List.setIfInBounds_toArray, List.set_cons_zero, List.set_cons_succ])
              refine wpAnyG_take' (i := 11) (by simp only [List.getElem?_toArray, List.getElem?_cons_succ, List.getElem?_cons_zero]; rfl) ?_
              refine ⟨by kernel_rfl, by kernel_rfl, by kernel_rfl, by kernel_rfl, by kernel_rfl, fun _ _ _ _ h => h, hS2, ?vprice11, Or.inl ⟨by rfl, ?hyprice11⟩, ?restprice11⟩
              case hyprice11 =>
                intro W hSw
                obtain ⟨s_0, s_1, s_2, s_3, s_4, s_5, s_6, s_7, s_8, s_9⟩ := hSw
                go_simp
                try with_reducible rfl
              (try simp only [Act.put, List.setIfInBounds_toArray, List.set_cons_zero, List.set_cons_succ])
              refine wpAnyG_take' (i := 14) (by simp only [List.getElem?_toArray, List.getElem?_cons_succ, List.getElem?_cons_zero]; rfl) ?_
              refine ⟨by kernel_rfl, by kernel_rfl, by kernel_rfl, by kernel_rfl, by kernel_rfl, fun _ _ _ _ h => h, hS2, ?vprice14, Or.inl ⟨by rfl, ?hyprice14⟩, ?restprice14⟩
              case hyprice14 =>
                intro W hSw
                obtain ⟨s_0, s_1, s_2, s_3, s_4, s_5, s_6, s_7, s_8, s_9⟩ := hSw
                go_simp
                try with_reducible rfl
              (try simp only [Act.put, List.setIfInBounds_toArray, List.set_cons_zero, List.set_cons_succ])
              refine wpAnyG_one (i := 15) (o := _) (by simp only [List.getElem?_toArray, List.getElem?_cons_succ, List.getElem?_cons_zero]; rfl) (by kernel_rfl) ?_
              intro K' hK
              have HK_ := Lib.hid hK; clear hK
              rw [if_pos (by rfl)]
              go_simp
              have hS3 : (fun W : World => W.cell? ⟨V1.heap.size, 1, none⟩ = some v ∧ W.cell? ⟨w.heap.size, 0, none⟩ = some (.int .i64 x.tick) ∧ W.cell? ⟨w.heap.size, 1, none⟩ = some (.int .i64 x.next) ∧ W.cell? ⟨w.heap.size, 2, none⟩ = some (.int .i64 x.wallet) ∧ W.cell? ⟨w.heap.size, 3, none⟩ = some (.slice a0 x.chans.length c0) ∧ W.cell? ⟨w.heap.size, 4, none⟩ = some (.slice a1 x.htlcs.length c1) ∧ W.cell? ⟨w.heap.size, 5, none⟩ = some (.slice a2 x.circles.length c2) ∧ W.cell? ⟨R4.heap.size, 0, none⟩ = some (.int .i64 e.frm) ∧ W.cell? ⟨R4.heap.size, 1, none⟩ = some (.int .i64 e.to) ∧ W.cell? ⟨R4.heap.size, 2, none⟩ = some (.int .i64 e.ppm)) (w2.alloc (.cells #[.int .i64 (p1 + 1), .int .i64 (p2 + 1), .int .i64 1000000000, .int .i64 e.ppm] 123)) := ⟨cellGrow (gU2.alloc _ _) gq1, cellGrow (gU2.alloc _ _) q0_0, cellGrow (gU2.alloc _ _) q0_1, cellGrow (gU2.alloc _ _) q0_2, cellGrow (gU2.alloc _ _) q0_3, cellGrow (gU2.alloc _ _) q0_4, cellGrow (gU2.alloc _ _) q0_5, cellGrow (gU2.alloc _ _) qc0, cellGrow (gU2.alloc _ _) qc1, cellGrow (gU2.alloc _ _) qc2⟩
              refine HK_.out _ _ (fun _ => hS3) ?_
              (try simp only [Act.put, List.setIfInBounds_toArray, List.set_cons_zero, List.set_cons_succ])
              refine wpAnyG_one (i := 16) (o := _) (by simp only [List.getElem?_toArray, List.getElem?_cons_succ, List.getElem?_cons_zero]; rfl) (by kernel_rfl) ?_
              intro K' hK
              have HK_ := Lib.hid hK; clear hK
              refine step_append_g rfl (.tmp 122) (.tmp 136) 29 rfl V1 ((HGV.out.trans gU2).alloc _ _) 123 i0 _ 4 32 Try.underlying29 hi0 hz0 hz1 hz2 rfl (by omega) v es.length (es.flatMap encEdge) rfl (own_grow HGR.out.own (gU2.alloc _ _)) ⟨w2.heap.size, 0, none⟩ 1 1 [.int .i64 (p1 + 1), .int .i64 (p2 + 1), .int .i64 1000000000, .int .i64 e.ppm] rfl rfl (news_of _ _ _ _ (by simp [hq1, hq2])) (one_edge _ _ _ _) (by simp only [maxLen]; omega) (by omega) ?_
              intro v1 w3 hown' hg' hgb hat
              obtain ⟨va, vc, rfl⟩ := own_form hown'
              (try simp only [hq1, hq2] at hgb)
              have hgu : Grow U (w2.alloc (.cells #[.int .i64 (p1 + 1), .int .i64 (p2 + 1), .int .i64 1000000000, .int .i64 e.ppm] 123)) := gU2.alloc _ _
              have s0 : w3.cell? ⟨V1.heap.size, 0, none⟩ = some (.int .i64 ((x.chans.length : Int) + 1)) := cellKept hgb HGR.out.ne (cellGrow hgu gq0)
              have s1 : w3.cell? ⟨V1.heap.size, 1, none⟩ = some v := cellKept hgb HGR.out.ne (cellGrow hgu gq1)
              have z1 : V1.heap.size < w3.heap.size := lt_of_cell s0
              have fz1 : ∀ o, w3.frozen? ⟨V1.heap.size, o, none⟩ = false := fun o => hg'.nf _ o (by omega) z1
              have HPUSH := Lib.hid (GRow.push (e := ⟨p1 + 1, p2 + 1, 1000000000, e.ppm⟩) (HGR.out.grow hgu) hown' hgb hat)
              have HGN := Lib.hid (hg'.setCell (p := ⟨V1.heap.size, 1, none⟩) (Nat.le_refl _) (.slice va (es.length + 1) vc))
              have r0 : w3.cell? ⟨w.heap.size, 0, none⟩ = some (.int .i64 x.tick) := cellGrow hg' (cell_back HGV.out (by omega) q0_0)
              have r1 : w3.cell? ⟨w.heap.size, 1, none⟩ = some (.int .i64 x.next) := cellGrow hg' (cell_back HGV.out (by omega) q0_1)
              have r2 : w3.cell? ⟨w.heap.size, 2, none⟩ = some (.int .i64 x.wallet) := cellGrow hg' (cell_back HGV.out (by omega) q0_2)
              have r3 : w3.cell? ⟨w.heap.size, 3, none⟩ = some (.slice a0 x.chans.length c0) := cellGrow hg' (cell_back HGV.out (by omega) q0_3)
              have r4 : w3.cell? ⟨w.heap.size, 4, none⟩ = some (.slice a1 x.htlcs.length c1) := cellGrow hg' (cell_back HGV.out (by omega) q0_4)
              have r5 : w3.cell? ⟨w.heap.size, 5, none⟩ = some (.slice a2 x.circles.length c2) := cellGrow hg' (cell_back HGV.out (by omega) q0_5)
              have r6 : w3.cell? ⟨R4.heap.size, 0, none⟩ = some (.int .i64 e.frm) := cellKept hgb HNE.out (cellGrow hgu qc0)
              have r7 : w3.cell? ⟨R4.heap.size, 1, none⟩ = some (.int .i64 e.to) := cellKept hgb HNE.out (cellGrow hgu qc1)
              have r8 : w3.cell? ⟨R4.heap.size, 2, none⟩ = some (.int .i64 e.ppm) := cellKept hgb HNE.out (cellGrow hgu qc2)
              clear hown' hg' hgb hat hgu
              have hS4 : (fun W : World => W.cell? ⟨V1.heap.size, 1, none⟩ = some v ∧ W.cell? ⟨w.heap.size, 0, none⟩ = some (.int .i64 x.tick) ∧ W.cell? ⟨w.heap.size, 1, none⟩ = some (.int .i64 x.next) ∧ W.cell? ⟨w.heap.size, 2, none⟩ = some (.int .i64 x.wallet) ∧ W.cell? ⟨w.heap.size, 3, none⟩ = some (.slice a0 x.chans.length c0) ∧ W.cell? ⟨w.heap.size, 4, none⟩ = some (.slice a1 x.htlcs.length c1) ∧ W.cell? ⟨w.heap.size, 5, none⟩ = some (.slice a2 x.circles.length c2) ∧ W.cell? ⟨R4.heap.size, 0, none⟩ = some (.int .i64 e.frm) ∧ W.cell? ⟨R4.heap.size, 1, none⟩ = some (.int .i64 e.to) ∧ W.cell? ⟨R4.heap.size, 2, none⟩ = some (.int .i64 e.ppm)) w3 := ⟨s1, r0, r1, r2, r3, r4, r5, r6, r7, r8⟩
              refine HK_.out _ _ (fun _ => hS4) ?_
              (try simp only [Act.put, List.setIfInBounds_toArray, List.set_cons_zero, List.set_cons_succ])
              refine wpAnyG_take' (i := 17) (by simp only [List.getElem?_toArray, List.getElem?_cons_succ, List.getElem?_cons_zero]; rfl) ?_
              refine ⟨by kernel_rfl, by kernel_rfl, by kernel_rfl, by kernel_rfl, by kernel_rfl, fun _ _ _ _ h => h, hS4, ?vprice17, Or.inl ⟨by rfl, ?hyprice17⟩, ?restprice17⟩
              case hyprice17 =>
                intro W hSw
                obtain ⟨s_0, s_1, s_2, s_3, s_4, s_5, s_6, s_7, s_8, s_9⟩ := hSw
                go_simp
                try with_reducible rfl
              (try simp only [Act.put, List.setIfInBounds_toArray, List.set_cons_zero, List.set_cons_succ])
              refine wpAnyG_one (i := 18) (o := _) (by simp only [List.getElem?_toArray, List.getElem?_cons_succ, List.getElem?_cons_zero]; rfl) (by kernel_rfl) ?_
              intro K' hK
              have HK_ := Lib.hid hK; clear hK
              rw [if_pos (by rfl)]
              go_simp
              refine HK_.out _ _ (fun h => absurd rfl h) (wpAnyG_done (by kernel_rfl) ?_ _)
              all_goals (go_wp2_with fail)
              all_goals
                go_roundg (l.length - (k + 1))
                case measure => have := HK.out; omega
                case rel => exact ⟨k + 1, (.slice va (es.length + 1) vc), by have := HK.out; omega, by go_num, by rw [HM.out, HPE.out]; first | exact HPUSH.out | (rw [← List.append_assoc, HES.out]; exact HPUSH.out), HGN.out⟩
            · obtain rfl : k = l.length := by omega
              clear hk hlt
              have hge := HYG.out HOK.out
              have HGE := Lib.hid hge; clear hge
              have hgr := HGR.out
              rw [List.take_length] at hgr
              have hpe : upK (overE lo hi) x.chans x.chans.length ++ upK (underE lo hi gain) x.chans x.chans.length ++ l.map (priceE x.chans) = planE x.chans lo hi gain l := rfl
              rw [hpe] at hgr
              clear hpe
              have SE : SlR 4 repEdge R4 V1.heap.size R4.heap.size v (planE x.chans lo hi gain l) := SlR.of_own length_encEdge hgr.own (fun y hy => ⟨rfl, (HSM.out y hy).wf⟩)
              have SE' := SE
              obtain ⟨av, cv, rfl, _, _, _⟩ := SE'
              have HSE := Lib.hid SE; clear SE
              have gq0 := hgr.box.c 0 _ rfl
              have gq1 := hgr.box.c 1 _ rfl
              have gz := hgr.box.lt
              clear hgr
              have z0 := B0.lt
              have z1 := B1.lt
              have q0_0 : R4.cell? ⟨w.heap.size, 0, none⟩ = some (.int .i64 x.tick) := B0.c 0 _ rfl
              have q0_1 : R4.cell? ⟨w.heap.size, 1, none⟩ = some (.int .i64 x.next) := B0.c 1 _ rfl
              have q0_2 : R4.cell? ⟨w.heap.size, 2, none⟩ = some (.int .i64 x.wallet) := B0.c 2 _ rfl
              have q0_3 : R4.cell? ⟨w.heap.size, 3, none⟩ = some (.slice a0 x.chans.length c0) := B0.c 3 _ rfl
              have q0_4 : R4.cell? ⟨w.heap.size, 4, none⟩ = some (.slice a1 x.htlcs.length c1) := B0.c 4 _ rfl
              have q0_5 : R4.cell? ⟨w.heap.size, 5, none⟩ = some (.slice a2 x.circles.length c2) := B0.c 5 _ rfl
              have f0 := B0.f
              have q1_0 : R4.cell? ⟨w.heap.size + 1, 0, none⟩ = some (.int .i64 0) := B1.c 0 _ rfl
              have q1_1 : R4.cell? ⟨w.heap.size + 1, 1, none⟩ = some (.slice none 0 0) := B1.c 1 _ rfl
              have f1 := B1.f
              generalize hpl : planE x.chans lo hi gain l = pe at *
              have HPL := Lib.hid hpl; clear hpl
              go_wp2_with fail
              refine bodyPost_ret (v := .tuple #[.agg #[.int .i64 ((x.chans.length : Int) + 1), .slice av pe.length cv], .bool true]) (by simp [results, Try.results32, go_sem, q1_0, q1_1]) rfl ⟨av, cv, ?_, ?_, ?_⟩
              · rw [HGE.out, HOK.out]
              · exact ((G.setCell (by show w.heap.size ≤ w.heap.size + 1; omega) _).setCell (by show w.heap.size ≤ w.heap.size + 1; omega) _)
              · rw [HGE.out]
                have h := (HSE.out.same repEdge_stable (((Same.refl _ _ _).setCell (p := ⟨w.heap.size + 1, 0, none⟩) (.inl hgw) (.int .i64 ((x.chans.length : Int) + 1))).setCell (p := ⟨w.heap.size + 1, 1, none⟩) (.inl hgw) (.slice av pe.length cv))).stable repEdge_stable (Same.refl _ _ _) (lo' := w.heap.size) (by omega) (Nat.le_refl _)
                have e : ∀ (W : World) p u q t, ((W.setCell p u).setCell q t).heap.size = W.heap.size := fun W p u q t => by rw [World.size_setCell, World.size_setCell]
                refine h.stable repEdge_stable (Same.refl _ _ _) (Nat.le_refl _) (by rw [World.size_setCell, World.size_setCell]; exact Nat.le_refl _)

end Go.Proofs.Ytbjnbhlpibadnaa

/- Rows of integers that the call owns: copied, and stored into. -/
namespace Go.Proofs.Ytbjnbhlpibadnaa
open Go.RowKit
set_option linter.unusedSimpArgs false
set_option linter.unusedVariables false

theorem SlR.capm {α : Type} {sz : Nat} {rep : World → Nat → Nat → List Value → α → Prop} {w : World} {lo hi n c : Nat} {a : Option Addr} {xs : List α} (h : SlR sz rep w lo hi (.slice a n c) xs) : c ≤ maxLen := by
  obtain ⟨a_, c_, heq, _, h1, _⟩ := h
  injection heq with _ _ q3
  subst q3; exact h1
/-- From offset off on block b holds the integers s. -/
def IntsOff (w : World) (b off : Nat) (s : List Int) : Prop := ∀ j (h : j < s.length), w.cell? ⟨b, off + j, none⟩ = some (.int .i64 s[j])
theorem IntsOff.of_slr {w : World} {lo hi n c : Nat} {a : Option Addr} {xs : List Int} (h : SlR 1 repInt w lo hi (.slice a n c) xs) (h0 : 0 < xs.length) : ∃ b off, a = some ⟨b, off, none⟩ ∧ lo ≤ b ∧ b < hi ∧ IntsOff w b off xs := by
  obtain ⟨b, off, ha, h1, h2, hel⟩ := h.elems 0 h0
  exact ⟨b, off, ha, h1, h2, fun j hj => by simpa using (Int.atCell hel j hj).1⟩
theorem IntsOff.set {w : World} {b off : Nat} {s : List Int} (h : IntsOff w b off s) {i : Nat} (hi : i < s.length) (v : Int) : IntsOff (w.setCell ⟨b, off + i, none⟩ (.int .i64 v)) b off (s.set i v) := fun j hj => by
  have hj' : j < s.length := by simpa using hj
  by_cases e : i = j
  · subst e
    rw [World.cell?_setCell_same w ⟨b, off + i, none⟩ _ (h i hi)]; simp
  · rw [World.cell?_setCell_other w ⟨b, off + i, none⟩ ⟨b, off + j, none⟩ _ (by intro e2; injection e2 with _ e3; omega), h j hj']
    rw [List.getElem_set_ne e]
theorem IntsOff.grow {w w' : World} {b off : Nat} {s : List Int} (h : IntsOff w b off s) (g : Grow w w') : IntsOff w' b off s := fun j hj => cellGrow g (h j hj)
theorem IntsOff.slr {w : World} {b off lo hi c : Nat} {s : List Int} (h : IntsOff w b off s) (h1 : lo ≤ b) (h2 : b < hi) (hc : s.length ≤ c) (hm : c ≤ maxLen) (hr : ∀ i (h : i < s.length), i64 s[i]) : SlR 1 repInt w lo hi (.slice (some ⟨b, off, none⟩) s.length c) s :=
  ⟨_, _, rfl, hc, hm, .inr ⟨b, off, rfl, h1, h2, fun i hi => ⟨[.int .i64 s[i]], ⟨rfl, hr i hi⟩, fun j v hj => by
    cases j with
    | zero => simp at hj; subst hj; simpa using h i hi
    | succ j => simp at hj⟩⟩⟩
def encI (n : Int) : List Value := [.int .i64 n]
theorem length_encI (n : Int) : (encI n).length = 1 := rfl
theorem flat_encI (l : List Int) : l.flatMap encI = l.map (Value.int .i64) := by
  induction l with
  | nil => rfl
  | cons a r ih => rw [List.flatMap_cons, ih]; rfl
theorem ints_news {w : World} {b off : Nat} {s : List Int} (h : IntsOff w b off s) : ∀ j u, (s.map (Value.int .i64))[j]? = some u → w.cell? ((⟨b, off, none⟩ : Addr).add j) = some u := fun j u hj => by
  have hj' : j < s.length := by simpa using (List.getElem?_eq_some_iff.1 hj).1
  have e : (⟨b, off, none⟩ : Addr).add j = ⟨b, off + j, none⟩ := by unfold Addr.add; split <;> simp_all
  rw [e, h j hj']
  rw [List.getElem?_map, List.getElem?_eq_getElem hj'] at hj
  exact hj
theorem infoInt' : (Try.prog.info? 3).map (fun i => (i.zero, i.size, i.bytes)) = some (some (.int .i64 0), 1, 8) := by kernel_rfl
theorem ints_i64 {w : World} {lo hi n c : Nat} {a : Option Addr} {xs : List Int} (h : SlR 1 repInt w lo hi (.slice a n c) xs) : ∀ y ∈ xs, i64 y := fun y hy => by
  obtain ⟨i, hi, rfl⟩ := List.getElem_of_mem hy
  obtain ⟨b, off, _, _, _, hel⟩ := h.elems i hi
  exact (Int.atCell hel i hi).2
/-- A row of integers that the call has appended to its own reads as a list. -/
theorem ints_own {w : World} {base : Nat} {e : TypeId} {v : Value} {xs : List Int} (h : w.ownsRow base e 1 v xs.length (xs.map (Value.int .i64))) (hi : ∀ y ∈ xs, i64 y) : SlR 1 repInt w base w.heap.size v xs :=
  SlR.of_own length_encI (by rw [flat_encI]; exact h) (fun y hy => ⟨rfl, hi y hy⟩)

set_option maxHeartbeats 1000000 in
theorem impl_copyInts_c (xs : List Int) (a : Option Addr) (c : Nat) (w : World) (h0 : SlR 1 repInt w 0 w.heap.size (.slice a xs.length c) xs) (hn : xs.length ≤ 1048576) (h1 : 0 < xs.length) :
    Calls Try.prog 51 #[.slice a xs.length c] w fun e w' => ∃ a c, e = .returned (.slice a xs.length c) ∧ Grow w w' ∧ SlR 1 repInt w' w.heap.size w'.heap.size (.slice a xs.length c) xs := by
  obtain ⟨i0, hi0, hz0, hz1, hz2⟩ := info_parts infoInt'
  have hi64 := ints_i64 h0
  obtain ⟨b, off, rfl, _, hb, hel⟩ := IntsOff.of_slr h0 h1
  have HEL := Lib.hid hel; have HI := Lib.hid hi64; clear hel hi64 h0
  go_enter Try.func51, Try.ntmps51
  go_wp2_with (at_builtin
               go_loud (refine wpList_append_g rfl _ (.tmp 3) 25 rfl w (Grow.refl w) 3 i0 _ 1 8 Try.underlying25 hi0 hz0 hz1 hz2 rfl (by omega) (.slice none 0 0) 0 [] rfl (World.ownsRow_nil _ _ _ _) ⟨b, off, none⟩ xs.length c (xs.map (Value.int .i64)) rfl (by simp) (ints_news HEL.out) (oneCell_ints xs) (by simp only [maxLen]; omega) (by omega) ?_)
               intro v' w' hown' hg' hgb hat
               have HOWN' := Lib.hid hown'; have HG' := Lib.hid hg'; clear hown' hg' hgb hat)
  have hown := HOWN'.out
  rw [Nat.zero_add, List.nil_append] at hown
  have hsl := ints_own hown HI.out
  have hsl' := hsl
  obtain ⟨av, cv, rfl, _, _, _⟩ := hsl'
  have HSL := Lib.hid hsl
  clear hown HOWN' hsl
  go_wp2_with fail
  go_ret
  exact ⟨av, cv, rfl, HG'.out, HSL.out⟩
end Go.Proofs.Ytbjnbhlpibadnaa

/- FlowOk, walked. -/
namespace Go.Proofs.Ytbjnbhlpibadnaa
open Go.RowKit
set_option linter.unusedSimpArgs false
set_option linter.unusedVariables false

set_option maxHeartbeats 4000000 in
set_option maxRecDepth 100000 in
theorem impl_FlowOk_c (x : Graph) (a : Option Addr) (c : Nat) (f : List Int) (a' : Option Addr) (c' : Nat) (w : World) (h : SlR 4 repEdge w 0 w.heap.size (.slice a x.edges.length c) x.edges)
    (h' : SlR 1 repInt w 0 w.heap.size (.slice a' f.length c') f) :
    Calls Try.prog 48 #[.agg #[.int .i64 x.n, .slice a x.edges.length c], .slice a' f.length c'] w fun e w' => e = .returned (.bool (flowOk x f)) ∧ Grow w w' := by
  by_cases hok : graphOk x = true
  rotate_left
  · have hok : graphOk x = false := by simpa using hok
    have hr : flowOk x f = false := by simp [flowOk, hok]
    have HR := Lib.hid hr; clear hr
    go_enter Try.func48, Try.ntmps48
    go_wp2_with fail
    refine (impl_GraphOk_c x _ _ _ (h.grow' repEdge_stable (Grow.below ((Grow.refl _).alloc _ _)))).mono ?_
    rintro e w1 ⟨rfl, g1⟩
    go_wp2_with fail
    go_ret
    exact ⟨by rw [HR.out]; rfl, ((Grow.refl w).alloc _ _).trans g1⟩
  have hok2 : inB x.n 1 24 = true ∧ x.edges.length ≤ 60 ∧ x.edges.all (edgeOk x.n) = true := by
    unfold graphOk at hok; simp only [Bool.and_eq_true, decide_eq_true_eq] at hok; exact ⟨hok.1.1, hok.1.2, hok.2⟩
  obtain ⟨hn, h60, hedges⟩ := hok2
  obtain ⟨hn1, hn2⟩ := inB_true.1 hn
  clear hn
  by_cases hlen : f.length = x.edges.length
  rotate_left
  · have hr : flowOk x f = false := by simp [flowOk, hlen]
    have HR := Lib.hid hr; clear hr
    have hne : ((f.length : Int) != (x.edges.length : Int)) = true := by simp; omega
    have hf : f.length ≤ 9223372036854775807 := by obtain ⟨_, _, _, _, hh, _⟩ := h'; unfold maxLen at hh; omega
    have HL := Lib.hid hlen; clear hlen
    go_enter Try.func48, Try.ntmps48
    go_wp2_with fail
    refine (impl_GraphOk_c x _ _ _ (h.grow' repEdge_stable (Grow.below ((Grow.refl _).alloc _ _)))).mono ?_
    rintro e w1 ⟨rfl, g1⟩
    have b0 := cellGrow g1 (cell_new 0 rfl)
    have b1 := cellGrow g1 (cell_new 1 rfl)
    go_wp2_with fail
    go_ret
    exact ⟨by rw [HR.out]; rfl, ((Grow.refl w).alloc _ _).trans g1⟩
  obtain ⟨N, hN⟩ : ∃ N : Nat, x.n = (N : Int) := ⟨x.n.toNat, by omega⟩
  obtain ⟨n, edges⟩ := x
  simp only at hN hn1 hn2 h60 hedges hok h hlen
  subst hN
  have hmk := fun w => madeInts N (by omega) w
  have hnn : ((f.length : Int) != (edges.length : Int)) = false := by simp; omega
  have HOK := Lib.hid hok; have HLEN := Lib.hid hlen; have HED := Lib.hid hedges
  have hlf : f.length ≤ 60 := by omega
  clear hedges hlen
  go_enter Try.func48, Try.ntmps48
  go_wp2_with fail
  refine (impl_GraphOk_c ⟨_, edges⟩ _ _ _ (h.grow' repEdge_stable (Grow.below ((Grow.refl _).alloc _ _)))).mono ?_
  rintro e w1 ⟨rfl, g1⟩
  have b0 := cellGrow g1 (cell_new 0 rfl)
  have b1 := cellGrow g1 (cell_new 1 rfl)
  have z1 : w.heap.size < w1.heap.size := lt_of_cell b0
  go_wp2_with fail
  have hzl : (edges.zip f).length = edges.length := by have := HLEN.out; simp; omega
  go_loopg [27] edges.length (fun g i wr => ∃ k : Nat, k + g = edges.length ∧ i = .int .i64 k ∧ ((edges.zip f).take k).all flowIn = true ∧ Grow (w.alloc (.cells #[.int .i64 (N : Int), .slice a edges.length c] 31)) wr ∧ w1.heap.size < wr.heap.size ∧
      IntsAt wr w1.heap.size (sumsOf N ((edges.zip f).take k)) ∧ (∀ o, wr.frozen? ⟨w1.heap.size, o, none⟩ = false))
  case atStart => exact ⟨0, by simp, rfl, by simp, g1.alloc _ _, by simp, IntsAt.made _ _ _, fun o => (g1.alloc _ _).nf _ o (by simp; omega) (by simp)⟩
  case round =>
    obtain ⟨k, hk, rfl, hall, hg, hz, hs, hfz⟩ := hrel
    have hgw := ((Grow.refl w).alloc _ _).trans hg
    have c0 := cellGrow hg (cell_new 0 rfl)
    have c1 := cellGrow hg (cell_new 1 rfl)
    by_cases hlt : k < edges.length
    · obtain ⟨b, off, e0, e1, e2, e3, rfl, hb⟩ := elem_edge h k hlt
      obtain ⟨b', off', f0, rfl, hb'⟩ := elem_int h' k (by have := HLEN.out; omega)
      have e0 := cellGrow hgw e0; have e1 := cellGrow hgw e1; have e2 := cellGrow hgw e2; have e3 := cellGrow hgw e3; have f0 := cellGrow hgw f0
      have hbz : b < wr.heap.size := by have := hgw.size; omega
      have hbz' : b' < wr.heap.size := by have := hgw.size; omega
      have hltz : k < (edges.zip f).length := by omega
      have hzk : (edges.zip f)[k] = (edges[k], f[k]'(by have := HLEN.out; omega)) := List.getElem_zip
      have hee : edgeOk (N : Int) edges[k] = true := List.all_eq_true.1 HED.out _ (List.getElem_mem hlt)
      obtain ⟨p1, p2, p3, p4, p5, p6, p7, _, _⟩ := edgeOk_iff.1 hee
      have hbd : bdd (2000000000 * 60) (sumsOf N ((edges.zip f).take k)) := by
        have hh := bdd_sums N ((edges.zip f).take k) (fun p hp => ?_)
        · intro i hi
          have := hh i hi
          have hl : ((edges.zip f).take k).length ≤ 60 := Nat.le_trans (List.length_take_le _ _) (by omega)
          omega
        · have h1 := List.all_eq_true.1 hall p hp
          obtain ⟨q1, q2⟩ := inB_true.1 h1
          have hm : p.1 ∈ edges := (List.of_mem_zip (List.mem_of_mem_take hp)).1
          have := edgeOk_iff.1 (List.all_eq_true.1 HED.out _ hm)
          omega
      have hsl := sumsOf_length N ((edges.zip f).take k)
      have hsn := sumsOf_snoc N (edges.zip f) k hltz
      have hat := all_take_succ' (p := flowIn) hltz
      have hff : flowIn (edges.zip f)[k] = false → flowOk ⟨N, edges⟩ f = false := fun hh => by
        have : (edges.zip f).all flowIn = false := by rw [List.all_eq_false]; exact ⟨_, List.getElem_mem hltz, by rw [hh]; exact Bool.false_ne_true⟩
        simp [flowOk, this]
      rw [hzk] at hsn hat hff
      have HSN := Lib.hid hsn; have HAT := Lib.hid hat; have HFF := Lib.hid hff; have HK := Lib.hid hk; have HALL := Lib.hid hall; have HGW := Lib.hid hgw; have HG := Lib.hid hg; have HBD := Lib.hid hbd; have HSL := Lib.hid hsl; have HS := Lib.hid hs
      clear hsn hat hff hall hgw hg hbd hsl hs hzk hee hltz
      generalize edges[k] = e at *
      generalize f[k]'(by have := HLEN.out; omega) = v at *
      generalize sumsOf N ((edges.zip f).take k) = s at *
      clear hk
      have hk0 : (0 : Int) ≤ (k : Int) := by omega
      have hk1 : (k : Int) < (f.length : Int) := by have := HLEN.out; omega
      obtain ⟨frm, to, cap, cost⟩ := e
      simp only at e0 e1 e2 e3 p1 p2 p3 p4 p5 p6 p7
      obtain ⟨fm, rfl⟩ := Int.eq_ofNat_of_zero_le p1
      obtain ⟨tm, rfl⟩ := Int.eq_ofNat_of_zero_le p3
      by_cases hin : inB v 0 cap = true
      · obtain ⟨v1, v2⟩ := inB_true.1 hin
        have HIN := Lib.hid hin
        have hfl : fm < s.length := by have := HSL.out; omega
        have htl : tm < s.length := by have := HSL.out; omega
        have fN : fm < N := by omega
        have tN : tm < N := by omega
        have fN' : (fm : Int) < (N : Int) := by omega
        have tN' : (tm : Int) < (N : Int) := by omega
        have x0 := HS.out fm hfl
        have x1 := HS.out tm htl
        have hb0 := HBD.out fm hfl
        have hb1 := HBD.out tm htl
        generalize hX0 : s[fm] = y0 at *
        generalize hX1 : s[tm] = y1 at *
        obtain ⟨hb01, hb02⟩ := hb0
        obtain ⟨hb11, hb12⟩ := hb1
        have HX0 := Lib.hid hX0; have HX1 := Lib.hid hX1; clear hX0 hX1
        go_wp2_with fail
        go_quiet ((go_at_call 85; exact Calls.quiet_of_same (in_q _ _ _ _)))
        go_wp2_with fail
        have hz3 : wr.heap.size < ((wr.alloc (.cells #[.int .i64 (fm : Int), .int .i64 (tm : Int), .int .i64 cap, .int .i64 cost] 123)).drewN nq).heap.size := by show _ < (wr.alloc _).heap.size; simp
        have hGN := (HG.out.alloc #[.int .i64 (fm : Int), .int .i64 (tm : Int), .int .i64 cap, .int .i64 cost] 123).drewN nq
        have hSN := HS.out.same (((Same.refl 0 wr.heap.size wr).alloc (Nat.le_refl _) (.cells #[.int .i64 (fm : Int), .int .i64 (tm : Int), .int .i64 cap, .int .i64 cost] 123))) (Nat.zero_le _) hz
        have k0 := cell_new (w := wr) (c := #[.int .i64 (fm : Int), .int .i64 (tm : Int), .int .i64 cap, .int .i64 cost]) (T := 123) 0 rfl
        have k1 := cell_new (w := wr) (c := #[.int .i64 (fm : Int), .int .i64 (tm : Int), .int .i64 cap, .int .i64 cost]) (T := 123) 1 rfl
        have k2 := cellAlloc f0 (.cells #[.int .i64 (fm : Int), .int .i64 (tm : Int), .int .i64 cap, .int .i64 cost] 123)
        have k3 := fun o => (frozen?_alloc_cells wr #[.int .i64 (fm : Int), .int .i64 (tm : Int), .int .i64 cap, .int .i64 cost] 123 ⟨w1.heap.size, o, none⟩).trans (hfz o)
        obtain ⟨W, hW⟩ : ∃ W, W = (wr.alloc (.cells #[.int .i64 (fm : Int), .int .i64 (tm : Int), .int .i64 cap, .int .i64 cost] 123)).drewN nq := ⟨_, rfl⟩
        rw [← hW] at hz3 hGN ⊢
        have k0' : W.cell? ⟨wr.heap.size, 0, none⟩ = some (.int .i64 (fm : Int)) := by rw [hW]; exact k0
        have k1' : W.cell? ⟨wr.heap.size, 1, none⟩ = some (.int .i64 (tm : Int)) := by rw [hW]; exact k1
        have k2' : W.cell? ⟨b', off' + k, none⟩ = some (.int .i64 v) := by rw [hW]; exact k2
        have k3' : ∀ o, W.frozen? ⟨w1.heap.size, o, none⟩ = false := by rw [hW]; exact k3
        have hSN' : IntsAt W w1.heap.size s := by rw [hW]; exact hSN
        clear k0 k1 k2 k3 hSN hW
        have HSW := Lib.hid hSN'; have HGW2 := Lib.hid hGN
        have x0' : W.cell? ⟨w1.heap.size, fm, none⟩ = some (.int .i64 y0) := by rw [hSN' fm hfl, HX0.out]
        clear hSN' hGN e0 e1 e2 e3 f0 x0 x1 c0 c1 hfz
        go_still_tail 11, (by kernel_rfl)
        go_wp2_with fail
        have m1 := cellSet (p := ⟨w1.heap.size, fm, none⟩) (u := .int .i64 (y0 - v)) (w := W) k1' (by show w1.heap.size ≠ _; omega)
        have m2 := cellSet (p := ⟨w1.heap.size, fm, none⟩) (u := .int .i64 (y0 - v)) (w := W) k2' (by show w1.heap.size ≠ _; omega)
        have m3 : ∀ o, (W.setCell ⟨w1.heap.size, fm, none⟩ (.int .i64 (y0 - v))).frozen? ⟨w1.heap.size, o, none⟩ = false := fun o => by rw [World.frozen?_setCell]; exact k3' o
        have m4 : IntsAt (W.setCell ⟨w1.heap.size, fm, none⟩ (.int .i64 (y0 - v))) w1.heap.size (s.set fm (y0 - v)) := IntsAt.set (w := W) HSW.out hfl _
        have m5 := (HGW2.out.setCell (p := ⟨w1.heap.size, fm, none⟩) (by simp; omega) (.int .i64 (y0 - v))).drew
        have m6 : wr.heap.size < (W.setCell ⟨w1.heap.size, fm, none⟩ (.int .i64 (y0 - v))).heap.size := by rw [World.size_setCell]; exact hz3
        have m7 : bdd (2000000000 * 60 + 1000000000) (s.set fm (y0 - v)) := bdd_set HBD.out _ _ (by omega) (by omega) (by omega)
        obtain ⟨W2, hW2⟩ : ∃ W2, W2 = (W.setCell ⟨w1.heap.size, fm, none⟩ (.int .i64 (y0 - v))).drew := ⟨_, rfl⟩
        have m1 : W2.cell? ⟨wr.heap.size, 1, none⟩ = some (.int .i64 (tm : Int)) := by rw [hW2]; exact m1
        have m2 : W2.cell? ⟨b', off' + k, none⟩ = some (.int .i64 v) := by rw [hW2]; exact m2
        have m3 : ∀ o, W2.frozen? ⟨w1.heap.size, o, none⟩ = false := by rw [hW2]; exact m3
        have m4 : IntsAt W2 w1.heap.size (s.set fm (y0 - v)) := by rw [hW2]; exact m4
        have m6 : wr.heap.size < W2.heap.size := by rw [hW2]; exact m6
        rw [← hW2] at m5 ⊢
        clear hW2 k0' k1' k2' k3' x0' hz3
        have ht1 : tm < (s.set fm (y0 - v)).length := by simpa using htl
        have m8 := m4 tm ht1
        obtain ⟨m9, m10⟩ := m7 tm ht1
        generalize hX2 : (s.set fm (y0 - v))[tm] = y2 at *
        have HX2 := Lib.hid hX2; have M4 := Lib.hid m4; have M5 := Lib.hid m5; clear hX2 m4 m5 m7
        go_still_tail 10, (by kernel_rfl)
        go_wp2_with fail
        have n1 : IntsAt (W2.setCell ⟨w1.heap.size, tm, none⟩ (.int .i64 (y2 + v))) w1.heap.size ((s.set fm (y0 - v)).set tm (y2 + v)) := IntsAt.set M4.out ht1 _
        have n2 : stepSum s (⟨(fm : Int), (tm : Int), cap, cost⟩, v) = (s.set fm (y0 - v)).set tm (y2 + v) := by
          have q1 : s.getD fm 0 = y0 := by rw [List.getD_eq_getElem?_getD, List.getElem?_eq_getElem hfl]; exact HX0.out
          have q2 : (s.set fm (y0 - v)).getD tm 0 = y2 := by rw [List.getD_eq_getElem?_getD, List.getElem?_eq_getElem ht1]; exact HX2.out
          unfold stepSum
          simp only [Int.toNat_natCast, q1, q2]
        go_roundg (edges.length - (k + 1))
        case measure => have := HK.out; omega
        case rel =>
          refine ⟨k + 1, by have := HK.out; omega, by go_num, ?_, (M5.out.setCell (p := ⟨w1.heap.size, tm, none⟩) (by simp; omega) _).drew, ?_, ?_, ?_⟩
          · rw [HAT.out, HALL.out]; exact HIN.out
          · show _ < (W2.setCell _ _).heap.size
            rw [World.size_setCell]; omega
          · rw [HSN.out, n2]; exact n1
          · intro o
            show (W2.setCell _ _).frozen? _ = false
            rw [World.frozen?_setCell]; exact m3 o
      · have hin : inB v 0 cap = false := by simpa using hin
        have hr := HFF.out hin
        have HR := Lib.hid hr; clear hr
        go_wp2_with fail
        go_quiet ((go_at_call 85; exact Calls.quiet_of_same (in_q _ _ _ _)))
        go_wp2_with fail
        go_ret
        exact ⟨by rw [HR.out]; rfl, (HGW.out.alloc _ _).drewN _⟩
    · have hke : k = edges.length := by omega
      have htk : (edges.zip f).take k = edges.zip f := List.take_of_length_le (by omega)
      rw [htk] at hall hs
      have hsl := sumsOf_length N (edges.zip f)
      have HALL := Lib.hid hall; have HGW := Lib.hid hgw; have HS := Lib.hid hs; have HSL := Lib.hid hsl
      clear hall hg hgw hs hsl htk hke hk
      have hN9 : N ≤ 24 := by omega
      go_wp2_with fail
      go_loopg [65] N (fun g i wq => ∃ j : Nat, j + g = N ∧ i = .int .i64 j ∧ ((sumsOf N (edges.zip f)).take j).all (fun n => n == 0) = true ∧ wq = wr)
      case atStart => exact ⟨0, by simp, rfl, by simp, rfl⟩
      case round =>
        rename_i wq
        obtain ⟨j, hj, rfl, hz0, rfl⟩ := hrel
        by_cases hjl : j < N
        · have hjs : j < (sumsOf N (edges.zip f)).length := by have := HSL.out; omega
          have y0 := HS.out j hjs
          have hat := all_take_succ' (p := fun n => n == (0 : Int)) hjs
          have hno : ((sumsOf N (edges.zip f))[j] == 0) = false → flowOk ⟨N, edges⟩ f = false := fun hh => by
            have : (sumsOf N (edges.zip f)).all (fun n => n == 0) = false := by rw [List.all_eq_false]; exact ⟨_, List.getElem_mem hjs, by rw [hh]; exact Bool.false_ne_true⟩
            simp [flowOk, this]
          have HAT := Lib.hid hat; have HNO := Lib.hid hno; have HJ := Lib.hid hj; have HZ := Lib.hid hz0
          clear hat hno hz0
          have hj0 : (0 : Int) ≤ (j : Int) := by omega
          have hj1 : (j : Int) < (N : Int) := by omega
          generalize (sumsOf N (edges.zip f))[j] = y at *
          clear hj
          by_cases hy : y = 0
          · subst hy
            go_wp2
            go_roundg (N - (j + 1))
            case measure => have := HJ.out; omega
            case rel => exact ⟨j + 1, by have := HJ.out; omega, by go_num, by rw [HAT.out, HZ.out]; rfl, rfl⟩
          · have hyb : (y != 0) = true := by simp [hy]
            have hr := HNO.out (by simp [hy])
            have HR := Lib.hid hr; clear hr
            have HY := Lib.hid hy; clear hy
            go_wp2
            go_ret
            exact ⟨by rw [HR.out]; rfl, HGW.out⟩
        · have hje : j = N := by omega
          have hr : flowOk ⟨N, edges⟩ f = true := by
            rw [hje, List.take_of_length_le (by have := HSL.out; omega)] at hz0
            unfold flowOk
            simp only [Int.toNat_natCast, hz0, HALL.out, HOK.out, HLEN.out, decide_true, Bool.and_self]
          have HR := Lib.hid hr; clear hr hz0 hje
          go_wp2
          go_ret
          exact ⟨by rw [HR.out]; rfl, HGW.out⟩
end Go.Proofs.Ytbjnbhlpibadnaa

/- FlowOk of the reference, walked. -/
namespace Go.Proofs.Ytbjnbhlpibadnaa
open Go.RowKit
set_option linter.unusedSimpArgs false
set_option linter.unusedVariables false

set_option maxHeartbeats 4000000 in
set_option maxRecDepth 100000 in
theorem spec_FlowOk_c (x : Graph) (a : Option Addr) (c : Nat) (f : List Int) (a' : Option Addr) (c' : Nat) (w : World) (h : SlR 4 repEdge w 0 w.heap.size (.slice a x.edges.length c) x.edges)
    (h' : SlR 1 repInt w 0 w.heap.size (.slice a' f.length c') f) :
    Calls Try.prog 45 #[.agg #[.int .i64 x.n, .slice a x.edges.length c], .slice a' f.length c'] w fun e w' => e = .returned (.bool (flowOk x f)) ∧ Grow w w' := by
  by_cases hok : graphOk x = true
  rotate_left
  · have hok : graphOk x = false := by simpa using hok
    have hr : flowOk x f = false := by simp [flowOk, hok]
    have HR := Lib.hid hr; clear hr
    go_enter Try.func45, Try.ntmps45
    go_wp2_with fail
    refine (spec_GraphOk_c x _ _ _ (h.grow' repEdge_stable (Grow.below ((Grow.refl _).alloc _ _)))).mono ?_
    rintro e w1 ⟨rfl, g1⟩
    go_wp2_with fail
    go_ret
    exact ⟨by rw [HR.out]; rfl, ((Grow.refl w).alloc _ _).trans g1⟩
  have hok2 : inB x.n 1 24 = true ∧ x.edges.length ≤ 60 ∧ x.edges.all (edgeOk x.n) = true := by
    unfold graphOk at hok; simp only [Bool.and_eq_true, decide_eq_true_eq] at hok; exact ⟨hok.1.1, hok.1.2, hok.2⟩
  obtain ⟨hn, h60, hedges⟩ := hok2
  obtain ⟨hn1, hn2⟩ := inB_true.1 hn
  clear hn
  by_cases hlen : f.length = x.edges.length
  rotate_left
  · have hr : flowOk x f = false := by simp [flowOk, hlen]
    have HR := Lib.hid hr; clear hr
    have hne : ((f.length : Int) != (x.edges.length : Int)) = true := by simp; omega
    have hf : f.length ≤ 9223372036854775807 := by obtain ⟨_, _, _, _, hh, _⟩ := h'; unfold maxLen at hh; omega
    have HL := Lib.hid hlen; clear hlen
    go_enter Try.func45, Try.ntmps45
    go_wp2_with fail
    refine (spec_GraphOk_c x _ _ _ (h.grow' repEdge_stable (Grow.below ((Grow.refl _).alloc _ _)))).mono ?_
    rintro e w1 ⟨rfl, g1⟩
    have b0 := cellGrow g1 (cell_new 0 rfl)
    have b1 := cellGrow g1 (cell_new 1 rfl)
    go_wp2_with fail
    go_ret
    exact ⟨by rw [HR.out]; rfl, ((Grow.refl w).alloc _ _).trans g1⟩
  obtain ⟨N, hN⟩ : ∃ N : Nat, x.n = (N : Int) := ⟨x.n.toNat, by omega⟩
  obtain ⟨n, edges⟩ := x
  simp only at hN hn1 hn2 h60 hedges hok h hlen
  subst hN
  have hmk := fun w => madeInts N (by omega) w
  have hnn : ((f.length : Int) != (edges.length : Int)) = false := by simp; omega
  have HOK := Lib.hid hok; have HLEN := Lib.hid hlen; have HED := Lib.hid hedges
  have hlf : f.length ≤ 60 := by omega
  clear hedges hlen
  go_enter Try.func45, Try.ntmps45
  go_wp2_with fail
  refine (spec_GraphOk_c ⟨_, edges⟩ _ _ _ (h.grow' repEdge_stable (Grow.below ((Grow.refl _).alloc _ _)))).mono ?_
  rintro e w1 ⟨rfl, g1⟩
  have b0 := cellGrow g1 (cell_new 0 rfl)
  have b1 := cellGrow g1 (cell_new 1 rfl)
  have z1 : w.heap.size < w1.heap.size := lt_of_cell b0
  go_wp2_with fail
  have hzl : (edges.zip f).length = edges.length := by have := HLEN.out; simp; omega
  go_loopg [27] edges.length (fun g i wr => ∃ k : Nat, k + g = edges.length ∧ i = .int .i64 k ∧ ((edges.zip f).take k).all flowIn = true ∧ Grow (w.alloc (.cells #[.int .i64 (N : Int), .slice a edges.length c] 31)) wr ∧ w1.heap.size < wr.heap.size ∧
      IntsAt wr w1.heap.size (sumsOf N ((edges.zip f).take k)) ∧ (∀ o, wr.frozen? ⟨w1.heap.size, o, none⟩ = false))
  case atStart => exact ⟨0, by simp, rfl, by simp, g1.alloc _ _, by simp, IntsAt.made _ _ _, fun o => (g1.alloc _ _).nf _ o (by simp; omega) (by simp)⟩
  case round =>
    obtain ⟨k, hk, rfl, hall, hg, hz, hs, hfz⟩ := hrel
    have hgw := ((Grow.refl w).alloc _ _).trans hg
    have c0 := cellGrow hg (cell_new 0 rfl)
    have c1 := cellGrow hg (cell_new 1 rfl)
    by_cases hlt : k < edges.length
    · obtain ⟨b, off, e0, e1, e2, e3, rfl, hb⟩ := elem_edge h k hlt
      obtain ⟨b', off', f0, rfl, hb'⟩ := elem_int h' k (by have := HLEN.out; omega)
      have e0 := cellGrow hgw e0; have e1 := cellGrow hgw e1; have e2 := cellGrow hgw e2; have e3 := cellGrow hgw e3; have f0 := cellGrow hgw f0
      have hbz : b < wr.heap.size := by have := hgw.size; omega
      have hbz' : b' < wr.heap.size := by have := hgw.size; omega
      have hltz : k < (edges.zip f).length := by omega
      have hzk : (edges.zip f)[k] = (edges[k], f[k]'(by have := HLEN.out; omega)) := List.getElem_zip
      have hee : edgeOk (N : Int) edges[k] = true := List.all_eq_true.1 HED.out _ (List.getElem_mem hlt)
      obtain ⟨p1, p2, p3, p4, p5, p6, p7, _, _⟩ := edgeOk_iff.1 hee
      have hbd : bdd (2000000000 * 60) (sumsOf N ((edges.zip f).take k)) := by
        have hh := bdd_sums N ((edges.zip f).take k) (fun p hp => ?_)
        · intro i hi
          have := hh i hi
          have hl : ((edges.zip f).take k).length ≤ 60 := Nat.le_trans (List.length_take_le _ _) (by omega)
          omega
        · have h1 := List.all_eq_true.1 hall p hp
          obtain ⟨q1, q2⟩ := inB_true.1 h1
          have hm : p.1 ∈ edges := (List.of_mem_zip (List.mem_of_mem_take hp)).1
          have := edgeOk_iff.1 (List.all_eq_true.1 HED.out _ hm)
          omega
      have hsl := sumsOf_length N ((edges.zip f).take k)
      have hsn := sumsOf_snoc N (edges.zip f) k hltz
      have hat := all_take_succ' (p := flowIn) hltz
      have hff : flowIn (edges.zip f)[k] = false → flowOk ⟨N, edges⟩ f = false := fun hh => by
        have : (edges.zip f).all flowIn = false := by rw [List.all_eq_false]; exact ⟨_, List.getElem_mem hltz, by rw [hh]; exact Bool.false_ne_true⟩
        simp [flowOk, this]
      rw [hzk] at hsn hat hff
      have HSN := Lib.hid hsn; have HAT := Lib.hid hat; have HFF := Lib.hid hff; have HK := Lib.hid hk; have HALL := Lib.hid hall; have HGW := Lib.hid hgw; have HG := Lib.hid hg; have HBD := Lib.hid hbd; have HSL := Lib.hid hsl; have HS := Lib.hid hs
      clear hsn hat hff hall hgw hg hbd hsl hs hzk hee hltz
      generalize edges[k] = e at *
      generalize f[k]'(by have := HLEN.out; omega) = v at *
      generalize sumsOf N ((edges.zip f).take k) = s at *
      clear hk
      have hk0 : (0 : Int) ≤ (k : Int) := by omega
      have hk1 : (k : Int) < (f.length : Int) := by have := HLEN.out; omega
      obtain ⟨frm, to, cap, cost⟩ := e
      simp only at e0 e1 e2 e3 p1 p2 p3 p4 p5 p6 p7
      obtain ⟨fm, rfl⟩ := Int.eq_ofNat_of_zero_le p1
      obtain ⟨tm, rfl⟩ := Int.eq_ofNat_of_zero_le p3
      by_cases hin : inB v 0 cap = true
      · obtain ⟨v1, v2⟩ := inB_true.1 hin
        have HIN := Lib.hid hin
        have hfl : fm < s.length := by have := HSL.out; omega
        have htl : tm < s.length := by have := HSL.out; omega
        have fN : fm < N := by omega
        have tN : tm < N := by omega
        have fN' : (fm : Int) < (N : Int) := by omega
        have tN' : (tm : Int) < (N : Int) := by omega
        have x0 := HS.out fm hfl
        have x1 := HS.out tm htl
        have hb0 := HBD.out fm hfl
        have hb1 := HBD.out tm htl
        generalize hX0 : s[fm] = y0 at *
        generalize hX1 : s[tm] = y1 at *
        obtain ⟨hb01, hb02⟩ := hb0
        obtain ⟨hb11, hb12⟩ := hb1
        have HX0 := Lib.hid hX0; have HX1 := Lib.hid hX1; clear hX0 hX1
        have hv0 : decide (v < (0 : Int)) = false := by simp; omega
        have hv1 : decide (cap < v) = false := by simp; omega
        go_wp2_with fail
        go_quiet (fail)
        go_wp2_with fail
        have hz3 : wr.heap.size < ((wr.alloc (.cells #[.int .i64 (fm : Int), .int .i64 (tm : Int), .int .i64 cap, .int .i64 cost] 123)).drewN nq).heap.size := by show _ < (wr.alloc _).heap.size; simp
        have hGN := (HG.out.alloc #[.int .i64 (fm : Int), .int .i64 (tm : Int), .int .i64 cap, .int .i64 cost] 123).drewN nq
        have hSN := HS.out.same (((Same.refl 0 wr.heap.size wr).alloc (Nat.le_refl _) (.cells #[.int .i64 (fm : Int), .int .i64 (tm : Int), .int .i64 cap, .int .i64 cost] 123))) (Nat.zero_le _) hz
        have k0 := cell_new (w := wr) (c := #[.int .i64 (fm : Int), .int .i64 (tm : Int), .int .i64 cap, .int .i64 cost]) (T := 123) 0 rfl
        have k1 := cell_new (w := wr) (c := #[.int .i64 (fm : Int), .int .i64 (tm : Int), .int .i64 cap, .int .i64 cost]) (T := 123) 1 rfl
        have k2 := cellAlloc f0 (.cells #[.int .i64 (fm : Int), .int .i64 (tm : Int), .int .i64 cap, .int .i64 cost] 123)
        have k3 := fun o => (frozen?_alloc_cells wr #[.int .i64 (fm : Int), .int .i64 (tm : Int), .int .i64 cap, .int .i64 cost] 123 ⟨w1.heap.size, o, none⟩).trans (hfz o)
        obtain ⟨W, hW⟩ : ∃ W, W = (wr.alloc (.cells #[.int .i64 (fm : Int), .int .i64 (tm : Int), .int .i64 cap, .int .i64 cost] 123)).drewN nq := ⟨_, rfl⟩
        rw [← hW] at hz3 hGN ⊢
        have k0' : W.cell? ⟨wr.heap.size, 0, none⟩ = some (.int .i64 (fm : Int)) := by rw [hW]; exact k0
        have k1' : W.cell? ⟨wr.heap.size, 1, none⟩ = some (.int .i64 (tm : Int)) := by rw [hW]; exact k1
        have k2' : W.cell? ⟨b', off' + k, none⟩ = some (.int .i64 v) := by rw [hW]; exact k2
        have k3' : ∀ o, W.frozen? ⟨w1.heap.size, o, none⟩ = false := by rw [hW]; exact k3
        have hSN' : IntsAt W w1.heap.size s := by rw [hW]; exact hSN
        clear k0 k1 k2 k3 hSN hW
        have HSW := Lib.hid hSN'; have HGW2 := Lib.hid hGN
        have x0' : W.cell? ⟨w1.heap.size, fm, none⟩ = some (.int .i64 y0) := by rw [hSN' fm hfl, HX0.out]
        clear hSN' hGN e0 e1 e2 e3 f0 x0 x1 c0 c1 hfz
        go_still_tail 14, (by kernel_rfl)
        go_wp2_with fail
        have m1 := cellSet (p := ⟨w1.heap.size, fm, none⟩) (u := .int .i64 (y0 - v)) (w := W) k1' (by show w1.heap.size ≠ _; omega)
        have m2 := cellSet (p := ⟨w1.heap.size, fm, none⟩) (u := .int .i64 (y0 - v)) (w := W) k2' (by show w1.heap.size ≠ _; omega)
        have m3 : ∀ o, (W.setCell ⟨w1.heap.size, fm, none⟩ (.int .i64 (y0 - v))).frozen? ⟨w1.heap.size, o, none⟩ = false := fun o => by rw [World.frozen?_setCell]; exact k3' o
        have m4 : IntsAt (W.setCell ⟨w1.heap.size, fm, none⟩ (.int .i64 (y0 - v))) w1.heap.size (s.set fm (y0 - v)) := IntsAt.set (w := W) HSW.out hfl _
        have m5 := (HGW2.out.setCell (p := ⟨w1.heap.size, fm, none⟩) (by simp; omega) (.int .i64 (y0 - v))).drew
        have m6 : wr.heap.size < (W.setCell ⟨w1.heap.size, fm, none⟩ (.int .i64 (y0 - v))).heap.size := by rw [World.size_setCell]; exact hz3
        have m7 : bdd (2000000000 * 60 + 1000000000) (s.set fm (y0 - v)) := bdd_set HBD.out _ _ (by omega) (by omega) (by omega)
        obtain ⟨W2, hW2⟩ : ∃ W2, W2 = (W.setCell ⟨w1.heap.size, fm, none⟩ (.int .i64 (y0 - v))).drew := ⟨_, rfl⟩
        have m1 : W2.cell? ⟨wr.heap.size, 1, none⟩ = some (.int .i64 (tm : Int)) := by rw [hW2]; exact m1
        have m2 : W2.cell? ⟨b', off' + k, none⟩ = some (.int .i64 v) := by rw [hW2]; exact m2
        have m3 : ∀ o, W2.frozen? ⟨w1.heap.size, o, none⟩ = false := by rw [hW2]; exact m3
        have m4 : IntsAt W2 w1.heap.size (s.set fm (y0 - v)) := by rw [hW2]; exact m4
        have m6 : wr.heap.size < W2.heap.size := by rw [hW2]; exact m6
        rw [← hW2] at m5 ⊢
        clear hW2 k0' k1' k2' k3' x0' hz3
        have ht1 : tm < (s.set fm (y0 - v)).length := by simpa using htl
        have m8 := m4 tm ht1
        obtain ⟨m9, m10⟩ := m7 tm ht1
        generalize hX2 : (s.set fm (y0 - v))[tm] = y2 at *
        have HX2 := Lib.hid hX2; have M4 := Lib.hid m4; have M5 := Lib.hid m5; clear hX2 m4 m5 m7
        go_still_tail 14, (by kernel_rfl)
        go_wp2_with fail
        have n1 : IntsAt (W2.setCell ⟨w1.heap.size, tm, none⟩ (.int .i64 (y2 + v))) w1.heap.size ((s.set fm (y0 - v)).set tm (y2 + v)) := IntsAt.set M4.out ht1 _
        have n2 : stepSum s (⟨(fm : Int), (tm : Int), cap, cost⟩, v) = (s.set fm (y0 - v)).set tm (y2 + v) := by
          have q1 : s.getD fm 0 = y0 := by rw [List.getD_eq_getElem?_getD, List.getElem?_eq_getElem hfl]; exact HX0.out
          have q2 : (s.set fm (y0 - v)).getD tm 0 = y2 := by rw [List.getD_eq_getElem?_getD, List.getElem?_eq_getElem ht1]; exact HX2.out
          unfold stepSum
          simp only [Int.toNat_natCast, q1, q2]
        go_roundg (edges.length - (k + 1))
        case measure => have := HK.out; omega
        case rel =>
          refine ⟨k + 1, by have := HK.out; omega, by go_num, ?_, (M5.out.setCell (p := ⟨w1.heap.size, tm, none⟩) (by simp; omega) _).drew, ?_, ?_, ?_⟩
          · rw [HAT.out, HALL.out]; exact HIN.out
          · show _ < (W2.setCell _ _).heap.size
            rw [World.size_setCell]; omega
          · rw [HSN.out, n2]; exact n1
          · intro o
            show (W2.setCell _ _).frozen? _ = false
            rw [World.frozen?_setCell]; exact m3 o
      · have hin : inB v 0 cap = false := by simpa using hin
        have hr := HFF.out hin
        have HR := Lib.hid hr; clear hr
        rcases inB_false.1 hin with hv | hv
        · have hv0 : decide (v < (0 : Int)) = true := by simp; omega
          go_wp2_with fail
          go_quiet (fail)
          go_wp2_with fail
          go_ret
          exact ⟨by rw [HR.out]; rfl, (HGW.out.alloc _ _).drewN _⟩
        · have hv0 : decide (v < (0 : Int)) = false := by simp; omega
          have hv1 : decide (cap < v) = true := by simp; omega
          go_wp2_with fail
          go_quiet (fail)
          go_wp2_with fail
          go_ret
          exact ⟨by rw [HR.out]; rfl, (HGW.out.alloc _ _).drewN _⟩
    · have hke : k = edges.length := by omega
      have htk : (edges.zip f).take k = edges.zip f := List.take_of_length_le (by omega)
      rw [htk] at hall hs
      have hsl := sumsOf_length N (edges.zip f)
      have HALL := Lib.hid hall; have HGW := Lib.hid hgw; have HS := Lib.hid hs; have HSL := Lib.hid hsl
      clear hall hg hgw hs hsl htk hke hk
      have hN9 : N ≤ 24 := by omega
      go_wp2_with fail
      go_loopg [77] N (fun g i wq => ∃ j : Nat, j + g = N ∧ i = .int .i64 j ∧ ((sumsOf N (edges.zip f)).take j).all (fun n => n == 0) = true ∧ wq = wr)
      case atStart => exact ⟨0, by simp, rfl, by simp, rfl⟩
      case round =>
        rename_i wq
        obtain ⟨j, hj, rfl, hz0, rfl⟩ := hrel
        by_cases hjl : j < N
        · have hjs : j < (sumsOf N (edges.zip f)).length := by have := HSL.out; omega
          have y0 := HS.out j hjs
          have hat := all_take_succ' (p := fun n => n == (0 : Int)) hjs
          have hno : ((sumsOf N (edges.zip f))[j] == 0) = false → flowOk ⟨N, edges⟩ f = false := fun hh => by
            have : (sumsOf N (edges.zip f)).all (fun n => n == 0) = false := by rw [List.all_eq_false]; exact ⟨_, List.getElem_mem hjs, by rw [hh]; exact Bool.false_ne_true⟩
            simp [flowOk, this]
          have HAT := Lib.hid hat; have HNO := Lib.hid hno; have HJ := Lib.hid hj; have HZ := Lib.hid hz0
          clear hat hno hz0
          have hj0 : (0 : Int) ≤ (j : Int) := by omega
          have hj1 : (j : Int) < (N : Int) := by omega
          generalize (sumsOf N (edges.zip f))[j] = y at *
          clear hj
          by_cases hy : y = 0
          · subst hy
            go_wp2
            go_roundg (N - (j + 1))
            case measure => have := HJ.out; omega
            case rel => exact ⟨j + 1, by have := HJ.out; omega, by go_num, by rw [HAT.out, HZ.out]; rfl, rfl⟩
          · have hyb : (y != 0) = true := by simp [hy]
            have hr := HNO.out (by simp [hy])
            have HR := Lib.hid hr; clear hr
            have HY := Lib.hid hy; clear hy
            go_wp2
            go_ret
            exact ⟨by rw [HR.out]; rfl, HGW.out⟩
        · have hje : j = N := by omega
          have hr : flowOk ⟨N, edges⟩ f = true := by
            rw [hje, List.take_of_length_le (by have := HSL.out; omega)] at hz0
            unfold flowOk
            simp only [Int.toNat_natCast, hz0, HALL.out, HOK.out, HLEN.out, decide_true, Bool.and_self]
          have HR := Lib.hid hr; clear hr hz0 hje
          go_wp2
          go_ret
          exact ⟨by rw [HR.out]; rfl, HGW.out⟩
end Go.Proofs.Ytbjnbhlpibadnaa
