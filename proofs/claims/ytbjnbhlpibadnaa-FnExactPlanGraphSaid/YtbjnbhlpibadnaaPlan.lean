/- PlanGraph, of the program and of the reference. -/
import Derived.Test.YtbjnbhlpibadnaaPlan0
import Derived.Test.YtbjnbhlpibadnaaAnyG
import Derived.Deep.RegionHeld3
namespace Go.Proofs.Ytbjnbhlpibadnaa
open Go.RowKit
set_option linter.unusedSimpArgs false
set_option linter.unusedVariables false

theorem spec_Cap_c (n : Int) (w : World) (h : 0 ≤ n) : Calls Try.prog 81 #[.int .i64 n] w fun e w' => e = .returned (.int .i64 (capE n)) ∧ w = w' := by
  have hc : clamp n 0 1000000000 = capE n := by
    unfold clamp capE
    rw [if_neg (by omega)]
    split <;> omega
  go_enter Try.func81, Try.ntmps81
  go_wp2_with (go_at_call 117; refine (spec_Clamp_c _ _ _ _).mono ?_; rw [hc]; rintro e w' ⟨rfl, rfl⟩)
  go_ret
  exact ⟨rfl, rfl⟩

set_option maxHeartbeats 8000000 in
set_option maxRecDepth 100000 in
theorem impl_PlanGraph_c (x : Book) (a0 : Option Addr) (c0 : Nat) (a1 : Option Addr) (c1 : Nat) (a2 : Option Addr) (c2 : Nat) (lo hi gain : Int) (l : List Price) (a3 : Option Addr) (c3 : Nat) (w : World) (h0 : SlR 7 repChan w 0 w.heap.size (.slice a0 x.chans.length c0) x.chans) (h1 : SlR 7 repHtlc w 0 w.heap.size (.slice a1 x.htlcs.length c1) x.htlcs) (h2 : SlR 5 repCircle w 0 w.heap.size (.slice a2 x.circles.length c2) x.circles) (h3 : SlR 3 repPrice w 0 w.heap.size (.slice a3 l.length c3) l) (hn : x.chans.length ≤ 1048576) (hl : l.length ≤ 1048576) :
    Calls Try.prog 34 #[.agg #[.int .i64 x.tick, .int .i64 x.next, .int .i64 x.wallet, .slice a0 x.chans.length c0, .slice a1 x.htlcs.length c1, .slice a2 x.circles.length c2], .int .i64 lo, .int .i64 hi, .int .i64 gain, .slice a3 l.length c3] w fun e w' => ∃ a c, e = .returned (.tuple #[.agg #[.int .i64 (planG x lo hi gain l).n, .slice a (planG x lo hi gain l).edges.length c], .bool (planOk x lo hi gain l)]) ∧ Grow w w' ∧ SlR 4 repEdge w' w.heap.size w'.heap.size (.slice a (planG x lo hi gain l).edges.length c) (planG x lo hi gain l).edges := by
  obtain ⟨i0, hi0, hz0, hz1, hz2⟩ := info_parts infoEdge'
  have H0 := Lib.hid h0; have H1 := Lib.hid h1; have H2 := Lib.hid h2; have H3 := Lib.hid h3
  clear h0 h1 h2 h3
  have HP : Hid (planOk x lo hi gain l = (pricesOk x l && band lo hi && inB gain 0 1000000)) := rfl
  have HNG : Hid (planOk x lo hi gain l = false → planG x lo hi gain l = ⟨0, []⟩) := fun h => if_neg (by rw [h]; simp)
  have HYG : Hid (planOk x lo hi gain l = true → planG x lo hi gain l = ⟨((x.chans.length : Int) + 1), planE x.chans lo hi gain l⟩) := fun h => if_pos h
  have HL := Lib.hid hl
  go_enter Try.func34, Try.ntmps34
  go_wp2_with fail
  refine (impl_PricesOk_c x _ _ _ _ _ _ l _ _ _ (H0.out.grow' repChan_stable (Grow.below (((Grow.refl w).alloc _ _).alloc _ _))) (H1.out.grow' repHtlc_stable (Grow.below (((Grow.refl w).alloc _ _).alloc _ _))) (H2.out.grow' repCircle_stable (Grow.below (((Grow.refl w).alloc _ _).alloc _ _))) (H3.out.grow' repPrice_stable (Grow.below (((Grow.refl w).alloc _ _).alloc _ _))) hn hl).mono ?_
  rintro e V1 ⟨rfl, gs⟩
  have ys := Grow.size gs
  simp only [World.size_setCell, World.size_alloc] at ys
  have B0 : Box V1 (w.heap.size) [.int .i64 x.tick, .int .i64 x.next, .int .i64 x.wallet, .slice a0 x.chans.length c0, .slice a1 x.htlcs.length c1, .slice a2 x.circles.length c2] := Box.grow ((Box.newAt (by simp) _ _).alloc _ _) gs
  have B1 : Box V1 (w.heap.size + 1) [.int .i64 0, .slice none 0 0] := Box.grow (Box.newAt (by simp) _ _) gs
  have G : Grow w V1 := Grow.trans (((Grow.refl w).alloc _ _).alloc _ _) gs
  clear gs
  have z0 := B0.lt
  have z1 := B1.lt
  have q0_0 : V1.cell? ⟨w.heap.size, 0, none⟩ = some (.int .i64 x.tick) := B0.c 0 _ rfl
  have q0_1 : V1.cell? ⟨w.heap.size, 1, none⟩ = some (.int .i64 x.next) := B0.c 1 _ rfl
  have q0_2 : V1.cell? ⟨w.heap.size, 2, none⟩ = some (.int .i64 x.wallet) := B0.c 2 _ rfl
  have q0_3 : V1.cell? ⟨w.heap.size, 3, none⟩ = some (.slice a0 x.chans.length c0) := B0.c 3 _ rfl
  have q0_4 : V1.cell? ⟨w.heap.size, 4, none⟩ = some (.slice a1 x.htlcs.length c1) := B0.c 4 _ rfl
  have q0_5 : V1.cell? ⟨w.heap.size, 5, none⟩ = some (.slice a2 x.circles.length c2) := B0.c 5 _ rfl
  have f0 := B0.f
  have q1_0 : V1.cell? ⟨w.heap.size + 1, 0, none⟩ = some (.int .i64 0) := B1.c 0 _ rfl
  have q1_1 : V1.cell? ⟨w.heap.size + 1, 1, none⟩ = some (.slice none 0 0) := B1.c 1 _ rfl
  have f1 := B1.f
  cases hp : pricesOk x l
  · have HB : Hid (planOk x lo hi gain l = false) := by
      show _ = _
      rw [HP.out, hp]; simp
    have HG := Lib.hid (HNG.out HB.out)
    go_wp2_with (first | (go_at_call 84; refine (impl_isBand_c _ _ _).mono ?_; (try rw [hb]); rintro e w' ⟨rfl, rfl⟩) | (go_at_call 85; refine (in_c _ _ _ _).mono ?_; (try rw [hg]); rintro e w' ⟨rfl, rfl⟩))
    all_goals
      refine bodyPost_ret (v := .tuple #[.agg #[.int .i64 0, .slice none 0 0], .bool false]) (by simp [results, Try.results34, go_sem, q1_0, q1_1]) rfl ⟨none, 0, ?_, ?_, ?_⟩
      · rw [HG.out, HB.out]; rfl
      · exact ((G.setCell (by show w.heap.size ≤ w.heap.size + 1; omega) _).setCell (by show w.heap.size ≤ w.heap.size + 1; omega) _)
      · rw [HG.out]; exact SlR.nil
  cases hb : band lo hi
  · have HB : Hid (planOk x lo hi gain l = false) := by
      show _ = _
      rw [HP.out, hp, hb]; simp
    have HG := Lib.hid (HNG.out HB.out)
    go_wp2_with (first | (go_at_call 84; refine (impl_isBand_c _ _ _).mono ?_; (try rw [hb]); rintro e w' ⟨rfl, rfl⟩) | (go_at_call 85; refine (in_c _ _ _ _).mono ?_; (try rw [hg]); rintro e w' ⟨rfl, rfl⟩))
    all_goals
      refine bodyPost_ret (v := .tuple #[.agg #[.int .i64 0, .slice none 0 0], .bool false]) (by simp [results, Try.results34, go_sem, q1_0, q1_1]) rfl ⟨none, 0, ?_, ?_, ?_⟩
      · rw [HG.out, HB.out]; rfl
      · exact ((G.setCell (by show w.heap.size ≤ w.heap.size + 1; omega) _).setCell (by show w.heap.size ≤ w.heap.size + 1; omega) _)
      · rw [HG.out]; exact SlR.nil
  cases hg : inB gain 0 1000000
  · have HB : Hid (planOk x lo hi gain l = false) := by
      show _ = _
      rw [HP.out, hp, hb, hg]; simp
    have HG := Lib.hid (HNG.out HB.out)
    go_wp2_with (first | (go_at_call 84; refine (impl_isBand_c _ _ _).mono ?_; (try rw [hb]); rintro e w' ⟨rfl, rfl⟩) | (go_at_call 85; refine (in_c _ _ _ _).mono ?_; (try rw [hg]); rintro e w' ⟨rfl, rfl⟩))
    all_goals
      refine bodyPost_ret (v := .tuple #[.agg #[.int .i64 0, .slice none 0 0], .bool false]) (by simp [results, Try.results34, go_sem, q1_0, q1_1]) rfl ⟨none, 0, ?_, ?_, ?_⟩
      · rw [HG.out, HB.out]; rfl
      · exact ((G.setCell (by show w.heap.size ≤ w.heap.size + 1; omega) _).setCell (by show w.heap.size ≤ w.heap.size + 1; omega) _)
      · rw [HG.out]; exact SlR.nil
  have hok : planOk x lo hi gain l = true := by rw [HP.out, hp, hb, hg]; rfl
  obtain ⟨hc20, hl20, hloc, hg1, hg2⟩ := planOk_facts hok
  have HSM := Lib.hid (plan_small hok (prices_ppm hp))
  have HLOC := Lib.hid hloc; clear hloc
  have HOK := Lib.hid hok; clear hok
  go_wp2_with (first | (go_at_call 84; refine (impl_isBand_c _ _ _).mono ?_; (try rw [hb]); rintro e w' ⟨rfl, rfl⟩) | (go_at_call 85; refine (in_c _ _ _ _).mono ?_; (try rw [hg]); rintro e w' ⟨rfl, rfl⟩))
  clear hp hb hg
  have GR : GRow (V1.alloc (.cells #[.int .i64 ((x.chans.length : Int) + 1), .slice none 0 0] 31)) V1 V1.heap.size ((x.chans.length : Int) + 1) (.slice none 0 0) [] := ⟨Box.new _ _ _, World.ownsRow_nil _ _ _ _, by simp [Value.ownBlock]⟩
  have hg : Grow V1 (V1.alloc (.cells #[.int .i64 ((x.chans.length : Int) + 1), .slice none 0 0] 31)) := (Grow.refl _).alloc _ _
  have HG0 := Lib.hid G; have HB0 := Lib.hid B0; have HB1 := Lib.hid B1
  have hgw : w.heap.size + 1 < V1.heap.size := B1.lt
  clear z0 z1 q0_0 q0_1 q0_2 q0_3 q0_4 q0_5 f0 q1_0 q1_1 f1
  clear G B0 B1
  go_loopg [47] x.chans.length (fun g i wr => ∃ (k : Nat) (v : Value), k + g = x.chans.length ∧ i = .int .i64 k ∧ GRow wr V1 V1.heap.size ((x.chans.length : Int) + 1) v (upK (overE lo hi) x.chans k) ∧ Grow V1 wr)
  case atStart => exact ⟨0, .slice none 0 0, by simp, rfl, GR, hg⟩
  case round =>
    clear hg GR
    obtain ⟨k, v, hk, rfl, GR, hg⟩ := hrel
    obtain ⟨R2, rfl⟩ : ∃ V, V = wr := ⟨_, rfl⟩
    have G := HG0.out.trans hg
    have B0 := HB0.out.grow hg
    have B1 := HB1.out.grow hg
    have HGR := Lib.hid GR; clear GR
    by_cases hlt : k < x.chans.length
    · have HK := Lib.hid hk; clear hk
      have HGV := Lib.hid hg; clear hg
      have HM : Hid (upK (overE lo hi) x.chans (k+1) = upK (overE lo hi) x.chans k ++ overE lo hi k x.chans[k]) := upK_succ hlt
      have hel20 : (upK (overE lo hi) x.chans k).length ≤ 60 := by have := upK_len (f := overE lo hi) (l := x.chans) (overE_len lo hi) k; omega
      have HNE : Hid (v.ownBlock ≠ some R2.heap.size) := own_ne HGR.out.own (Nat.le_refl _)
      have gzr : V1.heap.size < R2.heap.size := HGR.out.box.lt
      have z0 := B0.lt
      have z1 := B1.lt
      have q0_0 : R2.cell? ⟨w.heap.size, 0, none⟩ = some (.int .i64 x.tick) := B0.c 0 _ rfl
      have q0_1 : R2.cell? ⟨w.heap.size, 1, none⟩ = some (.int .i64 x.next) := B0.c 1 _ rfl
      have q0_2 : R2.cell? ⟨w.heap.size, 2, none⟩ = some (.int .i64 x.wallet) := B0.c 2 _ rfl
      have q0_3 : R2.cell? ⟨w.heap.size, 3, none⟩ = some (.slice a0 x.chans.length c0) := B0.c 3 _ rfl
      have q0_4 : R2.cell? ⟨w.heap.size, 4, none⟩ = some (.slice a1 x.htlcs.length c1) := B0.c 4 _ rfl
      have q0_5 : R2.cell? ⟨w.heap.size, 5, none⟩ = some (.slice a2 x.circles.length c2) := B0.c 5 _ rfl
      have f0 := B0.f
      have q1_0 : R2.cell? ⟨w.heap.size + 1, 0, none⟩ = some (.int .i64 0) := B1.c 0 _ rfl
      have q1_1 : R2.cell? ⟨w.heap.size + 1, 1, none⟩ = some (.slice none 0 0) := B1.c 1 _ rfl
      have f1 := B1.f
      have hcl := HLOC.out _ (List.getElem_mem hlt)
      obtain ⟨b_c, off_c, ha_c, hb1_c, hb2_c, hel_c⟩ := H0.out.elems k hlt
      obtain ⟨ec0, ec1, ec2, ec3, ec4, ec5, ec6, -⟩ := Chan.atCell (hel_c.same repChan_stable (G.same (Nat.le_refl _)) hb1_c hb2_c) k hlt
      subst ha_c
      clear hel_c
      generalize x.chans[k] = c at *
      obtain ⟨hcl1, hcl2⟩ := hcl
      generalize hes : (upK (overE lo hi) x.chans k) = es at *
      have HES := Lib.hid hes; clear hes
      have hkk : (k : Int) ≤ 60 := by omega
      go_wp2_with fail
      refine (impl_Ends_c c lo hi _).mono ?_
      rintro e U ⟨rfl, gs⟩
      have gU : Grow R2 U := ((Grow.refl R2).alloc _ _).trans gs
      have BC : Box U R2.heap.size [.int .i64 c.id, .int .i64 c.size, .int .i64 c.loc, .int .i64 c.remote, .int .i64 c.base, .int .i64 c.ppm, .int .i64 c.score] := (Box.new R2 _ _).grow gs
      clear gs
      clear z0 z1 q0_0 q0_1 q0_2 q0_3 q0_4 q0_5 f0 q1_0 q1_1 f1
      replace HGR : Hid (GRow U V1 V1.heap.size ((x.chans.length : Int) + 1) v es) := HGR.out.grow gU
      replace HGV : Hid (Grow V1 U) := HGV.out.trans gU
      replace G := G.trans gU
      replace B0 := B0.grow gU
      replace B1 := B1.grow gU
      clear gU
      have z0 := B0.lt
      have z1 := B1.lt
      have q0_0 : U.cell? ⟨w.heap.size, 0, none⟩ = some (.int .i64 x.tick) := B0.c 0 _ rfl
      have q0_1 : U.cell? ⟨w.heap.size, 1, none⟩ = some (.int .i64 x.next) := B0.c 1 _ rfl
      have q0_2 : U.cell? ⟨w.heap.size, 2, none⟩ = some (.int .i64 x.wallet) := B0.c 2 _ rfl
      have q0_3 : U.cell? ⟨w.heap.size, 3, none⟩ = some (.slice (some ⟨b_c, off_c, none⟩) x.chans.length c0) := B0.c 3 _ rfl
      have q0_4 : U.cell? ⟨w.heap.size, 4, none⟩ = some (.slice a1 x.htlcs.length c1) := B0.c 4 _ rfl
      have q0_5 : U.cell? ⟨w.heap.size, 5, none⟩ = some (.slice a2 x.circles.length c2) := B0.c 5 _ rfl
      have f0 := B0.f
      have q1_0 : U.cell? ⟨w.heap.size + 1, 0, none⟩ = some (.int .i64 0) := B1.c 0 _ rfl
      have q1_1 : U.cell? ⟨w.heap.size + 1, 1, none⟩ = some (.slice none 0 0) := B1.c 1 _ rfl
      have f1 := B1.f
      have zc := BC.lt
      have qc0 : U.cell? ⟨R2.heap.size, 0, none⟩ = some (.int .i64 c.id) := BC.c 0 _ rfl
      have qc1 : U.cell? ⟨R2.heap.size, 1, none⟩ = some (.int .i64 c.size) := BC.c 1 _ rfl
      have qc2 : U.cell? ⟨R2.heap.size, 2, none⟩ = some (.int .i64 c.loc) := BC.c 2 _ rfl
      have qc3 : U.cell? ⟨R2.heap.size, 3, none⟩ = some (.int .i64 c.remote) := BC.c 3 _ rfl
      have qc4 : U.cell? ⟨R2.heap.size, 4, none⟩ = some (.int .i64 c.base) := BC.c 4 _ rfl
      have qc5 : U.cell? ⟨R2.heap.size, 5, none⟩ = some (.int .i64 c.ppm) := BC.c 5 _ rfl
      have qc6 : U.cell? ⟨R2.heap.size, 6, none⟩ = some (.int .i64 c.score) := BC.c 6 _ rfl
      have gq0 : U.cell? ⟨V1.heap.size, 0, none⟩ = some (.int .i64 ((x.chans.length : Int) + 1)) := HGR.out.box.c 0 _ rfl
      have gq1 : U.cell? ⟨V1.heap.size, 1, none⟩ = some v := HGR.out.box.c 1 _ rfl
      have gz : V1.heap.size < U.heap.size := HGR.out.box.lt
      have hebd := ends_bd (size := c.size) (lo := lo) (hi := hi)
      obtain ⟨⟨he1, he2⟩, he3, he4⟩ := hebd
      by_cases t : ends2 c.size lo hi < c.loc
      · have HT := Lib.hid (overE_yes (lo := lo) (hi := hi) (i := k) (c := c) t)
        have T : decide (ends2 c.size lo hi < c.loc) = true := by simpa using t
        generalize ends1 c.size lo hi = e1 at *
        generalize ends2 c.size lo hi = e2 at *
        have hcap : capE (c.loc - e2) = min (c.loc - e2) 1000000000 := rfl
        have hcb : -1 ≤ capE (c.loc - e2) ∧ capE (c.loc - e2) ≤ 1000000000 := by rw [hcap]; omega
        obtain ⟨hcb1, hcb2⟩ := hcb
        have hq1 : IntKind.i64.wrap ((k : Int) + 1) = (k : Int) + 1 := by rw [IntKind.wrap_i64]; omega
        have hq2 : IntKind.i64.wrap (c.loc - e2) = c.loc - e2 := by rw [IntKind.wrap_i64]; omega
        have hq3 : IntKind.i64.wrap (-gain) = -gain := by rw [IntKind.wrap_i64]; omega
        go_wp2_with (at_builtin
                     go_loud (refine wpList_append_g rfl (.tmp 64) (.tmp 73) 29 rfl V1 (HGV.out.alloc _ _) 123 i0 _ 4 32 Try.underlying29 hi0 hz0 hz1 hz2 rfl (by omega) v es.length (es.flatMap encEdge) rfl (own_grow HGR.out.own ((Grow.refl _).alloc _ _)) ⟨U.heap.size, 0, none⟩ 1 1 [.int .i64 0, .int .i64 ((k : Int) + 1), .int .i64 (capE (c.loc - e2)), .int .i64 0] rfl rfl (news_of _ _ _ _ rfl) (one_edge _ _ _ _) (by simp only [maxLen]; omega) (by omega) ?_)
                     intro v1 w1 hown' hg' hgb hat
                     obtain ⟨va, vc, rfl⟩ := own_form hown'
                     have hgu := (Grow.refl U).alloc #[.int .i64 0, .int .i64 ((k : Int) + 1), .int .i64 (capE (c.loc - e2)), .int .i64 0] 123
                     have s0 : w1.cell? ⟨V1.heap.size, 0, none⟩ = some (.int .i64 ((x.chans.length : Int) + 1)) := cellKept hgb HGR.out.ne (cellGrow hgu gq0)
                     have s1 : w1.cell? ⟨V1.heap.size, 1, none⟩ = some v := cellKept hgb HGR.out.ne (cellGrow hgu gq1)
                     have z1 : V1.heap.size < w1.heap.size := lt_of_cell s0
                     have fz1 : ∀ o, w1.frozen? ⟨V1.heap.size, o, none⟩ = false := fun o => hg'.nf _ o (by omega) z1
                     have HPUSH := Lib.hid (GRow.push (e := ⟨0, (k : Int) + 1, capE (c.loc - e2), 0⟩) (HGR.out.grow hgu) hown' hgb hat)
                     have HGN := Lib.hid (hg'.setCell (p := ⟨V1.heap.size, 1, none⟩) (Nat.le_refl _) (.slice va (es.length + 1) vc))
                     clear hown' hg' hgb hat hgu)
        go_roundg (x.chans.length - (k + 1))
        case measure => have := HK.out; omega
        case rel => exact ⟨k + 1, (.slice va (es.length + 1) vc), by have := HK.out; omega, by go_num, by rw [HM.out, HT.out]; first | exact HPUSH.out | (rw [← List.append_assoc, HES.out]; exact HPUSH.out), HGN.out⟩
      · have HT := Lib.hid (overE_no (lo := lo) (hi := hi) (i := k) (c := c) t)
        have T : decide (ends2 c.size lo hi < c.loc) = false := by simpa using t
        generalize ends1 c.size lo hi = e1 at *
        generalize ends2 c.size lo hi = e2 at *
        go_wp2_with fail
        go_roundg (x.chans.length - (k + 1))
        case measure => have := HK.out; omega
        case rel => exact ⟨k + 1, v, by have := HK.out; omega, by go_num, by rw [HM.out, HT.out]; rw [List.append_nil]; first | exact HGR.out | (rw [HES.out]; exact HGR.out), HGV.out⟩
    · obtain rfl : k = x.chans.length := by omega
      clear hk hlt
      have z0 := B0.lt
      have z1 := B1.lt
      have q0_0 : R2.cell? ⟨w.heap.size, 0, none⟩ = some (.int .i64 x.tick) := B0.c 0 _ rfl
      have q0_1 : R2.cell? ⟨w.heap.size, 1, none⟩ = some (.int .i64 x.next) := B0.c 1 _ rfl
      have q0_2 : R2.cell? ⟨w.heap.size, 2, none⟩ = some (.int .i64 x.wallet) := B0.c 2 _ rfl
      have q0_3 : R2.cell? ⟨w.heap.size, 3, none⟩ = some (.slice a0 x.chans.length c0) := B0.c 3 _ rfl
      have q0_4 : R2.cell? ⟨w.heap.size, 4, none⟩ = some (.slice a1 x.htlcs.length c1) := B0.c 4 _ rfl
      have q0_5 : R2.cell? ⟨w.heap.size, 5, none⟩ = some (.slice a2 x.circles.length c2) := B0.c 5 _ rfl
      have f0 := B0.f
      have q1_0 : R2.cell? ⟨w.heap.size + 1, 0, none⟩ = some (.int .i64 0) := B1.c 0 _ rfl
      have q1_1 : R2.cell? ⟨w.heap.size + 1, 1, none⟩ = some (.slice none 0 0) := B1.c 1 _ rfl
      have f1 := B1.f
      go_wp2_with fail
      clear z0 z1 q0_0 q0_1 q0_2 q0_3 q0_4 q0_5 f0 q1_0 q1_1 f1
      go_loopg [80] x.chans.length (fun g i wr => ∃ (k : Nat) (v : Value), k + g = x.chans.length ∧ i = .int .i64 k ∧ GRow wr V1 V1.heap.size ((x.chans.length : Int) + 1) v (upK (overE lo hi) x.chans x.chans.length ++ upK (underE lo hi gain) x.chans k) ∧ Grow V1 wr)
      case atStart => exact ⟨0, v, by simp, rfl, by simpa [upK] using HGR.out, hg⟩
      case round =>
        clear hg HGR G B0 B1
        obtain ⟨k, v, hk, rfl, GR, hg⟩ := hrel
        obtain ⟨R3, rfl⟩ : ∃ V, V = wr := ⟨_, rfl⟩
        have G := HG0.out.trans hg
        have B0 := HB0.out.grow hg
        have B1 := HB1.out.grow hg
        have HGR := Lib.hid GR; clear GR
        by_cases hlt : k < x.chans.length
        · have HK := Lib.hid hk; clear hk
          have HGV := Lib.hid hg; clear hg
          have HM : Hid (upK (underE lo hi gain) x.chans (k+1) = upK (underE lo hi gain) x.chans k ++ underE lo hi gain k x.chans[k]) := upK_succ hlt
          have hel20 : ((upK (overE lo hi) x.chans x.chans.length ++ upK (underE lo hi gain) x.chans k)).length ≤ 60 := by have := upK_len (f := overE lo hi) (l := x.chans) (overE_len lo hi) x.chans.length; have := upK_len (f := underE lo hi gain) (l := x.chans) (underE_len lo hi gain) k; rw [List.length_append]; omega
          have HNE : Hid (v.ownBlock ≠ some R3.heap.size) := own_ne HGR.out.own (Nat.le_refl _)
          have gzr : V1.heap.size < R3.heap.size := HGR.out.box.lt
          have z0 := B0.lt
          have z1 := B1.lt
          have q0_0 : R3.cell? ⟨w.heap.size, 0, none⟩ = some (.int .i64 x.tick) := B0.c 0 _ rfl
          have q0_1 : R3.cell? ⟨w.heap.size, 1, none⟩ = some (.int .i64 x.next) := B0.c 1 _ rfl
          have q0_2 : R3.cell? ⟨w.heap.size, 2, none⟩ = some (.int .i64 x.wallet) := B0.c 2 _ rfl
          have q0_3 : R3.cell? ⟨w.heap.size, 3, none⟩ = some (.slice a0 x.chans.length c0) := B0.c 3 _ rfl
          have q0_4 : R3.cell? ⟨w.heap.size, 4, none⟩ = some (.slice a1 x.htlcs.length c1) := B0.c 4 _ rfl
          have q0_5 : R3.cell? ⟨w.heap.size, 5, none⟩ = some (.slice a2 x.circles.length c2) := B0.c 5 _ rfl
          have f0 := B0.f
          have q1_0 : R3.cell? ⟨w.heap.size + 1, 0, none⟩ = some (.int .i64 0) := B1.c 0 _ rfl
          have q1_1 : R3.cell? ⟨w.heap.size + 1, 1, none⟩ = some (.slice none 0 0) := B1.c 1 _ rfl
          have f1 := B1.f
          have hcl := HLOC.out _ (List.getElem_mem hlt)
          obtain ⟨b_c, off_c, ha_c, hb1_c, hb2_c, hel_c⟩ := H0.out.elems k hlt
          obtain ⟨ec0, ec1, ec2, ec3, ec4, ec5, ec6, -⟩ := Chan.atCell (hel_c.same repChan_stable (G.same (Nat.le_refl _)) hb1_c hb2_c) k hlt
          subst ha_c
          clear hel_c
          generalize x.chans[k] = c at *
          obtain ⟨hcl1, hcl2⟩ := hcl
          generalize hes : (upK (overE lo hi) x.chans x.chans.length ++ upK (underE lo hi gain) x.chans k) = es at *
          have HES := Lib.hid hes; clear hes
          have hkk : (k : Int) ≤ 60 := by omega
          go_wp2_with fail
          refine (impl_Ends_c c lo hi _).mono ?_
          rintro e U ⟨rfl, gs⟩
          have gU : Grow R3 U := ((Grow.refl R3).alloc _ _).trans gs
          have BC : Box U R3.heap.size [.int .i64 c.id, .int .i64 c.size, .int .i64 c.loc, .int .i64 c.remote, .int .i64 c.base, .int .i64 c.ppm, .int .i64 c.score] := (Box.new R3 _ _).grow gs
          clear gs
          clear z0 z1 q0_0 q0_1 q0_2 q0_3 q0_4 q0_5 f0 q1_0 q1_1 f1
          replace HGR : Hid (GRow U V1 V1.heap.size ((x.chans.length : Int) + 1) v es) := HGR.out.grow gU
          replace HGV : Hid (Grow V1 U) := HGV.out.trans gU
          replace G := G.trans gU
          replace B0 := B0.grow gU
          replace B1 := B1.grow gU
          clear gU
          have z0 := B0.lt
          have z1 := B1.lt
          have q0_0 : U.cell? ⟨w.heap.size, 0, none⟩ = some (.int .i64 x.tick) := B0.c 0 _ rfl
          have q0_1 : U.cell? ⟨w.heap.size, 1, none⟩ = some (.int .i64 x.next) := B0.c 1 _ rfl
          have q0_2 : U.cell? ⟨w.heap.size, 2, none⟩ = some (.int .i64 x.wallet) := B0.c 2 _ rfl
          have q0_3 : U.cell? ⟨w.heap.size, 3, none⟩ = some (.slice (some ⟨b_c, off_c, none⟩) x.chans.length c0) := B0.c 3 _ rfl
          have q0_4 : U.cell? ⟨w.heap.size, 4, none⟩ = some (.slice a1 x.htlcs.length c1) := B0.c 4 _ rfl
          have q0_5 : U.cell? ⟨w.heap.size, 5, none⟩ = some (.slice a2 x.circles.length c2) := B0.c 5 _ rfl
          have f0 := B0.f
          have q1_0 : U.cell? ⟨w.heap.size + 1, 0, none⟩ = some (.int .i64 0) := B1.c 0 _ rfl
          have q1_1 : U.cell? ⟨w.heap.size + 1, 1, none⟩ = some (.slice none 0 0) := B1.c 1 _ rfl
          have f1 := B1.f
          have zc := BC.lt
          have qc0 : U.cell? ⟨R3.heap.size, 0, none⟩ = some (.int .i64 c.id) := BC.c 0 _ rfl
          have qc1 : U.cell? ⟨R3.heap.size, 1, none⟩ = some (.int .i64 c.size) := BC.c 1 _ rfl
          have qc2 : U.cell? ⟨R3.heap.size, 2, none⟩ = some (.int .i64 c.loc) := BC.c 2 _ rfl
          have qc3 : U.cell? ⟨R3.heap.size, 3, none⟩ = some (.int .i64 c.remote) := BC.c 3 _ rfl
          have qc4 : U.cell? ⟨R3.heap.size, 4, none⟩ = some (.int .i64 c.base) := BC.c 4 _ rfl
          have qc5 : U.cell? ⟨R3.heap.size, 5, none⟩ = some (.int .i64 c.ppm) := BC.c 5 _ rfl
          have qc6 : U.cell? ⟨R3.heap.size, 6, none⟩ = some (.int .i64 c.score) := BC.c 6 _ rfl
          have gq0 : U.cell? ⟨V1.heap.size, 0, none⟩ = some (.int .i64 ((x.chans.length : Int) + 1)) := HGR.out.box.c 0 _ rfl
          have gq1 : U.cell? ⟨V1.heap.size, 1, none⟩ = some v := HGR.out.box.c 1 _ rfl
          have gz : V1.heap.size < U.heap.size := HGR.out.box.lt
          have hebd := ends_bd (size := c.size) (lo := lo) (hi := hi)
          obtain ⟨⟨he1, he2⟩, he3, he4⟩ := hebd
          by_cases t : c.loc < ends1 c.size lo hi
          · have HT := Lib.hid (underE_yes (lo := lo) (hi := hi) (gain := gain) (i := k) (c := c) t)
            have T : decide (c.loc < ends1 c.size lo hi) = true := by simpa using t
            generalize ends1 c.size lo hi = e1 at *
            generalize ends2 c.size lo hi = e2 at *
            have hcap : capE (e1 - c.loc) = min (e1 - c.loc) 1000000000 := rfl
            have hcb : -1 ≤ capE (e1 - c.loc) ∧ capE (e1 - c.loc) ≤ 1000000000 := by rw [hcap]; omega
            obtain ⟨hcb1, hcb2⟩ := hcb
            have hq1 : IntKind.i64.wrap ((k : Int) + 1) = (k : Int) + 1 := by rw [IntKind.wrap_i64]; omega
            have hq2 : IntKind.i64.wrap (e1 - c.loc) = e1 - c.loc := by rw [IntKind.wrap_i64]; omega
            have hq3 : IntKind.i64.wrap (-gain) = -gain := by rw [IntKind.wrap_i64]; omega
            go_wp2_with (at_builtin
                         go_loud (refine wpList_append_g rfl (.tmp 97) (.tmp 108) 29 rfl V1 (HGV.out.alloc _ _) 123 i0 _ 4 32 Try.underlying29 hi0 hz0 hz1 hz2 rfl (by omega) v es.length (es.flatMap encEdge) rfl (own_grow HGR.out.own ((Grow.refl _).alloc _ _)) ⟨U.heap.size, 0, none⟩ 1 1 [.int .i64 ((k : Int) + 1), .int .i64 0, .int .i64 (capE (e1 - c.loc)), .int .i64 (-gain)] rfl rfl (news_of _ _ _ _ rfl) (one_edge _ _ _ _) (by simp only [maxLen]; omega) (by omega) ?_)
                         intro v1 w1 hown' hg' hgb hat
                         obtain ⟨va, vc, rfl⟩ := own_form hown'
                         have hgu := (Grow.refl U).alloc #[.int .i64 ((k : Int) + 1), .int .i64 0, .int .i64 (capE (e1 - c.loc)), .int .i64 (-gain)] 123
                         have s0 : w1.cell? ⟨V1.heap.size, 0, none⟩ = some (.int .i64 ((x.chans.length : Int) + 1)) := cellKept hgb HGR.out.ne (cellGrow hgu gq0)
                         have s1 : w1.cell? ⟨V1.heap.size, 1, none⟩ = some v := cellKept hgb HGR.out.ne (cellGrow hgu gq1)
                         have z1 : V1.heap.size < w1.heap.size := lt_of_cell s0
                         have fz1 : ∀ o, w1.frozen? ⟨V1.heap.size, o, none⟩ = false := fun o => hg'.nf _ o (by omega) z1
                         have HPUSH := Lib.hid (GRow.push (e := ⟨(k : Int) + 1, 0, capE (e1 - c.loc), -gain⟩) (HGR.out.grow hgu) hown' hgb hat)
                         have HGN := Lib.hid (hg'.setCell (p := ⟨V1.heap.size, 1, none⟩) (Nat.le_refl _) (.slice va (es.length + 1) vc))
                         clear hown' hg' hgb hat hgu)
            go_roundg (x.chans.length - (k + 1))
            case measure => have := HK.out; omega
            case rel => exact ⟨k + 1, (.slice va (es.length + 1) vc), by have := HK.out; omega, by go_num, by rw [HM.out, HT.out]; first | exact HPUSH.out | (rw [← List.append_assoc, HES.out]; exact HPUSH.out), HGN.out⟩
          · have HT := Lib.hid (underE_no (lo := lo) (hi := hi) (gain := gain) (i := k) (c := c) t)
            have T : decide (c.loc < ends1 c.size lo hi) = false := by simpa using t
            generalize ends1 c.size lo hi = e1 at *
            generalize ends2 c.size lo hi = e2 at *
            go_wp2_with fail
            go_roundg (x.chans.length - (k + 1))
            case measure => have := HK.out; omega
            case rel => exact ⟨k + 1, v, by have := HK.out; omega, by go_num, by rw [HM.out, HT.out]; rw [List.append_nil]; first | exact HGR.out | (rw [HES.out]; exact HGR.out), HGV.out⟩
        · obtain rfl : k = x.chans.length := by omega
          clear hk hlt
          have z0 := B0.lt
          have z1 := B1.lt
          have q0_0 : R3.cell? ⟨w.heap.size, 0, none⟩ = some (.int .i64 x.tick) := B0.c 0 _ rfl
          have q0_1 : R3.cell? ⟨w.heap.size, 1, none⟩ = some (.int .i64 x.next) := B0.c 1 _ rfl
          have q0_2 : R3.cell? ⟨w.heap.size, 2, none⟩ = some (.int .i64 x.wallet) := B0.c 2 _ rfl
          have q0_3 : R3.cell? ⟨w.heap.size, 3, none⟩ = some (.slice a0 x.chans.length c0) := B0.c 3 _ rfl
          have q0_4 : R3.cell? ⟨w.heap.size, 4, none⟩ = some (.slice a1 x.htlcs.length c1) := B0.c 4 _ rfl
          have q0_5 : R3.cell? ⟨w.heap.size, 5, none⟩ = some (.slice a2 x.circles.length c2) := B0.c 5 _ rfl
          have f0 := B0.f
          have q1_0 : R3.cell? ⟨w.heap.size + 1, 0, none⟩ = some (.int .i64 0) := B1.c 0 _ rfl
          have q1_1 : R3.cell? ⟨w.heap.size + 1, 1, none⟩ = some (.slice none 0 0) := B1.c 1 _ rfl
          have f1 := B1.f
          go_wp2_with fail
          clear z0 z1 q0_0 q0_1 q0_2 q0_3 q0_4 q0_5 f0 q1_0 q1_1 f1
          go_loopg [114] l.length (fun g i wr => ∃ (k : Nat) (v : Value), k + g = l.length ∧ i = .int .i64 k ∧ GRow wr V1 V1.heap.size ((x.chans.length : Int) + 1) v (upK (overE lo hi) x.chans x.chans.length ++ upK (underE lo hi gain) x.chans x.chans.length ++ (l.take k).map (priceE x.chans)) ∧ Grow V1 wr)
          case atStart => exact ⟨0, v, by simp, rfl, by simpa using HGR.out, hg⟩
          case round =>
            clear hg HGR G B0 B1
            obtain ⟨k, v, hk, rfl, GR, hg⟩ := hrel
            obtain ⟨R4, rfl⟩ : ∃ V, V = wr := ⟨_, rfl⟩
            have G := HG0.out.trans hg
            have B0 := HB0.out.grow hg
            have B1 := HB1.out.grow hg
            have HGR := Lib.hid GR; clear GR
            by_cases hlt : k < l.length
            · have HK := Lib.hid hk; clear hk
              have HGV := Lib.hid hg; clear hg
              have HM : Hid ((l.take (k+1)).map (priceE x.chans) = (l.take k).map (priceE x.chans) ++ [priceE x.chans l[k]]) := by show _ = _; rw [List.take_succ_eq_append_getElem hlt, List.map_append]; rfl
              have hel20 : ((upK (overE lo hi) x.chans x.chans.length ++ upK (underE lo hi gain) x.chans x.chans.length ++ (l.take k).map (priceE x.chans))).length ≤ 60 := by have := upK_len (f := overE lo hi) (l := x.chans) (overE_len lo hi) x.chans.length; have := upK_len (f := underE lo hi gain) (l := x.chans) (underE_len lo hi gain) x.chans.length; simp only [List.length_append, List.length_map, List.length_take]; omega
              have HNE : Hid (v.ownBlock ≠ some R4.heap.size) := own_ne HGR.out.own (Nat.le_refl _)
              have gzr : V1.heap.size < R4.heap.size := HGR.out.box.lt
              have z0 := B0.lt
              have z1 := B1.lt
              have q0_0 : R4.cell? ⟨w.heap.size, 0, none⟩ = some (.int .i64 x.tick) := B0.c 0 _ rfl
              have q0_1 : R4.cell? ⟨w.heap.size, 1, none⟩ = some (.int .i64 x.next) := B0.c 1 _ rfl
              have q0_2 : R4.cell? ⟨w.heap.size, 2, none⟩ = some (.int .i64 x.wallet) := B0.c 2 _ rfl
              have q0_3 : R4.cell? ⟨w.heap.size, 3, none⟩ = some (.slice a0 x.chans.length c0) := B0.c 3 _ rfl
              have q0_4 : R4.cell? ⟨w.heap.size, 4, none⟩ = some (.slice a1 x.htlcs.length c1) := B0.c 4 _ rfl
              have q0_5 : R4.cell? ⟨w.heap.size, 5, none⟩ = some (.slice a2 x.circles.length c2) := B0.c 5 _ rfl
              have f0 := B0.f
              have q1_0 : R4.cell? ⟨w.heap.size + 1, 0, none⟩ = some (.int .i64 0) := B1.c 0 _ rfl
              have q1_1 : R4.cell? ⟨w.heap.size + 1, 1, none⟩ = some (.slice none 0 0) := B1.c 1 _ rfl
              have f1 := B1.f
              obtain ⟨b_e, off_e, ha_e, hb1_e, hb2_e, hel_e⟩ := H3.out.elems k hlt
              obtain ⟨ee0, ee1, ee2, -⟩ := Price.atCell (hel_e.same repPrice_stable (G.same (Nat.le_refl _)) hb1_e hb2_e) k hlt
              subst ha_e
              clear hel_e
              generalize l[k] = e at *
              generalize hes : (upK (overE lo hi) x.chans x.chans.length ++ upK (underE lo hi gain) x.chans x.chans.length ++ (l.take k).map (priceE x.chans)) = es at *
              have HES := Lib.hid hes; clear hes
              have hkk : (k : Int) ≤ 60 := by omega
              go_wp2_with fail
              obtain ⟨U, hU⟩ : ∃ U, U = R4.alloc (.cells #[.int .i64 e.frm, .int .i64 e.to, .int .i64 e.ppm] 125) := ⟨_, rfl⟩
              have gU : Grow R4 U := by rw [hU]; exact (Grow.refl _).alloc _ _
              have BC : Box U R4.heap.size [.int .i64 e.frm, .int .i64 e.to, .int .i64 e.ppm] := by rw [hU]; exact Box.new R4 _ _
              rw [← hU]
              clear hU
              clear z0 z1 q0_0 q0_1 q0_2 q0_3 q0_4 q0_5 f0 q1_0 q1_1 f1
              replace HGR : Hid (GRow U V1 V1.heap.size ((x.chans.length : Int) + 1) v es) := HGR.out.grow gU
              replace HGV : Hid (Grow V1 U) := HGV.out.trans gU
              replace G := G.trans gU
              replace B0 := B0.grow gU
              replace B1 := B1.grow gU
              clear gU
              have z0 := B0.lt
              have z1 := B1.lt
              have q0_0 : U.cell? ⟨w.heap.size, 0, none⟩ = some (.int .i64 x.tick) := B0.c 0 _ rfl
              have q0_1 : U.cell? ⟨w.heap.size, 1, none⟩ = some (.int .i64 x.next) := B0.c 1 _ rfl
              have q0_2 : U.cell? ⟨w.heap.size, 2, none⟩ = some (.int .i64 x.wallet) := B0.c 2 _ rfl
              have q0_3 : U.cell? ⟨w.heap.size, 3, none⟩ = some (.slice a0 x.chans.length c0) := B0.c 3 _ rfl
              have q0_4 : U.cell? ⟨w.heap.size, 4, none⟩ = some (.slice a1 x.htlcs.length c1) := B0.c 4 _ rfl
              have q0_5 : U.cell? ⟨w.heap.size, 5, none⟩ = some (.slice a2 x.circles.length c2) := B0.c 5 _ rfl
              have f0 := B0.f
              have q1_0 : U.cell? ⟨w.heap.size + 1, 0, none⟩ = some (.int .i64 0) := B1.c 0 _ rfl
              have q1_1 : U.cell? ⟨w.heap.size + 1, 1, none⟩ = some (.slice none 0 0) := B1.c 1 _ rfl
              have f1 := B1.f
              have zc := BC.lt
              have qc0 : U.cell? ⟨R4.heap.size, 0, none⟩ = some (.int .i64 e.frm) := BC.c 0 _ rfl
              have qc1 : U.cell? ⟨R4.heap.size, 1, none⟩ = some (.int .i64 e.to) := BC.c 1 _ rfl
              have qc2 : U.cell? ⟨R4.heap.size, 2, none⟩ = some (.int .i64 e.ppm) := BC.c 2 _ rfl
              have gq0 : U.cell? ⟨V1.heap.size, 0, none⟩ = some (.int .i64 ((x.chans.length : Int) + 1)) := HGR.out.box.c 0 _ rfl
              have gq1 : U.cell? ⟨V1.heap.size, 1, none⟩ = some v := HGR.out.box.c 1 _ rfl
              have gz : V1.heap.size < U.heap.size := HGR.out.box.lt
              have hb1 := chanAt_bd x.chans e.frm
              have hb2 := chanAt_bd x.chans e.to
              have HPE : Hid (priceE x.chans e = ⟨chanAt x.chans e.frm + 1, chanAt x.chans e.to + 1, 1000000000, e.ppm⟩) := rfl
              have HC1 : Hid (∀ (W : World) (hw : Grow w W), Calls Try.prog 72 #[.agg #[.int .i64 x.tick, .int .i64 x.next, .int .i64 x.wallet, .slice a0 x.chans.length c0, .slice a1 x.htlcs.length c1, .slice a2 x.circles.length c2], .int .i64 e.frm] W fun e' w' => e' = .returned (.int .i64 (chanAt x.chans e.frm)) ∧ Grow W w') := fun W hw => impl_chanAt_c x _ _ _ _ _ _ e.frm W (H0.out.grow' repChan_stable (Grow.below hw)) hn
              have HC2 : Hid (∀ (W : World) (hw : Grow w W), Calls Try.prog 72 #[.agg #[.int .i64 x.tick, .int .i64 x.next, .int .i64 x.wallet, .slice a0 x.chans.length c0, .slice a1 x.htlcs.length c1, .slice a2 x.circles.length c2], .int .i64 e.to] W fun e' w' => e' = .returned (.int .i64 (chanAt x.chans e.to)) ∧ Grow W w') := fun W hw => impl_chanAt_c x _ _ _ _ _ _ e.to W (H0.out.grow' repChan_stable (Grow.below hw)) hn
              generalize chanAt x.chans e.frm = p1 at *
              generalize chanAt x.chans e.to = p2 at *
              have hq1 : IntKind.i64.wrap (p1 + 1) = p1 + 1 := by rw [IntKind.wrap_i64]; omega
              have hq2 : IntKind.i64.wrap (p2 + 1) = p2 + 1 := by rw [IntKind.wrap_i64]; omega
              have HU := Lib.hid G
              have gq1d : U.drew.cell? ⟨V1.heap.size, 1, none⟩ = some v := gq1
              have hS0 : (fun W : World => W.cell? ⟨V1.heap.size, 1, none⟩ = some v ∧ W.cell? ⟨w.heap.size, 0, none⟩ = some (.int .i64 x.tick) ∧ W.cell? ⟨w.heap.size, 1, none⟩ = some (.int .i64 x.next) ∧ W.cell? ⟨w.heap.size, 2, none⟩ = some (.int .i64 x.wallet) ∧ W.cell? ⟨w.heap.size, 3, none⟩ = some (.slice a0 x.chans.length c0) ∧ W.cell? ⟨w.heap.size, 4, none⟩ = some (.slice a1 x.htlcs.length c1) ∧ W.cell? ⟨w.heap.size, 5, none⟩ = some (.slice a2 x.circles.length c2) ∧ W.cell? ⟨R4.heap.size, 0, none⟩ = some (.int .i64 e.frm) ∧ W.cell? ⟨R4.heap.size, 1, none⟩ = some (.int .i64 e.to) ∧ W.cell? ⟨R4.heap.size, 2, none⟩ = some (.int .i64 e.ppm)) U.drew := ⟨gq1, q0_0, q0_1, q0_2, q0_3, q0_4, q0_5, qc0, qc1, qc2⟩
              refine wp_region_G (f := 18) (S := fun W => W.cell? ⟨V1.heap.size, 1, none⟩ = some v ∧ W.cell? ⟨w.heap.size, 0, none⟩ = some (.int .i64 x.tick) ∧ W.cell? ⟨w.heap.size, 1, none⟩ = some (.int .i64 x.next) ∧ W.cell? ⟨w.heap.size, 2, none⟩ = some (.int .i64 x.wallet) ∧ W.cell? ⟨w.heap.size, 3, none⟩ = some (.slice a0 x.chans.length c0) ∧ W.cell? ⟨w.heap.size, 4, none⟩ = some (.slice a1 x.htlcs.length c1) ∧ W.cell? ⟨w.heap.size, 5, none⟩ = some (.slice a2 x.circles.length c2) ∧ W.cell? ⟨R4.heap.size, 0, none⟩ = some (.int .i64 e.frm) ∧ W.cell? ⟨R4.heap.size, 1, none⟩ = some (.int .i64 e.to) ∧ W.cell? ⟨R4.heap.size, 2, none⟩ = some (.int .i64 e.ppm)) (by kernel_rfl) ?_
              change wpAnyG _ _ _ _ _ _ 19 _ _ _
              refine wpAnyG_take' (i := 0) (by simp only [List.getElem?_toArray, List.getElem?_cons_succ, List.getElem?_cons_zero]; rfl) ?_
              refine ⟨by kernel_rfl, by kernel_rfl, by kernel_rfl, by kernel_rfl, by kernel_rfl, fun _ _ _ _ h => h, hS0, ?vprice0, Or.inl ⟨by rfl, ?hyprice0⟩, ?restprice0⟩
              case hyprice0 =>
                intro W hSw
                obtain ⟨s_0, s_1, s_2, s_3, s_4, s_5, s_6, s_7, s_8, s_9⟩ := hSw
                go_simp
                try with_reducible rfl
              (try simp only [Act.put, List.setIfInBounds_toArray, List.set_cons_zero, List.set_cons_succ])
              refine wpAnyG_take' (i := 1) (by simp only [List.getElem?_toArray, List.getElem?_cons_succ, List.getElem?_cons_zero]; rfl) ?_
              refine ⟨by kernel_rfl, by kernel_rfl, by kernel_rfl, by kernel_rfl, by kernel_rfl, fun _ _ _ _ h => h, hS0, ?vprice1, Or.inl ⟨by rfl, ?hyprice1⟩, ?restprice1⟩
              case hyprice1 =>
                intro W hSw
                obtain ⟨s_0, s_1, s_2, s_3, s_4, s_5, s_6, s_7, s_8, s_9⟩ := hSw
                go_simp
                try with_reducible rfl
              (try simp only [Act.put, List.setIfInBounds_toArray, List.set_cons_zero, List.set_cons_succ])
              refine wpAnyG_take' (i := 2) (by simp only [List.getElem?_toArray, List.getElem?_cons_succ, List.getElem?_cons_zero]; rfl) ?_
              refine ⟨by kernel_rfl, by kernel_rfl, by kernel_rfl, by kernel_rfl, by kernel_rfl, fun _ _ _ _ h => h, hS0, ?vprice2, Or.inl ⟨by rfl, ?hyprice2⟩, ?restprice2⟩
              case hyprice2 =>
                intro W hSw
                obtain ⟨s_0, s_1, s_2, s_3, s_4, s_5, s_6, s_7, s_8, s_9⟩ := hSw
                go_simp
                try with_reducible rfl
              (try simp only [Act.put, List.setIfInBounds_toArray, List.set_cons_zero, List.set_cons_succ])
              refine wpAnyG_take' (i := 3) (by simp only [List.getElem?_toArray, List.getElem?_cons_succ, List.getElem?_cons_zero]; rfl) ?_
              refine ⟨by kernel_rfl, by kernel_rfl, by kernel_rfl, by kernel_rfl, by kernel_rfl, fun _ _ _ _ h => h, hS0, ?vprice3, Or.inl ⟨by rfl, ?hyprice3⟩, ?restprice3⟩
              case hyprice3 =>
                intro W hSw
                obtain ⟨s_0, s_1, s_2, s_3, s_4, s_5, s_6, s_7, s_8, s_9⟩ := hSw
                go_simp
                try with_reducible rfl
              (try simp only [Act.put, List.setIfInBounds_toArray, List.set_cons_zero, List.set_cons_succ])
              refine wpAnyG_take' (i := 4) (by simp only [List.getElem?_toArray, List.getElem?_cons_succ, List.getElem?_cons_zero]; rfl) ?_
              refine ⟨by kernel_rfl, by kernel_rfl, by kernel_rfl, by kernel_rfl, by kernel_rfl, fun _ _ _ _ h => h, hS0, ?vprice4, Or.inl ⟨by rfl, ?hyprice4⟩, ?restprice4⟩
              case hyprice4 =>
                intro W hSw
                obtain ⟨s_0, s_1, s_2, s_3, s_4, s_5, s_6, s_7, s_8, s_9⟩ := hSw
                go_simp
                try with_reducible rfl
              (try simp only [Act.put, List.setIfInBounds_toArray, List.set_cons_zero, List.set_cons_succ])
              refine wpAnyG_take' (i := 7) (by simp only [List.getElem?_toArray, List.getElem?_cons_succ, List.getElem?_cons_zero]; rfl) ?_
              refine ⟨by kernel_rfl, by kernel_rfl, by kernel_rfl, by kernel_rfl, by kernel_rfl, fun _ _ _ _ h => h, hS0, ?vprice7, Or.inl ⟨by rfl, ?hyprice7⟩, ?restprice7⟩
              case hyprice7 =>
                intro W hSw
                obtain ⟨s_0, s_1, s_2, s_3, s_4, s_5, s_6, s_7, s_8, s_9⟩ := hSw
                go_simp
                try with_reducible rfl
              (try simp only [Act.put, List.setIfInBounds_toArray, List.set_cons_zero, List.set_cons_succ])
              refine wpAnyG_take' (i := 8) (by simp only [List.getElem?_toArray, List.getElem?_cons_succ, List.getElem?_cons_zero]; rfl) ?_
              refine ⟨by kernel_rfl, by kernel_rfl, by kernel_rfl, by kernel_rfl, by kernel_rfl, fun _ _ _ _ h => h, hS0, ?vprice8, Or.inl ⟨by rfl, ?hyprice8⟩, ?restprice8⟩
              case hyprice8 =>
                intro W hSw
                obtain ⟨s_0, s_1, s_2, s_3, s_4, s_5, s_6, s_7, s_8, s_9⟩ := hSw
                go_simp
                try with_reducible rfl
              (try simp only [Act.put, List.setIfInBounds_toArray, List.set_cons_zero, List.set_cons_succ])
              refine wpAnyG_take' (i := 9) (by simp only [List.getElem?_toArray, List.getElem?_cons_succ, List.getElem?_cons_zero]; rfl) ?_
              refine ⟨by kernel_rfl, by kernel_rfl, by kernel_rfl, by kernel_rfl, by kernel_rfl, fun _ _ _ _ h => h, hS0, ?vprice9, Or.inl ⟨by rfl, ?hyprice9⟩, ?restprice9⟩
              case hyprice9 =>
                intro W hSw
                obtain ⟨s_0, s_1, s_2, s_3, s_4, s_5, s_6, s_7, s_8, s_9⟩ := hSw
                go_simp
                try with_reducible rfl
              (try simp only [Act.put, List.setIfInBounds_toArray, List.set_cons_zero, List.set_cons_succ])
              refine wpAnyG_take' (i := 12) (by simp only [List.getElem?_toArray, List.getElem?_cons_succ, List.getElem?_cons_zero]; rfl) ?_
              refine ⟨by kernel_rfl, by kernel_rfl, by kernel_rfl, by kernel_rfl, by kernel_rfl, fun _ _ _ _ h => h, hS0, ?vprice12, Or.inl ⟨by rfl, ?hyprice12⟩, ?restprice12⟩
              case hyprice12 =>
                intro W hSw
                obtain ⟨s_0, s_1, s_2, s_3, s_4, s_5, s_6, s_7, s_8, s_9⟩ := hSw
                go_simp
                try with_reducible rfl
              (try simp only [Act.put, List.setIfInBounds_toArray, List.set_cons_zero, List.set_cons_succ])
              refine wpAnyG_take' (i := 13) (by simp only [List.getElem?_toArray, List.getElem?_cons_succ, List.getElem?_cons_zero]; rfl) ?_
              refine ⟨by kernel_rfl, by kernel_rfl, by kernel_rfl, by kernel_rfl, by kernel_rfl, fun _ _ _ _ h => h, hS0, ?vprice13, Or.inl ⟨by rfl, ?hyprice13⟩, ?restprice13⟩
              case hyprice13 =>
                intro W hSw
                obtain ⟨s_0, s_1, s_2, s_3, s_4, s_5, s_6, s_7, s_8, s_9⟩ := hSw
                go_simp
                try with_reducible rfl
              (try simp only [Act.put, List.setIfInBounds_toArray, List.set_cons_zero, List.set_cons_succ])
              refine wpAnyG_one (i := 5) (o := _) (by simp only [List.getElem?_toArray, List.getElem?_cons_succ, List.getElem?_cons_zero]; rfl) (by kernel_rfl) ?_
              intro K' hK
              have HK_ := Lib.hid hK; clear hK
              rw [if_pos (by rfl)]
              go_simp
              go_at_call 72
              refine (HC1.out _ HU.out.drew).mono ?_
              rintro e' w1 ⟨rfl, g1⟩
              have gU1 : Grow U w1 := ((Grow.refl U).drew).trans g1
              have hS1 : (fun W : World => W.cell? ⟨V1.heap.size, 1, none⟩ = some v ∧ W.cell? ⟨w.heap.size, 0, none⟩ = some (.int .i64 x.tick) ∧ W.cell? ⟨w.heap.size, 1, none⟩ = some (.int .i64 x.next) ∧ W.cell? ⟨w.heap.size, 2, none⟩ = some (.int .i64 x.wallet) ∧ W.cell? ⟨w.heap.size, 3, none⟩ = some (.slice a0 x.chans.length c0) ∧ W.cell? ⟨w.heap.size, 4, none⟩ = some (.slice a1 x.htlcs.length c1) ∧ W.cell? ⟨w.heap.size, 5, none⟩ = some (.slice a2 x.circles.length c2) ∧ W.cell? ⟨R4.heap.size, 0, none⟩ = some (.int .i64 e.frm) ∧ W.cell? ⟨R4.heap.size, 1, none⟩ = some (.int .i64 e.to) ∧ W.cell? ⟨R4.heap.size, 2, none⟩ = some (.int .i64 e.ppm)) w1 := ⟨cellGrow gU1 gq1, cellGrow gU1 q0_0, cellGrow gU1 q0_1, cellGrow gU1 q0_2, cellGrow gU1 q0_3, cellGrow gU1 q0_4, cellGrow gU1 q0_5, cellGrow gU1 qc0, cellGrow gU1 qc1, cellGrow gU1 qc2⟩
              refine HK_.out _ _ (fun _ => hS1) ?_
              (try simp only [Act.put, List.setIfInBounds_toArray, List.set_cons_zero, List.set_cons_succ])
              refine wpAnyG_take' (i := 6) (by simp only [List.getElem?_toArray, List.getElem?_cons_succ, List.getElem?_cons_zero]; rfl) ?_
              refine ⟨by kernel_rfl, by kernel_rfl, by kernel_rfl, by kernel_rfl, by kernel_rfl, fun _ _ _ _ h => h, hS1, ?vprice6, Or.inl ⟨by rfl, ?hyprice6⟩, ?restprice6⟩
              case hyprice6 =>
                intro W hSw
                obtain ⟨s_0, s_1, s_2, s_3, s_4, s_5, s_6, s_7, s_8, s_9⟩ := hSw
                go_simp
                try with_reducible rfl
              (try simp only [Act.put, List.setIfInBounds_toArray, List.set_cons_zero, List.set_cons_succ])
              refine wpAnyG_one (i := 10) (o := _) (by simp only [List.getElem?_toArray, List.getElem?_cons_succ, List.getElem?_cons_zero]; rfl) (by kernel_rfl) ?_
              intro K' hK
              have HK_ := Lib.hid hK; clear hK
              rw [if_pos (by rfl)]
              go_simp
              go_at_call 72
              refine (HC2.out _ (HU.out.trans gU1)).mono ?_
              rintro e' w2 ⟨rfl, g2⟩
              have gU2 : Grow U w2 := gU1.trans g2
              have hS2 : (fun W : World => W.cell? ⟨V1.heap.size, 1, none⟩ = some v ∧ W.cell? ⟨w.heap.size, 0, none⟩ = some (.int .i64 x.tick) ∧ W.cell? ⟨w.heap.size, 1, none⟩ = some (.int .i64 x.next) ∧ W.cell? ⟨w.heap.size, 2, none⟩ = some (.int .i64 x.wallet) ∧ W.cell? ⟨w.heap.size, 3, none⟩ = some (.slice a0 x.chans.length c0) ∧ W.cell? ⟨w.heap.size, 4, none⟩ = some (.slice a1 x.htlcs.length c1) ∧ W.cell? ⟨w.heap.size, 5, none⟩ = some (.slice a2 x.circles.length c2) ∧ W.cell? ⟨R4.heap.size, 0, none⟩ = some (.int .i64 e.frm) ∧ W.cell? ⟨R4.heap.size, 1, none⟩ = some (.int .i64 e.to) ∧ W.cell? ⟨R4.heap.size, 2, none⟩ = some (.int .i64 e.ppm)) w2 := ⟨cellGrow gU2 gq1, cellGrow gU2 q0_0, cellGrow gU2 q0_1, cellGrow gU2 q0_2, cellGrow gU2 q0_3, cellGrow gU2 q0_4, cellGrow gU2 q0_5, cellGrow gU2 qc0, cellGrow gU2 qc1, cellGrow gU2 qc2⟩
              refine HK_.out _ _ (fun _ => hS2) ?_
              (try simp only [Act.put, List.setIfInBounds_toArray, List.set_cons_zero, List.set_cons_succ])
              refine wpAnyG_take' (i := 11) (by simp only [List.getElem?_toArray, List.getElem?_cons_succ, List.getElem?_cons_zero]; rfl) ?_
              refine ⟨by kernel_rfl, by kernel_rfl, by kernel_rfl, by kernel_rfl, by kernel_rfl, fun _ _ _ _ h => h, hS2, ?vprice11, Or.inl ⟨by rfl, ?hyprice11⟩, ?restprice11⟩
              case hyprice11 =>
                intro W hSw
                obtain ⟨s_0, s_1, s_2, s_3, s_4, s_5, s_6, s_7, s_8, s_9⟩ := hSw
                go_simp
                try with_reducible rfl
              (try simp only [Act.put, List.setIfInBounds_toArray, List.set_cons_zero, List.set_cons_succ])
              refine wpAnyG_take' (i := 14) (by simp only [List.getElem?_toArray, List.getElem?_cons_succ, List.getElem?_cons_zero]; rfl) ?_
              refine ⟨by kernel_rfl, by kernel_rfl, by kernel_rfl, by kernel_rfl, by kernel_rfl, fun _ _ _ _ h => h, hS2, ?vprice14, Or.inl ⟨by rfl, ?hyprice14⟩, ?restprice14⟩
              case hyprice14 =>
                intro W hSw
                obtain ⟨s_0, s_1, s_2, s_3, s_4, s_5, s_6, s_7, s_8, s_9⟩ := hSw
                go_simp
                try with_reducible rfl
              (try simp only [Act.put, List.setIfInBounds_toArray, List.set_cons_zero, List.set_cons_succ])
              refine wpAnyG_one (i := 15) (o := _) (by simp only [List.getElem?_toArray, List.getElem?_cons_succ, List.getElem?_cons_zero]; rfl) (by kernel_rfl) ?_
              intro K' hK
              have HK_ := Lib.hid hK; clear hK
              rw [if_pos (by rfl)]
              go_simp
              have hS3 : (fun W : World => W.cell? ⟨V1.heap.size, 1, none⟩ = some v ∧ W.cell? ⟨w.heap.size, 0, none⟩ = some (.int .i64 x.tick) ∧ W.cell? ⟨w.heap.size, 1, none⟩ = some (.int .i64 x.next) ∧ W.cell? ⟨w.heap.size, 2, none⟩ = some (.int .i64 x.wallet) ∧ W.cell? ⟨w.heap.size, 3, none⟩ = some (.slice a0 x.chans.length c0) ∧ W.cell? ⟨w.heap.size, 4, none⟩ = some (.slice a1 x.htlcs.length c1) ∧ W.cell? ⟨w.heap.size, 5, none⟩ = some (.slice a2 x.circles.length c2) ∧ W.cell? ⟨R4.heap.size, 0, none⟩ = some (.int .i64 e.frm) ∧ W.cell? ⟨R4.heap.size, 1, none⟩ = some (.int .i64 e.to) ∧ W.cell? ⟨R4.heap.size, 2, none⟩ = some (.int .i64 e.ppm)) (w2.alloc (.cells #[.int .i64 (p1 + 1), .int .i64 (p2 + 1), .int .i64 1000000000, .int .i64 e.ppm] 123)) := ⟨cellGrow (gU2.alloc _ _) gq1, cellGrow (gU2.alloc _ _) q0_0, cellGrow (gU2.alloc _ _) q0_1, cellGrow (gU2.alloc _ _) q0_2, cellGrow (gU2.alloc _ _) q0_3, cellGrow (gU2.alloc _ _) q0_4, cellGrow (gU2.alloc _ _) q0_5, cellGrow (gU2.alloc _ _) qc0, cellGrow (gU2.alloc _ _) qc1, cellGrow (gU2.alloc _ _) qc2⟩
              refine HK_.out _ _ (fun _ => hS3) ?_
              (try simp only [Act.put, List.setIfInBounds_toArray, List.set_cons_zero, List.set_cons_succ])
              refine wpAnyG_one (i := 16) (o := _) (by simp only [List.getElem?_toArray, List.getElem?_cons_succ, List.getElem?_cons_zero]; rfl) (by kernel_rfl) ?_
              intro K' hK
              have HK_ := Lib.hid hK; clear hK
              refine step_append_g rfl (.tmp 119) (.tmp 133) 29 rfl V1 ((HGV.out.trans gU2).alloc _ _) 123 i0 _ 4 32 Try.underlying29 hi0 hz0 hz1 hz2 rfl (by omega) v es.length (es.flatMap encEdge) rfl (own_grow HGR.out.own (gU2.alloc _ _)) ⟨w2.heap.size, 0, none⟩ 1 1 [.int .i64 (p1 + 1), .int .i64 (p2 + 1), .int .i64 1000000000, .int .i64 e.ppm] rfl rfl (news_of _ _ _ _ (by simp [hq1, hq2])) (one_edge _ _ _ _) (by simp only [maxLen]; omega) (by omega) ?_
              intro v1 w3 hown' hg' hgb hat
              obtain ⟨va, vc, rfl⟩ := own_form hown'
              (try simp only [hq1, hq2] at hgb)
              have hgu : Grow U (w2.alloc (.cells #[.int .i64 (p1 + 1), .int .i64 (p2 + 1), .int .i64 1000000000, .int .i64 e.ppm] 123)) := gU2.alloc _ _
              have s0 : w3.cell? ⟨V1.heap.size, 0, none⟩ = some (.int .i64 ((x.chans.length : Int) + 1)) := cellKept hgb HGR.out.ne (cellGrow hgu gq0)
              have s1 : w3.cell? ⟨V1.heap.size, 1, none⟩ = some v := cellKept hgb HGR.out.ne (cellGrow hgu gq1)
              have z1 : V1.heap.size < w3.heap.size := lt_of_cell s0
              have fz1 : ∀ o, w3.frozen? ⟨V1.heap.size, o, none⟩ = false := fun o => hg'.nf _ o (by omega) z1
              have HPUSH := Lib.hid (GRow.push (e := ⟨p1 + 1, p2 + 1, 1000000000, e.ppm⟩) (HGR.out.grow hgu) hown' hgb hat)
              have HGN := Lib.hid (hg'.setCell (p := ⟨V1.heap.size, 1, none⟩) (Nat.le_refl _) (.slice va (es.length + 1) vc))
              have r0 : w3.cell? ⟨w.heap.size, 0, none⟩ = some (.int .i64 x.tick) := cellGrow hg' (cell_back HGV.out (by omega) q0_0)
              have r1 : w3.cell? ⟨w.heap.size, 1, none⟩ = some (.int .i64 x.next) := cellGrow hg' (cell_back HGV.out (by omega) q0_1)
              have r2 : w3.cell? ⟨w.heap.size, 2, none⟩ = some (.int .i64 x.wallet) := cellGrow hg' (cell_back HGV.out (by omega) q0_2)
              have r3 : w3.cell? ⟨w.heap.size, 3, none⟩ = some (.slice a0 x.chans.length c0) := cellGrow hg' (cell_back HGV.out (by omega) q0_3)
              have r4 : w3.cell? ⟨w.heap.size, 4, none⟩ = some (.slice a1 x.htlcs.length c1) := cellGrow hg' (cell_back HGV.out (by omega) q0_4)
              have r5 : w3.cell? ⟨w.heap.size, 5, none⟩ = some (.slice a2 x.circles.length c2) := cellGrow hg' (cell_back HGV.out (by omega) q0_5)
              have r6 : w3.cell? ⟨R4.heap.size, 0, none⟩ = some (.int .i64 e.frm) := cellKept hgb HNE.out (cellGrow hgu qc0)
              have r7 : w3.cell? ⟨R4.heap.size, 1, none⟩ = some (.int .i64 e.to) := cellKept hgb HNE.out (cellGrow hgu qc1)
              have r8 : w3.cell? ⟨R4.heap.size, 2, none⟩ = some (.int .i64 e.ppm) := cellKept hgb HNE.out (cellGrow hgu qc2)
              clear hown' hg' hgb hat hgu
              have hS4 : (fun W : World => W.cell? ⟨V1.heap.size, 1, none⟩ = some v ∧ W.cell? ⟨w.heap.size, 0, none⟩ = some (.int .i64 x.tick) ∧ W.cell? ⟨w.heap.size, 1, none⟩ = some (.int .i64 x.next) ∧ W.cell? ⟨w.heap.size, 2, none⟩ = some (.int .i64 x.wallet) ∧ W.cell? ⟨w.heap.size, 3, none⟩ = some (.slice a0 x.chans.length c0) ∧ W.cell? ⟨w.heap.size, 4, none⟩ = some (.slice a1 x.htlcs.length c1) ∧ W.cell? ⟨w.heap.size, 5, none⟩ = some (.slice a2 x.circles.length c2) ∧ W.cell? ⟨R4.heap.size, 0, none⟩ = some (.int .i64 e.frm) ∧ W.cell? ⟨R4.heap.size, 1, none⟩ = some (.int .i64 e.to) ∧ W.cell? ⟨R4.heap.size, 2, none⟩ = some (.int .i64 e.ppm)) w3 := ⟨s1, r0, r1, r2, r3, r4, r5, r6, r7, r8⟩
              refine HK_.out _ _ (fun _ => hS4) ?_
              (try simp only [Act.put, List.setIfInBounds_toArray, List.set_cons_zero, List.set_cons_succ])
              refine wpAnyG_take' (i := 17) (by simp only [List.getElem?_toArray, List.getElem?_cons_succ, List.getElem?_cons_zero]; rfl) ?_
              refine ⟨by kernel_rfl, by kernel_rfl, by kernel_rfl, by kernel_rfl, by kernel_rfl, fun _ _ _ _ h => h, hS4, ?vprice17, Or.inl ⟨by rfl, ?hyprice17⟩, ?restprice17⟩
              case hyprice17 =>
                intro W hSw
                obtain ⟨s_0, s_1, s_2, s_3, s_4, s_5, s_6, s_7, s_8, s_9⟩ := hSw
                go_simp
                try with_reducible rfl
              (try simp only [Act.put, List.setIfInBounds_toArray, List.set_cons_zero, List.set_cons_succ])
              refine wpAnyG_one (i := 18) (o := _) (by simp only [List.getElem?_toArray, List.getElem?_cons_succ, List.getElem?_cons_zero]; rfl) (by kernel_rfl) ?_
              intro K' hK
              have HK_ := Lib.hid hK; clear hK
              rw [if_pos (by rfl)]
              go_simp
              refine HK_.out _ _ (fun h => absurd rfl h) (wpAnyG_done (by kernel_rfl) ?_ _)
              all_goals (go_wp2_with fail)
              all_goals
                go_roundg (l.length - (k + 1))
                case measure => have := HK.out; omega
                case rel => exact ⟨k + 1, (.slice va (es.length + 1) vc), by have := HK.out; omega, by go_num, by rw [HM.out, HPE.out]; first | exact HPUSH.out | (rw [← List.append_assoc, HES.out]; exact HPUSH.out), HGN.out⟩
            · obtain rfl : k = l.length := by omega
              clear hk hlt
              have hge := HYG.out HOK.out
              have HGE := Lib.hid hge; clear hge
              have hgr := HGR.out
              rw [List.take_length] at hgr
              have hpe : upK (overE lo hi) x.chans x.chans.length ++ upK (underE lo hi gain) x.chans x.chans.length ++ l.map (priceE x.chans) = planE x.chans lo hi gain l := rfl
              rw [hpe] at hgr
              clear hpe
              have SE : SlR 4 repEdge R4 V1.heap.size R4.heap.size v (planE x.chans lo hi gain l) := SlR.of_own length_encEdge hgr.own (fun y hy => ⟨rfl, (HSM.out y hy).wf⟩)
              have SE' := SE
              obtain ⟨av, cv, rfl, _, _, _⟩ := SE'
              have HSE := Lib.hid SE; clear SE
              have gq0 := hgr.box.c 0 _ rfl
              have gq1 := hgr.box.c 1 _ rfl
              have gz := hgr.box.lt
              clear hgr
              have z0 := B0.lt
              have z1 := B1.lt
              have q0_0 : R4.cell? ⟨w.heap.size, 0, none⟩ = some (.int .i64 x.tick) := B0.c 0 _ rfl
              have q0_1 : R4.cell? ⟨w.heap.size, 1, none⟩ = some (.int .i64 x.next) := B0.c 1 _ rfl
              have q0_2 : R4.cell? ⟨w.heap.size, 2, none⟩ = some (.int .i64 x.wallet) := B0.c 2 _ rfl
              have q0_3 : R4.cell? ⟨w.heap.size, 3, none⟩ = some (.slice a0 x.chans.length c0) := B0.c 3 _ rfl
              have q0_4 : R4.cell? ⟨w.heap.size, 4, none⟩ = some (.slice a1 x.htlcs.length c1) := B0.c 4 _ rfl
              have q0_5 : R4.cell? ⟨w.heap.size, 5, none⟩ = some (.slice a2 x.circles.length c2) := B0.c 5 _ rfl
              have f0 := B0.f
              have q1_0 : R4.cell? ⟨w.heap.size + 1, 0, none⟩ = some (.int .i64 0) := B1.c 0 _ rfl
              have q1_1 : R4.cell? ⟨w.heap.size + 1, 1, none⟩ = some (.slice none 0 0) := B1.c 1 _ rfl
              have f1 := B1.f
              generalize hpl : planE x.chans lo hi gain l = pe at *
              have HPL := Lib.hid hpl; clear hpl
              go_wp2_with fail
              refine bodyPost_ret (v := .tuple #[.agg #[.int .i64 ((x.chans.length : Int) + 1), .slice av pe.length cv], .bool true]) (by simp [results, Try.results34, go_sem, q1_0, q1_1]) rfl ⟨av, cv, ?_, ?_, ?_⟩
              · rw [HGE.out, HOK.out]
              · exact ((G.setCell (by show w.heap.size ≤ w.heap.size + 1; omega) _).setCell (by show w.heap.size ≤ w.heap.size + 1; omega) _)
              · rw [HGE.out]
                have h := (HSE.out.same repEdge_stable (((Same.refl _ _ _).setCell (p := ⟨w.heap.size + 1, 0, none⟩) (.inl hgw) (.int .i64 ((x.chans.length : Int) + 1))).setCell (p := ⟨w.heap.size + 1, 1, none⟩) (.inl hgw) (.slice av pe.length cv))).stable repEdge_stable (Same.refl _ _ _) (lo' := w.heap.size) (by omega) (Nat.le_refl _)
                have e : ∀ (W : World) p u q t, ((W.setCell p u).setCell q t).heap.size = W.heap.size := fun W p u q t => by rw [World.size_setCell, World.size_setCell]
                refine h.stable repEdge_stable (Same.refl _ _ _) (Nat.le_refl _) (by rw [World.size_setCell, World.size_setCell]; exact Nat.le_refl _)

set_option maxHeartbeats 8000000 in
set_option maxRecDepth 100000 in
theorem spec_PlanGraph_c (x : Book) (a0 : Option Addr) (c0 : Nat) (a1 : Option Addr) (c1 : Nat) (a2 : Option Addr) (c2 : Nat) (lo hi gain : Int) (l : List Price) (a3 : Option Addr) (c3 : Nat) (w : World) (h0 : SlR 7 repChan w 0 w.heap.size (.slice a0 x.chans.length c0) x.chans) (h1 : SlR 7 repHtlc w 0 w.heap.size (.slice a1 x.htlcs.length c1) x.htlcs) (h2 : SlR 5 repCircle w 0 w.heap.size (.slice a2 x.circles.length c2) x.circles) (h3 : SlR 3 repPrice w 0 w.heap.size (.slice a3 l.length c3) l) (hn : x.chans.length ≤ 1048576) (hl : l.length ≤ 1048576) :
    Calls Try.prog 32 #[.agg #[.int .i64 x.tick, .int .i64 x.next, .int .i64 x.wallet, .slice a0 x.chans.length c0, .slice a1 x.htlcs.length c1, .slice a2 x.circles.length c2], .int .i64 lo, .int .i64 hi, .int .i64 gain, .slice a3 l.length c3] w fun e w' => ∃ a c, e = .returned (.tuple #[.agg #[.int .i64 (planG x lo hi gain l).n, .slice a (planG x lo hi gain l).edges.length c], .bool (planOk x lo hi gain l)]) ∧ Grow w w' ∧ SlR 4 repEdge w' w.heap.size w'.heap.size (.slice a (planG x lo hi gain l).edges.length c) (planG x lo hi gain l).edges := by
  obtain ⟨i0, hi0, hz0, hz1, hz2⟩ := info_parts infoEdge'
  have H0 := Lib.hid h0; have H1 := Lib.hid h1; have H2 := Lib.hid h2; have H3 := Lib.hid h3
  clear h0 h1 h2 h3
  have HP : Hid (planOk x lo hi gain l = (pricesOk x l && band lo hi && inB gain 0 1000000)) := rfl
  have HNG : Hid (planOk x lo hi gain l = false → planG x lo hi gain l = ⟨0, []⟩) := fun h => if_neg (by rw [h]; simp)
  have HYG : Hid (planOk x lo hi gain l = true → planG x lo hi gain l = ⟨((x.chans.length : Int) + 1), planE x.chans lo hi gain l⟩) := fun h => if_pos h
  have HL := Lib.hid hl
  go_enter Try.func32, Try.ntmps32
  go_wp2_with fail
  refine (spec_PricesOk_c x _ _ _ _ _ _ l _ _ _ (H0.out.grow' repChan_stable (Grow.below (((Grow.refl w).alloc _ _).alloc _ _))) (H1.out.grow' repHtlc_stable (Grow.below (((Grow.refl w).alloc _ _).alloc _ _))) (H2.out.grow' repCircle_stable (Grow.below (((Grow.refl w).alloc _ _).alloc _ _))) (H3.out.grow' repPrice_stable (Grow.below (((Grow.refl w).alloc _ _).alloc _ _))) hn hl).mono ?_
  rintro e V1 ⟨rfl, gs⟩
  have ys := Grow.size gs
  simp only [World.size_setCell, World.size_alloc] at ys
  have B0 : Box V1 (w.heap.size) [.int .i64 x.tick, .int .i64 x.next, .int .i64 x.wallet, .slice a0 x.chans.length c0, .slice a1 x.htlcs.length c1, .slice a2 x.circles.length c2] := Box.grow ((Box.newAt (by simp) _ _).alloc _ _) gs
  have B1 : Box V1 (w.heap.size + 1) [.int .i64 0, .slice none 0 0] := Box.grow (Box.newAt (by simp) _ _) gs
  have G : Grow w V1 := Grow.trans (((Grow.refl w).alloc _ _).alloc _ _) gs
  clear gs
  have z0 := B0.lt
  have z1 := B1.lt
  have q0_0 : V1.cell? ⟨w.heap.size, 0, none⟩ = some (.int .i64 x.tick) := B0.c 0 _ rfl
  have q0_1 : V1.cell? ⟨w.heap.size, 1, none⟩ = some (.int .i64 x.next) := B0.c 1 _ rfl
  have q0_2 : V1.cell? ⟨w.heap.size, 2, none⟩ = some (.int .i64 x.wallet) := B0.c 2 _ rfl
  have q0_3 : V1.cell? ⟨w.heap.size, 3, none⟩ = some (.slice a0 x.chans.length c0) := B0.c 3 _ rfl
  have q0_4 : V1.cell? ⟨w.heap.size, 4, none⟩ = some (.slice a1 x.htlcs.length c1) := B0.c 4 _ rfl
  have q0_5 : V1.cell? ⟨w.heap.size, 5, none⟩ = some (.slice a2 x.circles.length c2) := B0.c 5 _ rfl
  have f0 := B0.f
  have q1_0 : V1.cell? ⟨w.heap.size + 1, 0, none⟩ = some (.int .i64 0) := B1.c 0 _ rfl
  have q1_1 : V1.cell? ⟨w.heap.size + 1, 1, none⟩ = some (.slice none 0 0) := B1.c 1 _ rfl
  have f1 := B1.f
  cases hp : pricesOk x l
  · have HB : Hid (planOk x lo hi gain l = false) := by
      show _ = _
      rw [HP.out, hp]; simp
    have HG := Lib.hid (HNG.out HB.out)
    go_wp2_with (go_at_call 79; refine (spec_Band_c _ _ _).mono ?_; (try rw [hb]); rintro e w' ⟨rfl, rfl⟩)
    all_goals
      refine bodyPost_ret (v := .tuple #[.agg #[.int .i64 0, .slice none 0 0], .bool false]) (by simp [results, Try.results32, go_sem, q1_0, q1_1]) rfl ⟨none, 0, ?_, ?_, ?_⟩
      · rw [HG.out, HB.out]; rfl
      · exact ((G.setCell (by show w.heap.size ≤ w.heap.size + 1; omega) _).setCell (by show w.heap.size ≤ w.heap.size + 1; omega) _)
      · rw [HG.out]; exact SlR.nil
  cases hb : band lo hi
  · have HB : Hid (planOk x lo hi gain l = false) := by
      show _ = _
      rw [HP.out, hp, hb]; simp
    have HG := Lib.hid (HNG.out HB.out)
    go_wp2_with (go_at_call 79; refine (spec_Band_c _ _ _).mono ?_; (try rw [hb]); rintro e w' ⟨rfl, rfl⟩)
    all_goals
      refine bodyPost_ret (v := .tuple #[.agg #[.int .i64 0, .slice none 0 0], .bool false]) (by simp [results, Try.results32, go_sem, q1_0, q1_1]) rfl ⟨none, 0, ?_, ?_, ?_⟩
      · rw [HG.out, HB.out]; rfl
      · exact ((G.setCell (by show w.heap.size ≤ w.heap.size + 1; omega) _).setCell (by show w.heap.size ≤ w.heap.size + 1; omega) _)
      · rw [HG.out]; exact SlR.nil
  cases hg : inB gain 0 1000000
  · rcases inB_false.1 hg with hg2 | hg2
    · have qg : decide (gain < 0) = true := by simp; omega
      have HB : Hid (planOk x lo hi gain l = false) := by
        show _ = _
        rw [HP.out, hp, hb, hg]; simp
      have HG := Lib.hid (HNG.out HB.out)
      go_wp2_with (go_at_call 79; refine (spec_Band_c _ _ _).mono ?_; (try rw [hb]); rintro e w' ⟨rfl, rfl⟩)
      all_goals
        refine bodyPost_ret (v := .tuple #[.agg #[.int .i64 0, .slice none 0 0], .bool false]) (by simp [results, Try.results32, go_sem, q1_0, q1_1]) rfl ⟨none, 0, ?_, ?_, ?_⟩
        · rw [HG.out, HB.out]; rfl
        · exact ((G.setCell (by show w.heap.size ≤ w.heap.size + 1; omega) _).setCell (by show w.heap.size ≤ w.heap.size + 1; omega) _)
        · rw [HG.out]; exact SlR.nil
    · have qg : decide (gain < 0) = false := by simp; omega
      have qg2 : decide (1000000 < gain) = true := by simp; omega
      have HB : Hid (planOk x lo hi gain l = false) := by
        show _ = _
        rw [HP.out, hp, hb, hg]; simp
      have HG := Lib.hid (HNG.out HB.out)
      go_wp2_with (go_at_call 79; refine (spec_Band_c _ _ _).mono ?_; (try rw [hb]); rintro e w' ⟨rfl, rfl⟩)
      all_goals
        refine bodyPost_ret (v := .tuple #[.agg #[.int .i64 0, .slice none 0 0], .bool false]) (by simp [results, Try.results32, go_sem, q1_0, q1_1]) rfl ⟨none, 0, ?_, ?_, ?_⟩
        · rw [HG.out, HB.out]; rfl
        · exact ((G.setCell (by show w.heap.size ≤ w.heap.size + 1; omega) _).setCell (by show w.heap.size ≤ w.heap.size + 1; omega) _)
        · rw [HG.out]; exact SlR.nil
  have hok : planOk x lo hi gain l = true := by rw [HP.out, hp, hb, hg]; rfl
  obtain ⟨hc20, hl20, hloc, hg1, hg2⟩ := planOk_facts hok
  have HSM := Lib.hid (plan_small hok (prices_ppm hp))
  have HLOC := Lib.hid hloc; clear hloc
  have HOK := Lib.hid hok; clear hok
  have qg : decide (gain < 0) = false := by simp; omega
  have qg2 : decide (1000000 < gain) = false := by simp; omega
  go_wp2_with (go_at_call 79; refine (spec_Band_c _ _ _).mono ?_; (try rw [hb]); rintro e w' ⟨rfl, rfl⟩)
  clear hp hb hg qg qg2
  have GR : GRow (V1.alloc (.cells #[.int .i64 ((x.chans.length : Int) + 1), .slice none 0 0] 31)) V1 V1.heap.size ((x.chans.length : Int) + 1) (.slice none 0 0) [] := ⟨Box.new _ _ _, World.ownsRow_nil _ _ _ _, by simp [Value.ownBlock]⟩
  have hg : Grow V1 (V1.alloc (.cells #[.int .i64 ((x.chans.length : Int) + 1), .slice none 0 0] 31)) := (Grow.refl _).alloc _ _
  have HG0 := Lib.hid G; have HB0 := Lib.hid B0; have HB1 := Lib.hid B1
  have hgw : w.heap.size + 1 < V1.heap.size := B1.lt
  clear z0 z1 q0_0 q0_1 q0_2 q0_3 q0_4 q0_5 f0 q1_0 q1_1 f1
  clear G B0 B1
  go_loopg [50] x.chans.length (fun g i wr => ∃ (k : Nat) (v : Value), k + g = x.chans.length ∧ i = .int .i64 k ∧ GRow wr V1 V1.heap.size ((x.chans.length : Int) + 1) v (upK (overE lo hi) x.chans k) ∧ Grow V1 wr)
  case atStart => exact ⟨0, .slice none 0 0, by simp, rfl, GR, hg⟩
  case round =>
    clear hg GR
    obtain ⟨k, v, hk, rfl, GR, hg⟩ := hrel
    obtain ⟨R2, rfl⟩ : ∃ V, V = wr := ⟨_, rfl⟩
    have G := HG0.out.trans hg
    have B0 := HB0.out.grow hg
    have B1 := HB1.out.grow hg
    have HGR := Lib.hid GR; clear GR
    by_cases hlt : k < x.chans.length
    · have HK := Lib.hid hk; clear hk
      have HGV := Lib.hid hg; clear hg
      have HM : Hid (upK (overE lo hi) x.chans (k+1) = upK (overE lo hi) x.chans k ++ overE lo hi k x.chans[k]) := upK_succ hlt
      have hel20 : (upK (overE lo hi) x.chans k).length ≤ 60 := by have := upK_len (f := overE lo hi) (l := x.chans) (overE_len lo hi) k; omega
      have HNE : Hid (v.ownBlock ≠ some R2.heap.size) := own_ne HGR.out.own (Nat.le_refl _)
      have gzr : V1.heap.size < R2.heap.size := HGR.out.box.lt
      have z0 := B0.lt
      have z1 := B1.lt
      have q0_0 : R2.cell? ⟨w.heap.size, 0, none⟩ = some (.int .i64 x.tick) := B0.c 0 _ rfl
      have q0_1 : R2.cell? ⟨w.heap.size, 1, none⟩ = some (.int .i64 x.next) := B0.c 1 _ rfl
      have q0_2 : R2.cell? ⟨w.heap.size, 2, none⟩ = some (.int .i64 x.wallet) := B0.c 2 _ rfl
      have q0_3 : R2.cell? ⟨w.heap.size, 3, none⟩ = some (.slice a0 x.chans.length c0) := B0.c 3 _ rfl
      have q0_4 : R2.cell? ⟨w.heap.size, 4, none⟩ = some (.slice a1 x.htlcs.length c1) := B0.c 4 _ rfl
      have q0_5 : R2.cell? ⟨w.heap.size, 5, none⟩ = some (.slice a2 x.circles.length c2) := B0.c 5 _ rfl
      have f0 := B0.f
      have q1_0 : R2.cell? ⟨w.heap.size + 1, 0, none⟩ = some (.int .i64 0) := B1.c 0 _ rfl
      have q1_1 : R2.cell? ⟨w.heap.size + 1, 1, none⟩ = some (.slice none 0 0) := B1.c 1 _ rfl
      have f1 := B1.f
      have hcl := HLOC.out _ (List.getElem_mem hlt)
      obtain ⟨b_c, off_c, ha_c, hb1_c, hb2_c, hel_c⟩ := H0.out.elems k hlt
      obtain ⟨ec0, ec1, ec2, ec3, ec4, ec5, ec6, -⟩ := Chan.atCell (hel_c.same repChan_stable (G.same (Nat.le_refl _)) hb1_c hb2_c) k hlt
      subst ha_c
      clear hel_c
      generalize x.chans[k] = c at *
      obtain ⟨hcl1, hcl2⟩ := hcl
      generalize hes : (upK (overE lo hi) x.chans k) = es at *
      have HES := Lib.hid hes; clear hes
      have hkk : (k : Int) ≤ 60 := by omega
      go_wp2_with fail
      refine (spec_Ends_c c lo hi _).mono ?_
      rintro e U ⟨rfl, gs⟩
      have gU : Grow R2 U := ((Grow.refl R2).alloc _ _).trans gs
      have BC : Box U R2.heap.size [.int .i64 c.id, .int .i64 c.size, .int .i64 c.loc, .int .i64 c.remote, .int .i64 c.base, .int .i64 c.ppm, .int .i64 c.score] := (Box.new R2 _ _).grow gs
      clear gs
      clear z0 z1 q0_0 q0_1 q0_2 q0_3 q0_4 q0_5 f0 q1_0 q1_1 f1
      replace HGR : Hid (GRow U V1 V1.heap.size ((x.chans.length : Int) + 1) v es) := HGR.out.grow gU
      replace HGV : Hid (Grow V1 U) := HGV.out.trans gU
      replace G := G.trans gU
      replace B0 := B0.grow gU
      replace B1 := B1.grow gU
      clear gU
      have z0 := B0.lt
      have z1 := B1.lt
      have q0_0 : U.cell? ⟨w.heap.size, 0, none⟩ = some (.int .i64 x.tick) := B0.c 0 _ rfl
      have q0_1 : U.cell? ⟨w.heap.size, 1, none⟩ = some (.int .i64 x.next) := B0.c 1 _ rfl
      have q0_2 : U.cell? ⟨w.heap.size, 2, none⟩ = some (.int .i64 x.wallet) := B0.c 2 _ rfl
      have q0_3 : U.cell? ⟨w.heap.size, 3, none⟩ = some (.slice (some ⟨b_c, off_c, none⟩) x.chans.length c0) := B0.c 3 _ rfl
      have q0_4 : U.cell? ⟨w.heap.size, 4, none⟩ = some (.slice a1 x.htlcs.length c1) := B0.c 4 _ rfl
      have q0_5 : U.cell? ⟨w.heap.size, 5, none⟩ = some (.slice a2 x.circles.length c2) := B0.c 5 _ rfl
      have f0 := B0.f
      have q1_0 : U.cell? ⟨w.heap.size + 1, 0, none⟩ = some (.int .i64 0) := B1.c 0 _ rfl
      have q1_1 : U.cell? ⟨w.heap.size + 1, 1, none⟩ = some (.slice none 0 0) := B1.c 1 _ rfl
      have f1 := B1.f
      have zc := BC.lt
      have qc0 : U.cell? ⟨R2.heap.size, 0, none⟩ = some (.int .i64 c.id) := BC.c 0 _ rfl
      have qc1 : U.cell? ⟨R2.heap.size, 1, none⟩ = some (.int .i64 c.size) := BC.c 1 _ rfl
      have qc2 : U.cell? ⟨R2.heap.size, 2, none⟩ = some (.int .i64 c.loc) := BC.c 2 _ rfl
      have qc3 : U.cell? ⟨R2.heap.size, 3, none⟩ = some (.int .i64 c.remote) := BC.c 3 _ rfl
      have qc4 : U.cell? ⟨R2.heap.size, 4, none⟩ = some (.int .i64 c.base) := BC.c 4 _ rfl
      have qc5 : U.cell? ⟨R2.heap.size, 5, none⟩ = some (.int .i64 c.ppm) := BC.c 5 _ rfl
      have qc6 : U.cell? ⟨R2.heap.size, 6, none⟩ = some (.int .i64 c.score) := BC.c 6 _ rfl
      have gq0 : U.cell? ⟨V1.heap.size, 0, none⟩ = some (.int .i64 ((x.chans.length : Int) + 1)) := HGR.out.box.c 0 _ rfl
      have gq1 : U.cell? ⟨V1.heap.size, 1, none⟩ = some v := HGR.out.box.c 1 _ rfl
      have gz : V1.heap.size < U.heap.size := HGR.out.box.lt
      have hebd := ends_bd (size := c.size) (lo := lo) (hi := hi)
      obtain ⟨⟨he1, he2⟩, he3, he4⟩ := hebd
      by_cases t : ends2 c.size lo hi < c.loc
      · have HT := Lib.hid (overE_yes (lo := lo) (hi := hi) (i := k) (c := c) t)
        have T : decide (ends2 c.size lo hi < c.loc) = true := by simpa using t
        generalize ends1 c.size lo hi = e1 at *
        generalize ends2 c.size lo hi = e2 at *
        have hcap : capE (c.loc - e2) = min (c.loc - e2) 1000000000 := rfl
        have hcb : -1 ≤ capE (c.loc - e2) ∧ capE (c.loc - e2) ≤ 1000000000 := by rw [hcap]; omega
        obtain ⟨hcb1, hcb2⟩ := hcb
        have hq1 : IntKind.i64.wrap ((k : Int) + 1) = (k : Int) + 1 := by rw [IntKind.wrap_i64]; omega
        have hq2 : IntKind.i64.wrap (c.loc - e2) = c.loc - e2 := by rw [IntKind.wrap_i64]; omega
        have hq3 : IntKind.i64.wrap (-gain) = -gain := by rw [IntKind.wrap_i64]; omega
        go_wp2_with fail
        have gd : Grow U U.drew := (Grow.refl U).drew
        have hS0 : (fun W : World => W.cell? ⟨V1.heap.size, 1, none⟩ = some v ∧ W.cell? ⟨R2.heap.size, 0, none⟩ = some (.int .i64 c.id) ∧ W.cell? ⟨R2.heap.size, 1, none⟩ = some (.int .i64 c.size) ∧ W.cell? ⟨R2.heap.size, 2, none⟩ = some (.int .i64 c.loc) ∧ W.cell? ⟨R2.heap.size, 3, none⟩ = some (.int .i64 c.remote) ∧ W.cell? ⟨R2.heap.size, 4, none⟩ = some (.int .i64 c.base) ∧ W.cell? ⟨R2.heap.size, 5, none⟩ = some (.int .i64 c.ppm) ∧ W.cell? ⟨R2.heap.size, 6, none⟩ = some (.int .i64 c.score)) U.drew := ⟨gq1, qc0, qc1, qc2, qc3, qc4, qc5, qc6⟩
        refine wp_region_G (f := 13) (S := fun W => W.cell? ⟨V1.heap.size, 1, none⟩ = some v ∧ W.cell? ⟨R2.heap.size, 0, none⟩ = some (.int .i64 c.id) ∧ W.cell? ⟨R2.heap.size, 1, none⟩ = some (.int .i64 c.size) ∧ W.cell? ⟨R2.heap.size, 2, none⟩ = some (.int .i64 c.loc) ∧ W.cell? ⟨R2.heap.size, 3, none⟩ = some (.int .i64 c.remote) ∧ W.cell? ⟨R2.heap.size, 4, none⟩ = some (.int .i64 c.base) ∧ W.cell? ⟨R2.heap.size, 5, none⟩ = some (.int .i64 c.ppm) ∧ W.cell? ⟨R2.heap.size, 6, none⟩ = some (.int .i64 c.score)) (by kernel_rfl) ?_
        change wpAnyG _ _ _ _ _ _ 14 _ _ _
        refine wpAnyG_take' (i := 0) (by simp only [List.getElem?_toArray, List.getElem?_cons_succ, List.getElem?_cons_zero]; rfl) ?_
        refine ⟨by kernel_rfl, by kernel_rfl, by kernel_rfl, by kernel_rfl, by kernel_rfl, fun _ _ _ _ h => h, hS0, ?vover0, Or.inl ⟨by rfl, ?hyover0⟩, ?restover0⟩
        case hyover0 =>
          intro W hSw
          obtain ⟨s_0, s_1, s_2, s_3, s_4, s_5, s_6, s_7⟩ := hSw
          go_simp
          try with_reducible rfl
        (try simp only [Act.put, List.setIfInBounds_toArray, List.set_cons_zero, List.set_cons_succ])
        refine wpAnyG_take' (i := 1) (by simp only [List.getElem?_toArray, List.getElem?_cons_succ, List.getElem?_cons_zero]; rfl) ?_
        refine ⟨by kernel_rfl, by kernel_rfl, by kernel_rfl, by kernel_rfl, by kernel_rfl, fun _ _ _ _ h => h, hS0, ?vover1, Or.inl ⟨by rfl, ?hyover1⟩, ?restover1⟩
        case hyover1 =>
          intro W hSw
          obtain ⟨s_0, s_1, s_2, s_3, s_4, s_5, s_6, s_7⟩ := hSw
          go_simp
          try with_reducible rfl
        (try simp only [Act.put, List.setIfInBounds_toArray, List.set_cons_zero, List.set_cons_succ])
        refine wpAnyG_take' (i := 2) (by simp only [List.getElem?_toArray, List.getElem?_cons_succ, List.getElem?_cons_zero]; rfl) ?_
        refine ⟨by kernel_rfl, by kernel_rfl, by kernel_rfl, by kernel_rfl, by kernel_rfl, fun _ _ _ _ h => h, hS0, ?vover2, Or.inl ⟨by rfl, ?hyover2⟩, ?restover2⟩
        case hyover2 =>
          intro W hSw
          obtain ⟨s_0, s_1, s_2, s_3, s_4, s_5, s_6, s_7⟩ := hSw
          go_simp
          try with_reducible rfl
        (try simp only [Act.put, List.setIfInBounds_toArray, List.set_cons_zero, List.set_cons_succ])
        refine wpAnyG_take' (i := 3) (by simp only [List.getElem?_toArray, List.getElem?_cons_succ, List.getElem?_cons_zero]; rfl) ?_
        refine ⟨by kernel_rfl, by kernel_rfl, by kernel_rfl, by kernel_rfl, by kernel_rfl, fun _ _ _ _ h => h, hS0, ?vover3, Or.inl ⟨by rfl, ?hyover3⟩, ?restover3⟩
        case hyover3 =>
          intro W hSw
          obtain ⟨s_0, s_1, s_2, s_3, s_4, s_5, s_6, s_7⟩ := hSw
          go_simp
          try with_reducible rfl
        (try simp only [Act.put, List.setIfInBounds_toArray, List.set_cons_zero, List.set_cons_succ])
        refine wpAnyG_take' (i := 4) (by simp only [List.getElem?_toArray, List.getElem?_cons_succ, List.getElem?_cons_zero]; rfl) ?_
        refine ⟨by kernel_rfl, by kernel_rfl, by kernel_rfl, by kernel_rfl, by kernel_rfl, fun _ _ _ _ h => h, hS0, ?vover4, Or.inl ⟨by rfl, ?hyover4⟩, ?restover4⟩
        case hyover4 =>
          intro W hSw
          obtain ⟨s_0, s_1, s_2, s_3, s_4, s_5, s_6, s_7⟩ := hSw
          go_simp
          try with_reducible rfl
        (try simp only [Act.put, List.setIfInBounds_toArray, List.set_cons_zero, List.set_cons_succ])
        refine wpAnyG_take' (i := 5) (by simp only [List.getElem?_toArray, List.getElem?_cons_succ, List.getElem?_cons_zero]; rfl) ?_
        refine ⟨by kernel_rfl, by kernel_rfl, by kernel_rfl, by kernel_rfl, by kernel_rfl, fun _ _ _ _ h => h, hS0, ?vover5, Or.inl ⟨by rfl, ?hyover5⟩, ?restover5⟩
        case hyover5 =>
          intro W hSw
          obtain ⟨s_0, s_1, s_2, s_3, s_4, s_5, s_6, s_7⟩ := hSw
          go_simp
          try with_reducible rfl
        (try simp only [Act.put, List.setIfInBounds_toArray, List.set_cons_zero, List.set_cons_succ])
        refine wpAnyG_take' (i := 6) (by simp only [List.getElem?_toArray, List.getElem?_cons_succ, List.getElem?_cons_zero]; rfl) ?_
        refine ⟨by kernel_rfl, by kernel_rfl, by kernel_rfl, by kernel_rfl, by kernel_rfl, fun _ _ _ _ h => h, hS0, ?vover6, Or.inl ⟨by rfl, ?hyover6⟩, ?restover6⟩
        case hyover6 =>
          intro W hSw
          obtain ⟨s_0, s_1, s_2, s_3, s_4, s_5, s_6, s_7⟩ := hSw
          go_simp
          try with_reducible rfl
        (try simp only [Act.put, List.setIfInBounds_toArray, List.set_cons_zero, List.set_cons_succ])
        refine wpAnyG_take' (i := 7) (by simp only [List.getElem?_toArray, List.getElem?_cons_succ, List.getElem?_cons_zero]; rfl) ?_
        refine ⟨by kernel_rfl, by kernel_rfl, by kernel_rfl, by kernel_rfl, by kernel_rfl, fun _ _ _ _ h => h, hS0, ?vover7, Or.inl ⟨by rfl, ?hyover7⟩, ?restover7⟩
        case hyover7 =>
          intro W hSw
          obtain ⟨s_0, s_1, s_2, s_3, s_4, s_5, s_6, s_7⟩ := hSw
          go_simp
          try with_reducible rfl
        (try simp only [Act.put, List.setIfInBounds_toArray, List.set_cons_zero, List.set_cons_succ])
        refine wpAnyG_one (i := 8) (o := _) (by simp only [List.getElem?_toArray, List.getElem?_cons_succ, List.getElem?_cons_zero]; rfl) (by kernel_rfl) ?_
        intro K' hK
        have HK_ := Lib.hid hK; clear hK
        rw [if_pos (by rfl)]
        go_simp
        go_at_call 81
        (try simp only [hq2])
        refine (spec_Cap_c _ _ (by omega)).mono ?_
        rintro e' w' ⟨rfl, rfl⟩
        refine HK_.out _ _ (fun _ => hS0) ?_
        (try simp only [Act.put, List.setIfInBounds_toArray, List.set_cons_zero, List.set_cons_succ])
        refine wpAnyG_take' (i := 9) (by simp only [List.getElem?_toArray, List.getElem?_cons_succ, List.getElem?_cons_zero]; rfl) ?_
        refine ⟨by kernel_rfl, by kernel_rfl, by kernel_rfl, by kernel_rfl, by kernel_rfl, fun _ _ _ _ h => h, hS0, ?vover9, Or.inl ⟨by rfl, ?hyover9⟩, ?restover9⟩
        case hyover9 =>
          intro W hSw
          obtain ⟨s_0, s_1, s_2, s_3, s_4, s_5, s_6, s_7⟩ := hSw
          go_simp
          try with_reducible rfl
        (try simp only [Act.put, List.setIfInBounds_toArray, List.set_cons_zero, List.set_cons_succ])
        refine wpAnyG_one (i := 10) (o := _) (by simp only [List.getElem?_toArray, List.getElem?_cons_succ, List.getElem?_cons_zero]; rfl) (by kernel_rfl) ?_
        intro K' hK
        have HK_ := Lib.hid hK; clear hK
        rw [if_pos (by rfl)]
        go_simp
        have hS3 : (fun W : World => W.cell? ⟨V1.heap.size, 1, none⟩ = some v ∧ W.cell? ⟨R2.heap.size, 0, none⟩ = some (.int .i64 c.id) ∧ W.cell? ⟨R2.heap.size, 1, none⟩ = some (.int .i64 c.size) ∧ W.cell? ⟨R2.heap.size, 2, none⟩ = some (.int .i64 c.loc) ∧ W.cell? ⟨R2.heap.size, 3, none⟩ = some (.int .i64 c.remote) ∧ W.cell? ⟨R2.heap.size, 4, none⟩ = some (.int .i64 c.base) ∧ W.cell? ⟨R2.heap.size, 5, none⟩ = some (.int .i64 c.ppm) ∧ W.cell? ⟨R2.heap.size, 6, none⟩ = some (.int .i64 c.score)) (U.drew.alloc (.cells #[.int .i64 0, .int .i64 ((k : Int) + 1), .int .i64 (capE (c.loc - e2)), .int .i64 0] 123)) := ⟨cellGrow (gd.alloc _ _) gq1, cellGrow (gd.alloc _ _) qc0, cellGrow (gd.alloc _ _) qc1, cellGrow (gd.alloc _ _) qc2, cellGrow (gd.alloc _ _) qc3, cellGrow (gd.alloc _ _) qc4, cellGrow (gd.alloc _ _) qc5, cellGrow (gd.alloc _ _) qc6⟩
        (try simp only [hq1, hq2, hq3])
        refine HK_.out _ _ (fun _ => hS3) ?_
        (try simp only [Act.put, List.setIfInBounds_toArray, List.set_cons_zero, List.set_cons_succ])
        refine wpAnyG_one (i := 11) (o := _) (by simp only [List.getElem?_toArray, List.getElem?_cons_succ, List.getElem?_cons_zero]; rfl) (by kernel_rfl) ?_
        intro K' hK
        have HK_ := Lib.hid hK; clear hK
        refine step_append_g rfl (.tmp 67) (.tmp 76) 29 rfl V1 ((HGV.out.trans gd).alloc _ _) 123 i0 _ 4 32 Try.underlying29 hi0 hz0 hz1 hz2 rfl (by omega) v es.length (es.flatMap encEdge) rfl (own_grow HGR.out.own (gd.alloc _ _)) ⟨U.heap.size, 0, none⟩ 1 1 [.int .i64 0, .int .i64 ((k : Int) + 1), .int .i64 (capE (c.loc - e2)), .int .i64 0] rfl rfl (news_of _ _ _ _ (by simp [hq1, hq2, hq3, hcap])) (one_edge _ _ _ _) (by simp only [maxLen]; omega) (by omega) ?_
        intro v1 w1 hown' hg' hgb hat
        obtain ⟨va, vc, rfl⟩ := own_form hown'
        (try simp only [hq1, hq2, hq3] at hgb)
        have hgu : Grow U (U.drew.alloc (.cells #[.int .i64 0, .int .i64 ((k : Int) + 1), .int .i64 (capE (c.loc - e2)), .int .i64 0] 123)) := gd.alloc _ _
        have s0 : w1.cell? ⟨V1.heap.size, 0, none⟩ = some (.int .i64 ((x.chans.length : Int) + 1)) := cellKept hgb HGR.out.ne (cellGrow hgu gq0)
        have s1 : w1.cell? ⟨V1.heap.size, 1, none⟩ = some v := cellKept hgb HGR.out.ne (cellGrow hgu gq1)
        have z1 : V1.heap.size < w1.heap.size := lt_of_cell s0
        have fz1 : ∀ o, w1.frozen? ⟨V1.heap.size, o, none⟩ = false := fun o => hg'.nf _ o (by omega) z1
        have HPUSH := Lib.hid (GRow.push (e := ⟨0, (k : Int) + 1, capE (c.loc - e2), 0⟩) (HGR.out.grow hgu) hown' hgb hat)
        have HGN := Lib.hid (hg'.setCell (p := ⟨V1.heap.size, 1, none⟩) (Nat.le_refl _) (.slice va (es.length + 1) vc))
        have r0 : w1.cell? ⟨R2.heap.size, 0, none⟩ = some (.int .i64 c.id) := cellKept hgb HNE.out (cellGrow hgu qc0)
        have r1 : w1.cell? ⟨R2.heap.size, 1, none⟩ = some (.int .i64 c.size) := cellKept hgb HNE.out (cellGrow hgu qc1)
        have r2 : w1.cell? ⟨R2.heap.size, 2, none⟩ = some (.int .i64 c.loc) := cellKept hgb HNE.out (cellGrow hgu qc2)
        have r3 : w1.cell? ⟨R2.heap.size, 3, none⟩ = some (.int .i64 c.remote) := cellKept hgb HNE.out (cellGrow hgu qc3)
        have r4 : w1.cell? ⟨R2.heap.size, 4, none⟩ = some (.int .i64 c.base) := cellKept hgb HNE.out (cellGrow hgu qc4)
        have r5 : w1.cell? ⟨R2.heap.size, 5, none⟩ = some (.int .i64 c.ppm) := cellKept hgb HNE.out (cellGrow hgu qc5)
        have r6 : w1.cell? ⟨R2.heap.size, 6, none⟩ = some (.int .i64 c.score) := cellKept hgb HNE.out (cellGrow hgu qc6)
        clear hown' hg' hgb hat hgu
        have hS4 : (fun W : World => W.cell? ⟨V1.heap.size, 1, none⟩ = some v ∧ W.cell? ⟨R2.heap.size, 0, none⟩ = some (.int .i64 c.id) ∧ W.cell? ⟨R2.heap.size, 1, none⟩ = some (.int .i64 c.size) ∧ W.cell? ⟨R2.heap.size, 2, none⟩ = some (.int .i64 c.loc) ∧ W.cell? ⟨R2.heap.size, 3, none⟩ = some (.int .i64 c.remote) ∧ W.cell? ⟨R2.heap.size, 4, none⟩ = some (.int .i64 c.base) ∧ W.cell? ⟨R2.heap.size, 5, none⟩ = some (.int .i64 c.ppm) ∧ W.cell? ⟨R2.heap.size, 6, none⟩ = some (.int .i64 c.score)) w1 := ⟨s1, r0, r1, r2, r3, r4, r5, r6⟩
        refine HK_.out _ _ (fun _ => hS4) ?_
        (try simp only [Act.put, List.setIfInBounds_toArray, List.set_cons_zero, List.set_cons_succ])
        refine wpAnyG_take' (i := 12) (by simp only [List.getElem?_toArray, List.getElem?_cons_succ, List.getElem?_cons_zero]; rfl) ?_
        refine ⟨by kernel_rfl, by kernel_rfl, by kernel_rfl, by kernel_rfl, by kernel_rfl, fun _ _ _ _ h => h, hS4, ?vover12, Or.inl ⟨by rfl, ?hyover12⟩, ?restover12⟩
        case hyover12 =>
          intro W hSw
          obtain ⟨s_0, s_1, s_2, s_3, s_4, s_5, s_6, s_7⟩ := hSw
          go_simp
          try with_reducible rfl
        (try simp only [Act.put, List.setIfInBounds_toArray, List.set_cons_zero, List.set_cons_succ])
        refine wpAnyG_one (i := 13) (o := _) (by simp only [List.getElem?_toArray, List.getElem?_cons_succ, List.getElem?_cons_zero]; rfl) (by kernel_rfl) ?_
        intro K' hK
        have HK_ := Lib.hid hK; clear hK
        rw [if_pos (by rfl)]
        go_simp
        refine HK_.out _ _ (fun h => absurd rfl h) (wpAnyG_done (by kernel_rfl) ?_ _)
        go_wp2_with fail
        go_roundg (x.chans.length - (k + 1))
        case measure => have := HK.out; omega
        case rel => exact ⟨k + 1, (.slice va (es.length + 1) vc), by have := HK.out; omega, by go_num, by rw [HM.out, HT.out]; first | exact HPUSH.out | (rw [← List.append_assoc, HES.out]; exact HPUSH.out), HGN.out⟩
      · have HT := Lib.hid (overE_no (lo := lo) (hi := hi) (i := k) (c := c) t)
        have T : decide (ends2 c.size lo hi < c.loc) = false := by simpa using t
        generalize ends1 c.size lo hi = e1 at *
        generalize ends2 c.size lo hi = e2 at *
        go_wp2_with fail
        go_roundg (x.chans.length - (k + 1))
        case measure => have := HK.out; omega
        case rel => exact ⟨k + 1, v, by have := HK.out; omega, by go_num, by rw [HM.out, HT.out]; rw [List.append_nil]; first | exact HGR.out | (rw [HES.out]; exact HGR.out), HGV.out⟩
    · obtain rfl : k = x.chans.length := by omega
      clear hk hlt
      have z0 := B0.lt
      have z1 := B1.lt
      have q0_0 : R2.cell? ⟨w.heap.size, 0, none⟩ = some (.int .i64 x.tick) := B0.c 0 _ rfl
      have q0_1 : R2.cell? ⟨w.heap.size, 1, none⟩ = some (.int .i64 x.next) := B0.c 1 _ rfl
      have q0_2 : R2.cell? ⟨w.heap.size, 2, none⟩ = some (.int .i64 x.wallet) := B0.c 2 _ rfl
      have q0_3 : R2.cell? ⟨w.heap.size, 3, none⟩ = some (.slice a0 x.chans.length c0) := B0.c 3 _ rfl
      have q0_4 : R2.cell? ⟨w.heap.size, 4, none⟩ = some (.slice a1 x.htlcs.length c1) := B0.c 4 _ rfl
      have q0_5 : R2.cell? ⟨w.heap.size, 5, none⟩ = some (.slice a2 x.circles.length c2) := B0.c 5 _ rfl
      have f0 := B0.f
      have q1_0 : R2.cell? ⟨w.heap.size + 1, 0, none⟩ = some (.int .i64 0) := B1.c 0 _ rfl
      have q1_1 : R2.cell? ⟨w.heap.size + 1, 1, none⟩ = some (.slice none 0 0) := B1.c 1 _ rfl
      have f1 := B1.f
      go_wp2_with fail
      clear z0 z1 q0_0 q0_1 q0_2 q0_3 q0_4 q0_5 f0 q1_0 q1_1 f1
      go_loopg [83] x.chans.length (fun g i wr => ∃ (k : Nat) (v : Value), k + g = x.chans.length ∧ i = .int .i64 k ∧ GRow wr V1 V1.heap.size ((x.chans.length : Int) + 1) v (upK (overE lo hi) x.chans x.chans.length ++ upK (underE lo hi gain) x.chans k) ∧ Grow V1 wr)
      case atStart => exact ⟨0, v, by simp, rfl, by simpa [upK] using HGR.out, hg⟩
      case round =>
        clear hg HGR G B0 B1
        obtain ⟨k, v, hk, rfl, GR, hg⟩ := hrel
        obtain ⟨R3, rfl⟩ : ∃ V, V = wr := ⟨_, rfl⟩
        have G := HG0.out.trans hg
        have B0 := HB0.out.grow hg
        have B1 := HB1.out.grow hg
        have HGR := Lib.hid GR; clear GR
        by_cases hlt : k < x.chans.length
        · have HK := Lib.hid hk; clear hk
          have HGV := Lib.hid hg; clear hg
          have HM : Hid (upK (underE lo hi gain) x.chans (k+1) = upK (underE lo hi gain) x.chans k ++ underE lo hi gain k x.chans[k]) := upK_succ hlt
          have hel20 : ((upK (overE lo hi) x.chans x.chans.length ++ upK (underE lo hi gain) x.chans k)).length ≤ 60 := by have := upK_len (f := overE lo hi) (l := x.chans) (overE_len lo hi) x.chans.length; have := upK_len (f := underE lo hi gain) (l := x.chans) (underE_len lo hi gain) k; rw [List.length_append]; omega
          have HNE : Hid (v.ownBlock ≠ some R3.heap.size) := own_ne HGR.out.own (Nat.le_refl _)
          have gzr : V1.heap.size < R3.heap.size := HGR.out.box.lt
          have z0 := B0.lt
          have z1 := B1.lt
          have q0_0 : R3.cell? ⟨w.heap.size, 0, none⟩ = some (.int .i64 x.tick) := B0.c 0 _ rfl
          have q0_1 : R3.cell? ⟨w.heap.size, 1, none⟩ = some (.int .i64 x.next) := B0.c 1 _ rfl
          have q0_2 : R3.cell? ⟨w.heap.size, 2, none⟩ = some (.int .i64 x.wallet) := B0.c 2 _ rfl
          have q0_3 : R3.cell? ⟨w.heap.size, 3, none⟩ = some (.slice a0 x.chans.length c0) := B0.c 3 _ rfl
          have q0_4 : R3.cell? ⟨w.heap.size, 4, none⟩ = some (.slice a1 x.htlcs.length c1) := B0.c 4 _ rfl
          have q0_5 : R3.cell? ⟨w.heap.size, 5, none⟩ = some (.slice a2 x.circles.length c2) := B0.c 5 _ rfl
          have f0 := B0.f
          have q1_0 : R3.cell? ⟨w.heap.size + 1, 0, none⟩ = some (.int .i64 0) := B1.c 0 _ rfl
          have q1_1 : R3.cell? ⟨w.heap.size + 1, 1, none⟩ = some (.slice none 0 0) := B1.c 1 _ rfl
          have f1 := B1.f
          have hcl := HLOC.out _ (List.getElem_mem hlt)
          obtain ⟨b_c, off_c, ha_c, hb1_c, hb2_c, hel_c⟩ := H0.out.elems k hlt
          obtain ⟨ec0, ec1, ec2, ec3, ec4, ec5, ec6, -⟩ := Chan.atCell (hel_c.same repChan_stable (G.same (Nat.le_refl _)) hb1_c hb2_c) k hlt
          subst ha_c
          clear hel_c
          generalize x.chans[k] = c at *
          obtain ⟨hcl1, hcl2⟩ := hcl
          generalize hes : (upK (overE lo hi) x.chans x.chans.length ++ upK (underE lo hi gain) x.chans k) = es at *
          have HES := Lib.hid hes; clear hes
          have hkk : (k : Int) ≤ 60 := by omega
          go_wp2_with fail
          refine (spec_Ends_c c lo hi _).mono ?_
          rintro e U ⟨rfl, gs⟩
          have gU : Grow R3 U := ((Grow.refl R3).alloc _ _).trans gs
          have BC : Box U R3.heap.size [.int .i64 c.id, .int .i64 c.size, .int .i64 c.loc, .int .i64 c.remote, .int .i64 c.base, .int .i64 c.ppm, .int .i64 c.score] := (Box.new R3 _ _).grow gs
          clear gs
          clear z0 z1 q0_0 q0_1 q0_2 q0_3 q0_4 q0_5 f0 q1_0 q1_1 f1
          replace HGR : Hid (GRow U V1 V1.heap.size ((x.chans.length : Int) + 1) v es) := HGR.out.grow gU
          replace HGV : Hid (Grow V1 U) := HGV.out.trans gU
          replace G := G.trans gU
          replace B0 := B0.grow gU
          replace B1 := B1.grow gU
          clear gU
          have z0 := B0.lt
          have z1 := B1.lt
          have q0_0 : U.cell? ⟨w.heap.size, 0, none⟩ = some (.int .i64 x.tick) := B0.c 0 _ rfl
          have q0_1 : U.cell? ⟨w.heap.size, 1, none⟩ = some (.int .i64 x.next) := B0.c 1 _ rfl
          have q0_2 : U.cell? ⟨w.heap.size, 2, none⟩ = some (.int .i64 x.wallet) := B0.c 2 _ rfl
          have q0_3 : U.cell? ⟨w.heap.size, 3, none⟩ = some (.slice (some ⟨b_c, off_c, none⟩) x.chans.length c0) := B0.c 3 _ rfl
          have q0_4 : U.cell? ⟨w.heap.size, 4, none⟩ = some (.slice a1 x.htlcs.length c1) := B0.c 4 _ rfl
          have q0_5 : U.cell? ⟨w.heap.size, 5, none⟩ = some (.slice a2 x.circles.length c2) := B0.c 5 _ rfl
          have f0 := B0.f
          have q1_0 : U.cell? ⟨w.heap.size + 1, 0, none⟩ = some (.int .i64 0) := B1.c 0 _ rfl
          have q1_1 : U.cell? ⟨w.heap.size + 1, 1, none⟩ = some (.slice none 0 0) := B1.c 1 _ rfl
          have f1 := B1.f
          have zc := BC.lt
          have qc0 : U.cell? ⟨R3.heap.size, 0, none⟩ = some (.int .i64 c.id) := BC.c 0 _ rfl
          have qc1 : U.cell? ⟨R3.heap.size, 1, none⟩ = some (.int .i64 c.size) := BC.c 1 _ rfl
          have qc2 : U.cell? ⟨R3.heap.size, 2, none⟩ = some (.int .i64 c.loc) := BC.c 2 _ rfl
          have qc3 : U.cell? ⟨R3.heap.size, 3, none⟩ = some (.int .i64 c.remote) := BC.c 3 _ rfl
          have qc4 : U.cell? ⟨R3.heap.size, 4, none⟩ = some (.int .i64 c.base) := BC.c 4 _ rfl
          have qc5 : U.cell? ⟨R3.heap.size, 5, none⟩ = some (.int .i64 c.ppm) := BC.c 5 _ rfl
          have qc6 : U.cell? ⟨R3.heap.size, 6, none⟩ = some (.int .i64 c.score) := BC.c 6 _ rfl
          have gq0 : U.cell? ⟨V1.heap.size, 0, none⟩ = some (.int .i64 ((x.chans.length : Int) + 1)) := HGR.out.box.c 0 _ rfl
          have gq1 : U.cell? ⟨V1.heap.size, 1, none⟩ = some v := HGR.out.box.c 1 _ rfl
          have gz : V1.heap.size < U.heap.size := HGR.out.box.lt
          have hebd := ends_bd (size := c.size) (lo := lo) (hi := hi)
          obtain ⟨⟨he1, he2⟩, he3, he4⟩ := hebd
          by_cases t : c.loc < ends1 c.size lo hi
          · have HT := Lib.hid (underE_yes (lo := lo) (hi := hi) (gain := gain) (i := k) (c := c) t)
            have T : decide (c.loc < ends1 c.size lo hi) = true := by simpa using t
            generalize ends1 c.size lo hi = e1 at *
            generalize ends2 c.size lo hi = e2 at *
            have hcap : capE (e1 - c.loc) = min (e1 - c.loc) 1000000000 := rfl
            have hcb : -1 ≤ capE (e1 - c.loc) ∧ capE (e1 - c.loc) ≤ 1000000000 := by rw [hcap]; omega
            obtain ⟨hcb1, hcb2⟩ := hcb
            have hq1 : IntKind.i64.wrap ((k : Int) + 1) = (k : Int) + 1 := by rw [IntKind.wrap_i64]; omega
            have hq2 : IntKind.i64.wrap (e1 - c.loc) = e1 - c.loc := by rw [IntKind.wrap_i64]; omega
            have hq3 : IntKind.i64.wrap (-gain) = -gain := by rw [IntKind.wrap_i64]; omega
            go_wp2_with fail
            have gd : Grow U U.drew := (Grow.refl U).drew
            have hS0 : (fun W : World => W.cell? ⟨V1.heap.size, 1, none⟩ = some v ∧ W.cell? ⟨R3.heap.size, 0, none⟩ = some (.int .i64 c.id) ∧ W.cell? ⟨R3.heap.size, 1, none⟩ = some (.int .i64 c.size) ∧ W.cell? ⟨R3.heap.size, 2, none⟩ = some (.int .i64 c.loc) ∧ W.cell? ⟨R3.heap.size, 3, none⟩ = some (.int .i64 c.remote) ∧ W.cell? ⟨R3.heap.size, 4, none⟩ = some (.int .i64 c.base) ∧ W.cell? ⟨R3.heap.size, 5, none⟩ = some (.int .i64 c.ppm) ∧ W.cell? ⟨R3.heap.size, 6, none⟩ = some (.int .i64 c.score)) U.drew := ⟨gq1, qc0, qc1, qc2, qc3, qc4, qc5, qc6⟩
            refine wp_region_G (f := 15) (S := fun W => W.cell? ⟨V1.heap.size, 1, none⟩ = some v ∧ W.cell? ⟨R3.heap.size, 0, none⟩ = some (.int .i64 c.id) ∧ W.cell? ⟨R3.heap.size, 1, none⟩ = some (.int .i64 c.size) ∧ W.cell? ⟨R3.heap.size, 2, none⟩ = some (.int .i64 c.loc) ∧ W.cell? ⟨R3.heap.size, 3, none⟩ = some (.int .i64 c.remote) ∧ W.cell? ⟨R3.heap.size, 4, none⟩ = some (.int .i64 c.base) ∧ W.cell? ⟨R3.heap.size, 5, none⟩ = some (.int .i64 c.ppm) ∧ W.cell? ⟨R3.heap.size, 6, none⟩ = some (.int .i64 c.score)) (by kernel_rfl) ?_
            change wpAnyG _ _ _ _ _ _ 16 _ _ _
            refine wpAnyG_take' (i := 0) (by simp only [List.getElem?_toArray, List.getElem?_cons_succ, List.getElem?_cons_zero]; rfl) ?_
            refine ⟨by kernel_rfl, by kernel_rfl, by kernel_rfl, by kernel_rfl, by kernel_rfl, fun _ _ _ _ h => h, hS0, ?vunder0, Or.inl ⟨by rfl, ?hyunder0⟩, ?restunder0⟩
            case hyunder0 =>
              intro W hSw
              obtain ⟨s_0, s_1, s_2, s_3, s_4, s_5, s_6, s_7⟩ := hSw
              go_simp
              try with_reducible rfl
            (try simp only [Act.put, List.setIfInBounds_toArray, List.set_cons_zero, List.set_cons_succ])
            refine wpAnyG_take' (i := 1) (by simp only [List.getElem?_toArray, List.getElem?_cons_succ, List.getElem?_cons_zero]; rfl) ?_
            refine ⟨by kernel_rfl, by kernel_rfl, by kernel_rfl, by kernel_rfl, by kernel_rfl, fun _ _ _ _ h => h, hS0, ?vunder1, Or.inl ⟨by rfl, ?hyunder1⟩, ?restunder1⟩
            case hyunder1 =>
              intro W hSw
              obtain ⟨s_0, s_1, s_2, s_3, s_4, s_5, s_6, s_7⟩ := hSw
              go_simp
              try with_reducible rfl
            (try simp only [Act.put, List.setIfInBounds_toArray, List.set_cons_zero, List.set_cons_succ])
            refine wpAnyG_take' (i := 2) (by simp only [List.getElem?_toArray, List.getElem?_cons_succ, List.getElem?_cons_zero]; rfl) ?_
            refine ⟨by kernel_rfl, by kernel_rfl, by kernel_rfl, by kernel_rfl, by kernel_rfl, fun _ _ _ _ h => h, hS0, ?vunder2, Or.inl ⟨by rfl, ?hyunder2⟩, ?restunder2⟩
            case hyunder2 =>
              intro W hSw
              obtain ⟨s_0, s_1, s_2, s_3, s_4, s_5, s_6, s_7⟩ := hSw
              go_simp
              try with_reducible rfl
            (try simp only [Act.put, List.setIfInBounds_toArray, List.set_cons_zero, List.set_cons_succ])
            refine wpAnyG_take' (i := 3) (by simp only [List.getElem?_toArray, List.getElem?_cons_succ, List.getElem?_cons_zero]; rfl) ?_
            refine ⟨by kernel_rfl, by kernel_rfl, by kernel_rfl, by kernel_rfl, by kernel_rfl, fun _ _ _ _ h => h, hS0, ?vunder3, Or.inl ⟨by rfl, ?hyunder3⟩, ?restunder3⟩
            case hyunder3 =>
              intro W hSw
              obtain ⟨s_0, s_1, s_2, s_3, s_4, s_5, s_6, s_7⟩ := hSw
              go_simp
              try with_reducible rfl
            (try simp only [Act.put, List.setIfInBounds_toArray, List.set_cons_zero, List.set_cons_succ])
            refine wpAnyG_take' (i := 4) (by simp only [List.getElem?_toArray, List.getElem?_cons_succ, List.getElem?_cons_zero]; rfl) ?_
            refine ⟨by kernel_rfl, by kernel_rfl, by kernel_rfl, by kernel_rfl, by kernel_rfl, fun _ _ _ _ h => h, hS0, ?vunder4, Or.inl ⟨by rfl, ?hyunder4⟩, ?restunder4⟩
            case hyunder4 =>
              intro W hSw
              obtain ⟨s_0, s_1, s_2, s_3, s_4, s_5, s_6, s_7⟩ := hSw
              go_simp
              try with_reducible rfl
            (try simp only [Act.put, List.setIfInBounds_toArray, List.set_cons_zero, List.set_cons_succ])
            refine wpAnyG_take' (i := 5) (by simp only [List.getElem?_toArray, List.getElem?_cons_succ, List.getElem?_cons_zero]; rfl) ?_
            refine ⟨by kernel_rfl, by kernel_rfl, by kernel_rfl, by kernel_rfl, by kernel_rfl, fun _ _ _ _ h => h, hS0, ?vunder5, Or.inl ⟨by rfl, ?hyunder5⟩, ?restunder5⟩
            case hyunder5 =>
              intro W hSw
              obtain ⟨s_0, s_1, s_2, s_3, s_4, s_5, s_6, s_7⟩ := hSw
              go_simp
              try with_reducible rfl
            (try simp only [Act.put, List.setIfInBounds_toArray, List.set_cons_zero, List.set_cons_succ])
            refine wpAnyG_take' (i := 6) (by simp only [List.getElem?_toArray, List.getElem?_cons_succ, List.getElem?_cons_zero]; rfl) ?_
            refine ⟨by kernel_rfl, by kernel_rfl, by kernel_rfl, by kernel_rfl, by kernel_rfl, fun _ _ _ _ h => h, hS0, ?vunder6, Or.inl ⟨by rfl, ?hyunder6⟩, ?restunder6⟩
            case hyunder6 =>
              intro W hSw
              obtain ⟨s_0, s_1, s_2, s_3, s_4, s_5, s_6, s_7⟩ := hSw
              go_simp
              try with_reducible rfl
            (try simp only [Act.put, List.setIfInBounds_toArray, List.set_cons_zero, List.set_cons_succ])
            refine wpAnyG_take' (i := 7) (by simp only [List.getElem?_toArray, List.getElem?_cons_succ, List.getElem?_cons_zero]; rfl) ?_
            refine ⟨by kernel_rfl, by kernel_rfl, by kernel_rfl, by kernel_rfl, by kernel_rfl, fun _ _ _ _ h => h, hS0, ?vunder7, Or.inl ⟨by rfl, ?hyunder7⟩, ?restunder7⟩
            case hyunder7 =>
              intro W hSw
              obtain ⟨s_0, s_1, s_2, s_3, s_4, s_5, s_6, s_7⟩ := hSw
              go_simp
              try with_reducible rfl
            (try simp only [Act.put, List.setIfInBounds_toArray, List.set_cons_zero, List.set_cons_succ])
            refine wpAnyG_take' (i := 9) (by simp only [List.getElem?_toArray, List.getElem?_cons_succ, List.getElem?_cons_zero]; rfl) ?_
            refine ⟨by kernel_rfl, by kernel_rfl, by kernel_rfl, by kernel_rfl, by kernel_rfl, fun _ _ _ _ h => h, hS0, ?vunder9, Or.inl ⟨by rfl, ?hyunder9⟩, ?restunder9⟩
            case hyunder9 =>
              intro W hSw
              obtain ⟨s_0, s_1, s_2, s_3, s_4, s_5, s_6, s_7⟩ := hSw
              go_simp
              try with_reducible rfl
            (try simp only [Act.put, List.setIfInBounds_toArray, List.set_cons_zero, List.set_cons_succ])
            refine wpAnyG_take' (i := 10) (by simp only [List.getElem?_toArray, List.getElem?_cons_succ, List.getElem?_cons_zero]; rfl) ?_
            refine ⟨by kernel_rfl, by kernel_rfl, by kernel_rfl, by kernel_rfl, by kernel_rfl, fun _ _ _ _ h => h, hS0, ?vunder10, Or.inl ⟨by rfl, ?hyunder10⟩, ?restunder10⟩
            case hyunder10 =>
              intro W hSw
              obtain ⟨s_0, s_1, s_2, s_3, s_4, s_5, s_6, s_7⟩ := hSw
              go_simp
              try with_reducible rfl
            (try simp only [Act.put, List.setIfInBounds_toArray, List.set_cons_zero, List.set_cons_succ])
            refine wpAnyG_one (i := 8) (o := _) (by simp only [List.getElem?_toArray, List.getElem?_cons_succ, List.getElem?_cons_zero]; rfl) (by kernel_rfl) ?_
            intro K' hK
            have HK_ := Lib.hid hK; clear hK
            rw [if_pos (by rfl)]
            go_simp
            go_at_call 81
            (try simp only [hq2])
            refine (spec_Cap_c _ _ (by omega)).mono ?_
            rintro e' w' ⟨rfl, rfl⟩
            refine HK_.out _ _ (fun _ => hS0) ?_
            (try simp only [Act.put, List.setIfInBounds_toArray, List.set_cons_zero, List.set_cons_succ])
            refine wpAnyG_take' (i := 11) (by simp only [List.getElem?_toArray, List.getElem?_cons_succ, List.getElem?_cons_zero]; rfl) ?_
            refine ⟨by kernel_rfl, by kernel_rfl, by kernel_rfl, by kernel_rfl, by kernel_rfl, fun _ _ _ _ h => h, hS0, ?vunder11, Or.inl ⟨by rfl, ?hyunder11⟩, ?restunder11⟩
            case hyunder11 =>
              intro W hSw
              obtain ⟨s_0, s_1, s_2, s_3, s_4, s_5, s_6, s_7⟩ := hSw
              go_simp
              try with_reducible rfl
            (try simp only [Act.put, List.setIfInBounds_toArray, List.set_cons_zero, List.set_cons_succ])
            refine wpAnyG_one (i := 12) (o := _) (by simp only [List.getElem?_toArray, List.getElem?_cons_succ, List.getElem?_cons_zero]; rfl) (by kernel_rfl) ?_
            intro K' hK
            have HK_ := Lib.hid hK; clear hK
            rw [if_pos (by rfl)]
            go_simp
            have hS3 : (fun W : World => W.cell? ⟨V1.heap.size, 1, none⟩ = some v ∧ W.cell? ⟨R3.heap.size, 0, none⟩ = some (.int .i64 c.id) ∧ W.cell? ⟨R3.heap.size, 1, none⟩ = some (.int .i64 c.size) ∧ W.cell? ⟨R3.heap.size, 2, none⟩ = some (.int .i64 c.loc) ∧ W.cell? ⟨R3.heap.size, 3, none⟩ = some (.int .i64 c.remote) ∧ W.cell? ⟨R3.heap.size, 4, none⟩ = some (.int .i64 c.base) ∧ W.cell? ⟨R3.heap.size, 5, none⟩ = some (.int .i64 c.ppm) ∧ W.cell? ⟨R3.heap.size, 6, none⟩ = some (.int .i64 c.score)) (U.drew.alloc (.cells #[.int .i64 ((k : Int) + 1), .int .i64 0, .int .i64 (capE (e1 - c.loc)), .int .i64 (-gain)] 123)) := ⟨cellGrow (gd.alloc _ _) gq1, cellGrow (gd.alloc _ _) qc0, cellGrow (gd.alloc _ _) qc1, cellGrow (gd.alloc _ _) qc2, cellGrow (gd.alloc _ _) qc3, cellGrow (gd.alloc _ _) qc4, cellGrow (gd.alloc _ _) qc5, cellGrow (gd.alloc _ _) qc6⟩
            (try simp only [hq1, hq2, hq3])
            refine HK_.out _ _ (fun _ => hS3) ?_
            (try simp only [Act.put, List.setIfInBounds_toArray, List.set_cons_zero, List.set_cons_succ])
            refine wpAnyG_one (i := 13) (o := _) (by simp only [List.getElem?_toArray, List.getElem?_cons_succ, List.getElem?_cons_zero]; rfl) (by kernel_rfl) ?_
            intro K' hK
            have HK_ := Lib.hid hK; clear hK
            refine step_append_g rfl (.tmp 100) (.tmp 111) 29 rfl V1 ((HGV.out.trans gd).alloc _ _) 123 i0 _ 4 32 Try.underlying29 hi0 hz0 hz1 hz2 rfl (by omega) v es.length (es.flatMap encEdge) rfl (own_grow HGR.out.own (gd.alloc _ _)) ⟨U.heap.size, 0, none⟩ 1 1 [.int .i64 ((k : Int) + 1), .int .i64 0, .int .i64 (capE (e1 - c.loc)), .int .i64 (-gain)] rfl rfl (news_of _ _ _ _ (by simp [hq1, hq2, hq3, hcap])) (one_edge _ _ _ _) (by simp only [maxLen]; omega) (by omega) ?_
            intro v1 w1 hown' hg' hgb hat
            obtain ⟨va, vc, rfl⟩ := own_form hown'
            (try simp only [hq1, hq2, hq3] at hgb)
            have hgu : Grow U (U.drew.alloc (.cells #[.int .i64 ((k : Int) + 1), .int .i64 0, .int .i64 (capE (e1 - c.loc)), .int .i64 (-gain)] 123)) := gd.alloc _ _
            have s0 : w1.cell? ⟨V1.heap.size, 0, none⟩ = some (.int .i64 ((x.chans.length : Int) + 1)) := cellKept hgb HGR.out.ne (cellGrow hgu gq0)
            have s1 : w1.cell? ⟨V1.heap.size, 1, none⟩ = some v := cellKept hgb HGR.out.ne (cellGrow hgu gq1)
            have z1 : V1.heap.size < w1.heap.size := lt_of_cell s0
            have fz1 : ∀ o, w1.frozen? ⟨V1.heap.size, o, none⟩ = false := fun o => hg'.nf _ o (by omega) z1
            have HPUSH := Lib.hid (GRow.push (e := ⟨(k : Int) + 1, 0, capE (e1 - c.loc), -gain⟩) (HGR.out.grow hgu) hown' hgb hat)
            have HGN := Lib.hid (hg'.setCell (p := ⟨V1.heap.size, 1, none⟩) (Nat.le_refl _) (.slice va (es.length + 1) vc))
            have r0 : w1.cell? ⟨R3.heap.size, 0, none⟩ = some (.int .i64 c.id) := cellKept hgb HNE.out (cellGrow hgu qc0)
            have r1 : w1.cell? ⟨R3.heap.size, 1, none⟩ = some (.int .i64 c.size) := cellKept hgb HNE.out (cellGrow hgu qc1)
            have r2 : w1.cell? ⟨R3.heap.size, 2, none⟩ = some (.int .i64 c.loc) := cellKept hgb HNE.out (cellGrow hgu qc2)
            have r3 : w1.cell? ⟨R3.heap.size, 3, none⟩ = some (.int .i64 c.remote) := cellKept hgb HNE.out (cellGrow hgu qc3)
            have r4 : w1.cell? ⟨R3.heap.size, 4, none⟩ = some (.int .i64 c.base) := cellKept hgb HNE.out (cellGrow hgu qc4)
            have r5 : w1.cell? ⟨R3.heap.size, 5, none⟩ = some (.int .i64 c.ppm) := cellKept hgb HNE.out (cellGrow hgu qc5)
            have r6 : w1.cell? ⟨R3.heap.size, 6, none⟩ = some (.int .i64 c.score) := cellKept hgb HNE.out (cellGrow hgu qc6)
            clear hown' hg' hgb hat hgu
            have hS4 : (fun W : World => W.cell? ⟨V1.heap.size, 1, none⟩ = some v ∧ W.cell? ⟨R3.heap.size, 0, none⟩ = some (.int .i64 c.id) ∧ W.cell? ⟨R3.heap.size, 1, none⟩ = some (.int .i64 c.size) ∧ W.cell? ⟨R3.heap.size, 2, none⟩ = some (.int .i64 c.loc) ∧ W.cell? ⟨R3.heap.size, 3, none⟩ = some (.int .i64 c.remote) ∧ W.cell? ⟨R3.heap.size, 4, none⟩ = some (.int .i64 c.base) ∧ W.cell? ⟨R3.heap.size, 5, none⟩ = some (.int .i64 c.ppm) ∧ W.cell? ⟨R3.heap.size, 6, none⟩ = some (.int .i64 c.score)) w1 := ⟨s1, r0, r1, r2, r3, r4, r5, r6⟩
            refine HK_.out _ _ (fun _ => hS4) ?_
            (try simp only [Act.put, List.setIfInBounds_toArray, List.set_cons_zero, List.set_cons_succ])
            refine wpAnyG_take' (i := 14) (by simp only [List.getElem?_toArray, List.getElem?_cons_succ, List.getElem?_cons_zero]; rfl) ?_
            refine ⟨by kernel_rfl, by kernel_rfl, by kernel_rfl, by kernel_rfl, by kernel_rfl, fun _ _ _ _ h => h, hS4, ?vunder14, Or.inl ⟨by rfl, ?hyunder14⟩, ?restunder14⟩
            case hyunder14 =>
              intro W hSw
              obtain ⟨s_0, s_1, s_2, s_3, s_4, s_5, s_6, s_7⟩ := hSw
              go_simp
              try with_reducible rfl
            (try simp only [Act.put, List.setIfInBounds_toArray, List.set_cons_zero, List.set_cons_succ])
            refine wpAnyG_one (i := 15) (o := _) (by simp only [List.getElem?_toArray, List.getElem?_cons_succ, List.getElem?_cons_zero]; rfl) (by kernel_rfl) ?_
            intro K' hK
            have HK_ := Lib.hid hK; clear hK
            rw [if_pos (by rfl)]
            go_simp
            refine HK_.out _ _ (fun h => absurd rfl h) (wpAnyG_done (by kernel_rfl) ?_ _)
            go_wp2_with fail
            go_roundg (x.chans.length - (k + 1))
            case measure => have := HK.out; omega
            case rel => exact ⟨k + 1, (.slice va (es.length + 1) vc), by have := HK.out; omega, by go_num, by rw [HM.out, HT.out]; first | exact HPUSH.out | (rw [← List.append_assoc, HES.out]; exact HPUSH.out), HGN.out⟩
          · have HT := Lib.hid (underE_no (lo := lo) (hi := hi) (gain := gain) (i := k) (c := c) t)
            have T : decide (c.loc < ends1 c.size lo hi) = false := by simpa using t
            generalize ends1 c.size lo hi = e1 at *
            generalize ends2 c.size lo hi = e2 at *
            go_wp2_with fail
            go_roundg (x.chans.length - (k + 1))
            case measure => have := HK.out; omega
            case rel => exact ⟨k + 1, v, by have := HK.out; omega, by go_num, by rw [HM.out, HT.out]; rw [List.append_nil]; first | exact HGR.out | (rw [HES.out]; exact HGR.out), HGV.out⟩
        · obtain rfl : k = x.chans.length := by omega
          clear hk hlt
          have z0 := B0.lt
          have z1 := B1.lt
          have q0_0 : R3.cell? ⟨w.heap.size, 0, none⟩ = some (.int .i64 x.tick) := B0.c 0 _ rfl
          have q0_1 : R3.cell? ⟨w.heap.size, 1, none⟩ = some (.int .i64 x.next) := B0.c 1 _ rfl
          have q0_2 : R3.cell? ⟨w.heap.size, 2, none⟩ = some (.int .i64 x.wallet) := B0.c 2 _ rfl
          have q0_3 : R3.cell? ⟨w.heap.size, 3, none⟩ = some (.slice a0 x.chans.length c0) := B0.c 3 _ rfl
          have q0_4 : R3.cell? ⟨w.heap.size, 4, none⟩ = some (.slice a1 x.htlcs.length c1) := B0.c 4 _ rfl
          have q0_5 : R3.cell? ⟨w.heap.size, 5, none⟩ = some (.slice a2 x.circles.length c2) := B0.c 5 _ rfl
          have f0 := B0.f
          have q1_0 : R3.cell? ⟨w.heap.size + 1, 0, none⟩ = some (.int .i64 0) := B1.c 0 _ rfl
          have q1_1 : R3.cell? ⟨w.heap.size + 1, 1, none⟩ = some (.slice none 0 0) := B1.c 1 _ rfl
          have f1 := B1.f
          go_wp2_with fail
          clear z0 z1 q0_0 q0_1 q0_2 q0_3 q0_4 q0_5 f0 q1_0 q1_1 f1
          go_loopg [117] l.length (fun g i wr => ∃ (k : Nat) (v : Value), k + g = l.length ∧ i = .int .i64 k ∧ GRow wr V1 V1.heap.size ((x.chans.length : Int) + 1) v (upK (overE lo hi) x.chans x.chans.length ++ upK (underE lo hi gain) x.chans x.chans.length ++ (l.take k).map (priceE x.chans)) ∧ Grow V1 wr)
          case atStart => exact ⟨0, v, by simp, rfl, by simpa using HGR.out, hg⟩
          case round =>
            clear hg HGR G B0 B1
            obtain ⟨k, v, hk, rfl, GR, hg⟩ := hrel
            obtain ⟨R4, rfl⟩ : ∃ V, V = wr := ⟨_, rfl⟩
            have G := HG0.out.trans hg
            have B0 := HB0.out.grow hg
            have B1 := HB1.out.grow hg
            have HGR := Lib.hid GR; clear GR
            by_cases hlt : k < l.length
            · have HK := Lib.hid hk; clear hk
              have HGV := Lib.hid hg; clear hg
              have HM : Hid ((l.take (k+1)).map (priceE x.chans) = (l.take k).map (priceE x.chans) ++ [priceE x.chans l[k]]) := by show _ = _; rw [List.take_succ_eq_append_getElem hlt, List.map_append]; rfl
              have hel20 : ((upK (overE lo hi) x.chans x.chans.length ++ upK (underE lo hi gain) x.chans x.chans.length ++ (l.take k).map (priceE x.chans))).length ≤ 60 := by have := upK_len (f := overE lo hi) (l := x.chans) (overE_len lo hi) x.chans.length; have := upK_len (f := underE lo hi gain) (l := x.chans) (underE_len lo hi gain) x.chans.length; simp only [List.length_append, List.length_map, List.length_take]; omega
              have HNE : Hid (v.ownBlock ≠ some R4.heap.size) := own_ne HGR.out.own (Nat.le_refl _)
              have gzr : V1.heap.size < R4.heap.size := HGR.out.box.lt
              have z0 := B0.lt
              have z1 := B1.lt
              have q0_0 : R4.cell? ⟨w.heap.size, 0, none⟩ = some (.int .i64 x.tick) := B0.c 0 _ rfl
              have q0_1 : R4.cell? ⟨w.heap.size, 1, none⟩ = some (.int .i64 x.next) := B0.c 1 _ rfl
              have q0_2 : R4.cell? ⟨w.heap.size, 2, none⟩ = some (.int .i64 x.wallet) := B0.c 2 _ rfl
              have q0_3 : R4.cell? ⟨w.heap.size, 3, none⟩ = some (.slice a0 x.chans.length c0) := B0.c 3 _ rfl
              have q0_4 : R4.cell? ⟨w.heap.size, 4, none⟩ = some (.slice a1 x.htlcs.length c1) := B0.c 4 _ rfl
              have q0_5 : R4.cell? ⟨w.heap.size, 5, none⟩ = some (.slice a2 x.circles.length c2) := B0.c 5 _ rfl
              have f0 := B0.f
              have q1_0 : R4.cell? ⟨w.heap.size + 1, 0, none⟩ = some (.int .i64 0) := B1.c 0 _ rfl
              have q1_1 : R4.cell? ⟨w.heap.size + 1, 1, none⟩ = some (.slice none 0 0) := B1.c 1 _ rfl
              have f1 := B1.f
              obtain ⟨b_e, off_e, ha_e, hb1_e, hb2_e, hel_e⟩ := H3.out.elems k hlt
              obtain ⟨ee0, ee1, ee2, -⟩ := Price.atCell (hel_e.same repPrice_stable (G.same (Nat.le_refl _)) hb1_e hb2_e) k hlt
              subst ha_e
              clear hel_e
              generalize l[k] = e at *
              generalize hes : (upK (overE lo hi) x.chans x.chans.length ++ upK (underE lo hi gain) x.chans x.chans.length ++ (l.take k).map (priceE x.chans)) = es at *
              have HES := Lib.hid hes; clear hes
              have hkk : (k : Int) ≤ 60 := by omega
              go_wp2_with fail
              obtain ⟨U, hU⟩ : ∃ U, U = R4.alloc (.cells #[.int .i64 e.frm, .int .i64 e.to, .int .i64 e.ppm] 125) := ⟨_, rfl⟩
              have gU : Grow R4 U := by rw [hU]; exact (Grow.refl _).alloc _ _
              have BC : Box U R4.heap.size [.int .i64 e.frm, .int .i64 e.to, .int .i64 e.ppm] := by rw [hU]; exact Box.new R4 _ _
              rw [← hU]
              clear hU
              clear z0 z1 q0_0 q0_1 q0_2 q0_3 q0_4 q0_5 f0 q1_0 q1_1 f1
              replace HGR : Hid (GRow U V1 V1.heap.size ((x.chans.length : Int) + 1) v es) := HGR.out.grow gU
              replace HGV : Hid (Grow V1 U) := HGV.out.trans gU
              replace G := G.trans gU
              replace B0 := B0.grow gU
              replace B1 := B1.grow gU
              clear gU
              have z0 := B0.lt
              have z1 := B1.lt
              have q0_0 : U.cell? ⟨w.heap.size, 0, none⟩ = some (.int .i64 x.tick) := B0.c 0 _ rfl
              have q0_1 : U.cell? ⟨w.heap.size, 1, none⟩ = some (.int .i64 x.next) := B0.c 1 _ rfl
              have q0_2 : U.cell? ⟨w.heap.size, 2, none⟩ = some (.int .i64 x.wallet) := B0.c 2 _ rfl
              have q0_3 : U.cell? ⟨w.heap.size, 3, none⟩ = some (.slice a0 x.chans.length c0) := B0.c 3 _ rfl
              have q0_4 : U.cell? ⟨w.heap.size, 4, none⟩ = some (.slice a1 x.htlcs.length c1) := B0.c 4 _ rfl
              have q0_5 : U.cell? ⟨w.heap.size, 5, none⟩ = some (.slice a2 x.circles.length c2) := B0.c 5 _ rfl
              have f0 := B0.f
              have q1_0 : U.cell? ⟨w.heap.size + 1, 0, none⟩ = some (.int .i64 0) := B1.c 0 _ rfl
              have q1_1 : U.cell? ⟨w.heap.size + 1, 1, none⟩ = some (.slice none 0 0) := B1.c 1 _ rfl
              have f1 := B1.f
              have zc := BC.lt
              have qc0 : U.cell? ⟨R4.heap.size, 0, none⟩ = some (.int .i64 e.frm) := BC.c 0 _ rfl
              have qc1 : U.cell? ⟨R4.heap.size, 1, none⟩ = some (.int .i64 e.to) := BC.c 1 _ rfl
              have qc2 : U.cell? ⟨R4.heap.size, 2, none⟩ = some (.int .i64 e.ppm) := BC.c 2 _ rfl
              have gq0 : U.cell? ⟨V1.heap.size, 0, none⟩ = some (.int .i64 ((x.chans.length : Int) + 1)) := HGR.out.box.c 0 _ rfl
              have gq1 : U.cell? ⟨V1.heap.size, 1, none⟩ = some v := HGR.out.box.c 1 _ rfl
              have gz : V1.heap.size < U.heap.size := HGR.out.box.lt
              have hb1 := chanAt_bd x.chans e.frm
              have hb2 := chanAt_bd x.chans e.to
              have HPE : Hid (priceE x.chans e = ⟨chanAt x.chans e.frm + 1, chanAt x.chans e.to + 1, 1000000000, e.ppm⟩) := rfl
              have HC1 : Hid (∀ (W : World) (hw : Grow w W), Calls Try.prog 63 #[.agg #[.int .i64 x.tick, .int .i64 x.next, .int .i64 x.wallet, .slice a0 x.chans.length c0, .slice a1 x.htlcs.length c1, .slice a2 x.circles.length c2], .int .i64 e.frm] W fun e' w' => e' = .returned (.int .i64 (chanAt x.chans e.frm)) ∧ Grow W w') := fun W hw => spec_At_c x _ _ _ _ _ _ e.frm W (H0.out.grow' repChan_stable (Grow.below hw)) hn
              have HC2 : Hid (∀ (W : World) (hw : Grow w W), Calls Try.prog 63 #[.agg #[.int .i64 x.tick, .int .i64 x.next, .int .i64 x.wallet, .slice a0 x.chans.length c0, .slice a1 x.htlcs.length c1, .slice a2 x.circles.length c2], .int .i64 e.to] W fun e' w' => e' = .returned (.int .i64 (chanAt x.chans e.to)) ∧ Grow W w') := fun W hw => spec_At_c x _ _ _ _ _ _ e.to W (H0.out.grow' repChan_stable (Grow.below hw)) hn
              generalize chanAt x.chans e.frm = p1 at *
              generalize chanAt x.chans e.to = p2 at *
              have hq1 : IntKind.i64.wrap (p1 + 1) = p1 + 1 := by rw [IntKind.wrap_i64]; omega
              have hq2 : IntKind.i64.wrap (p2 + 1) = p2 + 1 := by rw [IntKind.wrap_i64]; omega
              have HU := Lib.hid G
              have gq1d : U.drew.cell? ⟨V1.heap.size, 1, none⟩ = some v := gq1
              have hS0 : (fun W : World => W.cell? ⟨V1.heap.size, 1, none⟩ = some v ∧ W.cell? ⟨w.heap.size, 0, none⟩ = some (.int .i64 x.tick) ∧ W.cell? ⟨w.heap.size, 1, none⟩ = some (.int .i64 x.next) ∧ W.cell? ⟨w.heap.size, 2, none⟩ = some (.int .i64 x.wallet) ∧ W.cell? ⟨w.heap.size, 3, none⟩ = some (.slice a0 x.chans.length c0) ∧ W.cell? ⟨w.heap.size, 4, none⟩ = some (.slice a1 x.htlcs.length c1) ∧ W.cell? ⟨w.heap.size, 5, none⟩ = some (.slice a2 x.circles.length c2) ∧ W.cell? ⟨R4.heap.size, 0, none⟩ = some (.int .i64 e.frm) ∧ W.cell? ⟨R4.heap.size, 1, none⟩ = some (.int .i64 e.to) ∧ W.cell? ⟨R4.heap.size, 2, none⟩ = some (.int .i64 e.ppm)) U.drew := ⟨gq1, q0_0, q0_1, q0_2, q0_3, q0_4, q0_5, qc0, qc1, qc2⟩
              refine wp_region_G (f := 18) (S := fun W => W.cell? ⟨V1.heap.size, 1, none⟩ = some v ∧ W.cell? ⟨w.heap.size, 0, none⟩ = some (.int .i64 x.tick) ∧ W.cell? ⟨w.heap.size, 1, none⟩ = some (.int .i64 x.next) ∧ W.cell? ⟨w.heap.size, 2, none⟩ = some (.int .i64 x.wallet) ∧ W.cell? ⟨w.heap.size, 3, none⟩ = some (.slice a0 x.chans.length c0) ∧ W.cell? ⟨w.heap.size, 4, none⟩ = some (.slice a1 x.htlcs.length c1) ∧ W.cell? ⟨w.heap.size, 5, none⟩ = some (.slice a2 x.circles.length c2) ∧ W.cell? ⟨R4.heap.size, 0, none⟩ = some (.int .i64 e.frm) ∧ W.cell? ⟨R4.heap.size, 1, none⟩ = some (.int .i64 e.to) ∧ W.cell? ⟨R4.heap.size, 2, none⟩ = some (.int .i64 e.ppm)) (by kernel_rfl) ?_
              change wpAnyG _ _ _ _ _ _ 19 _ _ _
              refine wpAnyG_take' (i := 0) (by simp only [List.getElem?_toArray, List.getElem?_cons_succ, List.getElem?_cons_zero]; rfl) ?_
              refine ⟨by kernel_rfl, by kernel_rfl, by kernel_rfl, by kernel_rfl, by kernel_rfl, fun _ _ _ _ h => h, hS0, ?vprice0, Or.inl ⟨by rfl, ?hyprice0⟩, ?restprice0⟩
              case hyprice0 =>
                intro W hSw
                obtain ⟨s_0, s_1, s_2, s_3, s_4, s_5, s_6, s_7, s_8, s_9⟩ := hSw
                go_simp
                try with_reducible rfl
              (try simp only [Act.put, List.setIfInBounds_toArray, List.set_cons_zero, List.set_cons_succ])
              refine wpAnyG_take' (i := 1) (by simp only [List.getElem?_toArray, List.getElem?_cons_succ, List.getElem?_cons_zero]; rfl) ?_
              refine ⟨by kernel_rfl, by kernel_rfl, by kernel_rfl, by kernel_rfl, by kernel_rfl, fun _ _ _ _ h => h, hS0, ?vprice1, Or.inl ⟨by rfl, ?hyprice1⟩, ?restprice1⟩
              case hyprice1 =>
                intro W hSw
                obtain ⟨s_0, s_1, s_2, s_3, s_4, s_5, s_6, s_7, s_8, s_9⟩ := hSw
                go_simp
                try with_reducible rfl
              (try simp only [Act.put, List.setIfInBounds_toArray, List.set_cons_zero, List.set_cons_succ])
              refine wpAnyG_take' (i := 2) (by simp only [List.getElem?_toArray, List.getElem?_cons_succ, List.getElem?_cons_zero]; rfl) ?_
              refine ⟨by kernel_rfl, by kernel_rfl, by kernel_rfl, by kernel_rfl, by kernel_rfl, fun _ _ _ _ h => h, hS0, ?vprice2, Or.inl ⟨by rfl, ?hyprice2⟩, ?restprice2⟩
              case hyprice2 =>
                intro W hSw
                obtain ⟨s_0, s_1, s_2, s_3, s_4, s_5, s_6, s_7, s_8, s_9⟩ := hSw
                go_simp
                try with_reducible rfl
              (try simp only [Act.put, List.setIfInBounds_toArray, List.set_cons_zero, List.set_cons_succ])
              refine wpAnyG_take' (i := 3) (by simp only [List.getElem?_toArray, List.getElem?_cons_succ, List.getElem?_cons_zero]; rfl) ?_
              refine ⟨by kernel_rfl, by kernel_rfl, by kernel_rfl, by kernel_rfl, by kernel_rfl, fun _ _ _ _ h => h, hS0, ?vprice3, Or.inl ⟨by rfl, ?hyprice3⟩, ?restprice3⟩
              case hyprice3 =>
                intro W hSw
                obtain ⟨s_0, s_1, s_2, s_3, s_4, s_5, s_6, s_7, s_8, s_9⟩ := hSw
                go_simp
                try with_reducible rfl
              (try simp only [Act.put, List.setIfInBounds_toArray, List.set_cons_zero, List.set_cons_succ])
              refine wpAnyG_take' (i := 4) (by simp only [List.getElem?_toArray, List.getElem?_cons_succ, List.getElem?_cons_zero]; rfl) ?_
              refine ⟨by kernel_rfl, by kernel_rfl, by kernel_rfl, by kernel_rfl, by kernel_rfl, fun _ _ _ _ h => h, hS0, ?vprice4, Or.inl ⟨by rfl, ?hyprice4⟩, ?restprice4⟩
              case hyprice4 =>
                intro W hSw
                obtain ⟨s_0, s_1, s_2, s_3, s_4, s_5, s_6, s_7, s_8, s_9⟩ := hSw
                go_simp
                try with_reducible rfl
              (try simp only [Act.put, List.setIfInBounds_toArray, List.set_cons_zero, List.set_cons_succ])
              refine wpAnyG_take' (i := 7) (by simp only [List.getElem?_toArray, List.getElem?_cons_succ, List.getElem?_cons_zero]; rfl) ?_
              refine ⟨by kernel_rfl, by kernel_rfl, by kernel_rfl, by kernel_rfl, by kernel_rfl, fun _ _ _ _ h => h, hS0, ?vprice7, Or.inl ⟨by rfl, ?hyprice7⟩, ?restprice7⟩
              case hyprice7 =>
                intro W hSw
                obtain ⟨s_0, s_1, s_2, s_3, s_4, s_5, s_6, s_7, s_8, s_9⟩ := hSw
                go_simp
                try with_reducible rfl
              (try simp only [Act.put, List.setIfInBounds_toArray, List.set_cons_zero, List.set_cons_succ])
              refine wpAnyG_take' (i := 8) (by simp only [List.getElem?_toArray, List.getElem?_cons_succ, List.getElem?_cons_zero]; rfl) ?_
              refine ⟨by kernel_rfl, by kernel_rfl, by kernel_rfl, by kernel_rfl, by kernel_rfl, fun _ _ _ _ h => h, hS0, ?vprice8, Or.inl ⟨by rfl, ?hyprice8⟩, ?restprice8⟩
              case hyprice8 =>
                intro W hSw
                obtain ⟨s_0, s_1, s_2, s_3, s_4, s_5, s_6, s_7, s_8, s_9⟩ := hSw
                go_simp
                try with_reducible rfl
              (try simp only [Act.put, List.setIfInBounds_toArray, List.set_cons_zero, List.set_cons_succ])
              refine wpAnyG_take' (i := 9) (by simp only [List.getElem?_toArray, List.getElem?_cons_succ, List.getElem?_cons_zero]; rfl) ?_
              refine ⟨by kernel_rfl, by kernel_rfl, by kernel_rfl, by kernel_rfl, by kernel_rfl, fun _ _ _ _ h => h, hS0, ?vprice9, Or.inl ⟨by rfl, ?hyprice9⟩, ?restprice9⟩
              case hyprice9 =>
                intro W hSw
                obtain ⟨s_0, s_1, s_2, s_3, s_4, s_5, s_6, s_7, s_8, s_9⟩ := hSw
                go_simp
                try with_reducible rfl
              (try simp only [Act.put, List.setIfInBounds_toArray, List.set_cons_zero, List.set_cons_succ])
              refine wpAnyG_take' (i := 12) (by simp only [List.getElem?_toArray, List.getElem?_cons_succ, List.getElem?_cons_zero]; rfl) ?_
              refine ⟨by kernel_rfl, by kernel_rfl, by kernel_rfl, by kernel_rfl, by kernel_rfl, fun _ _ _ _ h => h, hS0, ?vprice12, Or.inl ⟨by rfl, ?hyprice12⟩, ?restprice12⟩
              case hyprice12 =>
                intro W hSw
                obtain ⟨s_0, s_1, s_2, s_3, s_4, s_5, s_6, s_7, s_8, s_9⟩ := hSw
                go_simp
                try with_reducible rfl
              (try simp only [Act.put, List.setIfInBounds_toArray, List.set_cons_zero, List.set_cons_succ])
              refine wpAnyG_take' (i := 13) (by simp only [List.getElem?_toArray, List.getElem?_cons_succ, List.getElem?_cons_zero]; rfl) ?_
              refine ⟨by kernel_rfl, by kernel_rfl, by kernel_rfl, by kernel_rfl, by kernel_rfl, fun _ _ _ _ h => h, hS0, ?vprice13, Or.inl ⟨by rfl, ?hyprice13⟩, ?restprice13⟩
              case hyprice13 =>
                intro W hSw
                obtain ⟨s_0, s_1, s_2, s_3, s_4, s_5, s_6, s_7, s_8, s_9⟩ := hSw
                go_simp
                try with_reducible rfl
              (try simp only [Act.put, List.setIfInBounds_toArray, List.set_cons_zero, List.set_cons_succ])
              refine wpAnyG_one (i := 5) (o := _) (by simp only [List.getElem?_toArray, List.getElem?_cons_succ, List.getElem?_cons_zero]; rfl) (by kernel_rfl) ?_
              intro K' hK
              have HK_ := Lib.hid hK; clear hK
              rw [if_pos (by rfl)]
              go_simp
              go_at_call 63
              refine (HC1.out _ HU.out.drew).mono ?_
              rintro e' w1 ⟨rfl, g1⟩
              have gU1 : Grow U w1 := ((Grow.refl U).drew).trans g1
              have hS1 : (fun W : World => W.cell? ⟨V1.heap.size, 1, none⟩ = some v ∧ W.cell? ⟨w.heap.size, 0, none⟩ = some (.int .i64 x.tick) ∧ W.cell? ⟨w.heap.size, 1, none⟩ = some (.int .i64 x.next) ∧ W.cell? ⟨w.heap.size, 2, none⟩ = some (.int .i64 x.wallet) ∧ W.cell? ⟨w.heap.size, 3, none⟩ = some (.slice a0 x.chans.length c0) ∧ W.cell? ⟨w.heap.size, 4, none⟩ = some (.slice a1 x.htlcs.length c1) ∧ W.cell? ⟨w.heap.size, 5, none⟩ = some (.slice a2 x.circles.length c2) ∧ W.cell? ⟨R4.heap.size, 0, none⟩ = some (.int .i64 e.frm) ∧ W.cell? ⟨R4.heap.size, 1, none⟩ = some (.int .i64 e.to) ∧ W.cell? ⟨R4.heap.size, 2, none⟩ = some (.int .i64 e.ppm)) w1 := ⟨cellGrow gU1 gq1, cellGrow gU1 q0_0, cellGrow gU1 q0_1, cellGrow gU1 q0_2, cellGrow gU1 q0_3, cellGrow gU1 q0_4, cellGrow gU1 q0_5, cellGrow gU1 qc0, cellGrow gU1 qc1, cellGrow gU1 qc2⟩
              refine HK_.out _ _ (fun _ => hS1) ?_
              (try simp only [Act.put, List.setIfInBounds_toArray, List.set_cons_zero, List.set_cons_succ])
              refine wpAnyG_take' (i := 6) (by simp only [List.getElem?_toArray, List.getElem?_cons_succ, List.getElem?_cons_zero]; rfl) ?_
              refine ⟨by kernel_rfl, by kernel_rfl, by kernel_rfl, by kernel_rfl, by kernel_rfl, fun _ _ _ _ h => h, hS1, ?vprice6, Or.inl ⟨by rfl, ?hyprice6⟩, ?restprice6⟩
              case hyprice6 =>
                intro W hSw
                obtain ⟨s_0, s_1, s_2, s_3, s_4, s_5, s_6, s_7, s_8, s_9⟩ := hSw
                go_simp
                try with_reducible rfl
              (try simp only [Act.put, List.setIfInBounds_toArray, List.set_cons_zero, List.set_cons_succ])
              refine wpAnyG_one (i := 10) (o := _) (by simp only [List.getElem?_toArray, List.getElem?_cons_succ, List.getElem?_cons_zero]; rfl) (by kernel_rfl) ?_
              intro K' hK
              have HK_ := Lib.hid hK; clear hK
              rw [if_pos (by rfl)]
              go_simp
              go_at_call 63
              refine (HC2.out _ (HU.out.trans gU1)).mono ?_
              rintro e' w2 ⟨rfl, g2⟩
              have gU2 : Grow U w2 := gU1.trans g2
              have hS2 : (fun W : World => W.cell? ⟨V1.heap.size, 1, none⟩ = some v ∧ W.cell? ⟨w.heap.size, 0, none⟩ = some (.int .i64 x.tick) ∧ W.cell? ⟨w.heap.size, 1, none⟩ = some (.int .i64 x.next) ∧ W.cell? ⟨w.heap.size, 2, none⟩ = some (.int .i64 x.wallet) ∧ W.cell? ⟨w.heap.size, 3, none⟩ = some (.slice a0 x.chans.length c0) ∧ W.cell? ⟨w.heap.size, 4, none⟩ = some (.slice a1 x.htlcs.length c1) ∧ W.cell? ⟨w.heap.size, 5, none⟩ = some (.slice a2 x.circles.length c2) ∧ W.cell? ⟨R4.heap.size, 0, none⟩ = some (.int .i64 e.frm) ∧ W.cell? ⟨R4.heap.size, 1, none⟩ = some (.int .i64 e.to) ∧ W.cell? ⟨R4.heap.size, 2, none⟩ = some (.int .i64 e.ppm)) w2 := ⟨cellGrow gU2 gq1, cellGrow gU2 q0_0, cellGrow gU2 q0_1, cellGrow gU2 q0_2, cellGrow gU2 q0_3, cellGrow gU2 q0_4, cellGrow gU2 q0_5, cellGrow gU2 qc0, cellGrow gU2 qc1, cellGrow gU2 qc2⟩
              refine HK_.out _ _ (fun _ => hS2) ?_
              (try simp only [Act.put, List.setIfInBounds_toArray, List.set_cons_zero, List.set_cons_succ])
              refine wpAnyG_take' (i := 11) (by simp only [List.getElem?_toArray, List.getElem?_cons_succ, List.getElem?_cons_zero]; rfl) ?_
              refine ⟨by kernel_rfl, by kernel_rfl, by kernel_rfl, by kernel_rfl, by kernel_rfl, fun _ _ _ _ h => h, hS2, ?vprice11, Or.inl ⟨by rfl, ?hyprice11⟩, ?restprice11⟩
              case hyprice11 =>
                intro W hSw
                obtain ⟨s_0, s_1, s_2, s_3, s_4, s_5, s_6, s_7, s_8, s_9⟩ := hSw
                go_simp
                try with_reducible rfl
              (try simp only [Act.put, List.setIfInBounds_toArray, List.set_cons_zero, List.set_cons_succ])
              refine wpAnyG_take' (i := 14) (by simp only [List.getElem?_toArray, List.getElem?_cons_succ, List.getElem?_cons_zero]; rfl) ?_
              refine ⟨by kernel_rfl, by kernel_rfl, by kernel_rfl, by kernel_rfl, by kernel_rfl, fun _ _ _ _ h => h, hS2, ?vprice14, Or.inl ⟨by rfl, ?hyprice14⟩, ?restprice14⟩
              case hyprice14 =>
                intro W hSw
                obtain ⟨s_0, s_1, s_2, s_3, s_4, s_5, s_6, s_7, s_8, s_9⟩ := hSw
                go_simp
                try with_reducible rfl
              (try simp only [Act.put, List.setIfInBounds_toArray, List.set_cons_zero, List.set_cons_succ])
              refine wpAnyG_one (i := 15) (o := _) (by simp only [List.getElem?_toArray, List.getElem?_cons_succ, List.getElem?_cons_zero]; rfl) (by kernel_rfl) ?_
              intro K' hK
              have HK_ := Lib.hid hK; clear hK
              rw [if_pos (by rfl)]
              go_simp
              have hS3 : (fun W : World => W.cell? ⟨V1.heap.size, 1, none⟩ = some v ∧ W.cell? ⟨w.heap.size, 0, none⟩ = some (.int .i64 x.tick) ∧ W.cell? ⟨w.heap.size, 1, none⟩ = some (.int .i64 x.next) ∧ W.cell? ⟨w.heap.size, 2, none⟩ = some (.int .i64 x.wallet) ∧ W.cell? ⟨w.heap.size, 3, none⟩ = some (.slice a0 x.chans.length c0) ∧ W.cell? ⟨w.heap.size, 4, none⟩ = some (.slice a1 x.htlcs.length c1) ∧ W.cell? ⟨w.heap.size, 5, none⟩ = some (.slice a2 x.circles.length c2) ∧ W.cell? ⟨R4.heap.size, 0, none⟩ = some (.int .i64 e.frm) ∧ W.cell? ⟨R4.heap.size, 1, none⟩ = some (.int .i64 e.to) ∧ W.cell? ⟨R4.heap.size, 2, none⟩ = some (.int .i64 e.ppm)) (w2.alloc (.cells #[.int .i64 (p1 + 1), .int .i64 (p2 + 1), .int .i64 1000000000, .int .i64 e.ppm] 123)) := ⟨cellGrow (gU2.alloc _ _) gq1, cellGrow (gU2.alloc _ _) q0_0, cellGrow (gU2.alloc _ _) q0_1, cellGrow (gU2.alloc _ _) q0_2, cellGrow (gU2.alloc _ _) q0_3, cellGrow (gU2.alloc _ _) q0_4, cellGrow (gU2.alloc _ _) q0_5, cellGrow (gU2.alloc _ _) qc0, cellGrow (gU2.alloc _ _) qc1, cellGrow (gU2.alloc _ _) qc2⟩
              refine HK_.out _ _ (fun _ => hS3) ?_
              (try simp only [Act.put, List.setIfInBounds_toArray, List.set_cons_zero, List.set_cons_succ])
              refine wpAnyG_one (i := 16) (o := _) (by simp only [List.getElem?_toArray, List.getElem?_cons_succ, List.getElem?_cons_zero]; rfl) (by kernel_rfl) ?_
              intro K' hK
              have HK_ := Lib.hid hK; clear hK
              refine step_append_g rfl (.tmp 122) (.tmp 136) 29 rfl V1 ((HGV.out.trans gU2).alloc _ _) 123 i0 _ 4 32 Try.underlying29 hi0 hz0 hz1 hz2 rfl (by omega) v es.length (es.flatMap encEdge) rfl (own_grow HGR.out.own (gU2.alloc _ _)) ⟨w2.heap.size, 0, none⟩ 1 1 [.int .i64 (p1 + 1), .int .i64 (p2 + 1), .int .i64 1000000000, .int .i64 e.ppm] rfl rfl (news_of _ _ _ _ (by simp [hq1, hq2])) (one_edge _ _ _ _) (by simp only [maxLen]; omega) (by omega) ?_
              intro v1 w3 hown' hg' hgb hat
              obtain ⟨va, vc, rfl⟩ := own_form hown'
              (try simp only [hq1, hq2] at hgb)
              have hgu : Grow U (w2.alloc (.cells #[.int .i64 (p1 + 1), .int .i64 (p2 + 1), .int .i64 1000000000, .int .i64 e.ppm] 123)) := gU2.alloc _ _
              have s0 : w3.cell? ⟨V1.heap.size, 0, none⟩ = some (.int .i64 ((x.chans.length : Int) + 1)) := cellKept hgb HGR.out.ne (cellGrow hgu gq0)
              have s1 : w3.cell? ⟨V1.heap.size, 1, none⟩ = some v := cellKept hgb HGR.out.ne (cellGrow hgu gq1)
              have z1 : V1.heap.size < w3.heap.size := lt_of_cell s0
              have fz1 : ∀ o, w3.frozen? ⟨V1.heap.size, o, none⟩ = false := fun o => hg'.nf _ o (by omega) z1
              have HPUSH := Lib.hid (GRow.push (e := ⟨p1 + 1, p2 + 1, 1000000000, e.ppm⟩) (HGR.out.grow hgu) hown' hgb hat)
              have HGN := Lib.hid (hg'.setCell (p := ⟨V1.heap.size, 1, none⟩) (Nat.le_refl _) (.slice va (es.length + 1) vc))
              have r0 : w3.cell? ⟨w.heap.size, 0, none⟩ = some (.int .i64 x.tick) := cellGrow hg' (cell_back HGV.out (by omega) q0_0)
              have r1 : w3.cell? ⟨w.heap.size, 1, none⟩ = some (.int .i64 x.next) := cellGrow hg' (cell_back HGV.out (by omega) q0_1)
              have r2 : w3.cell? ⟨w.heap.size, 2, none⟩ = some (.int .i64 x.wallet) := cellGrow hg' (cell_back HGV.out (by omega) q0_2)
              have r3 : w3.cell? ⟨w.heap.size, 3, none⟩ = some (.slice a0 x.chans.length c0) := cellGrow hg' (cell_back HGV.out (by omega) q0_3)
              have r4 : w3.cell? ⟨w.heap.size, 4, none⟩ = some (.slice a1 x.htlcs.length c1) := cellGrow hg' (cell_back HGV.out (by omega) q0_4)
              have r5 : w3.cell? ⟨w.heap.size, 5, none⟩ = some (.slice a2 x.circles.length c2) := cellGrow hg' (cell_back HGV.out (by omega) q0_5)
              have r6 : w3.cell? ⟨R4.heap.size, 0, none⟩ = some (.int .i64 e.frm) := cellKept hgb HNE.out (cellGrow hgu qc0)
              have r7 : w3.cell? ⟨R4.heap.size, 1, none⟩ = some (.int .i64 e.to) := cellKept hgb HNE.out (cellGrow hgu qc1)
              have r8 : w3.cell? ⟨R4.heap.size, 2, none⟩ = some (.int .i64 e.ppm) := cellKept hgb HNE.out (cellGrow hgu qc2)
              clear hown' hg' hgb hat hgu
              have hS4 : (fun W : World => W.cell? ⟨V1.heap.size, 1, none⟩ = some v ∧ W.cell? ⟨w.heap.size, 0, none⟩ = some (.int .i64 x.tick) ∧ W.cell? ⟨w.heap.size, 1, none⟩ = some (.int .i64 x.next) ∧ W.cell? ⟨w.heap.size, 2, none⟩ = some (.int .i64 x.wallet) ∧ W.cell? ⟨w.heap.size, 3, none⟩ = some (.slice a0 x.chans.length c0) ∧ W.cell? ⟨w.heap.size, 4, none⟩ = some (.slice a1 x.htlcs.length c1) ∧ W.cell? ⟨w.heap.size, 5, none⟩ = some (.slice a2 x.circles.length c2) ∧ W.cell? ⟨R4.heap.size, 0, none⟩ = some (.int .i64 e.frm) ∧ W.cell? ⟨R4.heap.size, 1, none⟩ = some (.int .i64 e.to) ∧ W.cell? ⟨R4.heap.size, 2, none⟩ = some (.int .i64 e.ppm)) w3 := ⟨s1, r0, r1, r2, r3, r4, r5, r6, r7, r8⟩
              refine HK_.out _ _ (fun _ => hS4) ?_
              (try simp only [Act.put, List.setIfInBounds_toArray, List.set_cons_zero, List.set_cons_succ])
              refine wpAnyG_take' (i := 17) (by simp only [List.getElem?_toArray, List.getElem?_cons_succ, List.getElem?_cons_zero]; rfl) ?_
              refine ⟨by kernel_rfl, by kernel_rfl, by kernel_rfl, by kernel_rfl, by kernel_rfl, fun _ _ _ _ h => h, hS4, ?vprice17, Or.inl ⟨by rfl, ?hyprice17⟩, ?restprice17⟩
              case hyprice17 =>
                intro W hSw
                obtain ⟨s_0, s_1, s_2, s_3, s_4, s_5, s_6, s_7, s_8, s_9⟩ := hSw
                go_simp
                try with_reducible rfl
              (try simp only [Act.put, List.setIfInBounds_toArray, List.set_cons_zero, List.set_cons_succ])
              refine wpAnyG_one (i := 18) (o := _) (by simp only [List.getElem?_toArray, List.getElem?_cons_succ, List.getElem?_cons_zero]; rfl) (by kernel_rfl) ?_
              intro K' hK
              have HK_ := Lib.hid hK; clear hK
              rw [if_pos (by rfl)]
              go_simp
              refine HK_.out _ _ (fun h => absurd rfl h) (wpAnyG_done (by kernel_rfl) ?_ _)
              all_goals (go_wp2_with fail)
              all_goals
                go_roundg (l.length - (k + 1))
                case measure => have := HK.out; omega
                case rel => exact ⟨k + 1, (.slice va (es.length + 1) vc), by have := HK.out; omega, by go_num, by rw [HM.out, HPE.out]; first | exact HPUSH.out | (rw [← List.append_assoc, HES.out]; exact HPUSH.out), HGN.out⟩
            · obtain rfl : k = l.length := by omega
              clear hk hlt
              have hge := HYG.out HOK.out
              have HGE := Lib.hid hge; clear hge
              have hgr := HGR.out
              rw [List.take_length] at hgr
              have hpe : upK (overE lo hi) x.chans x.chans.length ++ upK (underE lo hi gain) x.chans x.chans.length ++ l.map (priceE x.chans) = planE x.chans lo hi gain l := rfl
              rw [hpe] at hgr
              clear hpe
              have SE : SlR 4 repEdge R4 V1.heap.size R4.heap.size v (planE x.chans lo hi gain l) := SlR.of_own length_encEdge hgr.own (fun y hy => ⟨rfl, (HSM.out y hy).wf⟩)
              have SE' := SE
              obtain ⟨av, cv, rfl, _, _, _⟩ := SE'
              have HSE := Lib.hid SE; clear SE
              have gq0 := hgr.box.c 0 _ rfl
              have gq1 := hgr.box.c 1 _ rfl
              have gz := hgr.box.lt
              clear hgr
              have z0 := B0.lt
              have z1 := B1.lt
              have q0_0 : R4.cell? ⟨w.heap.size, 0, none⟩ = some (.int .i64 x.tick) := B0.c 0 _ rfl
              have q0_1 : R4.cell? ⟨w.heap.size, 1, none⟩ = some (.int .i64 x.next) := B0.c 1 _ rfl
              have q0_2 : R4.cell? ⟨w.heap.size, 2, none⟩ = some (.int .i64 x.wallet) := B0.c 2 _ rfl
              have q0_3 : R4.cell? ⟨w.heap.size, 3, none⟩ = some (.slice a0 x.chans.length c0) := B0.c 3 _ rfl
              have q0_4 : R4.cell? ⟨w.heap.size, 4, none⟩ = some (.slice a1 x.htlcs.length c1) := B0.c 4 _ rfl
              have q0_5 : R4.cell? ⟨w.heap.size, 5, none⟩ = some (.slice a2 x.circles.length c2) := B0.c 5 _ rfl
              have f0 := B0.f
              have q1_0 : R4.cell? ⟨w.heap.size + 1, 0, none⟩ = some (.int .i64 0) := B1.c 0 _ rfl
              have q1_1 : R4.cell? ⟨w.heap.size + 1, 1, none⟩ = some (.slice none 0 0) := B1.c 1 _ rfl
              have f1 := B1.f
              generalize hpl : planE x.chans lo hi gain l = pe at *
              have HPL := Lib.hid hpl; clear hpl
              go_wp2_with fail
              refine bodyPost_ret (v := .tuple #[.agg #[.int .i64 ((x.chans.length : Int) + 1), .slice av pe.length cv], .bool true]) (by simp [results, Try.results32, go_sem, q1_0, q1_1]) rfl ⟨av, cv, ?_, ?_, ?_⟩
              · rw [HGE.out, HOK.out]
              · exact ((G.setCell (by show w.heap.size ≤ w.heap.size + 1; omega) _).setCell (by show w.heap.size ≤ w.heap.size + 1; omega) _)
              · rw [HGE.out]
                have h := (HSE.out.same repEdge_stable (((Same.refl _ _ _).setCell (p := ⟨w.heap.size + 1, 0, none⟩) (.inl hgw) (.int .i64 ((x.chans.length : Int) + 1))).setCell (p := ⟨w.heap.size + 1, 1, none⟩) (.inl hgw) (.slice av pe.length cv))).stable repEdge_stable (Same.refl _ _ _) (lo' := w.heap.size) (by omega) (Nat.le_refl _)
                have e : ∀ (W : World) p u q t, ((W.setCell p u).setCell q t).heap.size = W.heap.size := fun W p u q t => by rw [World.size_setCell, World.size_setCell]
                refine h.stable repEdge_stable (Same.refl _ _ _) (Nat.le_refl _) (by rw [World.size_setCell, World.size_setCell]; exact Nat.le_refl _)

end Go.Proofs.Ytbjnbhlpibadnaa
