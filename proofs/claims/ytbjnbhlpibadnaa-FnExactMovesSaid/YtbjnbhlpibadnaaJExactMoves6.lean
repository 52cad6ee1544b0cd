/- Texts of the proof of FnExactMoves, joined: Moves, HChan, HHtlc, HCircle, HBook, HPrice, HMove, MMove, MChan, MHtlc, MCircle, MBook, MPrice. -/
import Derived.Test.YtbjnbhlpibadnaaJExactMoves4
import Derived.Test.YtbjnbhlpibadnaaJExactMoves5
import Derived.Test.YtbjnbhlpibadnaaProg
import Derived.Test.YtbjnbhlpibadnaaJExactMoves1
import Derived.Test.YtbjnbhlpibadnaaJExactMoves2
/- Moves, of the program and of the reference. -/
namespace Go.Proofs.Ytbjnbhlpibadnaa
open Go.RowKit
set_option linter.unusedSimpArgs false
set_option linter.unusedVariables false

-- ---------- plain
theorem cheapIt_length {x : Graph} : ∀ (m : Nat) (f g : List Int), cheapIt x m f = (true, g) → g.length = f.length
  | 0, f, g, h => by
    unfold cheapIt at h
    split at h
    · exact absurd (congrArg Prod.fst h) (by simp)
    · exact congrArg List.length (congrArg Prod.snd h).symm
  | m + 1, f, g, h => by
    rw [cheapIt] at h
    split at h
    · split at h
      · rename_i hp
        rw [cheapIt_length m _ g h]
        unfold pushL
        rw [if_pos hp]
        unfold pushTo
        exact pushAll_length _ _ _
      · exact absurd (congrArg Prod.fst h) (by simp)
    · exact congrArg List.length (congrArg Prod.snd h).symm
theorem cheapL_length {x : Graph} (h : cheapOk x = true) : (cheapL x).length = x.edges.length := by
  unfold cheapL
  rw [if_pos h]
  unfold cheapOk at h
  simp only [Bool.and_eq_true] at h
  have := cheapIt_length 400 (List.replicate x.edges.length 0) (cheapIt x 400 (List.replicate x.edges.length 0)).2 (by rw [← h.2])
  rw [this, List.length_replicate]
def moveAt (f : List Int) (first k : Nat) (p : Price) : List Move := if 0 < f.getD (first + k) 0 then [⟨p.frm, p.to, f.getD (first + k) 0, p.ppm⟩] else []
def movesK (f : List Int) (first : Nat) (l : List Price) : Nat → List Move
  | 0 => []
  | k + 1 => movesK f first l k ++ (match l[k]? with | some p => moveAt f first k p | none => [])
theorem movesK_succ {f : List Int} {first k : Nat} {l : List Price} (h : k < l.length) : movesK f first l (k+1) = movesK f first l k ++ moveAt f first k l[k] := by
  show movesK f first l k ++ (match l[k]? with | some p => moveAt f first k p | none => []) = _
  rw [List.getElem?_eq_getElem h]
theorem moveAt_yes {f : List Int} {first k : Nat} {p : Price} {n : Int} (hn : f.getD (first + k) 0 = n) (h : 0 < n) : moveAt f first k p = [⟨p.frm, p.to, n, p.ppm⟩] := by unfold moveAt; rw [hn, if_pos h]
theorem moveAt_no {f : List Int} {first k : Nat} {p : Price} {n : Int} (hn : f.getD (first + k) 0 = n) (h : ¬ 0 < n) : moveAt f first k p = [] := by unfold moveAt; rw [hn, if_neg h]
theorem moveAt_len (f : List Int) (first k : Nat) (p : Price) : (moveAt f first k p).length ≤ 1 := by unfold moveAt; split <;> simp
theorem movesK_len {f : List Int} {first : Nat} {l : List Price} : ∀ k, (movesK f first l k).length ≤ k
  | 0 => by simp [movesK]
  | k + 1 => by
    have ih := movesK_len (f := f) (first := first) (l := l) k
    show (movesK f first l k ++ (match l[k]? with | some p => moveAt f first k p | none => [])).length ≤ _
    rw [List.length_append]
    cases h : l[k]? with
    | none => simp; omega
    | some p => have := moveAt_len f first k p; simp only []; omega
theorem movesK_wf {f : List Int} {first : Nat} {l : List Price} (hf : ∀ y ∈ f, i64 y) (hl : ∀ p ∈ l, wfPrice p) : ∀ k, ∀ m ∈ movesK f first l k, wfMove m
  | 0, m, hm => absurd hm (by simp [movesK])
  | k + 1, m, hm => by
    have hm2 : m ∈ movesK f first l k ++ (match l[k]? with | some p => moveAt f first k p | none => []) := hm
    rcases List.mem_append.1 hm2 with h | h
    · exact movesK_wf hf hl k m h
    · cases hk : l[k]? with
      | none => rw [hk] at h; exact absurd h (by simp)
      | some p =>
        rw [hk] at h
        have hp := hl p (List.mem_of_getElem? hk)
        have h2 : m ∈ moveAt f first k p := h
        unfold moveAt at h2
        split at h2
        · have e := List.mem_singleton.1 h2
          subst e
          obtain ⟨p1, p2, p3⟩ := hp
          refine ⟨p1, p2, ?_, p3⟩
          rw [List.getD_eq_getElem?_getD]
          cases hq : f[first + k]? with
          | none => simp [i64]
          | some y => exact hf y (List.mem_of_getElem? hq)
        · exact absurd h2 (by simp)
def movesOk (x : Book) (lo hi gain : Int) (l : List Price) : Bool := planOk x lo hi gain l && cheapOk (planG x lo hi gain l)
def movesL (x : Book) (lo hi gain : Int) (l : List Price) : List Move := if movesOk x lo hi gain l = true then movesK (cheapL (planG x lo hi gain l)) ((cheapL (planG x lo hi gain l)).length - l.length) l l.length else []
theorem movesL_len (x : Book) (lo hi gain : Int) (l : List Price) : (movesL x lo hi gain l).length ≤ 20 := by
  unfold movesL
  split
  · rename_i h
    unfold movesOk at h
    simp only [Bool.and_eq_true] at h
    obtain ⟨_, h2, _⟩ := planOk_facts h.1
    have := movesK_len (f := cheapL (planG x lo hi gain l)) (first := (cheapL (planG x lo hi gain l)).length - l.length) (l := l) l.length
    omega
  · simp
theorem moves_first {x : Book} {lo hi gain : Int} {l : List Price} (h1 : planOk x lo hi gain l = true) (h2 : cheapOk (planG x lo hi gain l) = true) : ∃ first, (cheapL (planG x lo hi gain l)).length = first + l.length ∧ (planG x lo hi gain l).edges.length = first + l.length := by
  rw [cheapL_length h2]
  have e : (planG x lo hi gain l).edges = planE x.chans lo hi gain l := by unfold planG; rw [if_pos h1]
  rw [e]
  unfold planE
  rw [List.length_append, List.length_map]
  exact ⟨_, rfl, rfl⟩
theorem length_encMove (x : Move) : (encMove x).length = 4 := rfl
theorem infoMove' : (Try.prog.info? 134).map (fun i => (i.zero, i.size, i.bytes)) = some (some (.agg #[.int .i64 0, .int .i64 0, .int .i64 0, .int .i64 0]), 4, 32) := by kernel_rfl

set_option maxHeartbeats 8000000 in
set_option maxRecDepth 100000 in
theorem impl_Moves_c (x : Book) (a0 : Option Addr) (c0 : Nat) (a1 : Option Addr) (c1 : Nat) (a2 : Option Addr) (c2 : Nat) (lo hi gain : Int) (l : List Price) (a3 : Option Addr) (c3 : Nat) (w : World) (h0 : SlR 7 repChan w 0 w.heap.size (.slice a0 x.chans.length c0) x.chans) (h1 : SlR 7 repHtlc w 0 w.heap.size (.slice a1 x.htlcs.length c1) x.htlcs) (h2 : SlR 5 repCircle w 0 w.heap.size (.slice a2 x.circles.length c2) x.circles) (h3 : SlR 3 repPrice w 0 w.heap.size (.slice a3 l.length c3) l) (hn : x.chans.length ≤ 1048576) (hl : l.length ≤ 1048576) :
    Calls Try.prog 40 #[.agg #[.int .i64 x.tick, .int .i64 x.next, .int .i64 x.wallet, .slice a0 x.chans.length c0, .slice a1 x.htlcs.length c1, .slice a2 x.circles.length c2], .int .i64 lo, .int .i64 hi, .int .i64 gain, .slice a3 l.length c3] w fun e w' => ∃ a c, e = .returned (.tuple #[.slice a (movesL x lo hi gain l).length c, .bool (movesOk x lo hi gain l)]) ∧ Grow w w' ∧ SlR 4 repMove w' w.heap.size w'.heap.size (.slice a (movesL x lo hi gain l).length c) (movesL x lo hi gain l) := by
  obtain ⟨i0, hi0, hz0, hz1, hz2⟩ := info_parts infoMove'
  have hwf := h3.wfAll (P := wfPrice) (fun _ _ hr => hr.2)
  have HWF := Lib.hid hwf; clear hwf
  have H0 := Lib.hid h0; have H1 := Lib.hid h1; have H2 := Lib.hid h2; have H3 := Lib.hid h3
  clear h0 h1 h2 h3
  have HP : Hid (movesOk x lo hi gain l = (planOk x lo hi gain l && cheapOk (planG x lo hi gain l))) := rfl
  have HNL : Hid (movesOk x lo hi gain l = false → movesL x lo hi gain l = []) := fun h => if_neg (by rw [h]; simp)
  have HYL : Hid (movesOk x lo hi gain l = true → movesL x lo hi gain l = movesK (cheapL (planG x lo hi gain l)) ((cheapL (planG x lo hi gain l)).length - l.length) l l.length) := fun h => if_pos h
  have HF1 : Hid (planOk x lo hi gain l = true → cheapOk (planG x lo hi gain l) = true → ∃ first, (cheapL (planG x lo hi gain l)).length = first + l.length ∧ (planG x lo hi gain l).edges.length = first + l.length) := moves_first
  have HF2 : Hid (planOk x lo hi gain l = true → l.length ≤ 20) := fun h => (planOk_facts h).2.1
  have hg60 := planG_len x lo hi gain l
  go_enter Try.func40, Try.ntmps40
  go_wp2_with fail
  refine (impl_PlanGraph_c x _ _ _ _ _ _ lo hi gain l _ _ _ (H0.out.grow' repChan_stable (Grow.below ((Grow.refl w).alloc _ _))) (H1.out.grow' repHtlc_stable (Grow.below ((Grow.refl w).alloc _ _))) (H2.out.grow' repCircle_stable (Grow.below ((Grow.refl w).alloc _ _))) (H3.out.grow' repPrice_stable (Grow.below ((Grow.refl w).alloc _ _))) hn hl).mono ?_
  rintro e V1 ⟨aG, cG, rfl, gs, SG⟩
  have ys := Grow.size gs
  simp only [World.size_setCell, World.size_alloc] at ys
  have B0 : Box V1 (w.heap.size) [.int .i64 x.tick, .int .i64 x.next, .int .i64 x.wallet, .slice a0 x.chans.length c0, .slice a1 x.htlcs.length c1, .slice a2 x.circles.length c2] := Box.grow (Box.newAt (by simp) _ _) gs
  have G : Grow w V1 := Grow.trans ((Grow.refl w).alloc _ _) gs
  clear gs
  have z0 := B0.lt
  have q0_0 : V1.cell? ⟨w.heap.size, 0, none⟩ = some (.int .i64 x.tick) := B0.c 0 _ rfl
  have q0_1 : V1.cell? ⟨w.heap.size, 1, none⟩ = some (.int .i64 x.next) := B0.c 1 _ rfl
  have q0_2 : V1.cell? ⟨w.heap.size, 2, none⟩ = some (.int .i64 x.wallet) := B0.c 2 _ rfl
  have q0_3 : V1.cell? ⟨w.heap.size, 3, none⟩ = some (.slice a0 x.chans.length c0) := B0.c 3 _ rfl
  have q0_4 : V1.cell? ⟨w.heap.size, 4, none⟩ = some (.slice a1 x.htlcs.length c1) := B0.c 4 _ rfl
  have q0_5 : V1.cell? ⟨w.heap.size, 5, none⟩ = some (.slice a2 x.circles.length c2) := B0.c 5 _ rfl
  have f0 := B0.f
  replace SG := SG.all repEdge_stable (Nat.le_refl _)
  generalize hpg : planG x lo hi gain l = pg at *
  have HPG := Lib.hid hpg; clear hpg
  have HSG := Lib.hid SG; clear SG
  go_wp2_with fail
  refine (impl_Cheapest_c pg _ _ _ (HSG.out.grow' repEdge_stable (Grow.below ((Grow.refl _).alloc _ _)))).mono ?_
  rintro e V2 ⟨aF, cF, rfl, gs, SF⟩
  clear z0 q0_0 q0_1 q0_2 q0_3 q0_4 q0_5 f0
  have ys := Grow.size gs
  simp only [World.size_setCell, World.size_alloc] at ys
  replace B0 : Box V2 (w.heap.size) [.int .i64 x.tick, .int .i64 x.next, .int .i64 x.wallet, .slice a0 x.chans.length c0, .slice a1 x.htlcs.length c1, .slice a2 x.circles.length c2] := Box.grow (B0.alloc _ _) gs
  have B1 : Box V2 (V1.heap.size) [.int .i64 pg.n, .slice aG pg.edges.length cG] := Box.grow (Box.newAt (by simp) _ _) gs
  replace G : Grow w V2 := Grow.trans (G.alloc _ _) gs
  clear gs
  have z0 := B0.lt
  have z1 := B1.lt
  have q0_0 : V2.cell? ⟨w.heap.size, 0, none⟩ = some (.int .i64 x.tick) := B0.c 0 _ rfl
  have q0_1 : V2.cell? ⟨w.heap.size, 1, none⟩ = some (.int .i64 x.next) := B0.c 1 _ rfl
  have q0_2 : V2.cell? ⟨w.heap.size, 2, none⟩ = some (.int .i64 x.wallet) := B0.c 2 _ rfl
  have q0_3 : V2.cell? ⟨w.heap.size, 3, none⟩ = some (.slice a0 x.chans.length c0) := B0.c 3 _ rfl
  have q0_4 : V2.cell? ⟨w.heap.size, 4, none⟩ = some (.slice a1 x.htlcs.length c1) := B0.c 4 _ rfl
  have q0_5 : V2.cell? ⟨w.heap.size, 5, none⟩ = some (.slice a2 x.circles.length c2) := B0.c 5 _ rfl
  have f0 := B0.f
  have q1_0 : V2.cell? ⟨V1.heap.size, 0, none⟩ = some (.int .i64 pg.n) := B1.c 0 _ rfl
  have q1_1 : V2.cell? ⟨V1.heap.size, 1, none⟩ = some (.slice aG pg.edges.length cG) := B1.c 1 _ rfl
  have f1 := B1.f
  replace SF := SF.all repInt_stable (Nat.le_refl _)
  have HSF := Lib.hid SF; clear SF
  cases hone : planOk x lo hi gain l
  · have HB : Hid (movesOk x lo hi gain l = false) := by
      show _ = _
      rw [HP.out, hone]; simp
    have HL := Lib.hid (HNL.out HB.out)
    go_wp2_with fail
    go_ret2
    exact ⟨none, 0, by rw [HL.out, HB.out]; rfl, G, by rw [HL.out]; exact SlR.nil⟩
  have HONE := Lib.hid hone
  cases htwo : cheapOk pg
  · have HB : Hid (movesOk x lo hi gain l = false) := by
      show _ = _
      rw [HP.out, hone, htwo]; simp
    have HL := Lib.hid (HNL.out HB.out)
    go_wp2_with fail
    go_ret2
    exact ⟨none, 0, by rw [HL.out, HB.out]; rfl, G, by rw [HL.out]; exact SlR.nil⟩
  have HB : Hid (movesOk x lo hi gain l = true) := by
    show _ = _
    rw [HP.out, hone, htwo]; rfl
  obtain ⟨first, hfi, hfe⟩ := HF1.out hone htwo
  have hl20 := HF2.out hone
  have HML := HYL.out HB.out
  generalize hF : cheapL pg = F at *
  have HFD := Lib.hid hF; clear hF
  rw [hfi, Nat.add_sub_cancel] at HML
  have HML2 := Lib.hid HML; clear HML
  have hf60 : first + l.length ≤ 60 := by omega
  have hiF := ints_i64 HSF.out
  have HIF := Lib.hid hiF; clear hiF
  rw [hfi]
  have HFI := Lib.hid hfi; have HFE := Lib.hid hfe; clear hfi hfe
  have HCF : first + l.length ≤ cF := by have := HSF.out.cap; rw [HFI.out] at this; exact this
  have HG := Lib.hid G; have HB0 := Lib.hid B0; have HB1 := Lib.hid B1
  go_wp2_with fail
  clear z0 z1 q0_0 q0_1 q0_2 q0_3 q0_4 q0_5 f0 q1_0 q1_1 f1
  clear G B0 B1
  go_loopg [16, 48] l.length (fun g v i wr => ∃ (k : Nat), k + g = l.length ∧ i = .int .i64 k ∧ Grow V2 wr ∧ wr.ownsRow V2.heap.size 134 4 v (movesK F first l k).length ((movesK F first l k).flatMap encMove))
  case atStart => exact ⟨0, by simp, rfl, Grow.refl _, World.ownsRow_nil _ _ _ _⟩
  case round =>
    obtain ⟨k, hk, rfl, hg, hown⟩ := hrel
    have HOWN := Lib.hid hown; clear hown
    obtain ⟨R9, rfl⟩ : ∃ V, V = wr := ⟨_, rfl⟩
    have HGV := Lib.hid hg
    have G := HG.out.trans hg
    have B0 := HB0.out.grow hg
    have B1 := HB1.out.grow hg
    by_cases hlt : k < l.length
    · have HK := Lib.hid hk; clear hk
      have HM : Hid ((movesK F first l (k+1)) = (movesK F first l k) ++ moveAt F first k l[k]) := movesK_succ hlt
      have HL : Hid ((movesK F first l k).length ≤ 20) := by
        show _ ≤ _
        have := movesK_len (f := F) (first := first) (l := l) k; omega
      have z0 := B0.lt
      have z1 := B1.lt
      have q0_0 : R9.cell? ⟨w.heap.size, 0, none⟩ = some (.int .i64 x.tick) := B0.c 0 _ rfl
      have q0_1 : R9.cell? ⟨w.heap.size, 1, none⟩ = some (.int .i64 x.next) := B0.c 1 _ rfl
      have q0_2 : R9.cell? ⟨w.heap.size, 2, none⟩ = some (.int .i64 x.wallet) := B0.c 2 _ rfl
      have q0_3 : R9.cell? ⟨w.heap.size, 3, none⟩ = some (.slice a0 x.chans.length c0) := B0.c 3 _ rfl
      have q0_4 : R9.cell? ⟨w.heap.size, 4, none⟩ = some (.slice a1 x.htlcs.length c1) := B0.c 4 _ rfl
      have q0_5 : R9.cell? ⟨w.heap.size, 5, none⟩ = some (.slice a2 x.circles.length c2) := B0.c 5 _ rfl
      have f0 := B0.f
      have q1_0 : R9.cell? ⟨V1.heap.size, 0, none⟩ = some (.int .i64 pg.n) := B1.c 0 _ rfl
      have q1_1 : R9.cell? ⟨V1.heap.size, 1, none⟩ = some (.slice aG pg.edges.length cG) := B1.c 1 _ rfl
      have f1 := B1.f
      obtain ⟨b_e, off_e, ha_e, hb1_e, hb2_e, hel_e⟩ := H3.out.elems k hlt
      obtain ⟨ee0, ee1, ee2, -⟩ := Price.atCell (hel_e.same repPrice_stable (G.same (Nat.le_refl _)) hb1_e hb2_e) k hlt
      subst ha_e
      clear hel_e
      generalize l[k] = e at *
      have hfk : first + k < F.length := by have := HFI.out; omega
      obtain ⟨b_n, off_n, ha_n, hb1_n, hb2_n, hel_n⟩ := HSF.out.elems (first + k) hfk
      have ST := (HSF.out.same repInt_stable (Same.refl _ _ _))
      obtain ⟨en0, -⟩ := Int.atCell (hel_n.same repInt_stable ((hg).same (Nat.le_refl _)) hb1_n hb2_n) (first + k) hfk
      subst ha_n
      clear hel_n ST
      have HGD : Hid (F.getD (first + k) 0 = F[first + k]) := by
        show _ = _
        rw [List.getD_eq_getElem?_getD, List.getElem?_eq_getElem hfk]; rfl
      generalize F[first + k] = n at *
      have hvs := hg.size
      have hzn : b_n < R9.heap.size := by omega
      have qn1 : R9.heap.size ≠ b_n := by omega
      have qn2 : b_n ≠ R9.heap.size := by omega
      clear hg hfk
      generalize hks : (movesK F first l k) = ks at *
      have HKS := Lib.hid hks; clear hks
      have hkb : (k : Int) < (l.length : Int) := by omega
      have hfb : (first : Int) + (l.length : Int) ≤ 60 := by omega
      have hcb : (first : Int) + (l.length : Int) ≤ (cF : Int) := by omega
      by_cases t : 0 < n
      · have HT := Lib.hid (moveAt_yes (p := e) HGD.out t)
        have T : decide (0 < n) = true := by simpa using t
        go_wp2_with (at_builtin
                     obtain ⟨U, hU⟩ : ∃ U, U = R9.alloc (.cells #[.int .i64 e.frm, .int .i64 e.to, .int .i64 e.ppm] 125) := ⟨_, rfl⟩
                     have gU : Grow R9 U := by rw [hU]; exact (Grow.refl _).alloc _ _
                     have hUs : U.heap.size = R9.heap.size + 1 := by rw [hU]; simp
                     rw [← hU, ← hUs]
                     clear hU
                     go_loud (refine wpList_append_g rfl (.tmp 61) (.tmp 70) 77 rfl V2 ((HGV.out.trans gU).alloc _ _) 134 i0 _ 4 32 Try.underlying77 hi0 hz0 hz1 hz2 rfl (by omega) _ ks.length (ks.flatMap encMove) rfl (own_grow HOWN.out (gU.alloc _ _)) ⟨U.heap.size, 0, none⟩ 1 1 [.int .i64 e.frm, .int .i64 e.to, .int .i64 n, .int .i64 e.ppm] rfl rfl (news_of _ _ _ _ rfl) (one_edge _ _ _ _) (by have := HL.out; simp only [maxLen]; omega) (by have := HL.out; omega) ?_)
                     intro v' w' hown' hg' hgb hat
                     have HOWN' := Lib.hid (own_snocF (f := encMove) (y := ⟨e.frm, e.to, n, e.ppm⟩) hown'); have HG' := Lib.hid hg'; clear hown' hg' hgb hat)
        go_roundg (l.length - (k + 1))
        case measure => have := HK.out; omega
        case rel => exact ⟨k + 1, by have := HK.out; omega, by go_num, HG'.out, by rw [HM.out, HT.out]; exact HOWN'.out⟩
      · have HT := Lib.hid (moveAt_no (p := e) HGD.out t)
        have T : decide (0 < n) = false := by simpa using t
        go_wp2_with fail
        go_roundg (l.length - (k + 1))
        case measure => have := HK.out; omega
        case rel => exact ⟨k + 1, by have := HK.out; omega, by go_num, HGV.out.alloc _ _, by rw [HM.out, HT.out, List.append_nil]; exact own_grow HOWN.out ((Grow.refl _).alloc _ _)⟩
    · have hke : k = l.length := by omega
      have hown := HOWN.out
      rw [hke, ← HML2.out] at hown
      have hsl : SlR 4 repMove R9 V2.heap.size R9.heap.size _ (movesL x lo hi gain l) := SlR.of_own length_encMove hown (fun y hy => ⟨rfl, by rw [HML2.out] at hy; exact movesK_wf HIF.out HWF.out _ y hy⟩)
      have hsl := hsl.stable repMove_stable (Same.refl _ _ _) (lo' := w.heap.size) (by have := HG.out.size; omega) (Nat.le_refl _)
      have hsl' := hsl
      obtain ⟨av, cv, rfl, _, _, _⟩ := hsl'
      have HSL := Lib.hid hsl
      clear hke hown HOWN hsl HWF
      have z0 := B0.lt
      have z1 := B1.lt
      have q0_0 : R9.cell? ⟨w.heap.size, 0, none⟩ = some (.int .i64 x.tick) := B0.c 0 _ rfl
      have q0_1 : R9.cell? ⟨w.heap.size, 1, none⟩ = some (.int .i64 x.next) := B0.c 1 _ rfl
      have q0_2 : R9.cell? ⟨w.heap.size, 2, none⟩ = some (.int .i64 x.wallet) := B0.c 2 _ rfl
      have q0_3 : R9.cell? ⟨w.heap.size, 3, none⟩ = some (.slice a0 x.chans.length c0) := B0.c 3 _ rfl
      have q0_4 : R9.cell? ⟨w.heap.size, 4, none⟩ = some (.slice a1 x.htlcs.length c1) := B0.c 4 _ rfl
      have q0_5 : R9.cell? ⟨w.heap.size, 5, none⟩ = some (.slice a2 x.circles.length c2) := B0.c 5 _ rfl
      have f0 := B0.f
      have q1_0 : R9.cell? ⟨V1.heap.size, 0, none⟩ = some (.int .i64 pg.n) := B1.c 0 _ rfl
      have q1_1 : R9.cell? ⟨V1.heap.size, 1, none⟩ = some (.slice aG pg.edges.length cG) := B1.c 1 _ rfl
      have f1 := B1.f
      go_wp2_with fail
      go_ret2
      exact ⟨av, cv, by rw [HB.out]; rfl, G, HSL.out⟩

set_option maxHeartbeats 8000000 in
set_option maxRecDepth 100000 in
theorem spec_Moves_c (x : Book) (a0 : Option Addr) (c0 : Nat) (a1 : Option Addr) (c1 : Nat) (a2 : Option Addr) (c2 : Nat) (lo hi gain : Int) (l : List Price) (a3 : Option Addr) (c3 : Nat) (w : World) (h0 : SlR 7 repChan w 0 w.heap.size (.slice a0 x.chans.length c0) x.chans) (h1 : SlR 7 repHtlc w 0 w.heap.size (.slice a1 x.htlcs.length c1) x.htlcs) (h2 : SlR 5 repCircle w 0 w.heap.size (.slice a2 x.circles.length c2) x.circles) (h3 : SlR 3 repPrice w 0 w.heap.size (.slice a3 l.length c3) l) (hn : x.chans.length ≤ 1048576) (hl : l.length ≤ 1048576) :
    Calls Try.prog 39 #[.agg #[.int .i64 x.tick, .int .i64 x.next, .int .i64 x.wallet, .slice a0 x.chans.length c0, .slice a1 x.htlcs.length c1, .slice a2 x.circles.length c2], .int .i64 lo, .int .i64 hi, .int .i64 gain, .slice a3 l.length c3] w fun e w' => ∃ a c, e = .returned (.tuple #[.slice a (movesL x lo hi gain l).length c, .bool (movesOk x lo hi gain l)]) ∧ Grow w w' ∧ SlR 4 repMove w' w.heap.size w'.heap.size (.slice a (movesL x lo hi gain l).length c) (movesL x lo hi gain l) := by
  obtain ⟨i0, hi0, hz0, hz1, hz2⟩ := info_parts infoMove'
  have hwf := h3.wfAll (P := wfPrice) (fun _ _ hr => hr.2)
  have HWF := Lib.hid hwf; clear hwf
  have H0 := Lib.hid h0; have H1 := Lib.hid h1; have H2 := Lib.hid h2; have H3 := Lib.hid h3
  clear h0 h1 h2 h3
  have HP : Hid (movesOk x lo hi gain l = (planOk x lo hi gain l && cheapOk (planG x lo hi gain l))) := rfl
  have HNL : Hid (movesOk x lo hi gain l = false → movesL x lo hi gain l = []) := fun h => if_neg (by rw [h]; simp)
  have HYL : Hid (movesOk x lo hi gain l = true → movesL x lo hi gain l = movesK (cheapL (planG x lo hi gain l)) ((cheapL (planG x lo hi gain l)).length - l.length) l l.length) := fun h => if_pos h
  have HF1 : Hid (planOk x lo hi gain l = true → cheapOk (planG x lo hi gain l) = true → ∃ first, (cheapL (planG x lo hi gain l)).length = first + l.length ∧ (planG x lo hi gain l).edges.length = first + l.length) := moves_first
  have HF2 : Hid (planOk x lo hi gain l = true → l.length ≤ 20) := fun h => (planOk_facts h).2.1
  have hg60 := planG_len x lo hi gain l
  go_enter Try.func39, Try.ntmps39
  go_wp2_with fail
  refine (spec_PlanGraph_c x _ _ _ _ _ _ lo hi gain l _ _ _ (H0.out.grow' repChan_stable (Grow.below ((Grow.refl w).alloc _ _))) (H1.out.grow' repHtlc_stable (Grow.below ((Grow.refl w).alloc _ _))) (H2.out.grow' repCircle_stable (Grow.below ((Grow.refl w).alloc _ _))) (H3.out.grow' repPrice_stable (Grow.below ((Grow.refl w).alloc _ _))) hn hl).mono ?_
  rintro e V1 ⟨aG, cG, rfl, gs, SG⟩
  have ys := Grow.size gs
  simp only [World.size_setCell, World.size_alloc] at ys
  have B0 : Box V1 (w.heap.size) [.int .i64 x.tick, .int .i64 x.next, .int .i64 x.wallet, .slice a0 x.chans.length c0, .slice a1 x.htlcs.length c1, .slice a2 x.circles.length c2] := Box.grow (Box.newAt (by simp) _ _) gs
  have G : Grow w V1 := Grow.trans ((Grow.refl w).alloc _ _) gs
  clear gs
  have z0 := B0.lt
  have q0_0 : V1.cell? ⟨w.heap.size, 0, none⟩ = some (.int .i64 x.tick) := B0.c 0 _ rfl
  have q0_1 : V1.cell? ⟨w.heap.size, 1, none⟩ = some (.int .i64 x.next) := B0.c 1 _ rfl
  have q0_2 : V1.cell? ⟨w.heap.size, 2, none⟩ = some (.int .i64 x.wallet) := B0.c 2 _ rfl
  have q0_3 : V1.cell? ⟨w.heap.size, 3, none⟩ = some (.slice a0 x.chans.length c0) := B0.c 3 _ rfl
  have q0_4 : V1.cell? ⟨w.heap.size, 4, none⟩ = some (.slice a1 x.htlcs.length c1) := B0.c 4 _ rfl
  have q0_5 : V1.cell? ⟨w.heap.size, 5, none⟩ = some (.slice a2 x.circles.length c2) := B0.c 5 _ rfl
  have f0 := B0.f
  replace SG := SG.all repEdge_stable (Nat.le_refl _)
  generalize hpg : planG x lo hi gain l = pg at *
  have HPG := Lib.hid hpg; clear hpg
  have HSG := Lib.hid SG; clear SG
  cases hone : planOk x lo hi gain l
  · have HB : Hid (movesOk x lo hi gain l = false) := by
      show _ = _
      rw [HP.out, hone]; simp
    have HL := Lib.hid (HNL.out HB.out)
    go_wp2_with fail
    go_ret2
    exact ⟨none, 0, by rw [HL.out, HB.out]; rfl, (G.alloc _ _), by rw [HL.out]; exact SlR.nil⟩
  have HONE := Lib.hid hone
  go_wp2_with fail
  refine (spec_Cheapest_c pg _ _ _ (HSG.out.grow' repEdge_stable (Grow.below ((Grow.refl _).alloc _ _)))).mono ?_
  rintro e V2 ⟨aF, cF, rfl, gs, SF⟩
  clear z0 q0_0 q0_1 q0_2 q0_3 q0_4 q0_5 f0
  have ys := Grow.size gs
  simp only [World.size_setCell, World.size_alloc] at ys
  replace B0 : Box V2 (w.heap.size) [.int .i64 x.tick, .int .i64 x.next, .int .i64 x.wallet, .slice a0 x.chans.length c0, .slice a1 x.htlcs.length c1, .slice a2 x.circles.length c2] := Box.grow (B0.alloc _ _) gs
  have B1 : Box V2 (V1.heap.size) [.int .i64 pg.n, .slice aG pg.edges.length cG] := Box.grow (Box.newAt (by simp) _ _) gs
  replace G : Grow w V2 := Grow.trans (G.alloc _ _) gs
  clear gs
  have z0 := B0.lt
  have z1 := B1.lt
  have q0_0 : V2.cell? ⟨w.heap.size, 0, none⟩ = some (.int .i64 x.tick) := B0.c 0 _ rfl
  have q0_1 : V2.cell? ⟨w.heap.size, 1, none⟩ = some (.int .i64 x.next) := B0.c 1 _ rfl
  have q0_2 : V2.cell? ⟨w.heap.size, 2, none⟩ = some (.int .i64 x.wallet) := B0.c 2 _ rfl
  have q0_3 : V2.cell? ⟨w.heap.size, 3, none⟩ = some (.slice a0 x.chans.length c0) := B0.c 3 _ rfl
  have q0_4 : V2.cell? ⟨w.heap.size, 4, none⟩ = some (.slice a1 x.htlcs.length c1) := B0.c 4 _ rfl
  have q0_5 : V2.cell? ⟨w.heap.size, 5, none⟩ = some (.slice a2 x.circles.length c2) := B0.c 5 _ rfl
  have f0 := B0.f
  have q1_0 : V2.cell? ⟨V1.heap.size, 0, none⟩ = some (.int .i64 pg.n) := B1.c 0 _ rfl
  have q1_1 : V2.cell? ⟨V1.heap.size, 1, none⟩ = some (.slice aG pg.edges.length cG) := B1.c 1 _ rfl
  have f1 := B1.f
  replace SF := SF.all repInt_stable (Nat.le_refl _)
  have HSF := Lib.hid SF; clear SF
  cases htwo : cheapOk pg
  · have HB : Hid (movesOk x lo hi gain l = false) := by
      show _ = _
      rw [HP.out, hone, htwo]; simp
    have HL := Lib.hid (HNL.out HB.out)
    go_wp2_with fail
    go_ret2
    exact ⟨none, 0, by rw [HL.out, HB.out]; rfl, G, by rw [HL.out]; exact SlR.nil⟩
  have HB : Hid (movesOk x lo hi gain l = true) := by
    show _ = _
    rw [HP.out, hone, htwo]; rfl
  obtain ⟨first, hfi, hfe⟩ := HF1.out hone htwo
  have hl20 := HF2.out hone
  have HML := HYL.out HB.out
  generalize hF : cheapL pg = F at *
  have HFD := Lib.hid hF; clear hF
  rw [hfi, Nat.add_sub_cancel] at HML
  have HML2 := Lib.hid HML; clear HML
  have hf60 : first + l.length ≤ 60 := by omega
  have hiF := ints_i64 HSF.out
  have HIF := Lib.hid hiF; clear hiF
  rw [hfi]
  have HFI := Lib.hid hfi; have HFE := Lib.hid hfe; clear hfi hfe
  have HCF : first + l.length ≤ cF := by have := HSF.out.cap; rw [HFI.out] at this; exact this
  clear z0 z1 q0_0 q0_1 q0_2 q0_3 q0_4 q0_5 f0 q1_0 q1_1 f1
  rw [HFE.out] at B1
  have z0 := B0.lt
  have z1 := B1.lt
  have q0_0 : V2.cell? ⟨w.heap.size, 0, none⟩ = some (.int .i64 x.tick) := B0.c 0 _ rfl
  have q0_1 : V2.cell? ⟨w.heap.size, 1, none⟩ = some (.int .i64 x.next) := B0.c 1 _ rfl
  have q0_2 : V2.cell? ⟨w.heap.size, 2, none⟩ = some (.int .i64 x.wallet) := B0.c 2 _ rfl
  have q0_3 : V2.cell? ⟨w.heap.size, 3, none⟩ = some (.slice a0 x.chans.length c0) := B0.c 3 _ rfl
  have q0_4 : V2.cell? ⟨w.heap.size, 4, none⟩ = some (.slice a1 x.htlcs.length c1) := B0.c 4 _ rfl
  have q0_5 : V2.cell? ⟨w.heap.size, 5, none⟩ = some (.slice a2 x.circles.length c2) := B0.c 5 _ rfl
  have f0 := B0.f
  have q1_0 : V2.cell? ⟨V1.heap.size, 0, none⟩ = some (.int .i64 pg.n) := B1.c 0 _ rfl
  have q1_1 : V2.cell? ⟨V1.heap.size, 1, none⟩ = some (.slice aG (first + l.length) cG) := B1.c 1 _ rfl
  have f1 := B1.f
  have HG := Lib.hid G; have HB0 := Lib.hid B0; have HB1 := Lib.hid B1
  go_wp2_with fail
  obtain ⟨V3, hV⟩ : ∃ V, V = (V2.alloc (.cells #[] 134)) := ⟨_, rfl⟩
  have G' : Grow w V3 := by rw [hV]; exact (G.alloc _ _)
  have gs : Grow V2 V3 := by rw [hV]; exact ((Grow.refl V2).alloc _ _)
  replace B0 : Box V3 (w.heap.size) [.int .i64 x.tick, .int .i64 x.next, .int .i64 x.wallet, .slice a0 x.chans.length c0, .slice a1 x.htlcs.length c1, .slice a2 x.circles.length c2] := by rw [hV]; exact (B0.alloc _ _)
  replace B1 : Box V3 (V1.heap.size) [.int .i64 pg.n, .slice aG (first + l.length) cG] := by rw [hV]; exact (B1.alloc _ _)
  have B2 : Box V3 (V2.heap.size) [] := by rw [hV]; exact Box.newAt (by simp) _ _
  have ys : V3.heap.size = V2.heap.size + 1 := by rw [hV]; simp
  replace G := G'
  clear G'
  have OWN0 : V3.ownsRow V2.heap.size 134 4 (.slice (some ⟨V2.heap.size, 0, none⟩) 0 0) 0 [] := by
    have hm := World.ownsRow_made (base := V2.heap.size) (e := 134) (size := 4) V2 #[] 0 (Nat.le_refl _) (by simp [maxLen]) (by simp)
    rw [hV]
    simpa using hm
  have GW : Grow V2 V3 := by rw [hV]; exact (Grow.refl _).alloc _ _
  rw [← hV]
  clear hV
  clear gs
  clear z0 z1 q0_0 q0_1 q0_2 q0_3 q0_4 q0_5 f0 q1_0 q1_1 f1
  have z0 := B0.lt
  have z1 := B1.lt
  have z2 := B2.lt
  have q0_0 : V3.cell? ⟨w.heap.size, 0, none⟩ = some (.int .i64 x.tick) := B0.c 0 _ rfl
  have q0_1 : V3.cell? ⟨w.heap.size, 1, none⟩ = some (.int .i64 x.next) := B0.c 1 _ rfl
  have q0_2 : V3.cell? ⟨w.heap.size, 2, none⟩ = some (.int .i64 x.wallet) := B0.c 2 _ rfl
  have q0_3 : V3.cell? ⟨w.heap.size, 3, none⟩ = some (.slice a0 x.chans.length c0) := B0.c 3 _ rfl
  have q0_4 : V3.cell? ⟨w.heap.size, 4, none⟩ = some (.slice a1 x.htlcs.length c1) := B0.c 4 _ rfl
  have q0_5 : V3.cell? ⟨w.heap.size, 5, none⟩ = some (.slice a2 x.circles.length c2) := B0.c 5 _ rfl
  have f0 := B0.f
  have q1_0 : V3.cell? ⟨V1.heap.size, 0, none⟩ = some (.int .i64 pg.n) := B1.c 0 _ rfl
  have q1_1 : V3.cell? ⟨V1.heap.size, 1, none⟩ = some (.slice aG (first + l.length) cG) := B1.c 1 _ rfl
  have f1 := B1.f
  have f2 := B2.f
  clear z0 z1 z2 q0_0 q0_1 q0_2 q0_3 q0_4 q0_5 f0 q1_0 q1_1 f1 f2
  clear G B0 B1
  go_loopg [16, 41] l.length (fun g v i wr => ∃ (k : Nat), k + g = l.length ∧ i = .int .i64 k ∧ Grow V2 wr ∧ wr.ownsRow V2.heap.size 134 4 v (movesK F first l k).length ((movesK F first l k).flatMap encMove))
  case atStart => exact ⟨0, by simp, rfl, GW, OWN0⟩
  case round =>
    clear GW OWN0
    obtain ⟨k, hk, rfl, hg, hown⟩ := hrel
    have HOWN := Lib.hid hown; clear hown
    obtain ⟨R9, rfl⟩ : ∃ V, V = wr := ⟨_, rfl⟩
    have HGV := Lib.hid hg
    have G := HG.out.trans hg
    have B0 := HB0.out.grow hg
    have B1 := HB1.out.grow hg
    by_cases hlt : k < l.length
    · have HK := Lib.hid hk; clear hk
      have HM : Hid ((movesK F first l (k+1)) = (movesK F first l k) ++ moveAt F first k l[k]) := movesK_succ hlt
      have HL : Hid ((movesK F first l k).length ≤ 20) := by
        show _ ≤ _
        have := movesK_len (f := F) (first := first) (l := l) k; omega
      have z0 := B0.lt
      have z1 := B1.lt
      have q0_0 : R9.cell? ⟨w.heap.size, 0, none⟩ = some (.int .i64 x.tick) := B0.c 0 _ rfl
      have q0_1 : R9.cell? ⟨w.heap.size, 1, none⟩ = some (.int .i64 x.next) := B0.c 1 _ rfl
      have q0_2 : R9.cell? ⟨w.heap.size, 2, none⟩ = some (.int .i64 x.wallet) := B0.c 2 _ rfl
      have q0_3 : R9.cell? ⟨w.heap.size, 3, none⟩ = some (.slice a0 x.chans.length c0) := B0.c 3 _ rfl
      have q0_4 : R9.cell? ⟨w.heap.size, 4, none⟩ = some (.slice a1 x.htlcs.length c1) := B0.c 4 _ rfl
      have q0_5 : R9.cell? ⟨w.heap.size, 5, none⟩ = some (.slice a2 x.circles.length c2) := B0.c 5 _ rfl
      have f0 := B0.f
      have q1_0 : R9.cell? ⟨V1.heap.size, 0, none⟩ = some (.int .i64 pg.n) := B1.c 0 _ rfl
      have q1_1 : R9.cell? ⟨V1.heap.size, 1, none⟩ = some (.slice aG (first + l.length) cG) := B1.c 1 _ rfl
      have f1 := B1.f
      obtain ⟨b_e, off_e, ha_e, hb1_e, hb2_e, hel_e⟩ := H3.out.elems k hlt
      obtain ⟨ee0, ee1, ee2, -⟩ := Price.atCell (hel_e.same repPrice_stable (G.same (Nat.le_refl _)) hb1_e hb2_e) k hlt
      subst ha_e
      clear hel_e
      generalize l[k] = e at *
      have hfk : first + k < F.length := by have := HFI.out; omega
      obtain ⟨b_n, off_n, ha_n, hb1_n, hb2_n, hel_n⟩ := HSF.out.elems (first + k) hfk
      have ST := (HSF.out.same repInt_stable (Same.refl _ _ _))
      obtain ⟨en0, -⟩ := Int.atCell (hel_n.same repInt_stable ((hg).same (Nat.le_refl _)) hb1_n hb2_n) (first + k) hfk
      subst ha_n
      clear hel_n ST
      have HGD : Hid (F.getD (first + k) 0 = F[first + k]) := by
        show _ = _
        rw [List.getD_eq_getElem?_getD, List.getElem?_eq_getElem hfk]; rfl
      generalize F[first + k] = n at *
      have hvs := hg.size
      have hzn : b_n < R9.heap.size := by omega
      have qn1 : R9.heap.size ≠ b_n := by omega
      have qn2 : b_n ≠ R9.heap.size := by omega
      clear hg hfk
      generalize hks : (movesK F first l k) = ks at *
      have HKS := Lib.hid hks; clear hks
      have hkb : (k : Int) < (l.length : Int) := by omega
      have hfb : (first : Int) + (l.length : Int) ≤ 60 := by omega
      have hcb : (first : Int) + (l.length : Int) ≤ (cF : Int) := by omega
      by_cases t : 0 < n
      · have HT := Lib.hid (moveAt_yes (p := e) HGD.out t)
        have T : decide (0 < n) = true := by simpa using t
        go_wp2_with (at_builtin
                     obtain ⟨U, hU⟩ : ∃ U, U = R9.alloc (.cells #[.int .i64 e.frm, .int .i64 e.to, .int .i64 e.ppm] 125) := ⟨_, rfl⟩
                     have gU : Grow R9 U := by rw [hU]; exact (Grow.refl _).alloc _ _
                     have hUs : U.heap.size = R9.heap.size + 1 := by rw [hU]; simp
                     rw [← hU, ← hUs]
                     clear hU
                     go_loud (refine wpList_append_g rfl (.tmp 59) (.tmp 68) 77 rfl V2 ((HGV.out.trans gU).alloc _ _) 134 i0 _ 4 32 Try.underlying77 hi0 hz0 hz1 hz2 rfl (by omega) _ ks.length (ks.flatMap encMove) rfl (own_grow HOWN.out (gU.alloc _ _)) ⟨U.heap.size, 0, none⟩ 1 1 [.int .i64 e.frm, .int .i64 e.to, .int .i64 n, .int .i64 e.ppm] rfl rfl (news_of _ _ _ _ rfl) (one_edge _ _ _ _) (by have := HL.out; simp only [maxLen]; omega) (by have := HL.out; omega) ?_)
                     intro v' w' hown' hg' hgb hat
                     have HOWN' := Lib.hid (own_snocF (f := encMove) (y := ⟨e.frm, e.to, n, e.ppm⟩) hown'); have HG' := Lib.hid hg'; clear hown' hg' hgb hat)
        go_roundg (l.length - (k + 1))
        case measure => have := HK.out; omega
        case rel => exact ⟨k + 1, by have := HK.out; omega, by go_num, HG'.out, by rw [HM.out, HT.out]; exact HOWN'.out⟩
      · have HT := Lib.hid (moveAt_no (p := e) HGD.out t)
        have T : decide (0 < n) = false := by simpa using t
        go_wp2_with fail
        go_roundg (l.length - (k + 1))
        case measure => have := HK.out; omega
        case rel => exact ⟨k + 1, by have := HK.out; omega, by go_num, HGV.out.alloc _ _, by rw [HM.out, HT.out, List.append_nil]; exact own_grow HOWN.out ((Grow.refl _).alloc _ _)⟩
    · have hke : k = l.length := by omega
      have hown := HOWN.out
      rw [hke, ← HML2.out] at hown
      have hsl : SlR 4 repMove R9 V2.heap.size R9.heap.size _ (movesL x lo hi gain l) := SlR.of_own length_encMove hown (fun y hy => ⟨rfl, by rw [HML2.out] at hy; exact movesK_wf HIF.out HWF.out _ y hy⟩)
      have hsl := hsl.stable repMove_stable (Same.refl _ _ _) (lo' := w.heap.size) (by have := HG.out.size; omega) (Nat.le_refl _)
      have hsl' := hsl
      obtain ⟨av, cv, rfl, _, _, _⟩ := hsl'
      have HSL := Lib.hid hsl
      clear hke hown HOWN hsl HWF
      have z0 := B0.lt
      have z1 := B1.lt
      have q0_0 : R9.cell? ⟨w.heap.size, 0, none⟩ = some (.int .i64 x.tick) := B0.c 0 _ rfl
      have q0_1 : R9.cell? ⟨w.heap.size, 1, none⟩ = some (.int .i64 x.next) := B0.c 1 _ rfl
      have q0_2 : R9.cell? ⟨w.heap.size, 2, none⟩ = some (.int .i64 x.wallet) := B0.c 2 _ rfl
      have q0_3 : R9.cell? ⟨w.heap.size, 3, none⟩ = some (.slice a0 x.chans.length c0) := B0.c 3 _ rfl
      have q0_4 : R9.cell? ⟨w.heap.size, 4, none⟩ = some (.slice a1 x.htlcs.length c1) := B0.c 4 _ rfl
      have q0_5 : R9.cell? ⟨w.heap.size, 5, none⟩ = some (.slice a2 x.circles.length c2) := B0.c 5 _ rfl
      have f0 := B0.f
      have q1_0 : R9.cell? ⟨V1.heap.size, 0, none⟩ = some (.int .i64 pg.n) := B1.c 0 _ rfl
      have q1_1 : R9.cell? ⟨V1.heap.size, 1, none⟩ = some (.slice aG (first + l.length) cG) := B1.c 1 _ rfl
      have f1 := B1.f
      go_wp2_with fail
      go_ret2
      exact ⟨av, cv, by rw [HB.out]; rfl, G, HSL.out⟩

end Go.Proofs.Ytbjnbhlpibadnaa

/- Contracts of the harness functions of Chan -/
namespace Go.Proofs.Ytbjnbhlpibadnaa
open Go.RowKit
set_option linter.unusedSimpArgs false
set_option linter.unusedVariables false
set_option maxHeartbeats 400000 in
theorem toChan_c (x : Chan) (w : World) :
    Calls Try.prog 101 #[.agg #[.int .i64 x.id, .int .i64 x.size, .int .i64 x.loc, .int .i64 x.remote, .int .i64 x.base, .int .i64 x.ppm, .int .i64 x.score]] w fun e w' => e = .returned (.agg #[.int .i64 x.id, .int .i64 x.size, .int .i64 x.loc, .int .i64 x.remote, .int .i64 x.base, .int .i64 x.ppm, .int .i64 x.score]) ∧ Grow w w' := by
  obtain ⟨id, size, loc, remote, base, ppm, score⟩ := x
  go_enter Try.func101, Try.ntmps101
  go_wp2
  all_goals
    refine bodyPost_ret (v := .agg #[.int .i64 id, .int .i64 size, .int .i64 loc, .int .i64 remote, .int .i64 base, .int .i64 ppm, .int .i64 score]) (by simp [results, Try.results101, go_sem]) rfl ⟨rfl, ?_⟩
    (repeat (first | exact Grow.refl _ | refine Grow.alloc ?_ _ _))

theorem infoChan : (Try.prog.info? 107).map (fun i => (i.zero, i.size, i.bytes)) = some (some (.agg #[.int .i64 0, .int .i64 0, .int .i64 0, .int .i64 0, .int .i64 0, .int .i64 0, .int .i64 0]), 7, 56) := by kernel_rfl

theorem madeChan (n : Nat) (hn : n ≤ 1048576) (w : World) : (Instr.makeSlice 54 (.int .i64 (n : Int)) (.int .i64 (n : Int))).run Try.prog w =
    .ok (.slice (some ⟨w.heap.size, 0, none⟩) n n) (w.alloc (.cells (madeCells #[.int .i64 0, .int .i64 0, .int .i64 0, .int .i64 0, .int .i64 0, .int .i64 0, .int .i64 0] (n * 7)) 107)) := by
  obtain ⟨i, hi, hz, hs, hb⟩ := info_parts infoChan
  have := run_make (P := Try.prog) w 54 107 i _ Try.underlying54 hi hz .i64 .i64 n n (by omega) (Int.le_refl _) (by rw [hb]; omega) (by omega)
  simpa [hs, Value.cells] using this

set_option maxHeartbeats 1000000 in
set_option maxRecDepth 100000 in
theorem toChanS_c (xs : List Chan) (a : Option Addr) (cap : Nat) (w : World) (hv : SlR 7 repChan w 0 w.heap.size (.slice a xs.length cap) xs) (hn : xs.length ≤ 1048576) :
    Calls Try.prog 65 #[.slice a xs.length cap] w fun e w' => ∃ a' cap', e = .returned (.slice a' xs.length cap') ∧ Grow w w' ∧ SlR 7 repChan w' w.heap.size w'.heap.size (.slice a' xs.length cap') xs := by
  obtain ⟨a_, cap_, heq, hc1, hc2, hsl⟩ := hv
  injection heq with q1 q2 q3
  subst q1 q3
  clear q2
  have hmk := fun w => madeChan xs.length hn w
  have HS := Lib.hid hsl; clear hsl
  go_enter Try.func65, Try.ntmps65
  go_wp2
  have hg0 : Grow w (w.alloc (.cells (madeCells #[.int .i64 0, .int .i64 0, .int .i64 0, .int .i64 0, .int .i64 0, .int .i64 0, .int .i64 0] (xs.length * 7)) 107)) := (Grow.refl _).alloc _ _
  go_loopg [4] xs.length (fun g i wr => ∃ k : Nat, k + g = xs.length ∧ i = .int .i64 k ∧ w.heap.size < wr.heap.size ∧ Grow w wr ∧ Filled wr w.heap.size 7 xs.length k (fun i => (xs[i]?.map encChan).getD []))
  case atStart => exact ⟨0, by omega, rfl, by simp, hg0, Filled.made _ _ _ _ _ _⟩
  case round =>
    obtain ⟨k, hk, rfl, hz, hg, hfl⟩ := hrel
    clear hg0
    by_cases hlt : k < xs.length
    · rcases HS.out with h0 | ⟨b, off, rfl, hb1, hb2, hel⟩
      · exfalso; rw [h0] at hlt; exact absurd hlt (by simp)
      obtain ⟨e0, e1, e2, e3, e4, e5, e6, ewf⟩ := Chan.atCell (hel.same repChan_stable (hg.same (Nat.le_refl _)) hb1 hb2) k hlt
      have hget : xs[k]? = some xs[k] := List.getElem?_eq_getElem hlt
      have HG := Lib.hid hg; have HF := Lib.hid hfl; have HX := Lib.hid hget; have HK := Lib.hid hk; clear hg hfl hget hel hk
      generalize hx : xs[k] = x at *
      have HXX := Lib.hid hx; clear hx
      go_wp2_with fail
      refine (toChan_c _ _).mono ?_
      rintro e w1 ⟨rfl, hg1⟩
      have hf1 := HF.out.same (hg1.same (Nat.le_refl _)) (Nat.zero_le _) hz
      have hG := HG.out.trans hg1
      have hz1 : w.heap.size < w1.heap.size := by have := hg1.size; omega
      obtain ⟨u0, d0⟩ := hf1.some hlt 0 (by omega)
      obtain ⟨u1, d1⟩ := hf1.some hlt 1 (by omega)
      obtain ⟨u2, d2⟩ := hf1.some hlt 2 (by omega)
      obtain ⟨u3, d3⟩ := hf1.some hlt 3 (by omega)
      obtain ⟨u4, d4⟩ := hf1.some hlt 4 (by omega)
      obtain ⟨u5, d5⟩ := hf1.some hlt 5 (by omega)
      obtain ⟨u6, d6⟩ := hf1.some hlt 6 (by omega)
      simp only [Nat.add_zero] at d0
      have fz : ∀ o, w1.frozen? ⟨w.heap.size, o, none⟩ = false := fun o => hG.nf _ o (Nat.le_refl _) hz1
      have HG1 := Lib.hid hG; have HF1 := Lib.hid hf1; clear hg1 hG hf1
      go_wp2
      go_roundg (xs.length - (k + 1))
      case measure => have := HK.out; omega
      case rel =>
        have hfin := HF1.out.store hlt (fun i hi => by
          rw [List.getElem?_eq_getElem (by omega)]; rfl)
        have hgr := Grow.setCells (Nat.le_refl _) (encChan x) (k * 7) HG1.out
        rw [show (xs[k]?.map encChan).getD [] = encChan x from by rw [HX.out]; rfl] at hfin
        exact ⟨k + 1, by omega, by go_num, by simpa using hz1, hgr, hfin⟩
    · obtain rfl : k = xs.length := by omega
      have HG := Lib.hid hg; have HF := Lib.hid hfl; clear hg hfl
      go_wp2
      go_ret
      refine ⟨_, _, rfl, HG.out, SlR.of_filled HF.out (Nat.le_refl _) hz (by unfold maxLen; omega) (fun i hi' => ?_)⟩
      rcases HS.out with h0 | ⟨b, off, rfl, hb1, hb2, hel⟩
      · rw [h0] at hi'; exact absurd hi' (by simp)
      · obtain ⟨cs, ⟨_, h2⟩, _⟩ := hel i hi'
        exact ⟨by rw [List.getElem?_eq_getElem hi']; rfl, h2⟩

set_option maxHeartbeats 400000 in
theorem eqChan_c (x : Chan) (w : World) :
    Calls Try.prog 111 #[.agg #[.int .i64 x.id, .int .i64 x.size, .int .i64 x.loc, .int .i64 x.remote, .int .i64 x.base, .int .i64 x.ppm, .int .i64 x.score], .agg #[.int .i64 x.id, .int .i64 x.size, .int .i64 x.loc, .int .i64 x.remote, .int .i64 x.base, .int .i64 x.ppm, .int .i64 x.score]] w fun e w' => e = .returned (.bool true) ∧ Grow w w' := by
  obtain ⟨id, size, loc, remote, base, ppm, score⟩ := x
  go_enter Try.func111, Try.ntmps111
  go_wp2
  all_goals
    go_ret
    refine ⟨rfl, ?_⟩
    repeat (first | exact Grow.refl _ | (refine Grow.setCell ?_ (by dsimp only; (try simp only [World.size_alloc, World.size_setCell]); omega) _) | (refine Grow.alloc ?_ _ _) | (refine Grow.drew ?_) | (refine Grow.trans ?_ (by assumption)))

set_option maxHeartbeats 1000000 in
set_option maxRecDepth 100000 in
theorem eqChanS_c (xs : List Chan) (a a' : Option Addr) (cap cap' : Nat) (w : World) (hv : SlR 7 repChan w 0 w.heap.size (.slice a xs.length cap) xs) (hv' : SlR 7 repChan w 0 w.heap.size (.slice a' xs.length cap') xs) :
    Calls Try.prog 74 #[.slice a xs.length cap, .slice a' xs.length cap'] w fun e w' => e = .returned (.bool true) ∧ Grow w w' := by
  obtain ⟨a_, cap_, heq, hc1, hc2, hsl⟩ := hv
  injection heq with q1 q2 q3
  subst q1 q3
  obtain ⟨a_', cap_', heq', hc1', hc2', hsl'⟩ := hv'
  injection heq' with q1' q2' q3'
  subst q1' q3'
  have hm : xs.length ≤ 9223372036854775807 := by unfold maxLen at hc2; omega
  clear hc1 hc2 hc1' hc2' q2 q2'
  have HS := Lib.hid hsl; clear hsl
  have HS' := Lib.hid hsl'; clear hsl'
  have hbne : ((xs.length : Int) != (xs.length : Int)) = false := by simp
  go_enter Try.func74, Try.ntmps74
  go_wp2
  go_loopg [5] xs.length (fun g i wr => ∃ k : Nat, k + g = xs.length ∧ i = .int .i64 k ∧ Grow w wr)
  case atStart => exact ⟨0, by omega, rfl, Grow.refl _⟩
  case round =>
    obtain ⟨k, hk, rfl, hg⟩ := hrel
    by_cases hlt : k < xs.length
    · rcases HS.out with h0 | ⟨b, off, rfl, hb1, hb2, hel⟩
      · exfalso; rw [h0] at hlt; exact absurd hlt (by simp)
      rcases HS'.out with h0 | ⟨b', off', rfl, hb1', hb2', hel'⟩
      · exfalso; rw [h0] at hlt; exact absurd hlt (by simp)
      obtain ⟨e0, e1, e2, e3, e4, e5, e6, _⟩ := Chan.atCell (hel.same repChan_stable (hg.same (Nat.le_refl _)) hb1 hb2) k hlt
      obtain ⟨e0', e1', e2', e3', e4', e5', e6', _⟩ := Chan.atCell (hel'.same repChan_stable (hg.same (Nat.le_refl _)) hb1' hb2') k hlt
      have HG := Lib.hid hg; have HK := Lib.hid hk; clear hg hel hel' hk HS HS'
      generalize xs[k] = x at *
      go_wp2_with fail
      go_still_tail 8, (by kernel_rfl)
      go_wp2_with fail
      refine (eqChan_c _ _).mono ?_
      rintro e w1 ⟨rfl, hg1⟩
      go_wp2
      go_roundg (xs.length - (k + 1))
      case measure => have := HK.out; omega
      case rel => exact ⟨k + 1, by omega, by go_num, HG.out.drew.trans hg1⟩
    · obtain rfl : k = xs.length := by omega
      have HG := Lib.hid hg; clear hg
      go_wp2
      go_ret
      exact ⟨rfl, HG.out⟩

theorem szChanS_c (a : Option Addr) (n cap : Nat) (l : Int) (w : World) (hn : (n : Int) ≤ 9223372036854775807) (h1 : 0 ≤ l) (h2 : l ≤ 1048576) :
    Calls Try.prog 56 #[.slice a n cap, .int .i64 l] w fun e w' => e = .returned (.int .i64 (szL n l)) ∧ Grow w w' := by
  unfold szL
  by_cases h : l - n < 0
  all_goals
    go_enter Try.func56, Try.ntmps56
    go_wp2
    go_ret
    exact ⟨by simp, Grow.refl _⟩

end Go.Proofs.Ytbjnbhlpibadnaa

/- Contracts of the harness functions of Htlc -/
namespace Go.Proofs.Ytbjnbhlpibadnaa
open Go.RowKit
set_option linter.unusedSimpArgs false
set_option linter.unusedVariables false
set_option maxHeartbeats 400000 in
theorem toHtlc_c (x : Htlc) (w : World) :
    Calls Try.prog 102 #[.agg #[.int .i64 x.key, .int .i64 x.inn, .int .i64 x.out, .int .i64 x.amtIn, .int .i64 x.amtOut, .bool x.kept, .int .i64 x.age]] w fun e w' => e = .returned (.agg #[.int .i64 x.key, .int .i64 x.inn, .int .i64 x.out, .int .i64 x.amtIn, .int .i64 x.amtOut, .bool x.kept, .int .i64 x.age]) ∧ Grow w w' := by
  obtain ⟨key, inn, out, amtIn, amtOut, kept, age⟩ := x
  go_enter Try.func102, Try.ntmps102
  go_wp2
  all_goals
    refine bodyPost_ret (v := .agg #[.int .i64 key, .int .i64 inn, .int .i64 out, .int .i64 amtIn, .int .i64 amtOut, .bool kept, .int .i64 age]) (by simp [results, Try.results102, go_sem]) rfl ⟨rfl, ?_⟩
    (repeat (first | exact Grow.refl _ | refine Grow.alloc ?_ _ _))

theorem infoHtlc : (Try.prog.info? 145).map (fun i => (i.zero, i.size, i.bytes)) = some (some (.agg #[.int .i64 0, .int .i64 0, .int .i64 0, .int .i64 0, .int .i64 0, .bool false, .int .i64 0]), 7, 56) := by kernel_rfl

theorem madeHtlc (n : Nat) (hn : n ≤ 1048576) (w : World) : (Instr.makeSlice 55 (.int .i64 (n : Int)) (.int .i64 (n : Int))).run Try.prog w =
    .ok (.slice (some ⟨w.heap.size, 0, none⟩) n n) (w.alloc (.cells (madeCells #[.int .i64 0, .int .i64 0, .int .i64 0, .int .i64 0, .int .i64 0, .bool false, .int .i64 0] (n * 7)) 145)) := by
  obtain ⟨i, hi, hz, hs, hb⟩ := info_parts infoHtlc
  have := run_make (P := Try.prog) w 55 145 i _ Try.underlying55 hi hz .i64 .i64 n n (by omega) (Int.le_refl _) (by rw [hb]; omega) (by omega)
  simpa [hs, Value.cells] using this

set_option maxHeartbeats 1000000 in
set_option maxRecDepth 100000 in
theorem toHtlcS_c (xs : List Htlc) (a : Option Addr) (cap : Nat) (w : World) (hv : SlR 7 repHtlc w 0 w.heap.size (.slice a xs.length cap) xs) (hn : xs.length ≤ 1048576) :
    Calls Try.prog 66 #[.slice a xs.length cap] w fun e w' => ∃ a' cap', e = .returned (.slice a' xs.length cap') ∧ Grow w w' ∧ SlR 7 repHtlc w' w.heap.size w'.heap.size (.slice a' xs.length cap') xs := by
  obtain ⟨a_, cap_, heq, hc1, hc2, hsl⟩ := hv
  injection heq with q1 q2 q3
  subst q1 q3
  clear q2
  have hmk := fun w => madeHtlc xs.length hn w
  have HS := Lib.hid hsl; clear hsl
  go_enter Try.func66, Try.ntmps66
  go_wp2
  have hg0 : Grow w (w.alloc (.cells (madeCells #[.int .i64 0, .int .i64 0, .int .i64 0, .int .i64 0, .int .i64 0, .bool false, .int .i64 0] (xs.length * 7)) 145)) := (Grow.refl _).alloc _ _
  go_loopg [4] xs.length (fun g i wr => ∃ k : Nat, k + g = xs.length ∧ i = .int .i64 k ∧ w.heap.size < wr.heap.size ∧ Grow w wr ∧ Filled wr w.heap.size 7 xs.length k (fun i => (xs[i]?.map encHtlc).getD []))
  case atStart => exact ⟨0, by omega, rfl, by simp, hg0, Filled.made _ _ _ _ _ _⟩
  case round =>
    obtain ⟨k, hk, rfl, hz, hg, hfl⟩ := hrel
    clear hg0
    by_cases hlt : k < xs.length
    · rcases HS.out with h0 | ⟨b, off, rfl, hb1, hb2, hel⟩
      · exfalso; rw [h0] at hlt; exact absurd hlt (by simp)
      obtain ⟨e0, e1, e2, e3, e4, e5, e6, ewf⟩ := Htlc.atCell (hel.same repHtlc_stable (hg.same (Nat.le_refl _)) hb1 hb2) k hlt
      have hget : xs[k]? = some xs[k] := List.getElem?_eq_getElem hlt
      have HG := Lib.hid hg; have HF := Lib.hid hfl; have HX := Lib.hid hget; have HK := Lib.hid hk; clear hg hfl hget hel hk
      generalize hx : xs[k] = x at *
      have HXX := Lib.hid hx; clear hx
      go_wp2_with fail
      refine (toHtlc_c _ _).mono ?_
      rintro e w1 ⟨rfl, hg1⟩
      have hf1 := HF.out.same (hg1.same (Nat.le_refl _)) (Nat.zero_le _) hz
      have hG := HG.out.trans hg1
      have hz1 : w.heap.size < w1.heap.size := by have := hg1.size; omega
      obtain ⟨u0, d0⟩ := hf1.some hlt 0 (by omega)
      obtain ⟨u1, d1⟩ := hf1.some hlt 1 (by omega)
      obtain ⟨u2, d2⟩ := hf1.some hlt 2 (by omega)
      obtain ⟨u3, d3⟩ := hf1.some hlt 3 (by omega)
      obtain ⟨u4, d4⟩ := hf1.some hlt 4 (by omega)
      obtain ⟨u5, d5⟩ := hf1.some hlt 5 (by omega)
      obtain ⟨u6, d6⟩ := hf1.some hlt 6 (by omega)
      simp only [Nat.add_zero] at d0
      have fz : ∀ o, w1.frozen? ⟨w.heap.size, o, none⟩ = false := fun o => hG.nf _ o (Nat.le_refl _) hz1
      have HG1 := Lib.hid hG; have HF1 := Lib.hid hf1; clear hg1 hG hf1
      go_wp2
      go_roundg (xs.length - (k + 1))
      case measure => have := HK.out; omega
      case rel =>
        have hfin := HF1.out.store hlt (fun i hi => by
          rw [List.getElem?_eq_getElem (by omega)]; rfl)
        have hgr := Grow.setCells (Nat.le_refl _) (encHtlc x) (k * 7) HG1.out
        rw [show (xs[k]?.map encHtlc).getD [] = encHtlc x from by rw [HX.out]; rfl] at hfin
        exact ⟨k + 1, by omega, by go_num, by simpa using hz1, hgr, hfin⟩
    · obtain rfl : k = xs.length := by omega
      have HG := Lib.hid hg; have HF := Lib.hid hfl; clear hg hfl
      go_wp2
      go_ret
      refine ⟨_, _, rfl, HG.out, SlR.of_filled HF.out (Nat.le_refl _) hz (by unfold maxLen; omega) (fun i hi' => ?_)⟩
      rcases HS.out with h0 | ⟨b, off, rfl, hb1, hb2, hel⟩
      · rw [h0] at hi'; exact absurd hi' (by simp)
      · obtain ⟨cs, ⟨_, h2⟩, _⟩ := hel i hi'
        exact ⟨by rw [List.getElem?_eq_getElem hi']; rfl, h2⟩

set_option maxHeartbeats 400000 in
theorem eqHtlc_c (x : Htlc) (w : World) :
    Calls Try.prog 112 #[.agg #[.int .i64 x.key, .int .i64 x.inn, .int .i64 x.out, .int .i64 x.amtIn, .int .i64 x.amtOut, .bool x.kept, .int .i64 x.age], .agg #[.int .i64 x.key, .int .i64 x.inn, .int .i64 x.out, .int .i64 x.amtIn, .int .i64 x.amtOut, .bool x.kept, .int .i64 x.age]] w fun e w' => e = .returned (.bool true) ∧ Grow w w' := by
  obtain ⟨key, inn, out, amtIn, amtOut, kept, age⟩ := x
  go_enter Try.func112, Try.ntmps112
  go_wp2
  all_goals
    go_ret
    refine ⟨rfl, ?_⟩
    repeat (first | exact Grow.refl _ | (refine Grow.setCell ?_ (by dsimp only; (try simp only [World.size_alloc, World.size_setCell]); omega) _) | (refine Grow.alloc ?_ _ _) | (refine Grow.drew ?_) | (refine Grow.trans ?_ (by assumption)))

set_option maxHeartbeats 1000000 in
set_option maxRecDepth 100000 in
theorem eqHtlcS_c (xs : List Htlc) (a a' : Option Addr) (cap cap' : Nat) (w : World) (hv : SlR 7 repHtlc w 0 w.heap.size (.slice a xs.length cap) xs) (hv' : SlR 7 repHtlc w 0 w.heap.size (.slice a' xs.length cap') xs) :
    Calls Try.prog 75 #[.slice a xs.length cap, .slice a' xs.length cap'] w fun e w' => e = .returned (.bool true) ∧ Grow w w' := by
  obtain ⟨a_, cap_, heq, hc1, hc2, hsl⟩ := hv
  injection heq with q1 q2 q3
  subst q1 q3
  obtain ⟨a_', cap_', heq', hc1', hc2', hsl'⟩ := hv'
  injection heq' with q1' q2' q3'
  subst q1' q3'
  have hm : xs.length ≤ 9223372036854775807 := by unfold maxLen at hc2; omega
  clear hc1 hc2 hc1' hc2' q2 q2'
  have HS := Lib.hid hsl; clear hsl
  have HS' := Lib.hid hsl'; clear hsl'
  have hbne : ((xs.length : Int) != (xs.length : Int)) = false := by simp
  go_enter Try.func75, Try.ntmps75
  go_wp2
  go_loopg [5] xs.length (fun g i wr => ∃ k : Nat, k + g = xs.length ∧ i = .int .i64 k ∧ Grow w wr)
  case atStart => exact ⟨0, by omega, rfl, Grow.refl _⟩
  case round =>
    obtain ⟨k, hk, rfl, hg⟩ := hrel
    by_cases hlt : k < xs.length
    · rcases HS.out with h0 | ⟨b, off, rfl, hb1, hb2, hel⟩
      · exfalso; rw [h0] at hlt; exact absurd hlt (by simp)
      rcases HS'.out with h0 | ⟨b', off', rfl, hb1', hb2', hel'⟩
      · exfalso; rw [h0] at hlt; exact absurd hlt (by simp)
      obtain ⟨e0, e1, e2, e3, e4, e5, e6, _⟩ := Htlc.atCell (hel.same repHtlc_stable (hg.same (Nat.le_refl _)) hb1 hb2) k hlt
      obtain ⟨e0', e1', e2', e3', e4', e5', e6', _⟩ := Htlc.atCell (hel'.same repHtlc_stable (hg.same (Nat.le_refl _)) hb1' hb2') k hlt
      have HG := Lib.hid hg; have HK := Lib.hid hk; clear hg hel hel' hk HS HS'
      generalize xs[k] = x at *
      go_wp2_with fail
      go_still_tail 8, (by kernel_rfl)
      go_wp2_with fail
      refine (eqHtlc_c _ _).mono ?_
      rintro e w1 ⟨rfl, hg1⟩
      go_wp2
      go_roundg (xs.length - (k + 1))
      case measure => have := HK.out; omega
      case rel => exact ⟨k + 1, by omega, by go_num, HG.out.drew.trans hg1⟩
    · obtain rfl : k = xs.length := by omega
      have HG := Lib.hid hg; clear hg
      go_wp2
      go_ret
      exact ⟨rfl, HG.out⟩

theorem szHtlcS_c (a : Option Addr) (n cap : Nat) (l : Int) (w : World) (hn : (n : Int) ≤ 9223372036854775807) (h1 : 0 ≤ l) (h2 : l ≤ 1048576) :
    Calls Try.prog 57 #[.slice a n cap, .int .i64 l] w fun e w' => e = .returned (.int .i64 (szL n l)) ∧ Grow w w' := by
  unfold szL
  by_cases h : l - n < 0
  all_goals
    go_enter Try.func57, Try.ntmps57
    go_wp2
    go_ret
    exact ⟨by simp, Grow.refl _⟩

end Go.Proofs.Ytbjnbhlpibadnaa

/- Contracts of the harness functions of Circle -/
namespace Go.Proofs.Ytbjnbhlpibadnaa
open Go.RowKit
set_option linter.unusedSimpArgs false
set_option linter.unusedVariables false
set_option maxHeartbeats 400000 in
theorem toCircle_c (x : Circle) (w : World) :
    Calls Try.prog 103 #[.agg #[.int .i64 x.key, .int .i64 x.frm, .int .i64 x.to, .int .i64 x.amt, .int .i64 x.fee]] w fun e w' => e = .returned (.agg #[.int .i64 x.key, .int .i64 x.frm, .int .i64 x.to, .int .i64 x.amt, .int .i64 x.fee]) ∧ Grow w w' := by
  obtain ⟨key, frm, to, amt, fee⟩ := x
  go_enter Try.func103, Try.ntmps103
  go_wp2
  all_goals
    refine bodyPost_ret (v := .agg #[.int .i64 key, .int .i64 frm, .int .i64 to, .int .i64 amt, .int .i64 fee]) (by simp [results, Try.results103, go_sem]) rfl ⟨rfl, ?_⟩
    (repeat (first | exact Grow.refl _ | refine Grow.alloc ?_ _ _))

theorem infoCircle : (Try.prog.info? 147).map (fun i => (i.zero, i.size, i.bytes)) = some (some (.agg #[.int .i64 0, .int .i64 0, .int .i64 0, .int .i64 0, .int .i64 0]), 5, 40) := by kernel_rfl

theorem madeCircle (n : Nat) (hn : n ≤ 1048576) (w : World) : (Instr.makeSlice 56 (.int .i64 (n : Int)) (.int .i64 (n : Int))).run Try.prog w =
    .ok (.slice (some ⟨w.heap.size, 0, none⟩) n n) (w.alloc (.cells (madeCells #[.int .i64 0, .int .i64 0, .int .i64 0, .int .i64 0, .int .i64 0] (n * 5)) 147)) := by
  obtain ⟨i, hi, hz, hs, hb⟩ := info_parts infoCircle
  have := run_make (P := Try.prog) w 56 147 i _ Try.underlying56 hi hz .i64 .i64 n n (by omega) (Int.le_refl _) (by rw [hb]; omega) (by omega)
  simpa [hs, Value.cells] using this

set_option maxHeartbeats 1000000 in
set_option maxRecDepth 100000 in
theorem toCircleS_c (xs : List Circle) (a : Option Addr) (cap : Nat) (w : World) (hv : SlR 5 repCircle w 0 w.heap.size (.slice a xs.length cap) xs) (hn : xs.length ≤ 1048576) :
    Calls Try.prog 67 #[.slice a xs.length cap] w fun e w' => ∃ a' cap', e = .returned (.slice a' xs.length cap') ∧ Grow w w' ∧ SlR 5 repCircle w' w.heap.size w'.heap.size (.slice a' xs.length cap') xs := by
  obtain ⟨a_, cap_, heq, hc1, hc2, hsl⟩ := hv
  injection heq with q1 q2 q3
  subst q1 q3
  clear q2
  have hmk := fun w => madeCircle xs.length hn w
  have HS := Lib.hid hsl; clear hsl
  go_enter Try.func67, Try.ntmps67
  go_wp2
  have hg0 : Grow w (w.alloc (.cells (madeCells #[.int .i64 0, .int .i64 0, .int .i64 0, .int .i64 0, .int .i64 0] (xs.length * 5)) 147)) := (Grow.refl _).alloc _ _
  go_loopg [4] xs.length (fun g i wr => ∃ k : Nat, k + g = xs.length ∧ i = .int .i64 k ∧ w.heap.size < wr.heap.size ∧ Grow w wr ∧ Filled wr w.heap.size 5 xs.length k (fun i => (xs[i]?.map encCircle).getD []))
  case atStart => exact ⟨0, by omega, rfl, by simp, hg0, Filled.made _ _ _ _ _ _⟩
  case round =>
    obtain ⟨k, hk, rfl, hz, hg, hfl⟩ := hrel
    clear hg0
    by_cases hlt : k < xs.length
    · rcases HS.out with h0 | ⟨b, off, rfl, hb1, hb2, hel⟩
      · exfalso; rw [h0] at hlt; exact absurd hlt (by simp)
      obtain ⟨e0, e1, e2, e3, e4, ewf⟩ := Circle.atCell (hel.same repCircle_stable (hg.same (Nat.le_refl _)) hb1 hb2) k hlt
      have hget : xs[k]? = some xs[k] := List.getElem?_eq_getElem hlt
      have HG := Lib.hid hg; have HF := Lib.hid hfl; have HX := Lib.hid hget; have HK := Lib.hid hk; clear hg hfl hget hel hk
      generalize hx : xs[k] = x at *
      have HXX := Lib.hid hx; clear hx
      go_wp2_with fail
      refine (toCircle_c _ _).mono ?_
      rintro e w1 ⟨rfl, hg1⟩
      have hf1 := HF.out.same (hg1.same (Nat.le_refl _)) (Nat.zero_le _) hz
      have hG := HG.out.trans hg1
      have hz1 : w.heap.size < w1.heap.size := by have := hg1.size; omega
      obtain ⟨u0, d0⟩ := hf1.some hlt 0 (by omega)
      obtain ⟨u1, d1⟩ := hf1.some hlt 1 (by omega)
      obtain ⟨u2, d2⟩ := hf1.some hlt 2 (by omega)
      obtain ⟨u3, d3⟩ := hf1.some hlt 3 (by omega)
      obtain ⟨u4, d4⟩ := hf1.some hlt 4 (by omega)
      simp only [Nat.add_zero] at d0
      have fz : ∀ o, w1.frozen? ⟨w.heap.size, o, none⟩ = false := fun o => hG.nf _ o (Nat.le_refl _) hz1
      have HG1 := Lib.hid hG; have HF1 := Lib.hid hf1; clear hg1 hG hf1
      go_wp2
      go_roundg (xs.length - (k + 1))
      case measure => have := HK.out; omega
      case rel =>
        have hfin := HF1.out.store hlt (fun i hi => by
          rw [List.getElem?_eq_getElem (by omega)]; rfl)
        have hgr := Grow.setCells (Nat.le_refl _) (encCircle x) (k * 5) HG1.out
        rw [show (xs[k]?.map encCircle).getD [] = encCircle x from by rw [HX.out]; rfl] at hfin
        exact ⟨k + 1, by omega, by go_num, by simpa using hz1, hgr, hfin⟩
    · obtain rfl : k = xs.length := by omega
      have HG := Lib.hid hg; have HF := Lib.hid hfl; clear hg hfl
      go_wp2
      go_ret
      refine ⟨_, _, rfl, HG.out, SlR.of_filled HF.out (Nat.le_refl _) hz (by unfold maxLen; omega) (fun i hi' => ?_)⟩
      rcases HS.out with h0 | ⟨b, off, rfl, hb1, hb2, hel⟩
      · rw [h0] at hi'; exact absurd hi' (by simp)
      · obtain ⟨cs, ⟨_, h2⟩, _⟩ := hel i hi'
        exact ⟨by rw [List.getElem?_eq_getElem hi']; rfl, h2⟩

set_option maxHeartbeats 400000 in
theorem eqCircle_c (x : Circle) (w : World) :
    Calls Try.prog 113 #[.agg #[.int .i64 x.key, .int .i64 x.frm, .int .i64 x.to, .int .i64 x.amt, .int .i64 x.fee], .agg #[.int .i64 x.key, .int .i64 x.frm, .int .i64 x.to, .int .i64 x.amt, .int .i64 x.fee]] w fun e w' => e = .returned (.bool true) ∧ Grow w w' := by
  obtain ⟨key, frm, to, amt, fee⟩ := x
  go_enter Try.func113, Try.ntmps113
  go_wp2
  all_goals
    go_ret
    refine ⟨rfl, ?_⟩
    repeat (first | exact Grow.refl _ | (refine Grow.setCell ?_ (by dsimp only; (try simp only [World.size_alloc, World.size_setCell]); omega) _) | (refine Grow.alloc ?_ _ _) | (refine Grow.drew ?_) | (refine Grow.trans ?_ (by assumption)))

set_option maxHeartbeats 1000000 in
set_option maxRecDepth 100000 in
theorem eqCircleS_c (xs : List Circle) (a a' : Option Addr) (cap cap' : Nat) (w : World) (hv : SlR 5 repCircle w 0 w.heap.size (.slice a xs.length cap) xs) (hv' : SlR 5 repCircle w 0 w.heap.size (.slice a' xs.length cap') xs) :
    Calls Try.prog 76 #[.slice a xs.length cap, .slice a' xs.length cap'] w fun e w' => e = .returned (.bool true) ∧ Grow w w' := by
  obtain ⟨a_, cap_, heq, hc1, hc2, hsl⟩ := hv
  injection heq with q1 q2 q3
  subst q1 q3
  obtain ⟨a_', cap_', heq', hc1', hc2', hsl'⟩ := hv'
  injection heq' with q1' q2' q3'
  subst q1' q3'
  have hm : xs.length ≤ 9223372036854775807 := by unfold maxLen at hc2; omega
  clear hc1 hc2 hc1' hc2' q2 q2'
  have HS := Lib.hid hsl; clear hsl
  have HS' := Lib.hid hsl'; clear hsl'
  have hbne : ((xs.length : Int) != (xs.length : Int)) = false := by simp
  go_enter Try.func76, Try.ntmps76
  go_wp2
  go_loopg [5] xs.length (fun g i wr => ∃ k : Nat, k + g = xs.length ∧ i = .int .i64 k ∧ Grow w wr)
  case atStart => exact ⟨0, by omega, rfl, Grow.refl _⟩
  case round =>
    obtain ⟨k, hk, rfl, hg⟩ := hrel
    by_cases hlt : k < xs.length
    · rcases HS.out with h0 | ⟨b, off, rfl, hb1, hb2, hel⟩
      · exfalso; rw [h0] at hlt; exact absurd hlt (by simp)
      rcases HS'.out with h0 | ⟨b', off', rfl, hb1', hb2', hel'⟩
      · exfalso; rw [h0] at hlt; exact absurd hlt (by simp)
      obtain ⟨e0, e1, e2, e3, e4, _⟩ := Circle.atCell (hel.same repCircle_stable (hg.same (Nat.le_refl _)) hb1 hb2) k hlt
      obtain ⟨e0', e1', e2', e3', e4', _⟩ := Circle.atCell (hel'.same repCircle_stable (hg.same (Nat.le_refl _)) hb1' hb2') k hlt
      have HG := Lib.hid hg; have HK := Lib.hid hk; clear hg hel hel' hk HS HS'
      generalize xs[k] = x at *
      go_wp2_with fail
      go_still_tail 8, (by kernel_rfl)
      go_wp2_with fail
      refine (eqCircle_c _ _).mono ?_
      rintro e w1 ⟨rfl, hg1⟩
      go_wp2
      go_roundg (xs.length - (k + 1))
      case measure => have := HK.out; omega
      case rel => exact ⟨k + 1, by omega, by go_num, HG.out.drew.trans hg1⟩
    · obtain rfl : k = xs.length := by omega
      have HG := Lib.hid hg; clear hg
      go_wp2
      go_ret
      exact ⟨rfl, HG.out⟩

theorem szCircleS_c (a : Option Addr) (n cap : Nat) (l : Int) (w : World) (hn : (n : Int) ≤ 9223372036854775807) (h1 : 0 ≤ l) (h2 : l ≤ 1048576) :
    Calls Try.prog 58 #[.slice a n cap, .int .i64 l] w fun e w' => e = .returned (.int .i64 (szL n l)) ∧ Grow w w' := by
  unfold szL
  by_cases h : l - n < 0
  all_goals
    go_enter Try.func58, Try.ntmps58
    go_wp2
    go_ret
    exact ⟨by simp, Grow.refl _⟩

end Go.Proofs.Ytbjnbhlpibadnaa

/- Contracts of the harness functions of Book -/
namespace Go.Proofs.Ytbjnbhlpibadnaa
open Go.RowKit
set_option linter.unusedSimpArgs false
set_option linter.unusedVariables false
set_option maxHeartbeats 2000000 in
set_option maxRecDepth 100000 in
theorem toBook_c (x : Book) (a0 : Option Addr) (c0 : Nat) (a1 : Option Addr) (c1 : Nat) (a2 : Option Addr) (c2 : Nat) (w : World) (h0 : SlR 7 repChan w 0 w.heap.size (.slice a0 x.chans.length c0) x.chans) (h1 : SlR 7 repHtlc w 0 w.heap.size (.slice a1 x.htlcs.length c1) x.htlcs) (h2 : SlR 5 repCircle w 0 w.heap.size (.slice a2 x.circles.length c2) x.circles) (n0 : x.chans.length ≤ 1048576) (n1 : x.htlcs.length ≤ 1048576) (n2 : x.circles.length ≤ 1048576) :
    Calls Try.prog 26 #[.agg #[.int .i64 x.tick, .int .i64 x.next, .int .i64 x.wallet, .slice a0 x.chans.length c0, .slice a1 x.htlcs.length c1, .slice a2 x.circles.length c2]] w fun e w' => ∃ a0' c0' p0 q0 a1' c1' p1 q1 a2' c2' p2 q2, e = .returned (.agg #[.int .i64 x.tick, .int .i64 x.next, .int .i64 x.wallet, .slice a0' x.chans.length c0', .slice a1' x.htlcs.length c1', .slice a2' x.circles.length c2']) ∧ Grow w w' ∧ (w.heap.size ≤ p0 ∧ p0 ≤ q0 ∧ q0 ≤ p1 ∧ p1 ≤ q1 ∧ q1 ≤ p2 ∧ p2 ≤ q2 ∧ q2 ≤ w'.heap.size) ∧ SlR 7 repChan w' p0 q0 (.slice a0' x.chans.length c0') x.chans ∧ SlR 7 repHtlc w' p1 q1 (.slice a1' x.htlcs.length c1') x.htlcs ∧ SlR 5 repCircle w' p2 q2 (.slice a2' x.circles.length c2') x.circles := by
  obtain ⟨tick, next, wallet, chans, htlcs, circles⟩ := x
  go_enter Try.func26, Try.ntmps26
  go_wp2_with fail
  obtain ⟨V, hV⟩ : ∃ V, V = ((w.alloc (.cells #[.int .i64 tick, .int .i64 next, .int .i64 wallet, .slice a0 chans.length c0, .slice a1 htlcs.length c1, .slice a2 circles.length c2] 47)).alloc (.cells #[.int .i64 0, .int .i64 0, .int .i64 0, .slice none 0 0, .slice none 0 0, .slice none 0 0] 58)).alloc (.cells #[.int .i64 tick, .int .i64 next, .int .i64 wallet, .slice none 0 0, .slice none 0 0, .slice none 0 0] 58) := ⟨_, rfl⟩
  have G : Grow w V := by rw [hV]; exact (((Grow.refl w).alloc _ _).alloc _ _).alloc _ _
  have B0 : Box V (w.heap.size) [.int .i64 tick, .int .i64 next, .int .i64 wallet, .slice a0 chans.length c0, .slice a1 htlcs.length c1, .slice a2 circles.length c2] := by rw [hV]; exact ((Box.new w _ _).alloc _ _).alloc _ _
  have B1 : Box V (w.heap.size + 1) [.int .i64 0, .int .i64 0, .int .i64 0, .slice none 0 0, .slice none 0 0, .slice none 0 0] := by rw [hV]; exact (Box.newAt (by simp) _ _).alloc _ _
  have B2 : Box V (w.heap.size + 1 + 1) [.int .i64 tick, .int .i64 next, .int .i64 wallet, .slice none 0 0, .slice none 0 0, .slice none 0 0] := by rw [hV]; exact Box.newAt (by simp) _ _
  have y0 : w.heap.size + 3 ≤ V.heap.size := by rw [hV]; simp
  rw [← hV]
  clear hV
  refine (toChanS_c chans _ _ _ (h0.grow' repChan_stable (Grow.below G)) n0).mono ?_
  rintro e w1 ⟨b0, d0, rfl, g1, s0⟩
  have y1 := Grow.size g1
  replace B0 : Box w1 (w.heap.size) [.int .i64 tick, .int .i64 next, .int .i64 wallet, .slice a0 chans.length c0, .slice a1 htlcs.length c1, .slice a2 circles.length c2] := B0.grow g1
  replace B1 : Box w1 (w.heap.size + 1) [.int .i64 0, .int .i64 0, .int .i64 0, .slice none 0 0, .slice none 0 0, .slice none 0 0] := B1.grow g1
  replace B2 : Box w1 (w.heap.size + 1 + 1) [.int .i64 tick, .int .i64 next, .int .i64 wallet, .slice none 0 0, .slice none 0 0, .slice none 0 0] := B2.grow g1
  replace G : Grow w w1 := Grow.trans G g1
  have s0 : SlR 7 repChan w1 V.heap.size w1.heap.size (.slice b0 chans.length d0) chans := s0
  clear g1
  have q0_0 : w1.cell? ⟨w.heap.size, 0, none⟩ = some (.int .i64 tick) := B0.c 0 _ rfl
  have q0_1 : w1.cell? ⟨w.heap.size, 1, none⟩ = some (.int .i64 next) := B0.c 1 _ rfl
  have q0_2 : w1.cell? ⟨w.heap.size, 2, none⟩ = some (.int .i64 wallet) := B0.c 2 _ rfl
  have q0_3 : w1.cell? ⟨w.heap.size, 3, none⟩ = some (.slice a0 chans.length c0) := B0.c 3 _ rfl
  have q0_4 : w1.cell? ⟨w.heap.size, 4, none⟩ = some (.slice a1 htlcs.length c1) := B0.c 4 _ rfl
  have q0_5 : w1.cell? ⟨w.heap.size, 5, none⟩ = some (.slice a2 circles.length c2) := B0.c 5 _ rfl
  have q1_0 : w1.cell? ⟨w.heap.size + 1, 0, none⟩ = some (.int .i64 0) := B1.c 0 _ rfl
  have q1_1 : w1.cell? ⟨w.heap.size + 1, 1, none⟩ = some (.int .i64 0) := B1.c 1 _ rfl
  have q1_2 : w1.cell? ⟨w.heap.size + 1, 2, none⟩ = some (.int .i64 0) := B1.c 2 _ rfl
  have q1_3 : w1.cell? ⟨w.heap.size + 1, 3, none⟩ = some (.slice none 0 0) := B1.c 3 _ rfl
  have q1_4 : w1.cell? ⟨w.heap.size + 1, 4, none⟩ = some (.slice none 0 0) := B1.c 4 _ rfl
  have q1_5 : w1.cell? ⟨w.heap.size + 1, 5, none⟩ = some (.slice none 0 0) := B1.c 5 _ rfl
  have f1 := B1.f
  have q2_0 : w1.cell? ⟨w.heap.size + 1 + 1, 0, none⟩ = some (.int .i64 tick) := B2.c 0 _ rfl
  have q2_1 : w1.cell? ⟨w.heap.size + 1 + 1, 1, none⟩ = some (.int .i64 next) := B2.c 1 _ rfl
  have q2_2 : w1.cell? ⟨w.heap.size + 1 + 1, 2, none⟩ = some (.int .i64 wallet) := B2.c 2 _ rfl
  have q2_3 : w1.cell? ⟨w.heap.size + 1 + 1, 3, none⟩ = some (.slice none 0 0) := B2.c 3 _ rfl
  have q2_4 : w1.cell? ⟨w.heap.size + 1 + 1, 4, none⟩ = some (.slice none 0 0) := B2.c 4 _ rfl
  have q2_5 : w1.cell? ⟨w.heap.size + 1 + 1, 5, none⟩ = some (.slice none 0 0) := B2.c 5 _ rfl
  have f2 := B2.f
  go_wp2_with fail
  refine (toHtlcS_c htlcs _ _ _ (h1.grow' repHtlc_stable (Grow.below (G.setCell (by show w.heap.size ≤ w.heap.size + 1 + 1; omega) _))) n1).mono ?_
  rintro e w2 ⟨b1, d1, rfl, g2, s1⟩
  clear q0_0 q0_1 q0_2 q0_3 q0_4 q0_5 q1_0 q1_1 q1_2 q1_3 q1_4 q1_5 q2_0 q2_1 q2_2 q2_3 q2_4 q2_5 f1 f2
  have y2 := Grow.size g2
  simp only [World.size_setCell] at y2
  replace B0 : Box w2 (w.heap.size) [.int .i64 tick, .int .i64 next, .int .i64 wallet, .slice a0 chans.length c0, .slice a1 htlcs.length c1, .slice a2 circles.length c2] := (B0.other (by show w.heap.size + 1 + 1 ≠ w.heap.size; omega) _).grow g2
  replace B1 : Box w2 (w.heap.size + 1) [.int .i64 0, .int .i64 0, .int .i64 0, .slice none 0 0, .slice none 0 0, .slice none 0 0] := (B1.other (by show w.heap.size + 1 + 1 ≠ w.heap.size + 1; omega) _).grow g2
  replace B2 : Box w2 (w.heap.size + 1 + 1) [.int .i64 tick, .int .i64 next, .int .i64 wallet, .slice b0 chans.length d0, .slice none 0 0, .slice none 0 0] := (B2.set 3 (by simp) _).grow g2
  replace G : Grow w w2 := Grow.trans (G.setCell (by show w.heap.size ≤ w.heap.size + 1 + 1; omega) _) g2
  replace s0 := s0.same repChan_stable (Same.grown ((Same.refl V.heap.size w1.heap.size w1).setCell (.inl (by show w.heap.size + 1 + 1 < V.heap.size; omega)) _) g2 (by simp only [World.size_setCell]; omega))
  have s1 : SlR 7 repHtlc w2 w1.heap.size w2.heap.size (.slice b1 htlcs.length d1) htlcs := by simpa only [World.size_setCell] using s1
  clear g2
  have q0_0 : w2.cell? ⟨w.heap.size, 0, none⟩ = some (.int .i64 tick) := B0.c 0 _ rfl
  have q0_1 : w2.cell? ⟨w.heap.size, 1, none⟩ = some (.int .i64 next) := B0.c 1 _ rfl
  have q0_2 : w2.cell? ⟨w.heap.size, 2, none⟩ = some (.int .i64 wallet) := B0.c 2 _ rfl
  have q0_3 : w2.cell? ⟨w.heap.size, 3, none⟩ = some (.slice a0 chans.length c0) := B0.c 3 _ rfl
  have q0_4 : w2.cell? ⟨w.heap.size, 4, none⟩ = some (.slice a1 htlcs.length c1) := B0.c 4 _ rfl
  have q0_5 : w2.cell? ⟨w.heap.size, 5, none⟩ = some (.slice a2 circles.length c2) := B0.c 5 _ rfl
  have q1_0 : w2.cell? ⟨w.heap.size + 1, 0, none⟩ = some (.int .i64 0) := B1.c 0 _ rfl
  have q1_1 : w2.cell? ⟨w.heap.size + 1, 1, none⟩ = some (.int .i64 0) := B1.c 1 _ rfl
  have q1_2 : w2.cell? ⟨w.heap.size + 1, 2, none⟩ = some (.int .i64 0) := B1.c 2 _ rfl
  have q1_3 : w2.cell? ⟨w.heap.size + 1, 3, none⟩ = some (.slice none 0 0) := B1.c 3 _ rfl
  have q1_4 : w2.cell? ⟨w.heap.size + 1, 4, none⟩ = some (.slice none 0 0) := B1.c 4 _ rfl
  have q1_5 : w2.cell? ⟨w.heap.size + 1, 5, none⟩ = some (.slice none 0 0) := B1.c 5 _ rfl
  have f1 := B1.f
  have q2_0 : w2.cell? ⟨w.heap.size + 1 + 1, 0, none⟩ = some (.int .i64 tick) := B2.c 0 _ rfl
  have q2_1 : w2.cell? ⟨w.heap.size + 1 + 1, 1, none⟩ = some (.int .i64 next) := B2.c 1 _ rfl
  have q2_2 : w2.cell? ⟨w.heap.size + 1 + 1, 2, none⟩ = some (.int .i64 wallet) := B2.c 2 _ rfl
  have q2_3 : w2.cell? ⟨w.heap.size + 1 + 1, 3, none⟩ = some (.slice b0 chans.length d0) := B2.c 3 _ rfl
  have q2_4 : w2.cell? ⟨w.heap.size + 1 + 1, 4, none⟩ = some (.slice none 0 0) := B2.c 4 _ rfl
  have q2_5 : w2.cell? ⟨w.heap.size + 1 + 1, 5, none⟩ = some (.slice none 0 0) := B2.c 5 _ rfl
  have f2 := B2.f
  go_wp2_with fail
  refine (toCircleS_c circles _ _ _ (h2.grow' repCircle_stable (Grow.below (G.setCell (by show w.heap.size ≤ w.heap.size + 1 + 1; omega) _))) n2).mono ?_
  rintro e w3 ⟨b2, d2, rfl, g3, s2⟩
  clear q0_0 q0_1 q0_2 q0_3 q0_4 q0_5 q1_0 q1_1 q1_2 q1_3 q1_4 q1_5 q2_0 q2_1 q2_2 q2_3 q2_4 q2_5 f1 f2
  have y3 := Grow.size g3
  simp only [World.size_setCell] at y3
  replace B0 : Box w3 (w.heap.size) [.int .i64 tick, .int .i64 next, .int .i64 wallet, .slice a0 chans.length c0, .slice a1 htlcs.length c1, .slice a2 circles.length c2] := (B0.other (by show w.heap.size + 1 + 1 ≠ w.heap.size; omega) _).grow g3
  replace B1 : Box w3 (w.heap.size + 1) [.int .i64 0, .int .i64 0, .int .i64 0, .slice none 0 0, .slice none 0 0, .slice none 0 0] := (B1.other (by show w.heap.size + 1 + 1 ≠ w.heap.size + 1; omega) _).grow g3
  replace B2 : Box w3 (w.heap.size + 1 + 1) [.int .i64 tick, .int .i64 next, .int .i64 wallet, .slice b0 chans.length d0, .slice b1 htlcs.length d1, .slice none 0 0] := (B2.set 4 (by simp) _).grow g3
  replace G : Grow w w3 := Grow.trans (G.setCell (by show w.heap.size ≤ w.heap.size + 1 + 1; omega) _) g3
  replace s0 := s0.same repChan_stable (Same.grown ((Same.refl V.heap.size w1.heap.size w2).setCell (.inl (by show w.heap.size + 1 + 1 < V.heap.size; omega)) _) g3 (by simp only [World.size_setCell]; omega))
  replace s1 := s1.same repHtlc_stable (Same.grown ((Same.refl w1.heap.size w2.heap.size w2).setCell (.inl (by show w.heap.size + 1 + 1 < w1.heap.size; omega)) _) g3 (by simp only [World.size_setCell]; omega))
  have s2 : SlR 5 repCircle w3 w2.heap.size w3.heap.size (.slice b2 circles.length d2) circles := by simpa only [World.size_setCell] using s2
  clear g3
  have q0_0 : w3.cell? ⟨w.heap.size, 0, none⟩ = some (.int .i64 tick) := B0.c 0 _ rfl
  have q0_1 : w3.cell? ⟨w.heap.size, 1, none⟩ = some (.int .i64 next) := B0.c 1 _ rfl
  have q0_2 : w3.cell? ⟨w.heap.size, 2, none⟩ = some (.int .i64 wallet) := B0.c 2 _ rfl
  have q0_3 : w3.cell? ⟨w.heap.size, 3, none⟩ = some (.slice a0 chans.length c0) := B0.c 3 _ rfl
  have q0_4 : w3.cell? ⟨w.heap.size, 4, none⟩ = some (.slice a1 htlcs.length c1) := B0.c 4 _ rfl
  have q0_5 : w3.cell? ⟨w.heap.size, 5, none⟩ = some (.slice a2 circles.length c2) := B0.c 5 _ rfl
  have q1_0 : w3.cell? ⟨w.heap.size + 1, 0, none⟩ = some (.int .i64 0) := B1.c 0 _ rfl
  have q1_1 : w3.cell? ⟨w.heap.size + 1, 1, none⟩ = some (.int .i64 0) := B1.c 1 _ rfl
  have q1_2 : w3.cell? ⟨w.heap.size + 1, 2, none⟩ = some (.int .i64 0) := B1.c 2 _ rfl
  have q1_3 : w3.cell? ⟨w.heap.size + 1, 3, none⟩ = some (.slice none 0 0) := B1.c 3 _ rfl
  have q1_4 : w3.cell? ⟨w.heap.size + 1, 4, none⟩ = some (.slice none 0 0) := B1.c 4 _ rfl
  have q1_5 : w3.cell? ⟨w.heap.size + 1, 5, none⟩ = some (.slice none 0 0) := B1.c 5 _ rfl
  have f1 := B1.f
  have q2_0 : w3.cell? ⟨w.heap.size + 1 + 1, 0, none⟩ = some (.int .i64 tick) := B2.c 0 _ rfl
  have q2_1 : w3.cell? ⟨w.heap.size + 1 + 1, 1, none⟩ = some (.int .i64 next) := B2.c 1 _ rfl
  have q2_2 : w3.cell? ⟨w.heap.size + 1 + 1, 2, none⟩ = some (.int .i64 wallet) := B2.c 2 _ rfl
  have q2_3 : w3.cell? ⟨w.heap.size + 1 + 1, 3, none⟩ = some (.slice b0 chans.length d0) := B2.c 3 _ rfl
  have q2_4 : w3.cell? ⟨w.heap.size + 1 + 1, 4, none⟩ = some (.slice b1 htlcs.length d1) := B2.c 4 _ rfl
  have q2_5 : w3.cell? ⟨w.heap.size + 1 + 1, 5, none⟩ = some (.slice none 0 0) := B2.c 5 _ rfl
  have f2 := B2.f
  go_wp2_with fail
  refine bodyPost_ret (v := .agg #[.int .i64 tick, .int .i64 next, .int .i64 wallet, .slice b0 chans.length d0, .slice b1 htlcs.length d1, .slice b2 circles.length d2]) (by simp [results, Try.results26, go_sem, q1_0, q1_1, q1_2, q1_3, q1_4, q1_5]) rfl ?_
  refine ⟨b0, d0, V.heap.size, w1.heap.size, b1, d1, w1.heap.size, w2.heap.size, b2, d2, w2.heap.size, w3.heap.size, rfl, (((((((G.setCell (by show w.heap.size ≤ w.heap.size + 1 + 1; omega) _).setCell (by show w.heap.size ≤ w.heap.size + 1; omega) _).setCell (by show w.heap.size ≤ w.heap.size + 1; omega) _).setCell (by show w.heap.size ≤ w.heap.size + 1; omega) _).setCell (by show w.heap.size ≤ w.heap.size + 1; omega) _).setCell (by show w.heap.size ≤ w.heap.size + 1; omega) _).setCell (by show w.heap.size ≤ w.heap.size + 1; omega) _), ?_, ?_, ?_, ?_⟩
  · simp only [World.size_setCell]; omega
  · exact s0.same repChan_stable ((((((((Same.refl V.heap.size w1.heap.size _).setCell (.inl (by show w.heap.size + 1 + 1 < V.heap.size; omega)) _).setCell (.inl (by show w.heap.size + 1 < V.heap.size; omega)) _).setCell (.inl (by show w.heap.size + 1 < V.heap.size; omega)) _).setCell (.inl (by show w.heap.size + 1 < V.heap.size; omega)) _).setCell (.inl (by show w.heap.size + 1 < V.heap.size; omega)) _).setCell (.inl (by show w.heap.size + 1 < V.heap.size; omega)) _).setCell (.inl (by show w.heap.size + 1 < V.heap.size; omega)) _)
  · exact s1.same repHtlc_stable ((((((((Same.refl w1.heap.size w2.heap.size _).setCell (.inl (by show w.heap.size + 1 + 1 < w1.heap.size; omega)) _).setCell (.inl (by show w.heap.size + 1 < w1.heap.size; omega)) _).setCell (.inl (by show w.heap.size + 1 < w1.heap.size; omega)) _).setCell (.inl (by show w.heap.size + 1 < w1.heap.size; omega)) _).setCell (.inl (by show w.heap.size + 1 < w1.heap.size; omega)) _).setCell (.inl (by show w.heap.size + 1 < w1.heap.size; omega)) _).setCell (.inl (by show w.heap.size + 1 < w1.heap.size; omega)) _)
  · exact s2.same repCircle_stable ((((((((Same.refl w2.heap.size w3.heap.size _).setCell (.inl (by show w.heap.size + 1 + 1 < w2.heap.size; omega)) _).setCell (.inl (by show w.heap.size + 1 < w2.heap.size; omega)) _).setCell (.inl (by show w.heap.size + 1 < w2.heap.size; omega)) _).setCell (.inl (by show w.heap.size + 1 < w2.heap.size; omega)) _).setCell (.inl (by show w.heap.size + 1 < w2.heap.size; omega)) _).setCell (.inl (by show w.heap.size + 1 < w2.heap.size; omega)) _).setCell (.inl (by show w.heap.size + 1 < w2.heap.size; omega)) _)

set_option maxHeartbeats 2000000 in
set_option maxRecDepth 100000 in
theorem eqBook_c (x : Book) (a0 a0' : Option Addr) (c0 c0' : Nat) (a1 a1' : Option Addr) (c1 c1' : Nat) (a2 a2' : Option Addr) (c2 c2' : Nat) (w : World) (h0 : SlR 7 repChan w 0 w.heap.size (.slice a0 x.chans.length c0) x.chans) (h0' : SlR 7 repChan w 0 w.heap.size (.slice a0' x.chans.length c0') x.chans) (h1 : SlR 7 repHtlc w 0 w.heap.size (.slice a1 x.htlcs.length c1) x.htlcs) (h1' : SlR 7 repHtlc w 0 w.heap.size (.slice a1' x.htlcs.length c1') x.htlcs) (h2 : SlR 5 repCircle w 0 w.heap.size (.slice a2 x.circles.length c2) x.circles) (h2' : SlR 5 repCircle w 0 w.heap.size (.slice a2' x.circles.length c2') x.circles) :
    Calls Try.prog 29 #[.agg #[.int .i64 x.tick, .int .i64 x.next, .int .i64 x.wallet, .slice a0 x.chans.length c0, .slice a1 x.htlcs.length c1, .slice a2 x.circles.length c2], .agg #[.int .i64 x.tick, .int .i64 x.next, .int .i64 x.wallet, .slice a0' x.chans.length c0', .slice a1' x.htlcs.length c1', .slice a2' x.circles.length c2']] w fun e w' => e = .returned (.bool true) ∧ Grow w w' := by
  obtain ⟨tick, next, wallet, chans, htlcs, circles⟩ := x
  go_enter Try.func29, Try.ntmps29
  go_wp2_with fail
  obtain ⟨V, hV⟩ : ∃ V, V = (w.alloc (.cells #[.int .i64 tick, .int .i64 next, .int .i64 wallet, .slice a0 chans.length c0, .slice a1 htlcs.length c1, .slice a2 circles.length c2] 58)).alloc (.cells #[.int .i64 tick, .int .i64 next, .int .i64 wallet, .slice a0' chans.length c0', .slice a1' htlcs.length c1', .slice a2' circles.length c2'] 58) := ⟨_, rfl⟩
  have G : Grow w V := by rw [hV]; exact ((Grow.refl w).alloc _ _).alloc _ _
  have B0 : Box V (w.heap.size) [.int .i64 tick, .int .i64 next, .int .i64 wallet, .slice a0 chans.length c0, .slice a1 htlcs.length c1, .slice a2 circles.length c2] := by rw [hV]; exact (Box.new w _ _).alloc _ _
  have B1 : Box V (w.heap.size + 1) [.int .i64 tick, .int .i64 next, .int .i64 wallet, .slice a0' chans.length c0', .slice a1' htlcs.length c1', .slice a2' circles.length c2'] := by rw [hV]; exact Box.newAt (by simp) _ _
  rw [← hV]
  clear hV
  refine (eqChanS_c chans _ _ _ _ _ (h0.grow' repChan_stable (Grow.below (by repeat (first | exact G | (refine Grow.drew ?_) | (refine Grow.drewN ?_ _) | (refine Grow.alloc ?_ _ _))))) (h0'.grow' repChan_stable (Grow.below (by repeat (first | exact G | (refine Grow.drew ?_) | (refine Grow.drewN ?_ _) | (refine Grow.alloc ?_ _ _)))))).mono ?_
  rintro e w1 ⟨rfl, g1⟩
  have G' := Grow.trans (show Grow w _ by repeat (first | exact G | (refine Grow.drew ?_) | (refine Grow.drewN ?_ _) | (refine Grow.alloc ?_ _ _))) g1
  replace B0 : Box w1 (w.heap.size) [.int .i64 tick, .int .i64 next, .int .i64 wallet, .slice a0 chans.length c0, .slice a1 htlcs.length c1, .slice a2 circles.length c2] := Box.grow (by repeat (first | exact B0 | (refine Box.drew ?_) | (refine Box.drewN ?_ _))) g1
  replace B1 : Box w1 (w.heap.size + 1) [.int .i64 tick, .int .i64 next, .int .i64 wallet, .slice a0' chans.length c0', .slice a1' htlcs.length c1', .slice a2' circles.length c2'] := Box.grow (by repeat (first | exact B1 | (refine Box.drew ?_) | (refine Box.drewN ?_ _))) g1
  replace G := G'
  clear g1 G'
  have q0_0 : w1.cell? ⟨w.heap.size, 0, none⟩ = some (.int .i64 tick) := B0.c 0 _ rfl
  have q0_1 : w1.cell? ⟨w.heap.size, 1, none⟩ = some (.int .i64 next) := B0.c 1 _ rfl
  have q0_2 : w1.cell? ⟨w.heap.size, 2, none⟩ = some (.int .i64 wallet) := B0.c 2 _ rfl
  have q0_3 : w1.cell? ⟨w.heap.size, 3, none⟩ = some (.slice a0 chans.length c0) := B0.c 3 _ rfl
  have q0_4 : w1.cell? ⟨w.heap.size, 4, none⟩ = some (.slice a1 htlcs.length c1) := B0.c 4 _ rfl
  have q0_5 : w1.cell? ⟨w.heap.size, 5, none⟩ = some (.slice a2 circles.length c2) := B0.c 5 _ rfl
  have q1_0 : w1.cell? ⟨w.heap.size + 1, 0, none⟩ = some (.int .i64 tick) := B1.c 0 _ rfl
  have q1_1 : w1.cell? ⟨w.heap.size + 1, 1, none⟩ = some (.int .i64 next) := B1.c 1 _ rfl
  have q1_2 : w1.cell? ⟨w.heap.size + 1, 2, none⟩ = some (.int .i64 wallet) := B1.c 2 _ rfl
  have q1_3 : w1.cell? ⟨w.heap.size + 1, 3, none⟩ = some (.slice a0' chans.length c0') := B1.c 3 _ rfl
  have q1_4 : w1.cell? ⟨w.heap.size + 1, 4, none⟩ = some (.slice a1' htlcs.length c1') := B1.c 4 _ rfl
  have q1_5 : w1.cell? ⟨w.heap.size + 1, 5, none⟩ = some (.slice a2' circles.length c2') := B1.c 5 _ rfl
  go_wp2_with fail
  refine (eqHtlcS_c htlcs _ _ _ _ _ (h1.grow' repHtlc_stable (Grow.below (by repeat (first | exact G | (refine Grow.drew ?_) | (refine Grow.drewN ?_ _) | (refine Grow.alloc ?_ _ _))))) (h1'.grow' repHtlc_stable (Grow.below (by repeat (first | exact G | (refine Grow.drew ?_) | (refine Grow.drewN ?_ _) | (refine Grow.alloc ?_ _ _)))))).mono ?_
  rintro e w2 ⟨rfl, g2⟩
  clear q0_0 q0_1 q0_2 q0_3 q0_4 q0_5 q1_0 q1_1 q1_2 q1_3 q1_4 q1_5
  have G' := Grow.trans (show Grow w _ by repeat (first | exact G | (refine Grow.drew ?_) | (refine Grow.drewN ?_ _) | (refine Grow.alloc ?_ _ _))) g2
  replace B0 : Box w2 (w.heap.size) [.int .i64 tick, .int .i64 next, .int .i64 wallet, .slice a0 chans.length c0, .slice a1 htlcs.length c1, .slice a2 circles.length c2] := Box.grow (by repeat (first | exact B0 | (refine Box.drew ?_) | (refine Box.drewN ?_ _))) g2
  replace B1 : Box w2 (w.heap.size + 1) [.int .i64 tick, .int .i64 next, .int .i64 wallet, .slice a0' chans.length c0', .slice a1' htlcs.length c1', .slice a2' circles.length c2'] := Box.grow (by repeat (first | exact B1 | (refine Box.drew ?_) | (refine Box.drewN ?_ _))) g2
  replace G := G'
  clear g2 G'
  have q0_0 : w2.cell? ⟨w.heap.size, 0, none⟩ = some (.int .i64 tick) := B0.c 0 _ rfl
  have q0_1 : w2.cell? ⟨w.heap.size, 1, none⟩ = some (.int .i64 next) := B0.c 1 _ rfl
  have q0_2 : w2.cell? ⟨w.heap.size, 2, none⟩ = some (.int .i64 wallet) := B0.c 2 _ rfl
  have q0_3 : w2.cell? ⟨w.heap.size, 3, none⟩ = some (.slice a0 chans.length c0) := B0.c 3 _ rfl
  have q0_4 : w2.cell? ⟨w.heap.size, 4, none⟩ = some (.slice a1 htlcs.length c1) := B0.c 4 _ rfl
  have q0_5 : w2.cell? ⟨w.heap.size, 5, none⟩ = some (.slice a2 circles.length c2) := B0.c 5 _ rfl
  have q1_0 : w2.cell? ⟨w.heap.size + 1, 0, none⟩ = some (.int .i64 tick) := B1.c 0 _ rfl
  have q1_1 : w2.cell? ⟨w.heap.size + 1, 1, none⟩ = some (.int .i64 next) := B1.c 1 _ rfl
  have q1_2 : w2.cell? ⟨w.heap.size + 1, 2, none⟩ = some (.int .i64 wallet) := B1.c 2 _ rfl
  have q1_3 : w2.cell? ⟨w.heap.size + 1, 3, none⟩ = some (.slice a0' chans.length c0') := B1.c 3 _ rfl
  have q1_4 : w2.cell? ⟨w.heap.size + 1, 4, none⟩ = some (.slice a1' htlcs.length c1') := B1.c 4 _ rfl
  have q1_5 : w2.cell? ⟨w.heap.size + 1, 5, none⟩ = some (.slice a2' circles.length c2') := B1.c 5 _ rfl
  go_wp2_with fail
  refine (eqCircleS_c circles _ _ _ _ _ (h2.grow' repCircle_stable (Grow.below (by repeat (first | exact G | (refine Grow.drew ?_) | (refine Grow.drewN ?_ _) | (refine Grow.alloc ?_ _ _))))) (h2'.grow' repCircle_stable (Grow.below (by repeat (first | exact G | (refine Grow.drew ?_) | (refine Grow.drewN ?_ _) | (refine Grow.alloc ?_ _ _)))))).mono ?_
  rintro e w3 ⟨rfl, g3⟩
  clear q0_0 q0_1 q0_2 q0_3 q0_4 q0_5 q1_0 q1_1 q1_2 q1_3 q1_4 q1_5
  have G' := Grow.trans (show Grow w _ by repeat (first | exact G | (refine Grow.drew ?_) | (refine Grow.drewN ?_ _) | (refine Grow.alloc ?_ _ _))) g3
  replace B0 : Box w3 (w.heap.size) [.int .i64 tick, .int .i64 next, .int .i64 wallet, .slice a0 chans.length c0, .slice a1 htlcs.length c1, .slice a2 circles.length c2] := Box.grow (by repeat (first | exact B0 | (refine Box.drew ?_) | (refine Box.drewN ?_ _))) g3
  replace B1 : Box w3 (w.heap.size + 1) [.int .i64 tick, .int .i64 next, .int .i64 wallet, .slice a0' chans.length c0', .slice a1' htlcs.length c1', .slice a2' circles.length c2'] := Box.grow (by repeat (first | exact B1 | (refine Box.drew ?_) | (refine Box.drewN ?_ _))) g3
  replace G := G'
  clear g3 G'
  have q0_0 : w3.cell? ⟨w.heap.size, 0, none⟩ = some (.int .i64 tick) := B0.c 0 _ rfl
  have q0_1 : w3.cell? ⟨w.heap.size, 1, none⟩ = some (.int .i64 next) := B0.c 1 _ rfl
  have q0_2 : w3.cell? ⟨w.heap.size, 2, none⟩ = some (.int .i64 wallet) := B0.c 2 _ rfl
  have q0_3 : w3.cell? ⟨w.heap.size, 3, none⟩ = some (.slice a0 chans.length c0) := B0.c 3 _ rfl
  have q0_4 : w3.cell? ⟨w.heap.size, 4, none⟩ = some (.slice a1 htlcs.length c1) := B0.c 4 _ rfl
  have q0_5 : w3.cell? ⟨w.heap.size, 5, none⟩ = some (.slice a2 circles.length c2) := B0.c 5 _ rfl
  have q1_0 : w3.cell? ⟨w.heap.size + 1, 0, none⟩ = some (.int .i64 tick) := B1.c 0 _ rfl
  have q1_1 : w3.cell? ⟨w.heap.size + 1, 1, none⟩ = some (.int .i64 next) := B1.c 1 _ rfl
  have q1_2 : w3.cell? ⟨w.heap.size + 1, 2, none⟩ = some (.int .i64 wallet) := B1.c 2 _ rfl
  have q1_3 : w3.cell? ⟨w.heap.size + 1, 3, none⟩ = some (.slice a0' chans.length c0') := B1.c 3 _ rfl
  have q1_4 : w3.cell? ⟨w.heap.size + 1, 4, none⟩ = some (.slice a1' htlcs.length c1') := B1.c 4 _ rfl
  have q1_5 : w3.cell? ⟨w.heap.size + 1, 5, none⟩ = some (.slice a2' circles.length c2') := B1.c 5 _ rfl
  go_wp2_with fail
  go_ret
  refine ⟨rfl, ?_⟩
  repeat (first | exact G | (refine Grow.drew ?_) | (refine Grow.drewN ?_ _) | (refine Grow.alloc ?_ _ _))

def szBook (x : Book) (l : Int) : Int := szN (szL x.chans.length l) fun l => szN (szL x.htlcs.length l) fun l => szN (szL x.circles.length l) fun l => l
theorem szBook_le (x : Book) (l : Int) (h : 0 ≤ szBook x l) (hl : l ≤ 1048576) : szBook x l ≤ l ∧ (x.chans.length ≤ 1048576) ∧ (x.htlcs.length ≤ 1048576) ∧ (x.circles.length ≤ 1048576) := by
  unfold szBook at h ⊢
  obtain ⟨p0, h0, e0⟩ := szN_le h
  obtain ⟨r0, b0⟩ := szL_le _ _ p0
  obtain ⟨p1, h1, e1⟩ := szN_le h0
  obtain ⟨r1, b1⟩ := szL_le _ _ p1
  obtain ⟨p2, h2, e2⟩ := szN_le h1
  obtain ⟨r2, b2⟩ := szL_le _ _ p2
  rw [e0, e1, e2]
  exact ⟨by omega, by omega, by omega, by omega⟩

set_option maxHeartbeats 2000000 in
set_option maxRecDepth 100000 in
theorem szBook_c (x : Book) (a0 : Option Addr) (c0 : Nat) (a1 : Option Addr) (c1 : Nat) (a2 : Option Addr) (c2 : Nat) (l : Int) (w : World) (m0 : SlR 7 repChan w 0 w.heap.size (.slice a0 x.chans.length c0) x.chans) (m1 : SlR 7 repHtlc w 0 w.heap.size (.slice a1 x.htlcs.length c1) x.htlcs) (m2 : SlR 5 repCircle w 0 w.heap.size (.slice a2 x.circles.length c2) x.circles) (l1 : 0 ≤ l) (l2 : l ≤ 1048576) :
    Calls Try.prog 23 #[.agg #[.int .i64 x.tick, .int .i64 x.next, .int .i64 x.wallet, .slice a0 x.chans.length c0, .slice a1 x.htlcs.length c1, .slice a2 x.circles.length c2], .int .i64 l] w fun e w' => e = .returned (.int .i64 (szBook x l)) ∧ Grow w w' := by
  unfold szBook
  by_cases t1 : szL x.chans.length (l) < 0
  · have T1 := Lib.hid t1
    go_enter Try.func23, Try.ntmps23
    go_wp2_with fail
    refine (szChanS_c _ _ _ _ _ (by have := m0; obtain ⟨_, _, _, hh1, hh2, _⟩ := this; unfold maxLen at hh2; omega) (by omega) (by omega)).mono ?_
    rintro e w1 ⟨rfl, g1⟩
    obtain ⟨k1, f1⟩ := bcell g1
    have z1 : w.heap.size < w1.heap.size := by have := g1.size; (try simp at this); omega
    go_wp2_with fail
    go_ret
    refine ⟨by have t1 := T1.out; simp only [szN, if_pos (show szL x.chans.length (l) < 0 by omega)]; rfl, ?_⟩
    repeat (first | exact Grow.refl _ | (refine Grow.setCell ?_ (by dsimp only; (try simp only [World.size_alloc, World.size_setCell]); omega) _) | (refine Grow.alloc ?_ _ _) | (refine Grow.drew ?_) | (refine Grow.trans ?_ (by assumption)))
  have y1 := (szL_le _ _ (Int.not_lt.1 t1)).1
  by_cases t2 : szL x.htlcs.length (szL x.chans.length (l)) < 0
  · have T1 := Lib.hid t1
    have T2 := Lib.hid t2
    go_enter Try.func23, Try.ntmps23
    go_wp2_with fail
    refine (szChanS_c _ _ _ _ _ (by have := m0; obtain ⟨_, _, _, hh1, hh2, _⟩ := this; unfold maxLen at hh2; omega) (by omega) (by omega)).mono ?_
    rintro e w1 ⟨rfl, g1⟩
    obtain ⟨k1, f1⟩ := bcell g1
    have z1 : w.heap.size < w1.heap.size := by have := g1.size; (try simp at this); omega
    go_wp2_with fail
    refine (szHtlcS_c _ _ _ _ _ (by have := m1; obtain ⟨_, _, _, hh1, hh2, _⟩ := this; unfold maxLen at hh2; omega) (by omega) (by omega)).mono ?_
    rintro e w2 ⟨rfl, g2⟩
    obtain ⟨k2, f2⟩ := bcell g2
    have z2 : w.heap.size < w2.heap.size := by have := g2.size; (try simp at this); omega
    go_wp2_with fail
    go_ret
    refine ⟨by have t1 := T1.out; have t2 := T2.out; simp only [szN, if_neg (show ¬ szL x.chans.length (l) < 0 by omega), if_pos (show szL x.htlcs.length (szL x.chans.length (l)) < 0 by omega)]; rfl, ?_⟩
    repeat (first | exact Grow.refl _ | (refine Grow.setCell ?_ (by dsimp only; (try simp only [World.size_alloc, World.size_setCell]); omega) _) | (refine Grow.alloc ?_ _ _) | (refine Grow.drew ?_) | (refine Grow.trans ?_ (by assumption)))
  have y2 := (szL_le _ _ (Int.not_lt.1 t2)).1
  by_cases t3 : szL x.circles.length (szL x.htlcs.length (szL x.chans.length (l))) < 0
  · have T1 := Lib.hid t1
    have T2 := Lib.hid t2
    have T3 := Lib.hid t3
    go_enter Try.func23, Try.ntmps23
    go_wp2_with fail
    refine (szChanS_c _ _ _ _ _ (by have := m0; obtain ⟨_, _, _, hh1, hh2, _⟩ := this; unfold maxLen at hh2; omega) (by omega) (by omega)).mono ?_
    rintro e w1 ⟨rfl, g1⟩
    obtain ⟨k1, f1⟩ := bcell g1
    have z1 : w.heap.size < w1.heap.size := by have := g1.size; (try simp at this); omega
    go_wp2_with fail
    refine (szHtlcS_c _ _ _ _ _ (by have := m1; obtain ⟨_, _, _, hh1, hh2, _⟩ := this; unfold maxLen at hh2; omega) (by omega) (by omega)).mono ?_
    rintro e w2 ⟨rfl, g2⟩
    obtain ⟨k2, f2⟩ := bcell g2
    have z2 : w.heap.size < w2.heap.size := by have := g2.size; (try simp at this); omega
    go_wp2_with fail
    refine (szCircleS_c _ _ _ _ _ (by have := m2; obtain ⟨_, _, _, hh1, hh2, _⟩ := this; unfold maxLen at hh2; omega) (by omega) (by omega)).mono ?_
    rintro e w3 ⟨rfl, g3⟩
    obtain ⟨k3, f3⟩ := bcell g3
    have z3 : w.heap.size < w3.heap.size := by have := g3.size; (try simp at this); omega
    go_wp2_with fail
    go_ret
    refine ⟨by have t1 := T1.out; have t2 := T2.out; have t3 := T3.out; simp only [szN, if_neg (show ¬ szL x.chans.length (l) < 0 by omega), if_neg (show ¬ szL x.htlcs.length (szL x.chans.length (l)) < 0 by omega), if_pos (show szL x.circles.length (szL x.htlcs.length (szL x.chans.length (l))) < 0 by omega)]; rfl, ?_⟩
    repeat (first | exact Grow.refl _ | (refine Grow.setCell ?_ (by dsimp only; (try simp only [World.size_alloc, World.size_setCell]); omega) _) | (refine Grow.alloc ?_ _ _) | (refine Grow.drew ?_) | (refine Grow.trans ?_ (by assumption)))
  have y3 := (szL_le _ _ (Int.not_lt.1 t3)).1
  have T1 := Lib.hid t1
  have T2 := Lib.hid t2
  have T3 := Lib.hid t3
  go_enter Try.func23, Try.ntmps23
  go_wp2_with fail
  refine (szChanS_c _ _ _ _ _ (by have := m0; obtain ⟨_, _, _, hh1, hh2, _⟩ := this; unfold maxLen at hh2; omega) (by omega) (by omega)).mono ?_
  rintro e w1 ⟨rfl, g1⟩
  obtain ⟨k1, f1⟩ := bcell g1
  have z1 : w.heap.size < w1.heap.size := by have := g1.size; (try simp at this); omega
  go_wp2_with fail
  refine (szHtlcS_c _ _ _ _ _ (by have := m1; obtain ⟨_, _, _, hh1, hh2, _⟩ := this; unfold maxLen at hh2; omega) (by omega) (by omega)).mono ?_
  rintro e w2 ⟨rfl, g2⟩
  obtain ⟨k2, f2⟩ := bcell g2
  have z2 : w.heap.size < w2.heap.size := by have := g2.size; (try simp at this); omega
  go_wp2_with fail
  refine (szCircleS_c _ _ _ _ _ (by have := m2; obtain ⟨_, _, _, hh1, hh2, _⟩ := this; unfold maxLen at hh2; omega) (by omega) (by omega)).mono ?_
  rintro e w3 ⟨rfl, g3⟩
  obtain ⟨k3, f3⟩ := bcell g3
  have z3 : w.heap.size < w3.heap.size := by have := g3.size; (try simp at this); omega
  go_wp2_with fail
  go_ret
  refine ⟨by have t1 := T1.out; have t2 := T2.out; have t3 := T3.out; simp only [szN, if_neg (show ¬ szL x.chans.length (l) < 0 by omega), if_neg (show ¬ szL x.htlcs.length (szL x.chans.length (l)) < 0 by omega), if_neg (show ¬ szL x.circles.length (szL x.htlcs.length (szL x.chans.length (l))) < 0 by omega)]; rfl, ?_⟩
  repeat (first | exact Grow.refl _ | (refine Grow.setCell ?_ (by dsimp only; (try simp only [World.size_alloc, World.size_setCell]); omega) _) | (refine Grow.alloc ?_ _ _) | (refine Grow.drew ?_) | (refine Grow.trans ?_ (by assumption)))

end Go.Proofs.Ytbjnbhlpibadnaa

/- Contracts of the harness functions of Price -/
namespace Go.Proofs.Ytbjnbhlpibadnaa
open Go.RowKit
set_option linter.unusedSimpArgs false
set_option linter.unusedVariables false
set_option maxHeartbeats 400000 in
theorem toPrice_c (x : Price) (w : World) :
    Calls Try.prog 82 #[.agg #[.int .i64 x.frm, .int .i64 x.to, .int .i64 x.ppm]] w fun e w' => e = .returned (.agg #[.int .i64 x.frm, .int .i64 x.to, .int .i64 x.ppm]) ∧ Grow w w' := by
  obtain ⟨frm, to, ppm⟩ := x
  go_enter Try.func82, Try.ntmps82
  go_wp2
  all_goals
    refine bodyPost_ret (v := .agg #[.int .i64 frm, .int .i64 to, .int .i64 ppm]) (by simp [results, Try.results82, go_sem]) rfl ⟨rfl, ?_⟩
    (repeat (first | exact Grow.refl _ | refine Grow.alloc ?_ _ _))

theorem infoPrice : (Try.prog.info? 125).map (fun i => (i.zero, i.size, i.bytes)) = some (some (.agg #[.int .i64 0, .int .i64 0, .int .i64 0]), 3, 24) := by kernel_rfl

theorem madePrice (n : Nat) (hn : n ≤ 1048576) (w : World) : (Instr.makeSlice 71 (.int .i64 (n : Int)) (.int .i64 (n : Int))).run Try.prog w =
    .ok (.slice (some ⟨w.heap.size, 0, none⟩) n n) (w.alloc (.cells (madeCells #[.int .i64 0, .int .i64 0, .int .i64 0] (n * 3)) 125)) := by
  obtain ⟨i, hi, hz, hs, hb⟩ := info_parts infoPrice
  have := run_make (P := Try.prog) w 71 125 i _ Try.underlying71 hi hz .i64 .i64 n n (by omega) (Int.le_refl _) (by rw [hb]; omega) (by omega)
  simpa [hs, Value.cells] using this

set_option maxHeartbeats 1000000 in
set_option maxRecDepth 100000 in
theorem toPriceS_c (xs : List Price) (a : Option Addr) (cap : Nat) (w : World) (hv : SlR 3 repPrice w 0 w.heap.size (.slice a xs.length cap) xs) (hn : xs.length ≤ 1048576) :
    Calls Try.prog 33 #[.slice a xs.length cap] w fun e w' => ∃ a' cap', e = .returned (.slice a' xs.length cap') ∧ Grow w w' ∧ SlR 3 repPrice w' w.heap.size w'.heap.size (.slice a' xs.length cap') xs := by
  obtain ⟨a_, cap_, heq, hc1, hc2, hsl⟩ := hv
  injection heq with q1 q2 q3
  subst q1 q3
  clear q2
  have hmk := fun w => madePrice xs.length hn w
  have HS := Lib.hid hsl; clear hsl
  go_enter Try.func33, Try.ntmps33
  go_wp2
  have hg0 : Grow w (w.alloc (.cells (madeCells #[.int .i64 0, .int .i64 0, .int .i64 0] (xs.length * 3)) 125)) := (Grow.refl _).alloc _ _
  go_loopg [4] xs.length (fun g i wr => ∃ k : Nat, k + g = xs.length ∧ i = .int .i64 k ∧ w.heap.size < wr.heap.size ∧ Grow w wr ∧ Filled wr w.heap.size 3 xs.length k (fun i => (xs[i]?.map encPrice).getD []))
  case atStart => exact ⟨0, by omega, rfl, by simp, hg0, Filled.made _ _ _ _ _ _⟩
  case round =>
    obtain ⟨k, hk, rfl, hz, hg, hfl⟩ := hrel
    clear hg0
    by_cases hlt : k < xs.length
    · rcases HS.out with h0 | ⟨b, off, rfl, hb1, hb2, hel⟩
      · exfalso; rw [h0] at hlt; exact absurd hlt (by simp)
      obtain ⟨e0, e1, e2, ewf⟩ := Price.atCell (hel.same repPrice_stable (hg.same (Nat.le_refl _)) hb1 hb2) k hlt
      have hget : xs[k]? = some xs[k] := List.getElem?_eq_getElem hlt
      have HG := Lib.hid hg; have HF := Lib.hid hfl; have HX := Lib.hid hget; have HK := Lib.hid hk; clear hg hfl hget hel hk
      generalize hx : xs[k] = x at *
      have HXX := Lib.hid hx; clear hx
      go_wp2_with fail
      refine (toPrice_c _ _).mono ?_
      rintro e w1 ⟨rfl, hg1⟩
      have hf1 := HF.out.same (hg1.same (Nat.le_refl _)) (Nat.zero_le _) hz
      have hG := HG.out.trans hg1
      have hz1 : w.heap.size < w1.heap.size := by have := hg1.size; omega
      obtain ⟨u0, d0⟩ := hf1.some hlt 0 (by omega)
      obtain ⟨u1, d1⟩ := hf1.some hlt 1 (by omega)
      obtain ⟨u2, d2⟩ := hf1.some hlt 2 (by omega)
      simp only [Nat.add_zero] at d0
      have fz : ∀ o, w1.frozen? ⟨w.heap.size, o, none⟩ = false := fun o => hG.nf _ o (Nat.le_refl _) hz1
      have HG1 := Lib.hid hG; have HF1 := Lib.hid hf1; clear hg1 hG hf1
      go_wp2
      go_roundg (xs.length - (k + 1))
      case measure => have := HK.out; omega
      case rel =>
        have hfin := HF1.out.store hlt (fun i hi => by
          rw [List.getElem?_eq_getElem (by omega)]; rfl)
        have hgr := Grow.setCells (Nat.le_refl _) (encPrice x) (k * 3) HG1.out
        rw [show (xs[k]?.map encPrice).getD [] = encPrice x from by rw [HX.out]; rfl] at hfin
        exact ⟨k + 1, by omega, by go_num, by simpa using hz1, hgr, hfin⟩
    · obtain rfl : k = xs.length := by omega
      have HG := Lib.hid hg; have HF := Lib.hid hfl; clear hg hfl
      go_wp2
      go_ret
      refine ⟨_, _, rfl, HG.out, SlR.of_filled HF.out (Nat.le_refl _) hz (by unfold maxLen; omega) (fun i hi' => ?_)⟩
      rcases HS.out with h0 | ⟨b, off, rfl, hb1, hb2, hel⟩
      · rw [h0] at hi'; exact absurd hi' (by simp)
      · obtain ⟨cs, ⟨_, h2⟩, _⟩ := hel i hi'
        exact ⟨by rw [List.getElem?_eq_getElem hi']; rfl, h2⟩

set_option maxHeartbeats 400000 in
theorem eqPrice_c (x : Price) (w : World) :
    Calls Try.prog 87 #[.agg #[.int .i64 x.frm, .int .i64 x.to, .int .i64 x.ppm], .agg #[.int .i64 x.frm, .int .i64 x.to, .int .i64 x.ppm]] w fun e w' => e = .returned (.bool true) ∧ Grow w w' := by
  obtain ⟨frm, to, ppm⟩ := x
  go_enter Try.func87, Try.ntmps87
  go_wp2
  all_goals
    go_ret
    refine ⟨rfl, ?_⟩
    repeat (first | exact Grow.refl _ | (refine Grow.setCell ?_ (by dsimp only; (try simp only [World.size_alloc, World.size_setCell]); omega) _) | (refine Grow.alloc ?_ _ _) | (refine Grow.drew ?_) | (refine Grow.trans ?_ (by assumption)))

set_option maxHeartbeats 1000000 in
set_option maxRecDepth 100000 in
theorem eqPriceS_c (xs : List Price) (a a' : Option Addr) (cap cap' : Nat) (w : World) (hv : SlR 3 repPrice w 0 w.heap.size (.slice a xs.length cap) xs) (hv' : SlR 3 repPrice w 0 w.heap.size (.slice a' xs.length cap') xs) :
    Calls Try.prog 35 #[.slice a xs.length cap, .slice a' xs.length cap'] w fun e w' => e = .returned (.bool true) ∧ Grow w w' := by
  obtain ⟨a_, cap_, heq, hc1, hc2, hsl⟩ := hv
  injection heq with q1 q2 q3
  subst q1 q3
  obtain ⟨a_', cap_', heq', hc1', hc2', hsl'⟩ := hv'
  injection heq' with q1' q2' q3'
  subst q1' q3'
  have hm : xs.length ≤ 9223372036854775807 := by unfold maxLen at hc2; omega
  clear hc1 hc2 hc1' hc2' q2 q2'
  have HS := Lib.hid hsl; clear hsl
  have HS' := Lib.hid hsl'; clear hsl'
  have hbne : ((xs.length : Int) != (xs.length : Int)) = false := by simp
  go_enter Try.func35, Try.ntmps35
  go_wp2
  go_loopg [5] xs.length (fun g i wr => ∃ k : Nat, k + g = xs.length ∧ i = .int .i64 k ∧ Grow w wr)
  case atStart => exact ⟨0, by omega, rfl, Grow.refl _⟩
  case round =>
    obtain ⟨k, hk, rfl, hg⟩ := hrel
    by_cases hlt : k < xs.length
    · rcases HS.out with h0 | ⟨b, off, rfl, hb1, hb2, hel⟩
      · exfalso; rw [h0] at hlt; exact absurd hlt (by simp)
      rcases HS'.out with h0 | ⟨b', off', rfl, hb1', hb2', hel'⟩
      · exfalso; rw [h0] at hlt; exact absurd hlt (by simp)
      obtain ⟨e0, e1, e2, _⟩ := Price.atCell (hel.same repPrice_stable (hg.same (Nat.le_refl _)) hb1 hb2) k hlt
      obtain ⟨e0', e1', e2', _⟩ := Price.atCell (hel'.same repPrice_stable (hg.same (Nat.le_refl _)) hb1' hb2') k hlt
      have HG := Lib.hid hg; have HK := Lib.hid hk; clear hg hel hel' hk HS HS'
      generalize xs[k] = x at *
      go_wp2_with fail
      go_still_tail 8, (by kernel_rfl)
      go_wp2_with fail
      refine (eqPrice_c _ _).mono ?_
      rintro e w1 ⟨rfl, hg1⟩
      go_wp2
      go_roundg (xs.length - (k + 1))
      case measure => have := HK.out; omega
      case rel => exact ⟨k + 1, by omega, by go_num, HG.out.drew.trans hg1⟩
    · obtain rfl : k = xs.length := by omega
      have HG := Lib.hid hg; clear hg
      go_wp2
      go_ret
      exact ⟨rfl, HG.out⟩

theorem szPriceS_c (a : Option Addr) (n cap : Nat) (l : Int) (w : World) (hn : (n : Int) ≤ 9223372036854775807) (h1 : 0 ≤ l) (h2 : l ≤ 1048576) :
    Calls Try.prog 31 #[.slice a n cap, .int .i64 l] w fun e w' => e = .returned (.int .i64 (szL n l)) ∧ Grow w w' := by
  unfold szL
  by_cases h : l - n < 0
  all_goals
    go_enter Try.func31, Try.ntmps31
    go_wp2
    go_ret
    exact ⟨by simp, Grow.refl _⟩

end Go.Proofs.Ytbjnbhlpibadnaa

/- Contracts of the harness functions of Move -/
namespace Go.Proofs.Ytbjnbhlpibadnaa
open Go.RowKit
set_option linter.unusedSimpArgs false
set_option linter.unusedVariables false
set_option maxHeartbeats 400000 in
theorem eqMove_c (x : Move) (w : World) :
    Calls Try.prog 92 #[.agg #[.int .i64 x.frm, .int .i64 x.to, .int .i64 x.amt, .int .i64 x.ppm], .agg #[.int .i64 x.frm, .int .i64 x.to, .int .i64 x.amt, .int .i64 x.ppm]] w fun e w' => e = .returned (.bool true) ∧ Grow w w' := by
  obtain ⟨frm, to, amt, ppm⟩ := x
  go_enter Try.func92, Try.ntmps92
  go_wp2
  all_goals
    go_ret
    refine ⟨rfl, ?_⟩
    repeat (first | exact Grow.refl _ | (refine Grow.setCell ?_ (by dsimp only; (try simp only [World.size_alloc, World.size_setCell]); omega) _) | (refine Grow.alloc ?_ _ _) | (refine Grow.drew ?_) | (refine Grow.trans ?_ (by assumption)))

set_option maxHeartbeats 1000000 in
set_option maxRecDepth 100000 in
theorem eqMoveS_c (xs : List Move) (a a' : Option Addr) (cap cap' : Nat) (w : World) (hv : SlR 4 repMove w 0 w.heap.size (.slice a xs.length cap) xs) (hv' : SlR 4 repMove w 0 w.heap.size (.slice a' xs.length cap') xs) :
    Calls Try.prog 41 #[.slice a xs.length cap, .slice a' xs.length cap'] w fun e w' => e = .returned (.bool true) ∧ Grow w w' := by
  obtain ⟨a_, cap_, heq, hc1, hc2, hsl⟩ := hv
  injection heq with q1 q2 q3
  subst q1 q3
  obtain ⟨a_', cap_', heq', hc1', hc2', hsl'⟩ := hv'
  injection heq' with q1' q2' q3'
  subst q1' q3'
  have hm : xs.length ≤ 9223372036854775807 := by unfold maxLen at hc2; omega
  clear hc1 hc2 hc1' hc2' q2 q2'
  have HS := Lib.hid hsl; clear hsl
  have HS' := Lib.hid hsl'; clear hsl'
  have hbne : ((xs.length : Int) != (xs.length : Int)) = false := by simp
  go_enter Try.func41, Try.ntmps41
  go_wp2
  go_loopg [5] xs.length (fun g i wr => ∃ k : Nat, k + g = xs.length ∧ i = .int .i64 k ∧ Grow w wr)
  case atStart => exact ⟨0, by omega, rfl, Grow.refl _⟩
  case round =>
    obtain ⟨k, hk, rfl, hg⟩ := hrel
    by_cases hlt : k < xs.length
    · rcases HS.out with h0 | ⟨b, off, rfl, hb1, hb2, hel⟩
      · exfalso; rw [h0] at hlt; exact absurd hlt (by simp)
      rcases HS'.out with h0 | ⟨b', off', rfl, hb1', hb2', hel'⟩
      · exfalso; rw [h0] at hlt; exact absurd hlt (by simp)
      obtain ⟨e0, e1, e2, e3, _⟩ := Move.atCell (hel.same repMove_stable (hg.same (Nat.le_refl _)) hb1 hb2) k hlt
      obtain ⟨e0', e1', e2', e3', _⟩ := Move.atCell (hel'.same repMove_stable (hg.same (Nat.le_refl _)) hb1' hb2') k hlt
      have HG := Lib.hid hg; have HK := Lib.hid hk; clear hg hel hel' hk HS HS'
      generalize xs[k] = x at *
      go_wp2_with fail
      go_still_tail 8, (by kernel_rfl)
      go_wp2_with fail
      refine (eqMove_c _ _).mono ?_
      rintro e w1 ⟨rfl, hg1⟩
      go_wp2
      go_roundg (xs.length - (k + 1))
      case measure => have := HK.out; omega
      case rel => exact ⟨k + 1, by omega, by go_num, HG.out.drew.trans hg1⟩
    · obtain rfl : k = xs.length := by omega
      have HG := Lib.hid hg; clear hg
      go_wp2
      go_ret
      exact ⟨rfl, HG.out⟩

end Go.Proofs.Ytbjnbhlpibadnaa

/- The marks of []Move. -/
namespace Go.Proofs.Ytbjnbhlpibadnaa
open Go.RowKit
set_option linter.unusedSimpArgs false
set_option linter.unusedVariables false

set_option maxHeartbeats 2000000 in
set_option maxRecDepth 100000 in
theorem markMoveS_c (xs : List Move) (a : Option Addr) (cap : Nat) (k : Int) (lo hi : Nat) (w : World) (hv : SlR 4 repMove w lo hi (.slice a xs.length cap) xs) (nf : NF lo hi w) (hn : xs.length ≤ 16777216) (hk : 0 ≤ k) (hk2 : k ≤ 1000000000000) :
    Calls Try.prog 42 #[.slice a xs.length cap, .int .i64 k] w fun e w' => e = .returned (.int .i64 (mkEnd 4 k xs.length)) ∧ Put lo hi w w' ∧ HeldN (mvAt 99) 4 w' lo hi a xs.length k := by
  have HV := Lib.hid hv; clear hv
  have HN := Lib.hid nf; clear nf
  go_enter Try.func42, Try.ntmps42
  go_wp2
  go_loopg [1, 5] xs.length (fun g nn i wr => ∃ j : Nat, ∃ kk : Int, j + g = xs.length ∧ i = .int .i64 j ∧ nn = .int .i64 kk ∧ kk = mkEnd 4 k j ∧ Put lo hi w wr ∧ (∀ b off, a = some ⟨b, off, none⟩ → MkN (mvAt 99) 4 wr b off j k ∧ ∀ o, off + j * 4 ≤ o → wr.cell? ⟨b, o, none⟩ = w.cell? ⟨b, o, none⟩))
  case atStart => exact ⟨0, k, by omega, rfl, rfl, by simp [mkEnd], Put.refl _ _ _, fun b off _ => ⟨fun i c h => absurd h (by omega), fun _ _ => rfl⟩⟩
  case round =>
    obtain ⟨j, kk, hj, rfl, rfl, hkk, hp, hm⟩ := hrel
    have hkb : 0 ≤ kk ∧ kk ≤ 1073741824 + 1000000000000 := by
      have := mkEnd_bd (n := 4) (m := j) hk hk2 (by omega) (by omega)
      omega
    obtain ⟨hkb1, hkb2⟩ := hkb
    have HKK := Lib.hid hkk; clear hkk
    by_cases hlt : j < xs.length
    · obtain ⟨b, off, rfl, hb1, hb2, hel⟩ := HV.out.elems j hlt
      obtain ⟨hm1, hm2⟩ := hm b off rfl
      obtain ⟨e0, e1, e2, e3, _⟩ := Move.atCell hel j hlt
      have c0 : wr.cell? ⟨b, off + j * 4, none⟩ = w.cell? ⟨b, off + j * 4, none⟩ := hm2 _ (by omega)
      rw [← c0] at e0
      have c1 : wr.cell? ⟨b, off + j * 4 + 1, none⟩ = w.cell? ⟨b, off + j * 4 + 1, none⟩ := hm2 _ (by omega)
      rw [← c1] at e1
      have c2 : wr.cell? ⟨b, off + j * 4 + 2, none⟩ = w.cell? ⟨b, off + j * 4 + 2, none⟩ := hm2 _ (by omega)
      rw [← c2] at e2
      have c3 : wr.cell? ⟨b, off + j * 4 + 3, none⟩ = w.cell? ⟨b, off + j * 4 + 3, none⟩ := hm2 _ (by omega)
      rw [← c3] at e3
      clear c0 c1 c2 c3
      have hbw : b < w.heap.size := by have := lt_of_cell e0; have := HV.out; obtain ⟨_, _, _, _, _, _⟩ := HV.out.elems j hlt; exact Nat.lt_of_lt_of_le (lt_of_cell (Move.atCell hel j hlt).1) (Nat.le_refl _)
      have fz : ∀ o, wr.frozen? ⟨b, o, none⟩ = false := fun o => by rw [hp.frz b o hbw]; exact HN.out b o hb1 hb2
      have HP := Lib.hid hp; have HM1 := Lib.hid hm1; have HM2 := Lib.hid hm2; have HJ := Lib.hid hj
      have ROOM : Hid (∀ c, c < 4 → (wr.cell? ⟨b, off + j * 4 + c, none⟩).isSome = true) := fun c hc => by
        rcases c with _ | _ | _ | _ | c
        · simp only [Nat.add_zero]; rw [e0]; rfl
        · rw [e1]; rfl
        · rw [e2]; rfl
        · rw [e3]; rfl
        · omega
      clear hp hm hm1 hm2 hel hj
      generalize xs[j] = y at *
      go_wp2
      go_roundg (xs.length - (j + 1))
      case measure => have := HJ.out; omega
      case rel =>
        have hst := HM1.out.store [.int .i64 (kk), .int .i64 (kk + 1), .int .i64 (kk + 1 + 1), .int .i64 (kk + 1 + 1 + 1)] rfl (fun c hc => by
          have hq := HKK.out
          unfold mkEnd at hq
          rcases c with _ | _ | _ | _ | c
          · show some _ = some _; rw [mvAt_int (by omega)]; rw [show k + ((j * 4 + 0 : Nat) : Int) = kk by omega]
          · show some _ = some _; rw [mvAt_int (by omega)]; rw [show k + ((j * 4 + (1) : Nat) : Int) = kk + 1 by omega]
          · show some _ = some _; rw [mvAt_int (by omega)]; rw [show k + ((j * 4 + (2) : Nat) : Int) = kk + 1 + 1 by omega]
          · show some _ = some _; rw [mvAt_int (by omega)]; rw [show k + ((j * 4 + (3) : Nat) : Int) = kk + 1 + 1 + 1 by omega]
          · omega) ROOM.out
        refine ⟨j + 1, kk + 4, by have := HJ.out; omega, by go_num, by first | rfl | exact congrArg (Value.int .i64) (by omega), by rw [HKK.out]; unfold mkEnd; rw [Nat.add_mul]; omega, ((((HP.out.setCell (p := ⟨b, off + j * 4, none⟩) ⟨hb1, hb2⟩ _).setCell (p := ⟨b, off + j * 4 + 1, none⟩) ⟨hb1, hb2⟩ _).setCell (p := ⟨b, off + j * 4 + 2, none⟩) ⟨hb1, hb2⟩ _).setCell (p := ⟨b, off + j * 4 + 3, none⟩) ⟨hb1, hb2⟩ _), fun b' off' he => ?_⟩
        injection he with he
        injection he with q1 q2
        subst q1 q2
        refine ⟨hst, fun o h1 => ?_⟩
        rw [Nat.add_mul] at h1
        rw [World.cell?_setCell_other _ _ ⟨b, o, none⟩ _ (by intro e2; injection e2 with _ e3; omega)]; rw [World.cell?_setCell_other _ _ ⟨b, o, none⟩ _ (by intro e2; injection e2 with _ e3; omega)]; rw [World.cell?_setCell_other _ _ ⟨b, o, none⟩ _ (by intro e2; injection e2 with _ e3; omega)]; rw [World.cell?_setCell_other _ _ ⟨b, o, none⟩ _ (by intro e2; injection e2 with _ e3; omega)]
        exact HM2.out o (by omega)
    · obtain rfl : j = xs.length := by omega
      have HP := Lib.hid hp; have HM := Lib.hid hm; clear hp hm hj
      go_wp2
      go_ret
      refine ⟨by rw [HKK.out]; rfl, HP.out, ?_⟩
      obtain ⟨a_, c_, heq, _, _, h0⟩ := HV.out
      injection heq with q1 q2 q3
      subst q1
      rcases h0 with h0 | ⟨b, off, ha, hb1, hb2, _⟩
      · exact .inl (by rw [h0]; rfl)
      · exact .inr ⟨b, off, ha, hb1, hb2, (HM.out b off ha).1⟩

set_option maxHeartbeats 2000000 in
set_option maxRecDepth 100000 in
theorem heldMoveS_c (n : Nat) (a : Option Addr) (cap : Nat) (k : Int) (lo hi : Nat) (w : World) (hv : HeldN (mvAt 99) 4 w lo hi a n k) (hc : n ≤ cap) (hn : n ≤ 16777216) (hk : 0 ≤ k) (hk2 : k ≤ 1000000000000) :
    Calls Try.prog 43 #[.slice a n cap, .int .i64 k] w fun e w' => e = .returned (.int .i64 (mkEnd 4 k n)) ∧ Grow w w' := by
  have HV := Lib.hid hv; clear hv
  go_enter Try.func43, Try.ntmps43
  go_wp2
  go_loopg [1, 5] n (fun g m i wr => ∃ j : Nat, ∃ kk : Int, j + g = n ∧ i = .int .i64 j ∧ m = .int .i64 kk ∧ kk = mkEnd 4 k j ∧ wr = w)
  case atStart => exact ⟨0, k, by omega, rfl, rfl, by simp [mkEnd], rfl⟩
  case round =>
    obtain ⟨j, kk, hj, rfl, rfl, hkk, rfl⟩ := hrel
    have hkb : 0 ≤ kk ∧ kk ≤ 1073741824 + 1000000000000 := by
      have := mkEnd_bd (n := 4) (m := j) hk hk2 (by omega) (by omega)
      omega
    obtain ⟨hkb1, hkb2⟩ := hkb
    have HKK := Lib.hid hkk; clear hkk
    by_cases hlt : j < n
    · rcases HV.out with h0 | ⟨b, off, rfl, hb1, hb2, hm⟩
      · omega
      have e0 : wr.cell? ⟨b, off + j * 4, none⟩ = some (.int .i64 (kk)) := by
        have h0 := hm j 0 hlt (by omega)
        rw [show k + ((j * 4 + 0 : Nat) : Int) = kk by have hq := HKK.out; unfold mkEnd at hq; omega] at h0
        skip
        rw [mvAt_int (by omega)] at h0
        exact h0
      have e1 : wr.cell? ⟨b, off + j * 4 + 1, none⟩ = some (.int .i64 (kk + 1)) := by
        have h0 := hm j 1 hlt (by omega)
        rw [show k + ((j * 4 + 1 : Nat) : Int) = kk + 1 by have hq := HKK.out; unfold mkEnd at hq; omega] at h0
        skip
        rw [mvAt_int (by omega)] at h0
        exact h0
      have e2 : wr.cell? ⟨b, off + j * 4 + 2, none⟩ = some (.int .i64 (kk + 1 + 1)) := by
        have h0 := hm j 2 hlt (by omega)
        rw [show k + ((j * 4 + 2 : Nat) : Int) = kk + 1 + 1 by have hq := HKK.out; unfold mkEnd at hq; omega] at h0
        skip
        rw [mvAt_int (by omega)] at h0
        exact h0
      have e3 : wr.cell? ⟨b, off + j * 4 + 3, none⟩ = some (.int .i64 (kk + 1 + 1 + 1)) := by
        have h0 := hm j 3 hlt (by omega)
        rw [show k + ((j * 4 + 3 : Nat) : Int) = kk + 1 + 1 + 1 by have hq := HKK.out; unfold mkEnd at hq; omega] at h0
        skip
        rw [mvAt_int (by omega)] at h0
        exact h0
      have HJ := Lib.hid hj; clear hj hm
      go_wp2
      go_roundg (n - (j + 1))
      case measure => have := HJ.out; omega
      case rel => exact ⟨j + 1, kk + 4, by have := HJ.out; omega, by go_num, by first | rfl | exact congrArg (Value.int .i64) (by omega), by rw [HKK.out]; unfold mkEnd; rw [Nat.add_mul]; omega, rfl⟩
    · obtain rfl : j = n := by omega
      go_wp2
      go_ret
      exact ⟨by rw [HKK.out]; rfl, Grow.refl _⟩
end Go.Proofs.Ytbjnbhlpibadnaa

/- The marks of []Chan. -/
namespace Go.Proofs.Ytbjnbhlpibadnaa
open Go.RowKit
set_option linter.unusedSimpArgs false
set_option linter.unusedVariables false

set_option maxHeartbeats 2000000 in
set_option maxRecDepth 100000 in
theorem markChanS_c (xs : List Chan) (a : Option Addr) (cap : Nat) (k : Int) (lo hi : Nat) (w : World) (hv : SlR 7 repChan w lo hi (.slice a xs.length cap) xs) (nf : NF lo hi w) (hn : xs.length ≤ 16777216) (hk : 0 ≤ k) (hk2 : k ≤ 1000000000000) :
    Calls Try.prog 88 #[.slice a xs.length cap, .int .i64 k] w fun e w' => e = .returned (.int .i64 (mkEnd 7 k xs.length)) ∧ Put lo hi w w' ∧ HeldN (mvAt 99) 7 w' lo hi a xs.length k := by
  have HV := Lib.hid hv; clear hv
  have HN := Lib.hid nf; clear nf
  go_enter Try.func88, Try.ntmps88
  go_wp2
  go_loopg [1, 5] xs.length (fun g nn i wr => ∃ j : Nat, ∃ kk : Int, j + g = xs.length ∧ i = .int .i64 j ∧ nn = .int .i64 kk ∧ kk = mkEnd 7 k j ∧ Put lo hi w wr ∧ (∀ b off, a = some ⟨b, off, none⟩ → MkN (mvAt 99) 7 wr b off j k ∧ ∀ o, off + j * 7 ≤ o → wr.cell? ⟨b, o, none⟩ = w.cell? ⟨b, o, none⟩))
  case atStart => exact ⟨0, k, by omega, rfl, rfl, by simp [mkEnd], Put.refl _ _ _, fun b off _ => ⟨fun i c h => absurd h (by omega), fun _ _ => rfl⟩⟩
  case round =>
    obtain ⟨j, kk, hj, rfl, rfl, hkk, hp, hm⟩ := hrel
    have hkb : 0 ≤ kk ∧ kk ≤ 1073741824 + 1000000000000 := by
      have := mkEnd_bd (n := 7) (m := j) hk hk2 (by omega) (by omega)
      omega
    obtain ⟨hkb1, hkb2⟩ := hkb
    have HKK := Lib.hid hkk; clear hkk
    by_cases hlt : j < xs.length
    · obtain ⟨b, off, rfl, hb1, hb2, hel⟩ := HV.out.elems j hlt
      obtain ⟨hm1, hm2⟩ := hm b off rfl
      obtain ⟨e0, e1, e2, e3, e4, e5, e6, _⟩ := Chan.atCell hel j hlt
      have c0 : wr.cell? ⟨b, off + j * 7, none⟩ = w.cell? ⟨b, off + j * 7, none⟩ := hm2 _ (by omega)
      rw [← c0] at e0
      have c1 : wr.cell? ⟨b, off + j * 7 + 1, none⟩ = w.cell? ⟨b, off + j * 7 + 1, none⟩ := hm2 _ (by omega)
      rw [← c1] at e1
      have c2 : wr.cell? ⟨b, off + j * 7 + 2, none⟩ = w.cell? ⟨b, off + j * 7 + 2, none⟩ := hm2 _ (by omega)
      rw [← c2] at e2
      have c3 : wr.cell? ⟨b, off + j * 7 + 3, none⟩ = w.cell? ⟨b, off + j * 7 + 3, none⟩ := hm2 _ (by omega)
      rw [← c3] at e3
      have c4 : wr.cell? ⟨b, off + j * 7 + 4, none⟩ = w.cell? ⟨b, off + j * 7 + 4, none⟩ := hm2 _ (by omega)
      rw [← c4] at e4
      have c5 : wr.cell? ⟨b, off + j * 7 + 5, none⟩ = w.cell? ⟨b, off + j * 7 + 5, none⟩ := hm2 _ (by omega)
      rw [← c5] at e5
      have c6 : wr.cell? ⟨b, off + j * 7 + 6, none⟩ = w.cell? ⟨b, off + j * 7 + 6, none⟩ := hm2 _ (by omega)
      rw [← c6] at e6
      clear c0 c1 c2 c3 c4 c5 c6
      have hbw : b < w.heap.size := by have := lt_of_cell e0; have := HV.out; obtain ⟨_, _, _, _, _, _⟩ := HV.out.elems j hlt; exact Nat.lt_of_lt_of_le (lt_of_cell (Chan.atCell hel j hlt).1) (Nat.le_refl _)
      have fz : ∀ o, wr.frozen? ⟨b, o, none⟩ = false := fun o => by rw [hp.frz b o hbw]; exact HN.out b o hb1 hb2
      have HP := Lib.hid hp; have HM1 := Lib.hid hm1; have HM2 := Lib.hid hm2; have HJ := Lib.hid hj
      have ROOM : Hid (∀ c, c < 7 → (wr.cell? ⟨b, off + j * 7 + c, none⟩).isSome = true) := fun c hc => by
        rcases c with _ | _ | _ | _ | _ | _ | _ | c
        · simp only [Nat.add_zero]; rw [e0]; rfl
        · rw [e1]; rfl
        · rw [e2]; rfl
        · rw [e3]; rfl
        · rw [e4]; rfl
        · rw [e5]; rfl
        · rw [e6]; rfl
        · omega
      clear hp hm hm1 hm2 hel hj
      generalize xs[j] = y at *
      go_wp2
      go_roundg (xs.length - (j + 1))
      case measure => have := HJ.out; omega
      case rel =>
        have hst := HM1.out.store [.int .i64 (kk), .int .i64 (kk + 1), .int .i64 (kk + 1 + 1), .int .i64 (kk + 1 + 1 + 1), .int .i64 (kk + 1 + 1 + 1 + 1), .int .i64 (kk + 1 + 1 + 1 + 1 + 1), .int .i64 (kk + 1 + 1 + 1 + 1 + 1 + 1)] rfl (fun c hc => by
          have hq := HKK.out
          unfold mkEnd at hq
          rcases c with _ | _ | _ | _ | _ | _ | _ | c
          · show some _ = some _; rw [mvAt_int (by omega)]; rw [show k + ((j * 7 + 0 : Nat) : Int) = kk by omega]
          · show some _ = some _; rw [mvAt_int (by omega)]; rw [show k + ((j * 7 + (1) : Nat) : Int) = kk + 1 by omega]
          · show some _ = some _; rw [mvAt_int (by omega)]; rw [show k + ((j * 7 + (2) : Nat) : Int) = kk + 1 + 1 by omega]
          · show some _ = some _; rw [mvAt_int (by omega)]; rw [show k + ((j * 7 + (3) : Nat) : Int) = kk + 1 + 1 + 1 by omega]
          · show some _ = some _; rw [mvAt_int (by omega)]; rw [show k + ((j * 7 + (4) : Nat) : Int) = kk + 1 + 1 + 1 + 1 by omega]
          · show some _ = some _; rw [mvAt_int (by omega)]; rw [show k + ((j * 7 + (5) : Nat) : Int) = kk + 1 + 1 + 1 + 1 + 1 by omega]
          · show some _ = some _; rw [mvAt_int (by omega)]; rw [show k + ((j * 7 + (6) : Nat) : Int) = kk + 1 + 1 + 1 + 1 + 1 + 1 by omega]
          · omega) ROOM.out
        refine ⟨j + 1, kk + 7, by have := HJ.out; omega, by go_num, by first | rfl | exact congrArg (Value.int .i64) (by omega), by rw [HKK.out]; unfold mkEnd; rw [Nat.add_mul]; omega, (((((((HP.out.setCell (p := ⟨b, off + j * 7, none⟩) ⟨hb1, hb2⟩ _).setCell (p := ⟨b, off + j * 7 + 1, none⟩) ⟨hb1, hb2⟩ _).setCell (p := ⟨b, off + j * 7 + 2, none⟩) ⟨hb1, hb2⟩ _).setCell (p := ⟨b, off + j * 7 + 3, none⟩) ⟨hb1, hb2⟩ _).setCell (p := ⟨b, off + j * 7 + 4, none⟩) ⟨hb1, hb2⟩ _).setCell (p := ⟨b, off + j * 7 + 5, none⟩) ⟨hb1, hb2⟩ _).setCell (p := ⟨b, off + j * 7 + 6, none⟩) ⟨hb1, hb2⟩ _), fun b' off' he => ?_⟩
        injection he with he
        injection he with q1 q2
        subst q1 q2
        refine ⟨hst, fun o h1 => ?_⟩
        rw [Nat.add_mul] at h1
        rw [World.cell?_setCell_other _ _ ⟨b, o, none⟩ _ (by intro e2; injection e2 with _ e3; omega)]; rw [World.cell?_setCell_other _ _ ⟨b, o, none⟩ _ (by intro e2; injection e2 with _ e3; omega)]; rw [World.cell?_setCell_other _ _ ⟨b, o, none⟩ _ (by intro e2; injection e2 with _ e3; omega)]; rw [World.cell?_setCell_other _ _ ⟨b, o, none⟩ _ (by intro e2; injection e2 with _ e3; omega)]; rw [World.cell?_setCell_other _ _ ⟨b, o, none⟩ _ (by intro e2; injection e2 with _ e3; omega)]; rw [World.cell?_setCell_other _ _ ⟨b, o, none⟩ _ (by intro e2; injection e2 with _ e3; omega)]; rw [World.cell?_setCell_other _ _ ⟨b, o, none⟩ _ (by intro e2; injection e2 with _ e3; omega)]
        exact HM2.out o (by omega)
    · obtain rfl : j = xs.length := by omega
      have HP := Lib.hid hp; have HM := Lib.hid hm; clear hp hm hj
      go_wp2
      go_ret
      refine ⟨by rw [HKK.out]; rfl, HP.out, ?_⟩
      obtain ⟨a_, c_, heq, _, _, h0⟩ := HV.out
      injection heq with q1 q2 q3
      subst q1
      rcases h0 with h0 | ⟨b, off, ha, hb1, hb2, _⟩
      · exact .inl (by rw [h0]; rfl)
      · exact .inr ⟨b, off, ha, hb1, hb2, (HM.out b off ha).1⟩

end Go.Proofs.Ytbjnbhlpibadnaa

/- The marks of []Htlc. -/
namespace Go.Proofs.Ytbjnbhlpibadnaa
open Go.RowKit
set_option linter.unusedSimpArgs false
set_option linter.unusedVariables false

set_option maxHeartbeats 2000000 in
set_option maxRecDepth 100000 in
theorem markHtlcS_c (xs : List Htlc) (a : Option Addr) (cap : Nat) (k : Int) (lo hi : Nat) (w : World) (hv : SlR 7 repHtlc w lo hi (.slice a xs.length cap) xs) (nf : NF lo hi w) (hn : xs.length ≤ 16777216) (hk : 0 ≤ k) (hk2 : k ≤ 1000000000000) :
    Calls Try.prog 89 #[.slice a xs.length cap, .int .i64 k] w fun e w' => e = .returned (.int .i64 (mkEnd 7 k xs.length)) ∧ Put lo hi w w' ∧ HeldN (mvAt 5) 7 w' lo hi a xs.length k := by
  have HV := Lib.hid hv; clear hv
  have HN := Lib.hid nf; clear nf
  go_enter Try.func89, Try.ntmps89
  go_wp2
  go_loopg [1, 5] xs.length (fun g nn i wr => ∃ j : Nat, ∃ kk : Int, j + g = xs.length ∧ i = .int .i64 j ∧ nn = .int .i64 kk ∧ kk = mkEnd 7 k j ∧ Put lo hi w wr ∧ (∀ b off, a = some ⟨b, off, none⟩ → MkN (mvAt 5) 7 wr b off j k ∧ ∀ o, off + j * 7 ≤ o → wr.cell? ⟨b, o, none⟩ = w.cell? ⟨b, o, none⟩))
  case atStart => exact ⟨0, k, by omega, rfl, rfl, by simp [mkEnd], Put.refl _ _ _, fun b off _ => ⟨fun i c h => absurd h (by omega), fun _ _ => rfl⟩⟩
  case round =>
    obtain ⟨j, kk, hj, rfl, rfl, hkk, hp, hm⟩ := hrel
    have hkb : 0 ≤ kk ∧ kk ≤ 1073741824 + 1000000000000 := by
      have := mkEnd_bd (n := 7) (m := j) hk hk2 (by omega) (by omega)
      omega
    obtain ⟨hkb1, hkb2⟩ := hkb
    have HKK := Lib.hid hkk; clear hkk
    by_cases hlt : j < xs.length
    · obtain ⟨b, off, rfl, hb1, hb2, hel⟩ := HV.out.elems j hlt
      obtain ⟨hm1, hm2⟩ := hm b off rfl
      obtain ⟨e0, e1, e2, e3, e4, e5, e6, _⟩ := Htlc.atCell hel j hlt
      have c0 : wr.cell? ⟨b, off + j * 7, none⟩ = w.cell? ⟨b, off + j * 7, none⟩ := hm2 _ (by omega)
      rw [← c0] at e0
      have c1 : wr.cell? ⟨b, off + j * 7 + 1, none⟩ = w.cell? ⟨b, off + j * 7 + 1, none⟩ := hm2 _ (by omega)
      rw [← c1] at e1
      have c2 : wr.cell? ⟨b, off + j * 7 + 2, none⟩ = w.cell? ⟨b, off + j * 7 + 2, none⟩ := hm2 _ (by omega)
      rw [← c2] at e2
      have c3 : wr.cell? ⟨b, off + j * 7 + 3, none⟩ = w.cell? ⟨b, off + j * 7 + 3, none⟩ := hm2 _ (by omega)
      rw [← c3] at e3
      have c4 : wr.cell? ⟨b, off + j * 7 + 4, none⟩ = w.cell? ⟨b, off + j * 7 + 4, none⟩ := hm2 _ (by omega)
      rw [← c4] at e4
      have c5 : wr.cell? ⟨b, off + j * 7 + 5, none⟩ = w.cell? ⟨b, off + j * 7 + 5, none⟩ := hm2 _ (by omega)
      rw [← c5] at e5
      have c6 : wr.cell? ⟨b, off + j * 7 + 6, none⟩ = w.cell? ⟨b, off + j * 7 + 6, none⟩ := hm2 _ (by omega)
      rw [← c6] at e6
      clear c0 c1 c2 c3 c4 c5 c6
      have hbw : b < w.heap.size := by have := lt_of_cell e0; have := HV.out; obtain ⟨_, _, _, _, _, _⟩ := HV.out.elems j hlt; exact Nat.lt_of_lt_of_le (lt_of_cell (Htlc.atCell hel j hlt).1) (Nat.le_refl _)
      have fz : ∀ o, wr.frozen? ⟨b, o, none⟩ = false := fun o => by rw [hp.frz b o hbw]; exact HN.out b o hb1 hb2
      have HP := Lib.hid hp; have HM1 := Lib.hid hm1; have HM2 := Lib.hid hm2; have HJ := Lib.hid hj
      have ROOM : Hid (∀ c, c < 7 → (wr.cell? ⟨b, off + j * 7 + c, none⟩).isSome = true) := fun c hc => by
        rcases c with _ | _ | _ | _ | _ | _ | _ | c
        · simp only [Nat.add_zero]; rw [e0]; rfl
        · rw [e1]; rfl
        · rw [e2]; rfl
        · rw [e3]; rfl
        · rw [e4]; rfl
        · rw [e5]; rfl
        · rw [e6]; rfl
        · omega
      clear hp hm hm1 hm2 hel hj
      generalize xs[j] = y at *
      go_wp2
      go_roundg (xs.length - (j + 1))
      case measure => have := HJ.out; omega
      case rel =>
        have hst := HM1.out.store [.int .i64 (kk), .int .i64 (kk + 1), .int .i64 (kk + 1 + 1), .int .i64 (kk + 1 + 1 + 1), .int .i64 (kk + 1 + 1 + 1 + 1), .bool ((kk + 1 + 1 + 1 + 1 + 1) % 3 == 0), .int .i64 (kk + 1 + 1 + 1 + 1 + 1 + 1)] rfl (fun c hc => by
          have hq := HKK.out
          unfold mkEnd at hq
          rcases c with _ | _ | _ | _ | _ | _ | _ | c
          · show some _ = some _; rw [mvAt_int (by omega)]; rw [show k + ((j * 7 + 0 : Nat) : Int) = kk by omega]
          · show some _ = some _; rw [mvAt_int (by omega)]; rw [show k + ((j * 7 + (1) : Nat) : Int) = kk + 1 by omega]
          · show some _ = some _; rw [mvAt_int (by omega)]; rw [show k + ((j * 7 + (2) : Nat) : Int) = kk + 1 + 1 by omega]
          · show some _ = some _; rw [mvAt_int (by omega)]; rw [show k + ((j * 7 + (3) : Nat) : Int) = kk + 1 + 1 + 1 by omega]
          · show some _ = some _; rw [mvAt_int (by omega)]; rw [show k + ((j * 7 + (4) : Nat) : Int) = kk + 1 + 1 + 1 + 1 by omega]
          · show some _ = some _; rw [mvAt_bool]; rw [show k + ((j * 7 + (5) : Nat) : Int) = kk + 1 + 1 + 1 + 1 + 1 by omega]
          · show some _ = some _; rw [mvAt_int (by omega)]; rw [show k + ((j * 7 + (6) : Nat) : Int) = kk + 1 + 1 + 1 + 1 + 1 + 1 by omega]
          · omega) ROOM.out
        refine ⟨j + 1, kk + 7, by have := HJ.out; omega, by go_num, by first | rfl | exact congrArg (Value.int .i64) (by omega), by rw [HKK.out]; unfold mkEnd; rw [Nat.add_mul]; omega, (((((((HP.out.setCell (p := ⟨b, off + j * 7, none⟩) ⟨hb1, hb2⟩ _).setCell (p := ⟨b, off + j * 7 + 1, none⟩) ⟨hb1, hb2⟩ _).setCell (p := ⟨b, off + j * 7 + 2, none⟩) ⟨hb1, hb2⟩ _).setCell (p := ⟨b, off + j * 7 + 3, none⟩) ⟨hb1, hb2⟩ _).setCell (p := ⟨b, off + j * 7 + 4, none⟩) ⟨hb1, hb2⟩ _).setCell (p := ⟨b, off + j * 7 + 5, none⟩) ⟨hb1, hb2⟩ _).setCell (p := ⟨b, off + j * 7 + 6, none⟩) ⟨hb1, hb2⟩ _), fun b' off' he => ?_⟩
        injection he with he
        injection he with q1 q2
        subst q1 q2
        refine ⟨hst, fun o h1 => ?_⟩
        rw [Nat.add_mul] at h1
        rw [World.cell?_setCell_other _ _ ⟨b, o, none⟩ _ (by intro e2; injection e2 with _ e3; omega)]; rw [World.cell?_setCell_other _ _ ⟨b, o, none⟩ _ (by intro e2; injection e2 with _ e3; omega)]; rw [World.cell?_setCell_other _ _ ⟨b, o, none⟩ _ (by intro e2; injection e2 with _ e3; omega)]; rw [World.cell?_setCell_other _ _ ⟨b, o, none⟩ _ (by intro e2; injection e2 with _ e3; omega)]; rw [World.cell?_setCell_other _ _ ⟨b, o, none⟩ _ (by intro e2; injection e2 with _ e3; omega)]; rw [World.cell?_setCell_other _ _ ⟨b, o, none⟩ _ (by intro e2; injection e2 with _ e3; omega)]; rw [World.cell?_setCell_other _ _ ⟨b, o, none⟩ _ (by intro e2; injection e2 with _ e3; omega)]
        exact HM2.out o (by omega)
    · obtain rfl : j = xs.length := by omega
      have HP := Lib.hid hp; have HM := Lib.hid hm; clear hp hm hj
      go_wp2
      go_ret
      refine ⟨by rw [HKK.out]; rfl, HP.out, ?_⟩
      obtain ⟨a_, c_, heq, _, _, h0⟩ := HV.out
      injection heq with q1 q2 q3
      subst q1
      rcases h0 with h0 | ⟨b, off, ha, hb1, hb2, _⟩
      · exact .inl (by rw [h0]; rfl)
      · exact .inr ⟨b, off, ha, hb1, hb2, (HM.out b off ha).1⟩

end Go.Proofs.Ytbjnbhlpibadnaa

/- The marks of []Circle. -/
namespace Go.Proofs.Ytbjnbhlpibadnaa
open Go.RowKit
set_option linter.unusedSimpArgs false
set_option linter.unusedVariables false

set_option maxHeartbeats 2000000 in
set_option maxRecDepth 100000 in
theorem markCircleS_c (xs : List Circle) (a : Option Addr) (cap : Nat) (k : Int) (lo hi : Nat) (w : World) (hv : SlR 5 repCircle w lo hi (.slice a xs.length cap) xs) (nf : NF lo hi w) (hn : xs.length ≤ 16777216) (hk : 0 ≤ k) (hk2 : k ≤ 1000000000000) :
    Calls Try.prog 90 #[.slice a xs.length cap, .int .i64 k] w fun e w' => e = .returned (.int .i64 (mkEnd 5 k xs.length)) ∧ Put lo hi w w' ∧ HeldN (mvAt 99) 5 w' lo hi a xs.length k := by
  have HV := Lib.hid hv; clear hv
  have HN := Lib.hid nf; clear nf
  go_enter Try.func90, Try.ntmps90
  go_wp2
  go_loopg [1, 5] xs.length (fun g nn i wr => ∃ j : Nat, ∃ kk : Int, j + g = xs.length ∧ i = .int .i64 j ∧ nn = .int .i64 kk ∧ kk = mkEnd 5 k j ∧ Put lo hi w wr ∧ (∀ b off, a = some ⟨b, off, none⟩ → MkN (mvAt 99) 5 wr b off j k ∧ ∀ o, off + j * 5 ≤ o → wr.cell? ⟨b, o, none⟩ = w.cell? ⟨b, o, none⟩))
  case atStart => exact ⟨0, k, by omega, rfl, rfl, by simp [mkEnd], Put.refl _ _ _, fun b off _ => ⟨fun i c h => absurd h (by omega), fun _ _ => rfl⟩⟩
  case round =>
    obtain ⟨j, kk, hj, rfl, rfl, hkk, hp, hm⟩ := hrel
    have hkb : 0 ≤ kk ∧ kk ≤ 1073741824 + 1000000000000 := by
      have := mkEnd_bd (n := 5) (m := j) hk hk2 (by omega) (by omega)
      omega
    obtain ⟨hkb1, hkb2⟩ := hkb
    have HKK := Lib.hid hkk; clear hkk
    by_cases hlt : j < xs.length
    · obtain ⟨b, off, rfl, hb1, hb2, hel⟩ := HV.out.elems j hlt
      obtain ⟨hm1, hm2⟩ := hm b off rfl
      obtain ⟨e0, e1, e2, e3, e4, _⟩ := Circle.atCell hel j hlt
      have c0 : wr.cell? ⟨b, off + j * 5, none⟩ = w.cell? ⟨b, off + j * 5, none⟩ := hm2 _ (by omega)
      rw [← c0] at e0
      have c1 : wr.cell? ⟨b, off + j * 5 + 1, none⟩ = w.cell? ⟨b, off + j * 5 + 1, none⟩ := hm2 _ (by omega)
      rw [← c1] at e1
      have c2 : wr.cell? ⟨b, off + j * 5 + 2, none⟩ = w.cell? ⟨b, off + j * 5 + 2, none⟩ := hm2 _ (by omega)
      rw [← c2] at e2
      have c3 : wr.cell? ⟨b, off + j * 5 + 3, none⟩ = w.cell? ⟨b, off + j * 5 + 3, none⟩ := hm2 _ (by omega)
      rw [← c3] at e3
      have c4 : wr.cell? ⟨b, off + j * 5 + 4, none⟩ = w.cell? ⟨b, off + j * 5 + 4, none⟩ := hm2 _ (by omega)
      rw [← c4] at e4
      clear c0 c1 c2 c3 c4
      have hbw : b < w.heap.size := by have := lt_of_cell e0; have := HV.out; obtain ⟨_, _, _, _, _, _⟩ := HV.out.elems j hlt; exact Nat.lt_of_lt_of_le (lt_of_cell (Circle.atCell hel j hlt).1) (Nat.le_refl _)
      have fz : ∀ o, wr.frozen? ⟨b, o, none⟩ = false := fun o => by rw [hp.frz b o hbw]; exact HN.out b o hb1 hb2
      have HP := Lib.hid hp; have HM1 := Lib.hid hm1; have HM2 := Lib.hid hm2; have HJ := Lib.hid hj
      have ROOM : Hid (∀ c, c < 5 → (wr.cell? ⟨b, off + j * 5 + c, none⟩).isSome = true) := fun c hc => by
        rcases c with _ | _ | _ | _ | _ | c
        · simp only [Nat.add_zero]; rw [e0]; rfl
        · rw [e1]; rfl
        · rw [e2]; rfl
        · rw [e3]; rfl
        · rw [e4]; rfl
        · omega
      clear hp hm hm1 hm2 hel hj
      generalize xs[j] = y at *
      go_wp2
      go_roundg (xs.length - (j + 1))
      case measure => have := HJ.out; omega
      case rel =>
        have hst := HM1.out.store [.int .i64 (kk), .int .i64 (kk + 1), .int .i64 (kk + 1 + 1), .int .i64 (kk + 1 + 1 + 1), .int .i64 (kk + 1 + 1 + 1 + 1)] rfl (fun c hc => by
          have hq := HKK.out
          unfold mkEnd at hq
          rcases c with _ | _ | _ | _ | _ | c
          · show some _ = some _; rw [mvAt_int (by omega)]; rw [show k + ((j * 5 + 0 : Nat) : Int) = kk by omega]
          · show some _ = some _; rw [mvAt_int (by omega)]; rw [show k + ((j * 5 + (1) : Nat) : Int) = kk + 1 by omega]
          · show some _ = some _; rw [mvAt_int (by omega)]; rw [show k + ((j * 5 + (2) : Nat) : Int) = kk + 1 + 1 by omega]
          · show some _ = some _; rw [mvAt_int (by omega)]; rw [show k + ((j * 5 + (3) : Nat) : Int) = kk + 1 + 1 + 1 by omega]
          · show some _ = some _; rw [mvAt_int (by omega)]; rw [show k + ((j * 5 + (4) : Nat) : Int) = kk + 1 + 1 + 1 + 1 by omega]
          · omega) ROOM.out
        refine ⟨j + 1, kk + 5, by have := HJ.out; omega, by go_num, by first | rfl | exact congrArg (Value.int .i64) (by omega), by rw [HKK.out]; unfold mkEnd; rw [Nat.add_mul]; omega, (((((HP.out.setCell (p := ⟨b, off + j * 5, none⟩) ⟨hb1, hb2⟩ _).setCell (p := ⟨b, off + j * 5 + 1, none⟩) ⟨hb1, hb2⟩ _).setCell (p := ⟨b, off + j * 5 + 2, none⟩) ⟨hb1, hb2⟩ _).setCell (p := ⟨b, off + j * 5 + 3, none⟩) ⟨hb1, hb2⟩ _).setCell (p := ⟨b, off + j * 5 + 4, none⟩) ⟨hb1, hb2⟩ _), fun b' off' he => ?_⟩
        injection he with he
        injection he with q1 q2
        subst q1 q2
        refine ⟨hst, fun o h1 => ?_⟩
        rw [Nat.add_mul] at h1
        rw [World.cell?_setCell_other _ _ ⟨b, o, none⟩ _ (by intro e2; injection e2 with _ e3; omega)]; rw [World.cell?_setCell_other _ _ ⟨b, o, none⟩ _ (by intro e2; injection e2 with _ e3; omega)]; rw [World.cell?_setCell_other _ _ ⟨b, o, none⟩ _ (by intro e2; injection e2 with _ e3; omega)]; rw [World.cell?_setCell_other _ _ ⟨b, o, none⟩ _ (by intro e2; injection e2 with _ e3; omega)]; rw [World.cell?_setCell_other _ _ ⟨b, o, none⟩ _ (by intro e2; injection e2 with _ e3; omega)]
        exact HM2.out o (by omega)
    · obtain rfl : j = xs.length := by omega
      have HP := Lib.hid hp; have HM := Lib.hid hm; clear hp hm hj
      go_wp2
      go_ret
      refine ⟨by rw [HKK.out]; rfl, HP.out, ?_⟩
      obtain ⟨a_, c_, heq, _, _, h0⟩ := HV.out
      injection heq with q1 q2 q3
      subst q1
      rcases h0 with h0 | ⟨b, off, ha, hb1, hb2, _⟩
      · exact .inl (by rw [h0]; rfl)
      · exact .inr ⟨b, off, ha, hb1, hb2, (HM.out b off ha).1⟩

end Go.Proofs.Ytbjnbhlpibadnaa

/- The marks of Book. -/
namespace Go.Proofs.Ytbjnbhlpibadnaa
open Go.RowKit
set_option linter.unusedSimpArgs false
set_option linter.unusedVariables false

def mkBook (x : Book) (k : Int) : Int := (mkEnd 5 (mkEnd 7 (mkEnd 7 k x.chans.length) x.htlcs.length) x.circles.length)
theorem mkBook_bd {x : Book} {k B : Int} (h0 : 0 ≤ k) (h1 : k ≤ B) (n0 : x.chans.length ≤ 16777216) (n1 : x.htlcs.length ≤ 16777216) (n2 : x.circles.length ≤ 16777216) : 0 ≤ mkBook x k ∧ mkBook x k ≤ B + 3221225472 := by
  unfold mkBook
  have k1 := mkEnd_bd (n := 7) (m := x.chans.length) (k := k) (B := B + 0) h0 (by omega) (by omega) n0
  have k2 := mkEnd_bd (n := 7) (m := x.htlcs.length) (k := (mkEnd 7 k x.chans.length)) (B := B + 1073741824) k1.1 (by omega) (by omega) n1
  have k3 := mkEnd_bd (n := 5) (m := x.circles.length) (k := (mkEnd 7 (mkEnd 7 k x.chans.length) x.htlcs.length)) (B := B + 2147483648) k2.1 (by omega) (by omega) n2
  omega

set_option maxHeartbeats 2000000 in
set_option maxRecDepth 100000 in
theorem markBook_c (x : Book) (a0 : Option Addr) (c0 : Nat) (a1 : Option Addr) (c1 : Nat) (a2 : Option Addr) (c2 : Nat) (k : Int) (L H l0 h0 l1 h1 l2 h2 : Nat) (w : World) (s0 : SlR 7 repChan w l0 h0 (.slice a0 x.chans.length c0) x.chans) (s1 : SlR 7 repHtlc w l1 h1 (.slice a1 x.htlcs.length c1) x.htlcs) (s2 : SlR 5 repCircle w l2 h2 (.slice a2 x.circles.length c2) x.circles) (d0_1 : h0 ≤ l1 ∨ h1 ≤ l0) (d0_2 : h0 ≤ l2 ∨ h2 ≤ l0) (d1_2 : h1 ≤ l2 ∨ h2 ≤ l1) (b0 : L ≤ l0 ∧ l0 ≤ h0 ∧ h0 ≤ H) (b1 : L ≤ l1 ∧ l1 ≤ h1 ∧ h1 ≤ H) (b2 : L ≤ l2 ∧ l2 ≤ h2 ∧ h2 ≤ H) (nf : NF L H w) (hH : H ≤ w.heap.size) (n0 : x.chans.length ≤ 16777216) (n1 : x.htlcs.length ≤ 16777216) (n2 : x.circles.length ≤ 16777216) (hk : 0 ≤ k) (hk2 : k ≤ 100000000000) :
    Calls Try.prog 36 #[.agg #[.int .i64 x.tick, .int .i64 x.next, .int .i64 x.wallet, .slice a0 x.chans.length c0, .slice a1 x.htlcs.length c1, .slice a2 x.circles.length c2], .int .i64 k] w fun e w' => e = .returned (.int .i64 (mkBook x k)) ∧ Put L H w w' ∧ HeldN (mvAt 99) 7 w' l0 h0 a0 x.chans.length k ∧ HeldN (mvAt 5) 7 w' l1 h1 a1 x.htlcs.length (mkEnd 7 k x.chans.length) ∧ HeldN (mvAt 99) 5 w' l2 h2 a2 x.circles.length (mkEnd 7 (mkEnd 7 k x.chans.length) x.htlcs.length) := by
  have k1 := mkEnd_bd (n := 7) (m := x.chans.length) (k := k) (B := 100000000000 + 0) hk (by omega) (by omega) n0
  have k2 := mkEnd_bd (n := 7) (m := x.htlcs.length) (k := (mkEnd 7 k x.chans.length)) (B := 100000000000 + 1073741824) k1.1 (by omega) (by omega) n1
  have k3 := mkEnd_bd (n := 5) (m := x.circles.length) (k := (mkEnd 7 (mkEnd 7 k x.chans.length) x.htlcs.length)) (B := 100000000000 + 2147483648) k2.1 (by omega) (by omega) n2
  go_enter Try.func36, Try.ntmps36
  go_wp2_with fail
  obtain ⟨V, hV⟩ : ∃ V, V = w.alloc (.cells #[.int .i64 x.tick, .int .i64 x.next, .int .i64 x.wallet, .slice a0 x.chans.length c0, .slice a1 x.htlcs.length c1, .slice a2 x.circles.length c2] 58) := ⟨_, rfl⟩
  have P : Put L H w V := by rw [hV]; exact (Put.refl _ _ _).alloc _ _
  have gs : Grow w V := by rw [hV]; exact (Grow.refl _).alloc _ _
  have B0 : Box V w.heap.size [.int .i64 x.tick, .int .i64 x.next, .int .i64 x.wallet, .slice a0 x.chans.length c0, .slice a1 x.htlcs.length c1, .slice a2 x.circles.length c2] := by rw [hV]; exact Box.new w _ _
  rw [← hV]
  clear hV
  replace s0 := s0.same repChan_stable (gs.same (by omega))
  replace s1 := s1.same repHtlc_stable (gs.same (by omega))
  replace s2 := s2.same repCircle_stable (gs.same (by omega))
  replace nf := NF.put nf P hH
  have ys := gs.size
  clear gs
  refine (markChanS_c x.chans _ _ k l0 h0 _ s0 (nf.mono (by omega) (by omega)) n0 (by omega) (by omega)).mono ?_
  rintro e V1 ⟨rfl, gp, m0⟩
  have y1 := Put.size gp
  replace B0 : Box V1 w.heap.size [.int .i64 x.tick, .int .i64 x.next, .int .i64 x.wallet, .slice a0 x.chans.length c0, .slice a1 x.htlcs.length c1, .slice a2 x.circles.length c2] := Box.put B0 gp (by omega)
  replace s1 := s1.same repHtlc_stable (Put.same gp (by omega) (by omega))
  replace s2 := s2.same repCircle_stable (Put.same gp (by omega) (by omega))
  replace nf := NF.put nf gp (by omega)
  replace P := P.trans (gp.wide (by omega) (by omega))
  clear gp
  have q0_0 : V1.cell? ⟨w.heap.size, 0, none⟩ = some (.int .i64 x.tick) := B0.c 0 _ rfl
  have q0_1 : V1.cell? ⟨w.heap.size, 1, none⟩ = some (.int .i64 x.next) := B0.c 1 _ rfl
  have q0_2 : V1.cell? ⟨w.heap.size, 2, none⟩ = some (.int .i64 x.wallet) := B0.c 2 _ rfl
  have q0_3 : V1.cell? ⟨w.heap.size, 3, none⟩ = some (.slice a0 x.chans.length c0) := B0.c 3 _ rfl
  have q0_4 : V1.cell? ⟨w.heap.size, 4, none⟩ = some (.slice a1 x.htlcs.length c1) := B0.c 4 _ rfl
  have q0_5 : V1.cell? ⟨w.heap.size, 5, none⟩ = some (.slice a2 x.circles.length c2) := B0.c 5 _ rfl
  go_wp2_with fail
  refine (markHtlcS_c x.htlcs _ _ (mkEnd 7 k x.chans.length) l1 h1 _ s1 (nf.mono (by omega) (by omega)) n1 (by omega) (by omega)).mono ?_
  rintro e V2 ⟨rfl, gp, m1⟩
  clear q0_0 q0_1 q0_2 q0_3 q0_4 q0_5
  have y2 := Put.size gp
  replace B0 : Box V2 w.heap.size [.int .i64 x.tick, .int .i64 x.next, .int .i64 x.wallet, .slice a0 x.chans.length c0, .slice a1 x.htlcs.length c1, .slice a2 x.circles.length c2] := Box.put B0 gp (by omega)
  replace m0 := m0.same (Put.same gp (by omega) (by omega))
  replace s2 := s2.same repCircle_stable (Put.same gp (by omega) (by omega))
  replace nf := NF.put nf gp (by omega)
  replace P := P.trans (gp.wide (by omega) (by omega))
  clear gp
  have q0_0 : V2.cell? ⟨w.heap.size, 0, none⟩ = some (.int .i64 x.tick) := B0.c 0 _ rfl
  have q0_1 : V2.cell? ⟨w.heap.size, 1, none⟩ = some (.int .i64 x.next) := B0.c 1 _ rfl
  have q0_2 : V2.cell? ⟨w.heap.size, 2, none⟩ = some (.int .i64 x.wallet) := B0.c 2 _ rfl
  have q0_3 : V2.cell? ⟨w.heap.size, 3, none⟩ = some (.slice a0 x.chans.length c0) := B0.c 3 _ rfl
  have q0_4 : V2.cell? ⟨w.heap.size, 4, none⟩ = some (.slice a1 x.htlcs.length c1) := B0.c 4 _ rfl
  have q0_5 : V2.cell? ⟨w.heap.size, 5, none⟩ = some (.slice a2 x.circles.length c2) := B0.c 5 _ rfl
  go_wp2_with fail
  refine (markCircleS_c x.circles _ _ (mkEnd 7 (mkEnd 7 k x.chans.length) x.htlcs.length) l2 h2 _ s2 (nf.mono (by omega) (by omega)) n2 (by omega) (by omega)).mono ?_
  rintro e V3 ⟨rfl, gp, m2⟩
  clear q0_0 q0_1 q0_2 q0_3 q0_4 q0_5
  have y3 := Put.size gp
  replace B0 : Box V3 w.heap.size [.int .i64 x.tick, .int .i64 x.next, .int .i64 x.wallet, .slice a0 x.chans.length c0, .slice a1 x.htlcs.length c1, .slice a2 x.circles.length c2] := Box.put B0 gp (by omega)
  replace m0 := m0.same (Put.same gp (by omega) (by omega))
  replace m1 := m1.same (Put.same gp (by omega) (by omega))
  replace nf := NF.put nf gp (by omega)
  replace P := P.trans (gp.wide (by omega) (by omega))
  clear gp
  have q0_0 : V3.cell? ⟨w.heap.size, 0, none⟩ = some (.int .i64 x.tick) := B0.c 0 _ rfl
  have q0_1 : V3.cell? ⟨w.heap.size, 1, none⟩ = some (.int .i64 x.next) := B0.c 1 _ rfl
  have q0_2 : V3.cell? ⟨w.heap.size, 2, none⟩ = some (.int .i64 x.wallet) := B0.c 2 _ rfl
  have q0_3 : V3.cell? ⟨w.heap.size, 3, none⟩ = some (.slice a0 x.chans.length c0) := B0.c 3 _ rfl
  have q0_4 : V3.cell? ⟨w.heap.size, 4, none⟩ = some (.slice a1 x.htlcs.length c1) := B0.c 4 _ rfl
  have q0_5 : V3.cell? ⟨w.heap.size, 5, none⟩ = some (.slice a2 x.circles.length c2) := B0.c 5 _ rfl
  go_wp2_with fail
  go_ret
  exact ⟨rfl, P, m0, m1, m2⟩

end Go.Proofs.Ytbjnbhlpibadnaa

/- The marks of []Price. -/
namespace Go.Proofs.Ytbjnbhlpibadnaa
open Go.RowKit
set_option linter.unusedSimpArgs false
set_option linter.unusedVariables false

set_option maxHeartbeats 2000000 in
set_option maxRecDepth 100000 in
theorem markPriceS_c (xs : List Price) (a : Option Addr) (cap : Nat) (k : Int) (lo hi : Nat) (w : World) (hv : SlR 3 repPrice w lo hi (.slice a xs.length cap) xs) (nf : NF lo hi w) (hn : xs.length ≤ 16777216) (hk : 0 ≤ k) (hk2 : k ≤ 1000000000000) :
    Calls Try.prog 37 #[.slice a xs.length cap, .int .i64 k] w fun e w' => e = .returned (.int .i64 (mkEnd 3 k xs.length)) ∧ Put lo hi w w' ∧ HeldN (mvAt 99) 3 w' lo hi a xs.length k := by
  have HV := Lib.hid hv; clear hv
  have HN := Lib.hid nf; clear nf
  go_enter Try.func37, Try.ntmps37
  go_wp2
  go_loopg [1, 5] xs.length (fun g nn i wr => ∃ j : Nat, ∃ kk : Int, j + g = xs.length ∧ i = .int .i64 j ∧ nn = .int .i64 kk ∧ kk = mkEnd 3 k j ∧ Put lo hi w wr ∧ (∀ b off, a = some ⟨b, off, none⟩ → MkN (mvAt 99) 3 wr b off j k ∧ ∀ o, off + j * 3 ≤ o → wr.cell? ⟨b, o, none⟩ = w.cell? ⟨b, o, none⟩))
  case atStart => exact ⟨0, k, by omega, rfl, rfl, by simp [mkEnd], Put.refl _ _ _, fun b off _ => ⟨fun i c h => absurd h (by omega), fun _ _ => rfl⟩⟩
  case round =>
    obtain ⟨j, kk, hj, rfl, rfl, hkk, hp, hm⟩ := hrel
    have hkb : 0 ≤ kk ∧ kk ≤ 1073741824 + 1000000000000 := by
      have := mkEnd_bd (n := 3) (m := j) hk hk2 (by omega) (by omega)
      omega
    obtain ⟨hkb1, hkb2⟩ := hkb
    have HKK := Lib.hid hkk; clear hkk
    by_cases hlt : j < xs.length
    · obtain ⟨b, off, rfl, hb1, hb2, hel⟩ := HV.out.elems j hlt
      obtain ⟨hm1, hm2⟩ := hm b off rfl
      obtain ⟨e0, e1, e2, _⟩ := Price.atCell hel j hlt
      have c0 : wr.cell? ⟨b, off + j * 3, none⟩ = w.cell? ⟨b, off + j * 3, none⟩ := hm2 _ (by omega)
      rw [← c0] at e0
      have c1 : wr.cell? ⟨b, off + j * 3 + 1, none⟩ = w.cell? ⟨b, off + j * 3 + 1, none⟩ := hm2 _ (by omega)
      rw [← c1] at e1
      have c2 : wr.cell? ⟨b, off + j * 3 + 2, none⟩ = w.cell? ⟨b, off + j * 3 + 2, none⟩ := hm2 _ (by omega)
      rw [← c2] at e2
      clear c0 c1 c2
      have hbw : b < w.heap.size := by have := lt_of_cell e0; have := HV.out; obtain ⟨_, _, _, _, _, _⟩ := HV.out.elems j hlt; exact Nat.lt_of_lt_of_le (lt_of_cell (Price.atCell hel j hlt).1) (Nat.le_refl _)
      have fz : ∀ o, wr.frozen? ⟨b, o, none⟩ = false := fun o => by rw [hp.frz b o hbw]; exact HN.out b o hb1 hb2
      have HP := Lib.hid hp; have HM1 := Lib.hid hm1; have HM2 := Lib.hid hm2; have HJ := Lib.hid hj
      have ROOM : Hid (∀ c, c < 3 → (wr.cell? ⟨b, off + j * 3 + c, none⟩).isSome = true) := fun c hc => by
        rcases c with _ | _ | _ | c
        · simp only [Nat.add_zero]; rw [e0]; rfl
        · rw [e1]; rfl
        · rw [e2]; rfl
        · omega
      clear hp hm hm1 hm2 hel hj
      generalize xs[j] = y at *
      go_wp2
      go_roundg (xs.length - (j + 1))
      case measure => have := HJ.out; omega
      case rel =>
        have hst := HM1.out.store [.int .i64 (kk), .int .i64 (kk + 1), .int .i64 (kk + 1 + 1)] rfl (fun c hc => by
          have hq := HKK.out
          unfold mkEnd at hq
          rcases c with _ | _ | _ | c
          · show some _ = some _; rw [mvAt_int (by omega)]; rw [show k + ((j * 3 + 0 : Nat) : Int) = kk by omega]
          · show some _ = some _; rw [mvAt_int (by omega)]; rw [show k + ((j * 3 + (1) : Nat) : Int) = kk + 1 by omega]
          · show some _ = some _; rw [mvAt_int (by omega)]; rw [show k + ((j * 3 + (2) : Nat) : Int) = kk + 1 + 1 by omega]
          · omega) ROOM.out
        refine ⟨j + 1, kk + 3, by have := HJ.out; omega, by go_num, by first | rfl | exact congrArg (Value.int .i64) (by omega), by rw [HKK.out]; unfold mkEnd; rw [Nat.add_mul]; omega, (((HP.out.setCell (p := ⟨b, off + j * 3, none⟩) ⟨hb1, hb2⟩ _).setCell (p := ⟨b, off + j * 3 + 1, none⟩) ⟨hb1, hb2⟩ _).setCell (p := ⟨b, off + j * 3 + 2, none⟩) ⟨hb1, hb2⟩ _), fun b' off' he => ?_⟩
        injection he with he
        injection he with q1 q2
        subst q1 q2
        refine ⟨hst, fun o h1 => ?_⟩
        rw [Nat.add_mul] at h1
        rw [World.cell?_setCell_other _ _ ⟨b, o, none⟩ _ (by intro e2; injection e2 with _ e3; omega)]; rw [World.cell?_setCell_other _ _ ⟨b, o, none⟩ _ (by intro e2; injection e2 with _ e3; omega)]; rw [World.cell?_setCell_other _ _ ⟨b, o, none⟩ _ (by intro e2; injection e2 with _ e3; omega)]
        exact HM2.out o (by omega)
    · obtain rfl : j = xs.length := by omega
      have HP := Lib.hid hp; have HM := Lib.hid hm; clear hp hm hj
      go_wp2
      go_ret
      refine ⟨by rw [HKK.out]; rfl, HP.out, ?_⟩
      obtain ⟨a_, c_, heq, _, _, h0⟩ := HV.out
      injection heq with q1 q2 q3
      subst q1
      rcases h0 with h0 | ⟨b, off, ha, hb1, hb2, _⟩
      · exact .inl (by rw [h0]; rfl)
      · exact .inr ⟨b, off, ha, hb1, hb2, (HM.out b off ha).1⟩

end Go.Proofs.Ytbjnbhlpibadnaa
