/- Texts of the proof of FnExactMoves, joined: Arcs, Plan0, AnyG. -/
import Derived.Test.YtbjnbhlpibadnaaJExactMoves2
import Derived.Deep.RegionHeld3
import Derived.Test.YtbjnbhlpibadnaaJExactMoves1
import Derived.StillTail
/- The residual arcs, of the program and of the reference. -/
namespace Go.Proofs.Ytbjnbhlpibadnaa
open Go.RowKit
set_option linter.unusedSimpArgs false
set_option linter.unusedVariables false

theorem own_ne {w : World} {base : Nat} {e : TypeId} {sz n b : Nat} {v : Value} {xs : List Value} (h : w.ownsRow base e sz v n xs) (hb : w.heap.size ≤ b) : v.ownBlock ≠ some b := fun hq => by
  have := (h.lt b hq).2; omega
theorem cellKept {w w' : World} {row : Option Nat} (hg : w.grownBy w' row) {b o : Nat} {u : Value} (hr : row ≠ some b) (h : w.cell? ⟨b, o, none⟩ = some u) : w'.cell? ⟨b, o, none⟩ = some u := by
  rw [World.cell?_of_block (w := w) (a := ⟨b, o, none⟩) (hg.block b (lt_of_cell h) (fun q => hr q.symm))]; exact h
theorem cell_back {w w' : World} (hg : Grow w w') {b o : Nat} {u : Value} (hb : b < w.heap.size) (h : w'.cell? ⟨b, o, none⟩ = some u) : w.cell? ⟨b, o, none⟩ = some u := by rw [← (bcell hg).1 b o hb]; exact h
theorem one_arc (a b c d e : Int) : ∀ u ∈ [Value.int .i64 a, .int .i64 b, .int .i64 c, .int .i64 d, .int .i64 e], u.oneCell' = true := by
  intro u hu
  simp only [List.mem_cons, List.not_mem_nil, or_false] at hu
  rcases hu with rfl | rfl | rfl | rfl | rfl <;> rfl

theorem infoArc_impl : (Try.prog.info? 92).map (fun i => (i.zero, i.size, i.bytes)) = some (some (.agg #[.int .i64 0, .int .i64 0, .int .i64 0, .int .i64 0, .int .i64 0]), 5, 40) := by kernel_rfl
set_option maxHeartbeats 4000000 in
set_option maxRecDepth 100000 in
theorem impl_arcs_c (x : Graph) (a0 : Option Addr) (c0 : Nat) (f : List Int) (a1 : Option Addr) (c1 : Nat) (w : World) (h0 : SlR 4 repEdge w 0 w.heap.size (.slice a0 x.edges.length c0) x.edges) (h1 : SlR 1 repInt w 0 w.heap.size (.slice a1 f.length c1) f) (hok : flowOk x f = true) :
    Calls Try.prog 49 #[.agg #[.int .i64 x.n, .slice a0 x.edges.length c0], .slice a1 f.length c1] w fun e w' => ∃ a c, e = .returned (.slice a (arcsOf x f).length c) ∧ Grow w w' ∧ SlR 5 repArc w' w.heap.size w'.heap.size (.slice a (arcsOf x f).length c) (arcsOf x f) := by
  obtain ⟨i0, hi0, hz0, hz1, hz2⟩ := info_parts infoArc_impl
  have HFI := Lib.hid (arcs_fine hok)
  have HAL := Lib.hid (arcsOf_len hok)
  obtain ⟨n1, n2, g2, hlen, he, hp, _⟩ := flowOk_facts hok
  have HE := Lib.hid he; have HPP := Lib.hid hp; have HLEN := Lib.hid hlen
  clear he hp hok
  have hf60 : f.length ≤ 60 := by omega
  have hzl : (x.edges.zip f).length = x.edges.length := by simp; omega
  have HZL := Lib.hid hzl; clear hzl hlen
  have H0 := Lib.hid h0; have H1 := Lib.hid h1
  clear h0 h1
  go_enter Try.func49, Try.ntmps49
  go_wp2_with fail
  obtain ⟨V1, hV⟩ : ∃ V, V = (w.alloc (.cells #[.int .i64 x.n, .slice a0 x.edges.length c0] 31)) := ⟨_, rfl⟩
  have G' : Grow w V1 := by rw [hV]; exact ((Grow.refl w).alloc _ _)
  have gs : Grow w V1 := by rw [hV]; exact ((Grow.refl w).alloc _ _)
  have B0 : Box V1 (w.heap.size) [.int .i64 x.n, .slice a0 x.edges.length c0] := by rw [hV]; exact Box.newAt (by simp) _ _
  have ys : V1.heap.size = w.heap.size + 1 := by rw [hV]; simp
  have G := G'
  clear G'
  rw [← hV]
  clear hV
  clear gs
  have z0 := B0.lt
  have q0_0 : V1.cell? ⟨w.heap.size, 0, none⟩ = some (.int .i64 x.n) := B0.c 0 _ rfl
  have q0_1 : V1.cell? ⟨w.heap.size, 1, none⟩ = some (.slice a0 x.edges.length c0) := B0.c 1 _ rfl
  have f0 := B0.f
  clear z0 q0_0 q0_1 f0
  have GW := Grow.refl V1
  have hed : x.edges.length ≤ 60 := g2
  go_loopg [5, 11] x.edges.length (fun g v i wr => ∃ k : Nat, k + g = x.edges.length ∧ i = .int .i64 k ∧ Grow V1 wr ∧ wr.ownsRow V1.heap.size 92 5 v (arcsK (x.edges.zip f) k).length ((arcsK (x.edges.zip f) k).flatMap encArc))
  case atStart => exact ⟨0, by simp, rfl, GW, World.ownsRow_nil _ _ _ _⟩
  case round =>
    obtain ⟨k, hk, rfl, hg, hown⟩ := hrel
    have HOWN := Lib.hid hown; clear hown
    obtain ⟨R2, rfl⟩ : ∃ V, V = wr := ⟨_, rfl⟩
    have HGW := Lib.hid hg
    replace B0 := B0.grow hg
    have G0 := Lib.hid G
    replace G := G0.out.trans hg
    clear hg
    by_cases hlt : k < x.edges.length
    · have HK := Lib.hid hk; clear hk
      have hltf : k < f.length := by have := HLEN.out; omega
      have hltz : k < (x.edges.zip f).length := by have := HZL.out; omega
      have HM : Hid (arcsK (x.edges.zip f) (k+1) = arcsK (x.edges.zip f) k ++ (arcUp k (x.edges[k], f[k]) ++ arcDn k (x.edges[k], f[k]))) := by
        show _ = _
        rw [arcsK_succ hltz, List.getElem_zip]; rfl
      have HL : Hid ((arcsK (x.edges.zip f) k).length ≤ 120) := by
        show _ ≤ _
        have := arcsK_len (x.edges.zip f) k
        omega
      have hbf := HPP.out (x.edges[k], f[k]) (by
        have : (x.edges.zip f)[k] = (x.edges[k], f[k]) := List.getElem_zip
        rw [← this]; exact List.getElem_mem _)
      have hbe := edgeOk_iff.1 (HE.out _ (List.getElem_mem hlt))
      simp only at hbf
      have z0 := B0.lt
      have q0_0 : R2.cell? ⟨w.heap.size, 0, none⟩ = some (.int .i64 x.n) := B0.c 0 _ rfl
      have q0_1 : R2.cell? ⟨w.heap.size, 1, none⟩ = some (.slice a0 x.edges.length c0) := B0.c 1 _ rfl
      have f0 := B0.f
      obtain ⟨b_e, off_e, ha_e, hb1_e, hb2_e, hel_e⟩ := H0.out.elems k hlt
      obtain ⟨ee0, ee1, ee2, ee3, -⟩ := Edge.atCell (hel_e.same repEdge_stable (G.same (Nat.le_refl _)) hb1_e hb2_e) k hlt
      subst ha_e
      clear hel_e
      obtain ⟨b_v, off_v, ha_v, hb1_v, hb2_v, hel_v⟩ := H1.out.elems k hltf
      obtain ⟨ev0, -⟩ := Int.atCell (hel_v.same repInt_stable (G.same (Nat.le_refl _)) hb1_v hb2_v) k hltf
      subst ha_v
      clear hel_v
      generalize x.edges[k] = e at *
      generalize f[k] = v at *
      generalize hks : arcsK (x.edges.zip f) k = ks at *
      have HKS := Lib.hid hks; clear hks
      obtain ⟨p1, p2, p3, p4, p5, p6, p7, p8, p9⟩ := hbe
      obtain ⟨f1_, f2_⟩ := hbf
      have hq1 : IntKind.i64.wrap (2 * (k : Int)) = 2 * (k : Int) := by rw [IntKind.wrap_i64]; omega
      have hq2 : IntKind.i64.wrap (2 * (k : Int) + 1) = 2 * (k : Int) + 1 := by rw [IntKind.wrap_i64]; omega
      have hq3 : IntKind.i64.wrap (e.cap - v) = e.cap - v := by rw [IntKind.wrap_i64]; omega
      have hq4 : IntKind.i64.wrap (-e.cost) = -e.cost := by rw [IntKind.wrap_i64]; omega
      have hk0 : (0 : Int) ≤ (k : Int) := by omega
      have hk60 : (k : Int) < 60 := by omega
      have hkf : (k : Int) < (f.length : Int) := by omega
      go_wp2_with fail
      have HNE : Hid (u5.ownBlock ≠ some R2.heap.size) := own_ne HOWN.out (Nat.le_refl _)
      obtain ⟨V, hV⟩ : ∃ V, V = (R2.alloc (.cells #[.int .i64 e.frm, .int .i64 e.to, .int .i64 e.cap, .int .i64 e.cost] 123)) := ⟨_, rfl⟩
      have gs : Grow R2 V := by rw [hV]; exact ((Grow.refl R2).alloc _ _)
      clear z0 q0_0 q0_1 f0
      replace B0 := B0.grow gs
      have B1 : Box V R2.heap.size [.int .i64 e.frm, .int .i64 e.to, .int .i64 e.cap, .int .i64 e.cost] := by rw [hV]; exact Box.newAt (by simp) _ _
      have HOV := Lib.hid (own_grow HOWN.out gs)
      have HGV := Lib.hid (HGW.out.trans gs)
      replace G := G.trans gs
      replace ev0 := cellGrow gs ev0
      rw [← hV]
      clear hV gs
      have z0 := B0.lt
      have z1 := B1.lt
      have q0_0 : V.cell? ⟨w.heap.size, 0, none⟩ = some (.int .i64 x.n) := B0.c 0 _ rfl
      have q0_1 : V.cell? ⟨w.heap.size, 1, none⟩ = some (.slice (some ⟨b_e, off_e, none⟩) x.edges.length c0) := B0.c 1 _ rfl
      have f0 := B0.f
      have q1_0 : V.cell? ⟨R2.heap.size, 0, none⟩ = some (.int .i64 e.frm) := B1.c 0 _ rfl
      have q1_1 : V.cell? ⟨R2.heap.size, 1, none⟩ = some (.int .i64 e.to) := B1.c 1 _ rfl
      have q1_2 : V.cell? ⟨R2.heap.size, 2, none⟩ = some (.int .i64 e.cap) := B1.c 2 _ rfl
      have q1_3 : V.cell? ⟨R2.heap.size, 3, none⟩ = some (.int .i64 e.cost) := B1.c 3 _ rfl
      have f1 := B1.f
      by_cases t1 : v < e.cap
      · have HT1 := Lib.hid (arcUp_yes (i := k) (p := (e, v)) t1)
        have T1 : decide (v < e.cap) = true := by simpa using t1
        by_cases t2 : 0 < v
        · have HT2 := Lib.hid (arcDn_yes (i := k) (p := (e, v)) t2)
          have T2 : decide (0 < v) = true := by simpa using t2
          go_quiet (fail)
          go_wp2_with fail
          have gs : Grow V (V.drewN nq) := (Grow.refl V).drewN _
          obtain ⟨U, hU⟩ : ∃ U, U = V.drewN nq := ⟨_, rfl⟩
          rw [← hU] at gs ⊢
          clear hU
          clear z0 z1 q0_0 q0_1 f0 q1_0 q1_1 q1_2 q1_3 f1
          replace B0 := B0.grow gs
          replace B1 := B1.grow gs
          have HOU := Lib.hid (own_grow HOV.out gs)
          have HGU := Lib.hid (HGV.out.trans gs)
          replace G := G.trans gs
          replace ev0 := cellGrow gs ev0
          clear gs
          have z0 := B0.lt
          have z1 := B1.lt
          have q0_0 : U.cell? ⟨w.heap.size, 0, none⟩ = some (.int .i64 x.n) := B0.c 0 _ rfl
          have q0_1 : U.cell? ⟨w.heap.size, 1, none⟩ = some (.slice (some ⟨b_e, off_e, none⟩) x.edges.length c0) := B0.c 1 _ rfl
          have f0 := B0.f
          have q1_0 : U.cell? ⟨R2.heap.size, 0, none⟩ = some (.int .i64 e.frm) := B1.c 0 _ rfl
          have q1_1 : U.cell? ⟨R2.heap.size, 1, none⟩ = some (.int .i64 e.to) := B1.c 1 _ rfl
          have q1_2 : U.cell? ⟨R2.heap.size, 2, none⟩ = some (.int .i64 e.cap) := B1.c 2 _ rfl
          have q1_3 : U.cell? ⟨R2.heap.size, 3, none⟩ = some (.int .i64 e.cost) := B1.c 3 _ rfl
          have f1 := B1.f
          go_region_held3 (fun W => W.cell? ⟨R2.heap.size, 0, none⟩ = some (.int .i64 e.frm) ∧ W.cell? ⟨R2.heap.size, 1, none⟩ = some (.int .i64 e.to) ∧ W.cell? ⟨R2.heap.size, 2, none⟩ = some (.int .i64 e.cap) ∧ W.cell? ⟨R2.heap.size, 3, none⟩ = some (.int .i64 e.cost) ∧ W.cell? ⟨b_v, off_v + k, none⟩ = some (.int .i64 v))
            (first
              | exact ⟨q1_0, q1_1, q1_2, q1_3, ev0⟩
              | exact ⟨cellAlloc (w := U.drew) q1_0 _, cellAlloc (w := U.drew) q1_1 _, cellAlloc (w := U.drew) q1_2 _, cellAlloc (w := U.drew) q1_3 _, cellAlloc (w := U.drew) ev0 _⟩
              | exact ⟨r1_0, r1_1, r1_2, r1_3, rv1⟩)
            (first
              | (refine step_append_g rfl (.tmp 23) (.tmp 40) 89 rfl V1 (show Grow V1 _ by refine Grow.trans HGU.out (b := U) ?_; repeat (first | exact Grow.refl _ | (refine Grow.alloc ?_ _ _) | (refine Grow.drew ?_))) 92 i0 _ 5 40 Try.underlying89 hi0 hz0 hz1 hz2 rfl (by omega) u5 ks.length (ks.flatMap encArc) rfl (own_grow HOU.out (show Grow U _ by repeat (first | exact Grow.refl _ | (refine Grow.alloc ?_ _ _) | (refine Grow.drew ?_)))) ⟨U.heap.size, 0, none⟩ 1 1 [.int .i64 (2 * (k : Int)), .int .i64 e.frm, .int .i64 e.to, .int .i64 (e.cap - v), .int .i64 e.cost] rfl rfl (news_of _ _ _ _ (by simp [hq1, hq2, hq3, hq4])) (one_arc _ _ _ _ _) (by have := HL.out; simp only [maxLen]; (try simp only [List.length_append, List.length_cons, List.length_nil]); omega) (by have := HL.out; (try simp only [List.length_append, List.length_cons, List.length_nil]); omega) ?_
                 intro v1 w1 hown' hg' hgb hat
                 have HOWN1 := Lib.hid (own_snocF (f := encArc) (y := (⟨2 * (k : Int), e.frm, e.to, e.cap - v, e.cost⟩ : Arc)) hown'); have HG1 := Lib.hid hg'; have HGB1 := Lib.hid hgb; have hat_ := hat; clear hown' hg' hgb hat
                 have gx : ∀ {b o : Nat} {u : Value}, b = R2.heap.size → U.cell? ⟨b, o, none⟩ = some u → w1.cell? ⟨b, o, none⟩ = some u := fun hb h => cellKept HGB1.out (by rw [hb]; exact HNE.out) (cellGrow (show Grow U _ by repeat (first | exact Grow.refl _ | (refine Grow.alloc ?_ _ _) | (refine Grow.drew ?_))) h)
                 have r1_0 : w1.cell? ⟨R2.heap.size, 0, none⟩ = some (.int .i64 e.frm) := gx rfl q1_0
                 have r1_1 : w1.cell? ⟨R2.heap.size, 1, none⟩ = some (.int .i64 e.to) := gx rfl q1_1
                 have r1_2 : w1.cell? ⟨R2.heap.size, 2, none⟩ = some (.int .i64 e.cap) := gx rfl q1_2
                 have r1_3 : w1.cell? ⟨R2.heap.size, 3, none⟩ = some (.int .i64 e.cost) := gx rfl q1_3
                 have rv1 : w1.cell? ⟨b_v, off_v + k, none⟩ = some (.int .i64 v) := cellGrow (w := V1) HG1.out (cell_back HGU.out (by have := G0.out.size; omega) ev0)
                 have zw1 : R2.heap.size < w1.heap.size := lt_of_cell r1_0
                 have zv1 : b_v < w1.heap.size := lt_of_cell rv1
                 have HNE1 : Hid (v1.ownBlock ≠ some R2.heap.size) := fun q => by
                   rcases hat_ with h | h
                   · rw [h] at q; exact HNE.out q
                   · rw [h] at q; injection q with q; have : R2.heap.size < U.heap.size := z1; simp only [World.size_alloc, World.size_drew] at q; omega
                 clear hat_ gx))
          go_wp2_with fail
          clear z0 z1 q0_0 q0_1 f0 q1_0 q1_1 q1_2 q1_3 f1
          go_region_held3 (fun W => W.cell? ⟨R2.heap.size, 0, none⟩ = some (.int .i64 e.frm) ∧ W.cell? ⟨R2.heap.size, 1, none⟩ = some (.int .i64 e.to) ∧ W.cell? ⟨R2.heap.size, 2, none⟩ = some (.int .i64 e.cap) ∧ W.cell? ⟨R2.heap.size, 3, none⟩ = some (.int .i64 e.cost) ∧ W.cell? ⟨b_v, off_v + k, none⟩ = some (.int .i64 v))
            (first
              | exact ⟨r1_0, r1_1, r1_2, r1_3, rv1⟩
              | exact ⟨cellAlloc (w := w1.drew) r1_0 _, cellAlloc (w := w1.drew) r1_1 _, cellAlloc (w := w1.drew) r1_2 _, cellAlloc (w := w1.drew) r1_3 _, cellAlloc (w := w1.drew) rv1 _⟩
              | exact ⟨r2_0, r2_1, r2_2, r2_3, rv2⟩)
            (first
              | (refine step_append_g rfl (.tmp 47) (.tmp 63) 89 rfl V1 (show Grow V1 _ by refine Grow.trans HG1.out (b := w1) ?_; repeat (first | exact Grow.refl _ | (refine Grow.alloc ?_ _ _) | (refine Grow.drew ?_))) 92 i0 _ 5 40 Try.underlying89 hi0 hz0 hz1 hz2 rfl (by omega) v1 (ks ++ [(⟨2 * (k : Int), e.frm, e.to, e.cap - v, e.cost⟩ : Arc)]).length ((ks ++ [(⟨2 * (k : Int), e.frm, e.to, e.cap - v, e.cost⟩ : Arc)]).flatMap encArc) rfl (own_grow HOWN1.out (show Grow w1 _ by repeat (first | exact Grow.refl _ | (refine Grow.alloc ?_ _ _) | (refine Grow.drew ?_)))) ⟨w1.heap.size, 0, none⟩ 1 1 [.int .i64 (2 * (k : Int) + 1), .int .i64 e.to, .int .i64 e.frm, .int .i64 v, .int .i64 (-e.cost)] rfl rfl (news_of _ _ _ _ (by simp [hq1, hq2, hq3, hq4])) (one_arc _ _ _ _ _) (by have := HL.out; simp only [maxLen]; (try simp only [List.length_append, List.length_cons, List.length_nil]); omega) (by have := HL.out; (try simp only [List.length_append, List.length_cons, List.length_nil]); omega) ?_
                 intro v2 w2 hown' hg' hgb hat
                 have HOWN2 := Lib.hid (own_snocF (f := encArc) (y := (⟨2 * (k : Int) + 1, e.to, e.frm, v, -e.cost⟩ : Arc)) hown'); have HG2 := Lib.hid hg'; have HGB2 := Lib.hid hgb; have hat_ := hat; clear hown' hg' hgb hat
                 have gx : ∀ {b o : Nat} {u : Value}, b = R2.heap.size → w1.cell? ⟨b, o, none⟩ = some u → w2.cell? ⟨b, o, none⟩ = some u := fun hb h => cellKept HGB2.out (by rw [hb]; exact HNE1.out) (cellGrow (show Grow w1 _ by repeat (first | exact Grow.refl _ | (refine Grow.alloc ?_ _ _) | (refine Grow.drew ?_))) h)
                 have r2_0 : w2.cell? ⟨R2.heap.size, 0, none⟩ = some (.int .i64 e.frm) := gx rfl r1_0
                 have r2_1 : w2.cell? ⟨R2.heap.size, 1, none⟩ = some (.int .i64 e.to) := gx rfl r1_1
                 have r2_2 : w2.cell? ⟨R2.heap.size, 2, none⟩ = some (.int .i64 e.cap) := gx rfl r1_2
                 have r2_3 : w2.cell? ⟨R2.heap.size, 3, none⟩ = some (.int .i64 e.cost) := gx rfl r1_3
                 have rv2 : w2.cell? ⟨b_v, off_v + k, none⟩ = some (.int .i64 v) := cellGrow (w := V1) HG2.out (cell_back HGU.out (by have := G0.out.size; omega) ev0)))
          go_wp2_with fail
          go_roundg (x.edges.length - (k + 1))
          case measure => have := HK.out; omega
          case rel => exact ⟨k + 1, by have := HK.out; omega, by go_num, HG2.out, by rw [HM.out, HT1.out, HT2.out]; simpa using HOWN2.out⟩
        · have HT2 := Lib.hid (arcDn_no (i := k) (p := (e, v)) t2)
          have T2 : decide (0 < v) = false := by simpa using t2
          go_quiet (fail)
          go_wp2_with fail
          have gs : Grow V (V.drewN nq) := (Grow.refl V).drewN _
          obtain ⟨U, hU⟩ : ∃ U, U = V.drewN nq := ⟨_, rfl⟩
          rw [← hU] at gs ⊢
          clear hU
          clear z0 z1 q0_0 q0_1 f0 q1_0 q1_1 q1_2 q1_3 f1
          replace B0 := B0.grow gs
          replace B1 := B1.grow gs
          have HOU := Lib.hid (own_grow HOV.out gs)
          have HGU := Lib.hid (HGV.out.trans gs)
          replace G := G.trans gs
          replace ev0 := cellGrow gs ev0
          clear gs
          have z0 := B0.lt
          have z1 := B1.lt
          have q0_0 : U.cell? ⟨w.heap.size, 0, none⟩ = some (.int .i64 x.n) := B0.c 0 _ rfl
          have q0_1 : U.cell? ⟨w.heap.size, 1, none⟩ = some (.slice (some ⟨b_e, off_e, none⟩) x.edges.length c0) := B0.c 1 _ rfl
          have f0 := B0.f
          have q1_0 : U.cell? ⟨R2.heap.size, 0, none⟩ = some (.int .i64 e.frm) := B1.c 0 _ rfl
          have q1_1 : U.cell? ⟨R2.heap.size, 1, none⟩ = some (.int .i64 e.to) := B1.c 1 _ rfl
          have q1_2 : U.cell? ⟨R2.heap.size, 2, none⟩ = some (.int .i64 e.cap) := B1.c 2 _ rfl
          have q1_3 : U.cell? ⟨R2.heap.size, 3, none⟩ = some (.int .i64 e.cost) := B1.c 3 _ rfl
          have f1 := B1.f
          go_region_held3 (fun W => W.cell? ⟨R2.heap.size, 0, none⟩ = some (.int .i64 e.frm) ∧ W.cell? ⟨R2.heap.size, 1, none⟩ = some (.int .i64 e.to) ∧ W.cell? ⟨R2.heap.size, 2, none⟩ = some (.int .i64 e.cap) ∧ W.cell? ⟨R2.heap.size, 3, none⟩ = some (.int .i64 e.cost) ∧ W.cell? ⟨b_v, off_v + k, none⟩ = some (.int .i64 v))
            (first
              | exact ⟨q1_0, q1_1, q1_2, q1_3, ev0⟩
              | exact ⟨cellAlloc (w := U.drew) q1_0 _, cellAlloc (w := U.drew) q1_1 _, cellAlloc (w := U.drew) q1_2 _, cellAlloc (w := U.drew) q1_3 _, cellAlloc (w := U.drew) ev0 _⟩
              | exact ⟨r1_0, r1_1, r1_2, r1_3, rv1⟩)
            (first
              | (refine step_append_g rfl (.tmp 23) (.tmp 40) 89 rfl V1 (show Grow V1 _ by refine Grow.trans HGU.out (b := U) ?_; repeat (first | exact Grow.refl _ | (refine Grow.alloc ?_ _ _) | (refine Grow.drew ?_))) 92 i0 _ 5 40 Try.underlying89 hi0 hz0 hz1 hz2 rfl (by omega) u5 ks.length (ks.flatMap encArc) rfl (own_grow HOU.out (show Grow U _ by repeat (first | exact Grow.refl _ | (refine Grow.alloc ?_ _ _) | (refine Grow.drew ?_)))) ⟨U.heap.size, 0, none⟩ 1 1 [.int .i64 (2 * (k : Int)), .int .i64 e.frm, .int .i64 e.to, .int .i64 (e.cap - v), .int .i64 e.cost] rfl rfl (news_of _ _ _ _ (by simp [hq1, hq2, hq3, hq4])) (one_arc _ _ _ _ _) (by have := HL.out; simp only [maxLen]; (try simp only [List.length_append, List.length_cons, List.length_nil]); omega) (by have := HL.out; (try simp only [List.length_append, List.length_cons, List.length_nil]); omega) ?_
                 intro v1 w1 hown' hg' hgb hat
                 have HOWN1 := Lib.hid (own_snocF (f := encArc) (y := (⟨2 * (k : Int), e.frm, e.to, e.cap - v, e.cost⟩ : Arc)) hown'); have HG1 := Lib.hid hg'; have HGB1 := Lib.hid hgb; have hat_ := hat; clear hown' hg' hgb hat
                 have gx : ∀ {b o : Nat} {u : Value}, b = R2.heap.size → U.cell? ⟨b, o, none⟩ = some u → w1.cell? ⟨b, o, none⟩ = some u := fun hb h => cellKept HGB1.out (by rw [hb]; exact HNE.out) (cellGrow (show Grow U _ by repeat (first | exact Grow.refl _ | (refine Grow.alloc ?_ _ _) | (refine Grow.drew ?_))) h)
                 have r1_0 : w1.cell? ⟨R2.heap.size, 0, none⟩ = some (.int .i64 e.frm) := gx rfl q1_0
                 have r1_1 : w1.cell? ⟨R2.heap.size, 1, none⟩ = some (.int .i64 e.to) := gx rfl q1_1
                 have r1_2 : w1.cell? ⟨R2.heap.size, 2, none⟩ = some (.int .i64 e.cap) := gx rfl q1_2
                 have r1_3 : w1.cell? ⟨R2.heap.size, 3, none⟩ = some (.int .i64 e.cost) := gx rfl q1_3
                 have rv1 : w1.cell? ⟨b_v, off_v + k, none⟩ = some (.int .i64 v) := cellGrow (w := V1) HG1.out (cell_back HGU.out (by have := G0.out.size; omega) ev0)
                 have zw1 : R2.heap.size < w1.heap.size := lt_of_cell r1_0
                 have zv1 : b_v < w1.heap.size := lt_of_cell rv1
                 have HNE1 : Hid (v1.ownBlock ≠ some R2.heap.size) := fun q => by
                   rcases hat_ with h | h
                   · rw [h] at q; exact HNE.out q
                   · rw [h] at q; injection q with q; have : R2.heap.size < U.heap.size := z1; simp only [World.size_alloc, World.size_drew] at q; omega
                 clear hat_ gx))
          go_wp2_with fail
          clear z0 z1 q0_0 q0_1 f0 q1_0 q1_1 q1_2 q1_3 f1
          go_roundg (x.edges.length - (k + 1))
          case measure => have := HK.out; omega
          case rel => exact ⟨k + 1, by have := HK.out; omega, by go_num, HG1.out, by rw [HM.out, HT1.out, HT2.out]; simpa using HOWN1.out⟩
      · have HT1 := Lib.hid (arcUp_no (i := k) (p := (e, v)) t1)
        have T1 : decide (v < e.cap) = false := by simpa using t1
        by_cases t2 : 0 < v
        · have HT2 := Lib.hid (arcDn_yes (i := k) (p := (e, v)) t2)
          have T2 : decide (0 < v) = true := by simpa using t2
          go_quiet (fail)
          go_wp2_with fail
          have gs : Grow V (V.drewN nq) := (Grow.refl V).drewN _
          obtain ⟨U, hU⟩ : ∃ U, U = V.drewN nq := ⟨_, rfl⟩
          rw [← hU] at gs ⊢
          clear hU
          clear z0 z1 q0_0 q0_1 f0 q1_0 q1_1 q1_2 q1_3 f1
          replace B0 := B0.grow gs
          replace B1 := B1.grow gs
          have HOU := Lib.hid (own_grow HOV.out gs)
          have HGU := Lib.hid (HGV.out.trans gs)
          replace G := G.trans gs
          replace ev0 := cellGrow gs ev0
          clear gs
          have z0 := B0.lt
          have z1 := B1.lt
          have q0_0 : U.cell? ⟨w.heap.size, 0, none⟩ = some (.int .i64 x.n) := B0.c 0 _ rfl
          have q0_1 : U.cell? ⟨w.heap.size, 1, none⟩ = some (.slice (some ⟨b_e, off_e, none⟩) x.edges.length c0) := B0.c 1 _ rfl
          have f0 := B0.f
          have q1_0 : U.cell? ⟨R2.heap.size, 0, none⟩ = some (.int .i64 e.frm) := B1.c 0 _ rfl
          have q1_1 : U.cell? ⟨R2.heap.size, 1, none⟩ = some (.int .i64 e.to) := B1.c 1 _ rfl
          have q1_2 : U.cell? ⟨R2.heap.size, 2, none⟩ = some (.int .i64 e.cap) := B1.c 2 _ rfl
          have q1_3 : U.cell? ⟨R2.heap.size, 3, none⟩ = some (.int .i64 e.cost) := B1.c 3 _ rfl
          have f1 := B1.f
          go_region_held3 (fun W => W.cell? ⟨R2.heap.size, 0, none⟩ = some (.int .i64 e.frm) ∧ W.cell? ⟨R2.heap.size, 1, none⟩ = some (.int .i64 e.to) ∧ W.cell? ⟨R2.heap.size, 2, none⟩ = some (.int .i64 e.cap) ∧ W.cell? ⟨R2.heap.size, 3, none⟩ = some (.int .i64 e.cost) ∧ W.cell? ⟨b_v, off_v + k, none⟩ = some (.int .i64 v))
            (first
              | exact ⟨q1_0, q1_1, q1_2, q1_3, ev0⟩
              | exact ⟨cellAlloc (w := U.drew) q1_0 _, cellAlloc (w := U.drew) q1_1 _, cellAlloc (w := U.drew) q1_2 _, cellAlloc (w := U.drew) q1_3 _, cellAlloc (w := U.drew) ev0 _⟩
              | exact ⟨r1_0, r1_1, r1_2, r1_3, rv1⟩)
            (first
              | (refine step_append_g rfl (.tmp 47) (.tmp 63) 89 rfl V1 (show Grow V1 _ by refine Grow.trans HGU.out (b := U) ?_; repeat (first | exact Grow.refl _ | (refine Grow.alloc ?_ _ _) | (refine Grow.drew ?_))) 92 i0 _ 5 40 Try.underlying89 hi0 hz0 hz1 hz2 rfl (by omega) u5 ks.length (ks.flatMap encArc) rfl (own_grow HOU.out (show Grow U _ by repeat (first | exact Grow.refl _ | (refine Grow.alloc ?_ _ _) | (refine Grow.drew ?_)))) ⟨U.heap.size, 0, none⟩ 1 1 [.int .i64 (2 * (k : Int) + 1), .int .i64 e.to, .int .i64 e.frm, .int .i64 v, .int .i64 (-e.cost)] rfl rfl (news_of _ _ _ _ (by simp [hq1, hq2, hq3, hq4])) (one_arc _ _ _ _ _) (by have := HL.out; simp only [maxLen]; (try simp only [List.length_append, List.length_cons, List.length_nil]); omega) (by have := HL.out; (try simp only [List.length_append, List.length_cons, List.length_nil]); omega) ?_
                 intro v1 w1 hown' hg' hgb hat
                 have HOWN1 := Lib.hid (own_snocF (f := encArc) (y := (⟨2 * (k : Int) + 1, e.to, e.frm, v, -e.cost⟩ : Arc)) hown'); have HG1 := Lib.hid hg'; have HGB1 := Lib.hid hgb; have hat_ := hat; clear hown' hg' hgb hat
                 have gx : ∀ {b o : Nat} {u : Value}, b = R2.heap.size → U.cell? ⟨b, o, none⟩ = some u → w1.cell? ⟨b, o, none⟩ = some u := fun hb h => cellKept HGB1.out (by rw [hb]; exact HNE.out) (cellGrow (show Grow U _ by repeat (first | exact Grow.refl _ | (refine Grow.alloc ?_ _ _) | (refine Grow.drew ?_))) h)
                 have r1_0 : w1.cell? ⟨R2.heap.size, 0, none⟩ = some (.int .i64 e.frm) := gx rfl q1_0
                 have r1_1 : w1.cell? ⟨R2.heap.size, 1, none⟩ = some (.int .i64 e.to) := gx rfl q1_1
                 have r1_2 : w1.cell? ⟨R2.heap.size, 2, none⟩ = some (.int .i64 e.cap) := gx rfl q1_2
                 have r1_3 : w1.cell? ⟨R2.heap.size, 3, none⟩ = some (.int .i64 e.cost) := gx rfl q1_3
                 have rv1 : w1.cell? ⟨b_v, off_v + k, none⟩ = some (.int .i64 v) := cellGrow (w := V1) HG1.out (cell_back HGU.out (by have := G0.out.size; omega) ev0)))
          go_wp2_with fail
          clear z0 z1 q0_0 q0_1 f0 q1_0 q1_1 q1_2 q1_3 f1
          go_roundg (x.edges.length - (k + 1))
          case measure => have := HK.out; omega
          case rel => exact ⟨k + 1, by have := HK.out; omega, by go_num, HG1.out, by rw [HM.out, HT1.out, HT2.out]; simpa using HOWN1.out⟩
        · have HT2 := Lib.hid (arcDn_no (i := k) (p := (e, v)) t2)
          have T2 : decide (0 < v) = false := by simpa using t2
          go_quiet (fail)
          go_wp2_with fail
          have gs : Grow V (V.drewN nq) := (Grow.refl V).drewN _
          obtain ⟨U, hU⟩ : ∃ U, U = V.drewN nq := ⟨_, rfl⟩
          rw [← hU] at gs ⊢
          clear hU
          clear z0 z1 q0_0 q0_1 f0 q1_0 q1_1 q1_2 q1_3 f1
          replace B0 := B0.grow gs
          replace B1 := B1.grow gs
          have HOU := Lib.hid (own_grow HOV.out gs)
          have HGU := Lib.hid (HGV.out.trans gs)
          replace G := G.trans gs
          replace ev0 := cellGrow gs ev0
          clear gs
          have z0 := B0.lt
          have z1 := B1.lt
          have q0_0 : U.cell? ⟨w.heap.size, 0, none⟩ = some (.int .i64 x.n) := B0.c 0 _ rfl
          have q0_1 : U.cell? ⟨w.heap.size, 1, none⟩ = some (.slice (some ⟨b_e, off_e, none⟩) x.edges.length c0) := B0.c 1 _ rfl
          have f0 := B0.f
          have q1_0 : U.cell? ⟨R2.heap.size, 0, none⟩ = some (.int .i64 e.frm) := B1.c 0 _ rfl
          have q1_1 : U.cell? ⟨R2.heap.size, 1, none⟩ = some (.int .i64 e.to) := B1.c 1 _ rfl
          have q1_2 : U.cell? ⟨R2.heap.size, 2, none⟩ = some (.int .i64 e.cap) := B1.c 2 _ rfl
          have q1_3 : U.cell? ⟨R2.heap.size, 3, none⟩ = some (.int .i64 e.cost) := B1.c 3 _ rfl
          have f1 := B1.f
          go_roundg (x.edges.length - (k + 1))
          case measure => have := HK.out; omega
          case rel => exact ⟨k + 1, by have := HK.out; omega, by go_num, HGU.out, by rw [HM.out, HT1.out, HT2.out]; simpa using HOU.out⟩
    · have hke : k = x.edges.length := by omega
      have hown := HOWN.out
      have hke2 : arcsK (x.edges.zip f) k = arcsOf x f := by rw [hke, ← HZL.out]; rfl
      rw [hke2] at hown
      have hsl : SlR 5 repArc R2 V1.heap.size R2.heap.size u5 (arcsOf x f) := SlR.of_own length_encArc hown (fun y hy => ⟨rfl, (HFI.out y hy).wf n2⟩)
      have hsl := hsl.stable repArc_stable (Same.refl _ _ _) (lo' := w.heap.size) (by have := G0.out.size; omega) (Nat.le_refl _)
      have hsl' := hsl
      obtain ⟨av, cv, rfl, _, _, _⟩ := hsl'
      have HSL := Lib.hid hsl
      clear hke hke2 hown HOWN hsl
      have z0 := B0.lt
      have q0_0 : R2.cell? ⟨w.heap.size, 0, none⟩ = some (.int .i64 x.n) := B0.c 0 _ rfl
      have q0_1 : R2.cell? ⟨w.heap.size, 1, none⟩ = some (.slice a0 x.edges.length c0) := B0.c 1 _ rfl
      have f0 := B0.f
      go_wp2_with fail
      go_ret
      exact ⟨av, cv, rfl, G, HSL.out⟩

theorem infoArc_spec : (Try.prog.info? 87).map (fun i => (i.zero, i.size, i.bytes)) = some (some (.agg #[.int .i64 0, .int .i64 0, .int .i64 0, .int .i64 0, .int .i64 0]), 5, 40) := by kernel_rfl
set_option maxHeartbeats 4000000 in
set_option maxRecDepth 100000 in
theorem spec_arcs_c (x : Graph) (a0 : Option Addr) (c0 : Nat) (f : List Int) (a1 : Option Addr) (c1 : Nat) (w : World) (h0 : SlR 4 repEdge w 0 w.heap.size (.slice a0 x.edges.length c0) x.edges) (h1 : SlR 1 repInt w 0 w.heap.size (.slice a1 f.length c1) f) (hok : flowOk x f = true) :
    Calls Try.prog 46 #[.agg #[.int .i64 x.n, .slice a0 x.edges.length c0], .slice a1 f.length c1] w fun e w' => ∃ a c, e = .returned (.slice a (arcsOf x f).length c) ∧ Grow w w' ∧ SlR 5 repArc w' w.heap.size w'.heap.size (.slice a (arcsOf x f).length c) (arcsOf x f) := by
  obtain ⟨i0, hi0, hz0, hz1, hz2⟩ := info_parts infoArc_spec
  have HFI := Lib.hid (arcs_fine hok)
  have HAL := Lib.hid (arcsOf_len hok)
  obtain ⟨n1, n2, g2, hlen, he, hp, _⟩ := flowOk_facts hok
  have HE := Lib.hid he; have HPP := Lib.hid hp; have HLEN := Lib.hid hlen
  clear he hp hok
  have hf60 : f.length ≤ 60 := by omega
  have hzl : (x.edges.zip f).length = x.edges.length := by simp; omega
  have HZL := Lib.hid hzl; clear hzl hlen
  have H0 := Lib.hid h0; have H1 := Lib.hid h1
  clear h0 h1
  go_enter Try.func46, Try.ntmps46
  go_wp2_with fail
  obtain ⟨V1, hV⟩ : ∃ V, V = (w.alloc (.cells #[.int .i64 x.n, .slice a0 x.edges.length c0] 31)) := ⟨_, rfl⟩
  have G' : Grow w V1 := by rw [hV]; exact ((Grow.refl w).alloc _ _)
  have gs : Grow w V1 := by rw [hV]; exact ((Grow.refl w).alloc _ _)
  have B0 : Box V1 (w.heap.size) [.int .i64 x.n, .slice a0 x.edges.length c0] := by rw [hV]; exact Box.newAt (by simp) _ _
  have ys : V1.heap.size = w.heap.size + 1 := by rw [hV]; simp
  have G := G'
  clear G'
  rw [← hV]
  clear hV
  clear gs
  have z0 := B0.lt
  have q0_0 : V1.cell? ⟨w.heap.size, 0, none⟩ = some (.int .i64 x.n) := B0.c 0 _ rfl
  have q0_1 : V1.cell? ⟨w.heap.size, 1, none⟩ = some (.slice a0 x.edges.length c0) := B0.c 1 _ rfl
  have f0 := B0.f
  have GW := Grow.refl V1
  have GV := G
  have BV0 := Lib.hid B0
  obtain ⟨V2, hV⟩ : ∃ V, V = (V1.alloc (.cells #[] 87)) := ⟨_, rfl⟩
  have G' : Grow w V2 := by rw [hV]; exact (G.alloc _ _)
  have gs : Grow V1 V2 := by rw [hV]; exact ((Grow.refl V1).alloc _ _)
  replace B0 : Box V2 (w.heap.size) [.int .i64 x.n, .slice a0 x.edges.length c0] := by rw [hV]; exact (B0.alloc _ _)
  have B1 : Box V2 (V1.heap.size) [] := by rw [hV]; exact Box.newAt (by simp) _ _
  have ys : V2.heap.size = V1.heap.size + 1 := by rw [hV]; simp
  replace G := G'
  clear G'
  have OWN0 : V2.ownsRow V1.heap.size 87 5 (.slice (some ⟨w.heap.size + 1, 0, none⟩) 0 0) 0 [] := by
    have e : V1.heap.size = w.heap.size + 1 := by omega
    rw [hV, show (⟨w.heap.size + 1, 0, none⟩ : Addr) = ⟨V1.heap.size, 0, none⟩ by rw [e]]
    have hm := World.ownsRow_made (base := V1.heap.size) (e := 87) (size := 5) V1 #[] 0 (Nat.le_refl _) (by simp [maxLen]) (by simp)
    simpa using hm
  replace GW := Grow.trans GW gs
  rw [← hV]
  clear hV
  clear gs
  clear z0 q0_0 q0_1 f0
  have z0 := B0.lt
  have z1 := B1.lt
  have q0_0 : V2.cell? ⟨w.heap.size, 0, none⟩ = some (.int .i64 x.n) := B0.c 0 _ rfl
  have q0_1 : V2.cell? ⟨w.heap.size, 1, none⟩ = some (.slice a0 x.edges.length c0) := B0.c 1 _ rfl
  have f0 := B0.f
  have f1 := B1.f
  clear z0 z1 q0_0 q0_1 f0 f1
  have hed : x.edges.length ≤ 60 := g2
  go_wp2_with fail
  go_loopg [5, 12] x.edges.length (fun g v i wr => ∃ k : Nat, k + g = x.edges.length ∧ i = .int .i64 k ∧ Grow V1 wr ∧ wr.ownsRow V1.heap.size 87 5 v (arcsK (x.edges.zip f) k).length ((arcsK (x.edges.zip f) k).flatMap encArc))
  case atStart => exact ⟨0, by simp, rfl, GW, OWN0⟩
  case round =>
    obtain ⟨k, hk, rfl, hg, hown⟩ := hrel
    have HOWN := Lib.hid hown; clear hown
    obtain ⟨R3, rfl⟩ : ∃ V, V = wr := ⟨_, rfl⟩
    have HGW := Lib.hid hg
    replace B0 := BV0.out.grow hg
    have G0 := Lib.hid GV
    replace G := G0.out.trans hg
    clear hg
    by_cases hlt : k < x.edges.length
    · have HK := Lib.hid hk; clear hk
      have hltf : k < f.length := by have := HLEN.out; omega
      have hltz : k < (x.edges.zip f).length := by have := HZL.out; omega
      have HM : Hid (arcsK (x.edges.zip f) (k+1) = arcsK (x.edges.zip f) k ++ (arcUp k (x.edges[k], f[k]) ++ arcDn k (x.edges[k], f[k]))) := by
        show _ = _
        rw [arcsK_succ hltz, List.getElem_zip]; rfl
      have HL : Hid ((arcsK (x.edges.zip f) k).length ≤ 120) := by
        show _ ≤ _
        have := arcsK_len (x.edges.zip f) k
        omega
      have hbf := HPP.out (x.edges[k], f[k]) (by
        have : (x.edges.zip f)[k] = (x.edges[k], f[k]) := List.getElem_zip
        rw [← this]; exact List.getElem_mem _)
      have hbe := edgeOk_iff.1 (HE.out _ (List.getElem_mem hlt))
      simp only at hbf
      have z0 := B0.lt
      have q0_0 : R3.cell? ⟨w.heap.size, 0, none⟩ = some (.int .i64 x.n) := B0.c 0 _ rfl
      have q0_1 : R3.cell? ⟨w.heap.size, 1, none⟩ = some (.slice a0 x.edges.length c0) := B0.c 1 _ rfl
      have f0 := B0.f
      obtain ⟨b_e, off_e, ha_e, hb1_e, hb2_e, hel_e⟩ := H0.out.elems k hlt
      obtain ⟨ee0, ee1, ee2, ee3, -⟩ := Edge.atCell (hel_e.same repEdge_stable (G.same (Nat.le_refl _)) hb1_e hb2_e) k hlt
      subst ha_e
      clear hel_e
      obtain ⟨b_v, off_v, ha_v, hb1_v, hb2_v, hel_v⟩ := H1.out.elems k hltf
      obtain ⟨ev0, -⟩ := Int.atCell (hel_v.same repInt_stable (G.same (Nat.le_refl _)) hb1_v hb2_v) k hltf
      subst ha_v
      clear hel_v
      generalize x.edges[k] = e at *
      generalize f[k] = v at *
      generalize hks : arcsK (x.edges.zip f) k = ks at *
      have HKS := Lib.hid hks; clear hks
      obtain ⟨p1, p2, p3, p4, p5, p6, p7, p8, p9⟩ := hbe
      obtain ⟨f1_, f2_⟩ := hbf
      have hq1 : IntKind.i64.wrap (2 * (k : Int)) = 2 * (k : Int) := by rw [IntKind.wrap_i64]; omega
      have hq2 : IntKind.i64.wrap (2 * (k : Int) + 1) = 2 * (k : Int) + 1 := by rw [IntKind.wrap_i64]; omega
      have hq3 : IntKind.i64.wrap (e.cap - v) = e.cap - v := by rw [IntKind.wrap_i64]; omega
      have hq4 : IntKind.i64.wrap (-e.cost) = -e.cost := by rw [IntKind.wrap_i64]; omega
      have hk0 : (0 : Int) ≤ (k : Int) := by omega
      have hk60 : (k : Int) < 60 := by omega
      have hkf : (k : Int) < (f.length : Int) := by omega
      go_wp2_with fail
      have HNE : Hid (u5.ownBlock ≠ some R3.heap.size) := own_ne HOWN.out (Nat.le_refl _)
      obtain ⟨V, hV⟩ : ∃ V, V = (R3.alloc (.cells #[.int .i64 e.frm, .int .i64 e.to, .int .i64 e.cap, .int .i64 e.cost] 123)) := ⟨_, rfl⟩
      have gs : Grow R3 V := by rw [hV]; exact ((Grow.refl R3).alloc _ _)
      clear z0 q0_0 q0_1 f0
      replace B0 := B0.grow gs
      have B1 : Box V R3.heap.size [.int .i64 e.frm, .int .i64 e.to, .int .i64 e.cap, .int .i64 e.cost] := by rw [hV]; exact Box.newAt (by simp) _ _
      have HOV := Lib.hid (own_grow HOWN.out gs)
      have HGV := Lib.hid (HGW.out.trans gs)
      replace G := G.trans gs
      replace ev0 := cellGrow gs ev0
      rw [← hV]
      clear hV gs
      have z0 := B0.lt
      have z1 := B1.lt
      have q0_0 : V.cell? ⟨w.heap.size, 0, none⟩ = some (.int .i64 x.n) := B0.c 0 _ rfl
      have q0_1 : V.cell? ⟨w.heap.size, 1, none⟩ = some (.slice (some ⟨b_e, off_e, none⟩) x.edges.length c0) := B0.c 1 _ rfl
      have f0 := B0.f
      have q1_0 : V.cell? ⟨R3.heap.size, 0, none⟩ = some (.int .i64 e.frm) := B1.c 0 _ rfl
      have q1_1 : V.cell? ⟨R3.heap.size, 1, none⟩ = some (.int .i64 e.to) := B1.c 1 _ rfl
      have q1_2 : V.cell? ⟨R3.heap.size, 2, none⟩ = some (.int .i64 e.cap) := B1.c 2 _ rfl
      have q1_3 : V.cell? ⟨R3.heap.size, 3, none⟩ = some (.int .i64 e.cost) := B1.c 3 _ rfl
      have f1 := B1.f
      by_cases t1 : v < e.cap
      · have HT1 := Lib.hid (arcUp_yes (i := k) (p := (e, v)) t1)
        have T1 : decide (v < e.cap) = true := by simpa using t1
        by_cases t2 : 0 < v
        · have HT2 := Lib.hid (arcDn_yes (i := k) (p := (e, v)) t2)
          have T2 : decide (0 < v) = true := by simpa using t2
          go_quiet (fail)
          go_wp2_with fail
          have gs : Grow V (V.drewN nq) := (Grow.refl V).drewN _
          obtain ⟨U, hU⟩ : ∃ U, U = V.drewN nq := ⟨_, rfl⟩
          rw [← hU] at gs ⊢
          clear hU
          clear z0 z1 q0_0 q0_1 f0 q1_0 q1_1 q1_2 q1_3 f1
          replace B0 := B0.grow gs
          replace B1 := B1.grow gs
          have HOU := Lib.hid (own_grow HOV.out gs)
          have HGU := Lib.hid (HGV.out.trans gs)
          replace G := G.trans gs
          replace ev0 := cellGrow gs ev0
          clear gs
          have z0 := B0.lt
          have z1 := B1.lt
          have q0_0 : U.cell? ⟨w.heap.size, 0, none⟩ = some (.int .i64 x.n) := B0.c 0 _ rfl
          have q0_1 : U.cell? ⟨w.heap.size, 1, none⟩ = some (.slice (some ⟨b_e, off_e, none⟩) x.edges.length c0) := B0.c 1 _ rfl
          have f0 := B0.f
          have q1_0 : U.cell? ⟨R3.heap.size, 0, none⟩ = some (.int .i64 e.frm) := B1.c 0 _ rfl
          have q1_1 : U.cell? ⟨R3.heap.size, 1, none⟩ = some (.int .i64 e.to) := B1.c 1 _ rfl
          have q1_2 : U.cell? ⟨R3.heap.size, 2, none⟩ = some (.int .i64 e.cap) := B1.c 2 _ rfl
          have q1_3 : U.cell? ⟨R3.heap.size, 3, none⟩ = some (.int .i64 e.cost) := B1.c 3 _ rfl
          have f1 := B1.f
          go_region_held3 (fun W => W.cell? ⟨R3.heap.size, 0, none⟩ = some (.int .i64 e.frm) ∧ W.cell? ⟨R3.heap.size, 1, none⟩ = some (.int .i64 e.to) ∧ W.cell? ⟨R3.heap.size, 2, none⟩ = some (.int .i64 e.cap) ∧ W.cell? ⟨R3.heap.size, 3, none⟩ = some (.int .i64 e.cost) ∧ W.cell? ⟨b_v, off_v + k, none⟩ = some (.int .i64 v))
            (first
              | exact ⟨q1_0, q1_1, q1_2, q1_3, ev0⟩
              | exact ⟨cellAlloc (w := U.drew) q1_0 _, cellAlloc (w := U.drew) q1_1 _, cellAlloc (w := U.drew) q1_2 _, cellAlloc (w := U.drew) q1_3 _, cellAlloc (w := U.drew) ev0 _⟩
              | exact ⟨r1_0, r1_1, r1_2, r1_3, rv1⟩)
            (first
              | (refine step_append_g rfl (.tmp 24) (.tmp 41) 84 rfl V1 (show Grow V1 _ by refine Grow.trans HGU.out (b := U) ?_; repeat (first | exact Grow.refl _ | (refine Grow.alloc ?_ _ _) | (refine Grow.drew ?_))) 87 i0 _ 5 40 Try.underlying84 hi0 hz0 hz1 hz2 rfl (by omega) u5 ks.length (ks.flatMap encArc) rfl (own_grow HOU.out (show Grow U _ by repeat (first | exact Grow.refl _ | (refine Grow.alloc ?_ _ _) | (refine Grow.drew ?_)))) ⟨U.heap.size, 0, none⟩ 1 1 [.int .i64 (2 * (k : Int)), .int .i64 e.frm, .int .i64 e.to, .int .i64 (e.cap - v), .int .i64 e.cost] rfl rfl (news_of _ _ _ _ (by simp [hq1, hq2, hq3, hq4])) (one_arc _ _ _ _ _) (by have := HL.out; simp only [maxLen]; (try simp only [List.length_append, List.length_cons, List.length_nil]); omega) (by have := HL.out; (try simp only [List.length_append, List.length_cons, List.length_nil]); omega) ?_
                 intro v1 w1 hown' hg' hgb hat
                 have HOWN1 := Lib.hid (own_snocF (f := encArc) (y := (⟨2 * (k : Int), e.frm, e.to, e.cap - v, e.cost⟩ : Arc)) hown'); have HG1 := Lib.hid hg'; have HGB1 := Lib.hid hgb; have hat_ := hat; clear hown' hg' hgb hat
                 have gx : ∀ {b o : Nat} {u : Value}, b = R3.heap.size → U.cell? ⟨b, o, none⟩ = some u → w1.cell? ⟨b, o, none⟩ = some u := fun hb h => cellKept HGB1.out (by rw [hb]; exact HNE.out) (cellGrow (show Grow U _ by repeat (first | exact Grow.refl _ | (refine Grow.alloc ?_ _ _) | (refine Grow.drew ?_))) h)
                 have r1_0 : w1.cell? ⟨R3.heap.size, 0, none⟩ = some (.int .i64 e.frm) := gx rfl q1_0
                 have r1_1 : w1.cell? ⟨R3.heap.size, 1, none⟩ = some (.int .i64 e.to) := gx rfl q1_1
                 have r1_2 : w1.cell? ⟨R3.heap.size, 2, none⟩ = some (.int .i64 e.cap) := gx rfl q1_2
                 have r1_3 : w1.cell? ⟨R3.heap.size, 3, none⟩ = some (.int .i64 e.cost) := gx rfl q1_3
                 have rv1 : w1.cell? ⟨b_v, off_v + k, none⟩ = some (.int .i64 v) := cellGrow (w := V1) HG1.out (cell_back HGU.out (by have := G0.out.size; omega) ev0)
                 have zw1 : R3.heap.size < w1.heap.size := lt_of_cell r1_0
                 have zv1 : b_v < w1.heap.size := lt_of_cell rv1
                 have HNE1 : Hid (v1.ownBlock ≠ some R3.heap.size) := fun q => by
                   rcases hat_ with h | h
                   · rw [h] at q; exact HNE.out q
                   · rw [h] at q; injection q with q; have : R3.heap.size < U.heap.size := z1; simp only [World.size_alloc, World.size_drew] at q; omega
                 clear hat_ gx))
          go_wp2_with fail
          clear z0 z1 q0_0 q0_1 f0 q1_0 q1_1 q1_2 q1_3 f1
          go_region_held3 (fun W => W.cell? ⟨R3.heap.size, 0, none⟩ = some (.int .i64 e.frm) ∧ W.cell? ⟨R3.heap.size, 1, none⟩ = some (.int .i64 e.to) ∧ W.cell? ⟨R3.heap.size, 2, none⟩ = some (.int .i64 e.cap) ∧ W.cell? ⟨R3.heap.size, 3, none⟩ = some (.int .i64 e.cost) ∧ W.cell? ⟨b_v, off_v + k, none⟩ = some (.int .i64 v))
            (first
              | exact ⟨r1_0, r1_1, r1_2, r1_3, rv1⟩
              | exact ⟨cellAlloc (w := w1.drew) r1_0 _, cellAlloc (w := w1.drew) r1_1 _, cellAlloc (w := w1.drew) r1_2 _, cellAlloc (w := w1.drew) r1_3 _, cellAlloc (w := w1.drew) rv1 _⟩
              | exact ⟨r2_0, r2_1, r2_2, r2_3, rv2⟩)
            (first
              | (refine step_append_g rfl (.tmp 48) (.tmp 64) 84 rfl V1 (show Grow V1 _ by refine Grow.trans HG1.out (b := w1) ?_; repeat (first | exact Grow.refl _ | (refine Grow.alloc ?_ _ _) | (refine Grow.drew ?_))) 87 i0 _ 5 40 Try.underlying84 hi0 hz0 hz1 hz2 rfl (by omega) v1 (ks ++ [(⟨2 * (k : Int), e.frm, e.to, e.cap - v, e.cost⟩ : Arc)]).length ((ks ++ [(⟨2 * (k : Int), e.frm, e.to, e.cap - v, e.cost⟩ : Arc)]).flatMap encArc) rfl (own_grow HOWN1.out (show Grow w1 _ by repeat (first | exact Grow.refl _ | (refine Grow.alloc ?_ _ _) | (refine Grow.drew ?_)))) ⟨w1.heap.size, 0, none⟩ 1 1 [.int .i64 (2 * (k : Int) + 1), .int .i64 e.to, .int .i64 e.frm, .int .i64 v, .int .i64 (-e.cost)] rfl rfl (news_of _ _ _ _ (by simp [hq1, hq2, hq3, hq4])) (one_arc _ _ _ _ _) (by have := HL.out; simp only [maxLen]; (try simp only [List.length_append, List.length_cons, List.length_nil]); omega) (by have := HL.out; (try simp only [List.length_append, List.length_cons, List.length_nil]); omega) ?_
                 intro v2 w2 hown' hg' hgb hat
                 have HOWN2 := Lib.hid (own_snocF (f := encArc) (y := (⟨2 * (k : Int) + 1, e.to, e.frm, v, -e.cost⟩ : Arc)) hown'); have HG2 := Lib.hid hg'; have HGB2 := Lib.hid hgb; have hat_ := hat; clear hown' hg' hgb hat
                 have gx : ∀ {b o : Nat} {u : Value}, b = R3.heap.size → w1.cell? ⟨b, o, none⟩ = some u → w2.cell? ⟨b, o, none⟩ = some u := fun hb h => cellKept HGB2.out (by rw [hb]; exact HNE1.out) (cellGrow (show Grow w1 _ by repeat (first | exact Grow.refl _ | (refine Grow.alloc ?_ _ _) | (refine Grow.drew ?_))) h)
                 have r2_0 : w2.cell? ⟨R3.heap.size, 0, none⟩ = some (.int .i64 e.frm) := gx rfl r1_0
                 have r2_1 : w2.cell? ⟨R3.heap.size, 1, none⟩ = some (.int .i64 e.to) := gx rfl r1_1
                 have r2_2 : w2.cell? ⟨R3.heap.size, 2, none⟩ = some (.int .i64 e.cap) := gx rfl r1_2
                 have r2_3 : w2.cell? ⟨R3.heap.size, 3, none⟩ = some (.int .i64 e.cost) := gx rfl r1_3
                 have rv2 : w2.cell? ⟨b_v, off_v + k, none⟩ = some (.int .i64 v) := cellGrow (w := V1) HG2.out (cell_back HGU.out (by have := G0.out.size; omega) ev0)))
          go_wp2_with fail
          go_roundg (x.edges.length - (k + 1))
          case measure => have := HK.out; omega
          case rel => exact ⟨k + 1, by have := HK.out; omega, by go_num, HG2.out, by rw [HM.out, HT1.out, HT2.out]; simpa using HOWN2.out⟩
        · have HT2 := Lib.hid (arcDn_no (i := k) (p := (e, v)) t2)
          have T2 : decide (0 < v) = false := by simpa using t2
          go_quiet (fail)
          go_wp2_with fail
          have gs : Grow V (V.drewN nq) := (Grow.refl V).drewN _
          obtain ⟨U, hU⟩ : ∃ U, U = V.drewN nq := ⟨_, rfl⟩
          rw [← hU] at gs ⊢
          clear hU
          clear z0 z1 q0_0 q0_1 f0 q1_0 q1_1 q1_2 q1_3 f1
          replace B0 := B0.grow gs
          replace B1 := B1.grow gs
          have HOU := Lib.hid (own_grow HOV.out gs)
          have HGU := Lib.hid (HGV.out.trans gs)
          replace G := G.trans gs
          replace ev0 := cellGrow gs ev0
          clear gs
          have z0 := B0.lt
          have z1 := B1.lt
          have q0_0 : U.cell? ⟨w.heap.size, 0, none⟩ = some (.int .i64 x.n) := B0.c 0 _ rfl
          have q0_1 : U.cell? ⟨w.heap.size, 1, none⟩ = some (.slice (some ⟨b_e, off_e, none⟩) x.edges.length c0) := B0.c 1 _ rfl
          have f0 := B0.f
          have q1_0 : U.cell? ⟨R3.heap.size, 0, none⟩ = some (.int .i64 e.frm) := B1.c 0 _ rfl
          have q1_1 : U.cell? ⟨R3.heap.size, 1, none⟩ = some (.int .i64 e.to) := B1.c 1 _ rfl
          have q1_2 : U.cell? ⟨R3.heap.size, 2, none⟩ = some (.int .i64 e.cap) := B1.c 2 _ rfl
          have q1_3 : U.cell? ⟨R3.heap.size, 3, none⟩ = some (.int .i64 e.cost) := B1.c 3 _ rfl
          have f1 := B1.f
          go_region_held3 (fun W => W.cell? ⟨R3.heap.size, 0, none⟩ = some (.int .i64 e.frm) ∧ W.cell? ⟨R3.heap.size, 1, none⟩ = some (.int .i64 e.to) ∧ W.cell? ⟨R3.heap.size, 2, none⟩ = some (.int .i64 e.cap) ∧ W.cell? ⟨R3.heap.size, 3, none⟩ = some (.int .i64 e.cost) ∧ W.cell? ⟨b_v, off_v + k, none⟩ = some (.int .i64 v))
            (first
              | exact ⟨q1_0, q1_1, q1_2, q1_3, ev0⟩
              | exact ⟨cellAlloc (w := U.drew) q1_0 _, cellAlloc (w := U.drew) q1_1 _, cellAlloc (w := U.drew) q1_2 _, cellAlloc (w := U.drew) q1_3 _, cellAlloc (w := U.drew) ev0 _⟩
              | exact ⟨r1_0, r1_1, r1_2, r1_3, rv1⟩)
            (first
              | (refine step_append_g rfl (.tmp 24) (.tmp 41) 84 rfl V1 (show Grow V1 _ by refine Grow.trans HGU.out (b := U) ?_; repeat (first | exact Grow.refl _ | (refine Grow.alloc ?_ _ _) | (refine Grow.drew ?_))) 87 i0 _ 5 40 Try.underlying84 hi0 hz0 hz1 hz2 rfl (by omega) u5 ks.length (ks.flatMap encArc) rfl (own_grow HOU.out (show Grow U _ by repeat (first | exact Grow.refl _ | (refine Grow.alloc ?_ _ _) | (refine Grow.drew ?_)))) ⟨U.heap.size, 0, none⟩ 1 1 [.int .i64 (2 * (k : Int)), .int .i64 e.frm, .int .i64 e.to, .int .i64 (e.cap - v), .int .i64 e.cost] rfl rfl (news_of _ _ _ _ (by simp [hq1, hq2, hq3, hq4])) (one_arc _ _ _ _ _) (by have := HL.out; simp only [maxLen]; (try simp only [List.length_append, List.length_cons, List.length_nil]); omega) (by have := HL.out; (try simp only [List.length_append, List.length_cons, List.length_nil]); omega) ?_
                 intro v1 w1 hown' hg' hgb hat
                 have HOWN1 := Lib.hid (own_snocF (f := encArc) (y := (⟨2 * (k : Int), e.frm, e.to, e.cap - v, e.cost⟩ : Arc)) hown'); have HG1 := Lib.hid hg'; have HGB1 := Lib.hid hgb; have hat_ := hat; clear hown' hg' hgb hat
                 have gx : ∀ {b o : Nat} {u : Value}, b = R3.heap.size → U.cell? ⟨b, o, none⟩ = some u → w1.cell? ⟨b, o, none⟩ = some u := fun hb h => cellKept HGB1.out (by rw [hb]; exact HNE.out) (cellGrow (show Grow U _ by repeat (first | exact Grow.refl _ | (refine Grow.alloc ?_ _ _) | (refine Grow.drew ?_))) h)
                 have r1_0 : w1.cell? ⟨R3.heap.size, 0, none⟩ = some (.int .i64 e.frm) := gx rfl q1_0
                 have r1_1 : w1.cell? ⟨R3.heap.size, 1, none⟩ = some (.int .i64 e.to) := gx rfl q1_1
                 have r1_2 : w1.cell? ⟨R3.heap.size, 2, none⟩ = some (.int .i64 e.cap) := gx rfl q1_2
                 have r1_3 : w1.cell? ⟨R3.heap.size, 3, none⟩ = some (.int .i64 e.cost) := gx rfl q1_3
                 have rv1 : w1.cell? ⟨b_v, off_v + k, none⟩ = some (.int .i64 v) := cellGrow (w := V1) HG1.out (cell_back HGU.out (by have := G0.out.size; omega) ev0)
                 have zw1 : R3.heap.size < w1.heap.size := lt_of_cell r1_0
                 have zv1 : b_v < w1.heap.size := lt_of_cell rv1
                 have HNE1 : Hid (v1.ownBlock ≠ some R3.heap.size) := fun q => by
                   rcases hat_ with h | h
                   · rw [h] at q; exact HNE.out q
                   · rw [h] at q; injection q with q; have : R3.heap.size < U.heap.size := z1; simp only [World.size_alloc, World.size_drew] at q; omega
                 clear hat_ gx))
          go_wp2_with fail
          clear z0 z1 q0_0 q0_1 f0 q1_0 q1_1 q1_2 q1_3 f1
          go_roundg (x.edges.length - (k + 1))
          case measure => have := HK.out; omega
          case rel => exact ⟨k + 1, by have := HK.out; omega, by go_num, HG1.out, by rw [HM.out, HT1.out, HT2.out]; simpa using HOWN1.out⟩
      · have HT1 := Lib.hid (arcUp_no (i := k) (p := (e, v)) t1)
        have T1 : decide (v < e.cap) = false := by simpa using t1
        by_cases t2 : 0 < v
        · have HT2 := Lib.hid (arcDn_yes (i := k) (p := (e, v)) t2)
          have T2 : decide (0 < v) = true := by simpa using t2
          go_quiet (fail)
          go_wp2_with fail
          have gs : Grow V (V.drewN nq) := (Grow.refl V).drewN _
          obtain ⟨U, hU⟩ : ∃ U, U = V.drewN nq := ⟨_, rfl⟩
          rw [← hU] at gs ⊢
          clear hU
          clear z0 z1 q0_0 q0_1 f0 q1_0 q1_1 q1_2 q1_3 f1
          replace B0 := B0.grow gs
          replace B1 := B1.grow gs
          have HOU := Lib.hid (own_grow HOV.out gs)
          have HGU := Lib.hid (HGV.out.trans gs)
          replace G := G.trans gs
          replace ev0 := cellGrow gs ev0
          clear gs
          have z0 := B0.lt
          have z1 := B1.lt
          have q0_0 : U.cell? ⟨w.heap.size, 0, none⟩ = some (.int .i64 x.n) := B0.c 0 _ rfl
          have q0_1 : U.cell? ⟨w.heap.size, 1, none⟩ = some (.slice (some ⟨b_e, off_e, none⟩) x.edges.length c0) := B0.c 1 _ rfl
          have f0 := B0.f
          have q1_0 : U.cell? ⟨R3.heap.size, 0, none⟩ = some (.int .i64 e.frm) := B1.c 0 _ rfl
          have q1_1 : U.cell? ⟨R3.heap.size, 1, none⟩ = some (.int .i64 e.to) := B1.c 1 _ rfl
          have q1_2 : U.cell? ⟨R3.heap.size, 2, none⟩ = some (.int .i64 e.cap) := B1.c 2 _ rfl
          have q1_3 : U.cell? ⟨R3.heap.size, 3, none⟩ = some (.int .i64 e.cost) := B1.c 3 _ rfl
          have f1 := B1.f
          go_region_held3 (fun W => W.cell? ⟨R3.heap.size, 0, none⟩ = some (.int .i64 e.frm) ∧ W.cell? ⟨R3.heap.size, 1, none⟩ = some (.int .i64 e.to) ∧ W.cell? ⟨R3.heap.size, 2, none⟩ = some (.int .i64 e.cap) ∧ W.cell? ⟨R3.heap.size, 3, none⟩ = some (.int .i64 e.cost) ∧ W.cell? ⟨b_v, off_v + k, none⟩ = some (.int .i64 v))
            (first
              | exact ⟨q1_0, q1_1, q1_2, q1_3, ev0⟩
              | exact ⟨cellAlloc (w := U.drew) q1_0 _, cellAlloc (w := U.drew) q1_1 _, cellAlloc (w := U.drew) q1_2 _, cellAlloc (w := U.drew) q1_3 _, cellAlloc (w := U.drew) ev0 _⟩
              | exact ⟨r1_0, r1_1, r1_2, r1_3, rv1⟩)
            (first
              | (refine step_append_g rfl (.tmp 48) (.tmp 64) 84 rfl V1 (show Grow V1 _ by refine Grow.trans HGU.out (b := U) ?_; repeat (first | exact Grow.refl _ | (refine Grow.alloc ?_ _ _) | (refine Grow.drew ?_))) 87 i0 _ 5 40 Try.underlying84 hi0 hz0 hz1 hz2 rfl (by omega) u5 ks.length (ks.flatMap encArc) rfl (own_grow HOU.out (show Grow U _ by repeat (first | exact Grow.refl _ | (refine Grow.alloc ?_ _ _) | (refine Grow.drew ?_)))) ⟨U.heap.size, 0, none⟩ 1 1 [.int .i64 (2 * (k : Int) + 1), .int .i64 e.to, .int .i64 e.frm, .int .i64 v, .int .i64 (-e.cost)] rfl rfl (news_of _ _ _ _ (by simp [hq1, hq2, hq3, hq4])) (one_arc _ _ _ _ _) (by have := HL.out; simp only [maxLen]; (try simp only [List.length_append, List.length_cons, List.length_nil]); omega) (by have := HL.out; (try simp only [List.length_append, List.length_cons, List.length_nil]); omega) ?_
                 intro v1 w1 hown' hg' hgb hat
                 have HOWN1 := Lib.hid (own_snocF (f := encArc) (y := (⟨2 * (k : Int) + 1, e.to, e.frm, v, -e.cost⟩ : Arc)) hown'); have HG1 := Lib.hid hg'; have HGB1 := Lib.hid hgb; have hat_ := hat; clear hown' hg' hgb hat
                 have gx : ∀ {b o : Nat} {u : Value}, b = R3.heap.size → U.cell? ⟨b, o, none⟩ = some u → w1.cell? ⟨b, o, none⟩ = some u := fun hb h => cellKept HGB1.out (by rw [hb]; exact HNE.out) (cellGrow (show Grow U _ by repeat (first | exact Grow.refl _ | (refine Grow.alloc ?_ _ _) | (refine Grow.drew ?_))) h)
                 have r1_0 : w1.cell? ⟨R3.heap.size, 0, none⟩ = some (.int .i64 e.frm) := gx rfl q1_0
                 have r1_1 : w1.cell? ⟨R3.heap.size, 1, none⟩ = some (.int .i64 e.to) := gx rfl q1_1
                 have r1_2 : w1.cell? ⟨R3.heap.size, 2, none⟩ = some (.int .i64 e.cap) := gx rfl q1_2
                 have r1_3 : w1.cell? ⟨R3.heap.size, 3, none⟩ = some (.int .i64 e.cost) := gx rfl q1_3
                 have rv1 : w1.cell? ⟨b_v, off_v + k, none⟩ = some (.int .i64 v) := cellGrow (w := V1) HG1.out (cell_back HGU.out (by have := G0.out.size; omega) ev0)))
          go_wp2_with fail
          clear z0 z1 q0_0 q0_1 f0 q1_0 q1_1 q1_2 q1_3 f1
          go_roundg (x.edges.length - (k + 1))
          case measure => have := HK.out; omega
          case rel => exact ⟨k + 1, by have := HK.out; omega, by go_num, HG1.out, by rw [HM.out, HT1.out, HT2.out]; simpa using HOWN1.out⟩
        · have HT2 := Lib.hid (arcDn_no (i := k) (p := (e, v)) t2)
          have T2 : decide (0 < v) = false := by simpa using t2
          go_quiet (fail)
          go_wp2_with fail
          have gs : Grow V (V.drewN nq) := (Grow.refl V).drewN _
          obtain ⟨U, hU⟩ : ∃ U, U = V.drewN nq := ⟨_, rfl⟩
          rw [← hU] at gs ⊢
          clear hU
          clear z0 z1 q0_0 q0_1 f0 q1_0 q1_1 q1_2 q1_3 f1
          replace B0 := B0.grow gs
          replace B1 := B1.grow gs
          have HOU := Lib.hid (own_grow HOV.out gs)
          have HGU := Lib.hid (HGV.out.trans gs)
          replace G := G.trans gs
          replace ev0 := cellGrow gs ev0
          clear gs
          have z0 := B0.lt
          have z1 := B1.lt
          have q0_0 : U.cell? ⟨w.heap.size, 0, none⟩ = some (.int .i64 x.n) := B0.c 0 _ rfl
          have q0_1 : U.cell? ⟨w.heap.size, 1, none⟩ = some (.slice (some ⟨b_e, off_e, none⟩) x.edges.length c0) := B0.c 1 _ rfl
          have f0 := B0.f
          have q1_0 : U.cell? ⟨R3.heap.size, 0, none⟩ = some (.int .i64 e.frm) := B1.c 0 _ rfl
          have q1_1 : U.cell? ⟨R3.heap.size, 1, none⟩ = some (.int .i64 e.to) := B1.c 1 _ rfl
          have q1_2 : U.cell? ⟨R3.heap.size, 2, none⟩ = some (.int .i64 e.cap) := B1.c 2 _ rfl
          have q1_3 : U.cell? ⟨R3.heap.size, 3, none⟩ = some (.int .i64 e.cost) := B1.c 3 _ rfl
          have f1 := B1.f
          go_roundg (x.edges.length - (k + 1))
          case measure => have := HK.out; omega
          case rel => exact ⟨k + 1, by have := HK.out; omega, by go_num, HGU.out, by rw [HM.out, HT1.out, HT2.out]; simpa using HOU.out⟩
    · have hke : k = x.edges.length := by omega
      have hown := HOWN.out
      have hke2 : arcsK (x.edges.zip f) k = arcsOf x f := by rw [hke, ← HZL.out]; rfl
      rw [hke2] at hown
      have hsl : SlR 5 repArc R3 V1.heap.size R3.heap.size u5 (arcsOf x f) := SlR.of_own length_encArc hown (fun y hy => ⟨rfl, (HFI.out y hy).wf n2⟩)
      have hsl := hsl.stable repArc_stable (Same.refl _ _ _) (lo' := w.heap.size) (by have := G0.out.size; omega) (Nat.le_refl _)
      have hsl' := hsl
      obtain ⟨av, cv, rfl, _, _, _⟩ := hsl'
      have HSL := Lib.hid hsl
      clear hke hke2 hown HOWN hsl
      have z0 := B0.lt
      have q0_0 : R3.cell? ⟨w.heap.size, 0, none⟩ = some (.int .i64 x.n) := B0.c 0 _ rfl
      have q0_1 : R3.cell? ⟨w.heap.size, 1, none⟩ = some (.slice a0 x.edges.length c0) := B0.c 1 _ rfl
      have f0 := B0.f
      go_wp2_with fail
      go_ret
      exact ⟨av, cv, rfl, G, HSL.out⟩

end Go.Proofs.Ytbjnbhlpibadnaa

/- The graph of a plan as plain functions; a row that grows inside a struct of the call's own. -/
namespace Go.Proofs.Ytbjnbhlpibadnaa
open Go.RowKit
set_option linter.unusedSimpArgs false
set_option linter.unusedVariables false

def capE (n : Int) : Int := min n 1000000000
def overE (lo hi : Int) (i : Nat) (c : Chan) : List Edge := if ends2 c.size lo hi < c.loc then [⟨0, (i : Int) + 1, capE (c.loc - ends2 c.size lo hi), 0⟩] else []
def underE (lo hi gain : Int) (i : Nat) (c : Chan) : List Edge := if c.loc < ends1 c.size lo hi then [⟨(i : Int) + 1, 0, capE (ends1 c.size lo hi - c.loc), -gain⟩] else []
def priceE (cs : List Chan) (p : Price) : Edge := ⟨chanAt cs p.frm + 1, chanAt cs p.to + 1, 1000000000, p.ppm⟩
def upK {α : Type} (f : Nat → α → List Edge) (l : List α) : Nat → List Edge
  | 0 => []
  | k + 1 => upK f l k ++ (match l[k]? with | some c => f k c | none => [])
theorem upK_succ {α : Type} {f : Nat → α → List Edge} {l : List α} {k : Nat} (h : k < l.length) : upK f l (k+1) = upK f l k ++ f k l[k] := by
  show upK f l k ++ (match l[k]? with | some c => f k c | none => []) = _
  rw [List.getElem?_eq_getElem h]
theorem upK_len {α : Type} {f : Nat → α → List Edge} {l : List α} (hf : ∀ i c, (f i c).length ≤ 1) : ∀ k, (upK f l k).length ≤ k
  | 0 => by simp [upK]
  | k + 1 => by
    have ih := upK_len (l := l) hf k
    show (upK f l k ++ (match l[k]? with | some c => f k c | none => [])).length ≤ _
    rw [List.length_append]
    cases h : l[k]? with
    | none => simp; omega
    | some c => have := hf k c; simp only []; omega
theorem overE_len (lo hi : Int) (i : Nat) (c : Chan) : (overE lo hi i c).length ≤ 1 := by unfold overE; split <;> simp
theorem underE_len (lo hi gain : Int) (i : Nat) (c : Chan) : (underE lo hi gain i c).length ≤ 1 := by unfold underE; split <;> simp
theorem overE_yes {lo hi : Int} {i : Nat} {c : Chan} (h : ends2 c.size lo hi < c.loc) : overE lo hi i c = [⟨0, (i : Int) + 1, capE (c.loc - ends2 c.size lo hi), 0⟩] := if_pos h
theorem overE_no {lo hi : Int} {i : Nat} {c : Chan} (h : ¬ ends2 c.size lo hi < c.loc) : overE lo hi i c = [] := if_neg h
theorem underE_yes {lo hi gain : Int} {i : Nat} {c : Chan} (h : c.loc < ends1 c.size lo hi) : underE lo hi gain i c = [⟨(i : Int) + 1, 0, capE (ends1 c.size lo hi - c.loc), -gain⟩] := if_pos h
theorem underE_no {lo hi gain : Int} {i : Nat} {c : Chan} (h : ¬ c.loc < ends1 c.size lo hi) : underE lo hi gain i c = [] := if_neg h
def planE (cs : List Chan) (lo hi gain : Int) (l : List Price) : List Edge := upK (overE lo hi) cs cs.length ++ upK (underE lo hi gain) cs cs.length ++ l.map (priceE cs)
def planOk (x : Book) (lo hi gain : Int) (l : List Price) : Bool := pricesOk x l && band lo hi && inB gain 0 1000000
def planG (x : Book) (lo hi gain : Int) (l : List Price) : Graph := if planOk x lo hi gain l = true then ⟨(x.chans.length : Int) + 1, planE x.chans lo hi gain l⟩ else ⟨0, []⟩
theorem ends_bd {size lo hi : Int} : (0 ≤ ends1 size lo hi ∧ ends1 size lo hi ≤ 1125899906842624) ∧ (0 ≤ ends2 size lo hi ∧ ends2 size lo hi ≤ 1125899906842624) := by
  unfold ends1 ends2
  cases h : (band lo hi && amtOk size)
  · simp
  · simp only [Bool.and_eq_true] at h
    obtain ⟨h1, h2⟩ := h
    obtain ⟨b1, b2, b3⟩ := band_iff.1 h1
    obtain ⟨a1, a2⟩ := amtOk_true.1 h2
    have p1 := pct_bd a1 a2 (show 0 ≤ lo by omega) (show lo ≤ 100 by omega)
    have p2 := pct_bd a1 a2 (show 0 ≤ hi by omega) (show hi ≤ 100 by omega)
    simp only [if_true]
    omega
theorem bookOk_loc {x : Book} (h : bookOk x = true) : x.chans.length ≤ 20 ∧ ∀ c ∈ x.chans, 0 ≤ c.loc ∧ c.loc ≤ 1125899906842624 := by
  unfold bookOk at h
  simp only [Bool.and_eq_true, decide_eq_true_eq] at h
  refine ⟨h.1.1.2, fun c hc => ?_⟩
  obtain ⟨k, hk, rfl⟩ := List.getElem_of_mem hc
  have h2 := h.2
  unfold chansOk at h2
  have h3 := List.all_eq_true.1 h2 k (by simpa using hk)
  unfold chanAtOk at h3
  rw [List.getElem?_eq_getElem hk] at h3
  simp only [Bool.and_eq_true] at h3
  have h4 := h3.1.1
  unfold chanOk1 at h4
  simp only [Bool.and_eq_true] at h4
  exact amtOk_true.1 h4.1.1.1.1.1.2
theorem planOk_facts {x : Book} {lo hi gain : Int} {l : List Price} (h : planOk x lo hi gain l = true) : x.chans.length ≤ 20 ∧ l.length ≤ 20 ∧ (∀ c ∈ x.chans, 0 ≤ c.loc ∧ c.loc ≤ 1125899906842624) ∧ 0 ≤ gain ∧ gain ≤ 1000000 := by
  unfold planOk at h
  simp only [Bool.and_eq_true] at h
  obtain ⟨⟨h1, _⟩, h3⟩ := h
  unfold pricesOk at h1
  simp only [Bool.and_eq_true, decide_eq_true_eq] at h1
  obtain ⟨a, b⟩ := bookOk_loc h1.1.1
  obtain ⟨c, d⟩ := inB_true.1 h3
  exact ⟨a, h1.1.2, b, c, d⟩
theorem chanAt_bd (l : List Chan) (ch : Int) : -1 ≤ chanAt l ch ∧ chanAt l ch < (l.length : Int) ∨ (chanAt l ch = -1) := by
  rcases chanAt_cases l ch with h | ⟨k, hk, h, _⟩
  · right; exact h
  · left; omega
theorem planG_len (x : Book) (lo hi gain : Int) (l : List Price) : (planG x lo hi gain l).edges.length ≤ 60 := by
  unfold planG
  split
  · rename_i h
    obtain ⟨a, b, _⟩ := planOk_facts h
    show (planE x.chans lo hi gain l).length ≤ 60
    unfold planE
    have h1 := upK_len (f := overE lo hi) (l := x.chans) (overE_len lo hi) x.chans.length
    have h2 := upK_len (f := underE lo hi gain) (l := x.chans) (underE_len lo hi gain) x.chans.length
    simp only [List.length_append, List.length_map]
    omega
  · simp
def small (e : Edge) : Prop := -10000000000 ≤ e.frm ∧ e.frm ≤ 10000000000 ∧ -10000000000 ≤ e.to ∧ e.to ≤ 10000000000 ∧ -2000000000000000 ≤ e.cap ∧ e.cap ≤ 2000000000000000 ∧ -10000000000 ≤ e.cost ∧ e.cost ≤ 10000000000
theorem upK_all {α : Type} {f : Nat → α → List Edge} {l : List α} {q : Edge → Prop} : ∀ {k : Nat}, k ≤ l.length → (∀ i (h : i < l.length), ∀ e ∈ f i l[i], q e) → ∀ e ∈ upK f l k, q e
  | 0, _, _, e, he => absurd he (by simp [upK])
  | k + 1, hk, hf, e, he => by
    rw [upK_succ (by omega)] at he
    rcases List.mem_append.1 he with h | h
    · exact upK_all (k := k) (by omega) hf e h
    · exact hf k (by omega) e h
theorem small.wf {e : Edge} (h : small e) : wfEdge e := by
  obtain ⟨_, _, _, _, _, _, _, _⟩ := h
  unfold wfEdge i64; refine ⟨⟨?_, ?_⟩, ⟨?_, ?_⟩, ⟨?_, ?_⟩, ?_, ?_⟩ <;> omega
theorem plan_small {x : Book} {lo hi gain : Int} {l : List Price} (h : planOk x lo hi gain l = true) (hw : ∀ p ∈ l, 0 ≤ p.ppm ∧ p.ppm ≤ 1000000) : ∀ e ∈ planE x.chans lo hi gain l, small e := fun e he => by
  obtain ⟨a, b, c, g1, g2⟩ := planOk_facts h
  unfold planE at he
  rcases List.mem_append.1 he with h1 | h1
  · rcases List.mem_append.1 h1 with h2 | h2
    · refine upK_all (Nat.le_refl _) (fun i hx e he => ?_) e h2
      unfold overE at he
      split at he
      · have hm := List.mem_singleton.1 he
        subst hm
        have := (ends_bd (size := x.chans[i].size) (lo := lo) (hi := hi)).2
        have := c _ (List.getElem_mem hx)
        unfold small capE; dsimp only; omega
      · exact absurd he (by simp)
    · refine upK_all (Nat.le_refl _) (fun i hx e he => ?_) e h2
      unfold underE at he
      split at he
      · have hm := List.mem_singleton.1 he
        subst hm
        have := (ends_bd (size := x.chans[i].size) (lo := lo) (hi := hi)).1
        have := c _ (List.getElem_mem hx)
        unfold small capE; dsimp only; omega
      · exact absurd he (by simp)
  · obtain ⟨p, hp, rfl⟩ := List.mem_map.1 h1
    have h2 := hw p hp
    have h3 := chanAt_bd x.chans p.frm
    have h4 := chanAt_bd x.chans p.to
    unfold small priceE; dsimp only; omega
theorem prices_ppm {x : Book} {l : List Price} (h : pricesOk x l = true) : ∀ p ∈ l, 0 ≤ p.ppm ∧ p.ppm ≤ 1000000 := fun p hp => by
  obtain ⟨k, hk, rfl⟩ := List.getElem_of_mem hp
  unfold pricesOk at h
  simp only [Bool.and_eq_true] at h
  have h2 := List.all_eq_true.1 h.2 k (by simpa using hk)
  unfold priceAt at h2
  rw [List.getElem?_eq_getElem hk] at h2
  simp only [Bool.and_eq_true] at h2
  exact inB_true.1 h2.1.2

-- ---------- a row inside a struct
theorem own_form {w : World} {base sz n : Nat} {e : TypeId} {v : Value} {xs : List Value} (h : w.ownsRow base e sz v n xs) : ∃ a c, v = .slice a n c := by
  rcases h.2 with ⟨rfl, h0⟩ | ⟨g, cap, cur, rfl, _⟩
  · exact ⟨none, 0, by rw [h0]⟩
  · exact ⟨_, _, rfl⟩
theorem own_set {w : World} {base sz n : Nat} {e : TypeId} {v : Value} {xs : List Value} (h : w.ownsRow base e sz v n xs) {p : Addr} (hp : v.ownBlock ≠ some p.block) (u : Value) : (w.setCell p u).ownsRow base e sz v n xs :=
  h.kept (row := some p.block) ⟨rfl, rfl, rfl, by rw [World.size_setCell]; exact Nat.le_refl _, fun k _ hk => Below.heap_setCell _ _ _ _ (fun q => hk (by rw [q]))⟩ (.inr hp)
theorem Box.kept {w w' : World} {b : Nat} {cs : List Value} {row : Option Nat} (h : Box w b cs) (hg : w.grownBy w' row) (hr : row ≠ some b) : Box w' b cs :=
  ⟨Nat.lt_of_lt_of_le h.lt hg.size, fun j v hj => cellKept hg hr (h.c j v hj), fun o => by
    rw [World.frozen?_of_block (w := w) (a := ⟨b, o, none⟩) (hg.block b h.lt (fun q => hr q.symm))]; exact h.f o⟩
theorem length_encEdge (x : Edge) : (encEdge x).length = 4 := rfl
theorem infoEdge' : (Try.prog.info? 123).map (fun i => (i.zero, i.size, i.bytes)) = some (some (.agg #[.int .i64 0, .int .i64 0, .int .i64 0, .int .i64 0]), 4, 32) := by kernel_rfl
theorem one_edge (a b c d : Int) : ∀ u ∈ [Value.int .i64 a, .int .i64 b, .int .i64 c, .int .i64 d], u.oneCell' = true := by
  intro u hu
  simp only [List.mem_cons, List.not_mem_nil, or_false] at hu
  rcases hu with rfl | rfl | rfl | rfl <;> rfl
/-- Block gB holds a number and the slice v, which owns the edges es. -/
structure GRow (w W : World) (gB : Nat) (n : Int) (v : Value) (es : List Edge) : Prop where
  box : Box w gB [.int .i64 n, v]
  own : w.ownsRow W.heap.size 123 4 v es.length (es.flatMap encEdge)
  ne : v.ownBlock ≠ some gB
theorem GRow.grow {w w' W : World} {gB : Nat} {n : Int} {v : Value} {es : List Edge} (h : GRow w W gB n v es) (g : Grow w w') : GRow w' W gB n v es := ⟨h.box.grow g, own_grow h.own g, h.ne⟩
theorem GRow.push {D w1 W : World} {gB : Nat} {n : Int} {v v1 : Value} {es : List Edge} {e : Edge} (h : GRow D W gB n v es) (hown : w1.ownsRow W.heap.size 123 4 v1 (es.length + 1) (es.flatMap encEdge ++ encEdge e)) (hgb : D.grownBy w1 v.ownBlock)
    (hat : v1.ownBlock = v.ownBlock ∨ v1.ownBlock = some D.heap.size) : GRow (w1.setCell ⟨gB, 1, none⟩ v1) W gB n v1 (es ++ [e]) := by
  have hne : v1.ownBlock ≠ some gB := fun q => by
    rcases hat with h1 | h1
    · rw [h1] at q; exact h.ne q
    · rw [h1] at q; injection q with q; have := h.box.lt; omega
  refine ⟨(h.box.kept hgb h.ne).set 1 (by simp) v1, own_set ?_ hne v1, hne⟩
  exact own_snocF hown
end Go.Proofs.Ytbjnbhlpibadnaa

/- A region that draws its order, with loads of a cell that its last store writes: a condition on the world is asked behind an operation only while something may still come up. No program in sight. -/
namespace Go.Proofs.Ytbjnbhlpibadnaa
open Go.RowKit
set_option linter.unusedSimpArgs false
set_option linter.unusedVariables false

section
variable {P : Program} {ops : Array Oper} {Q : Exit → Act → World → Prop} {md : Region.Mode} {S : World → Prop}

/-- All that a listed operation waits for is listed. -/
def closedB (md : Region.Mode) (ops : Array Oper) (listed : Array Bool) : Bool :=
  (List.range ops.size).all fun j => !listed.getD j false || (match ops[j]? with | some oj => oj.after.all (fun e => !Region.binds md e || listed.getD e.on false) | none => true)
def Closed (md : Region.Mode) (ops : Array Oper) (listed : Array Bool) : Prop :=
  ∀ j oj, ops[j]? = some oj → listed.getD j false = true → ∀ e ∈ oj.after, Region.binds md e = true → listed.getD e.on false = true
theorem Closed.of {listed : Array Bool} (h : closedB md ops listed = true) : Closed md ops listed := fun j oj hj hl e he hb => by
  unfold closedB at h
  have hjs : j < ops.size := (Array.getElem?_eq_some_iff.1 hj).1
  have h1 := List.all_eq_true.1 h j (by simpa using hjs)
  rw [hl, hj] at h1
  have h2 := Array.all_eq_true'.1 (show (oj.after.all fun e => !Region.binds md e || listed.getD e.on false) = true from h1) e he
  simpa [hb] using h2
/-- f waits for i, by at most n steps. -/
def behind (md : Region.Mode) (ops : Array Oper) : Nat → Nat → Nat → Bool
  | 0, f, i => Region.waitsFor md ops f i
  | n + 1, f, i => Region.waitsFor md ops f i || (List.range ops.size).any fun k => Region.waitsFor md ops f k && behind md ops n k i
theorem Closed.behind {listed : Array Bool} (h : Closed md ops listed) : ∀ (n f i : Nat), (∀ of_, ops[f]? = some of_ → ∀ e ∈ of_.after, Region.binds md e = true → listed.getD e.on false = true) → behind md ops n f i = true → listed.getD i false = true
  | 0, f, i, hf, hb => by
    obtain ⟨oj, hoj, e, he, hb', hei⟩ := Region.waitsFor_spec hb
    rw [← hei]; exact hf oj hoj e he hb'
  | n + 1, f, i, hf, hb => by
    rw [_root_.Go.Proofs.Ytbjnbhlpibadnaa.behind, Bool.or_eq_true] at hb
    rcases hb with hb | hb
    · exact Closed.behind h 0 f i hf hb
    · obtain ⟨k, _, hk⟩ := List.any_eq_true.1 hb
      rw [Bool.and_eq_true] at hk
      have hkl := Closed.behind h 0 f k hf hk.1
      exact Closed.behind h n k i (fun ok hok => h k ok hok hkl) hk.2
theorem Closed.set {listed : Array Bool} (h : Closed md ops listed) {j : Nat} (hj : j ∈ Region.ready md ops listed) : Closed md ops (listed.setIfInBounds j true) := fun k ok hk hl e he hb => by
  obtain ⟨hjun, oj, hoj, hall⟩ := mem_ready.1 hj
  have up : ∀ m, listed.getD m false = true → (listed.setIfInBounds j true).getD m false = true := fun m hm => by
    by_cases q : j = m
    · subst q
      rcases Nat.lt_or_ge j listed.size with h' | h'
      · simp [h']
      · simp [Array.getElem?_eq_none h'] at hm
    · rw [getD_set_ne false q]; exact hm
  by_cases q : j = k
  · subst q
    rw [hoj] at hk
    injection hk with hk
    subst hk
    exact up _ (hall e he hb)
  · rw [getD_set_ne false q] at hl
    exact up _ (h k ok hk hl e he hb)

/-- Whatever order is picked from here on, and S holds behind every operation behind which something may still come up. -/
def wpAnyG (P : Program) (md : Region.Mode) (ops : Array Oper) (Q : Exit → Act → World → Prop) (S : World → Prop) (f : Nat) : Nat → Array Bool → Act → World → Prop
  | 0, listed, a, w => Region.ready md ops listed = [] ∧ Q .normal a w
  | fuel + 1, listed, a, w =>
    (Region.ready md ops listed = [] → Q .normal a w) ∧
    ∀ i ∈ Region.ready md ops listed, wpOp P ops Q i (fun a' w' => (i ≠ f → S w') ∧ wpAnyG P md ops Q S f fuel (listed.setIfInBounds i true) a' w') a w
theorem wpAny_of_G {f : Nat} : ∀ (fuel : Nat) (listed : Array Bool) (a : Act) (w : World), wpAnyG P md ops Q S f fuel listed a w → wpAny P md ops Q fuel listed a w
  | 0, _, _, _, h => h
  | fuel + 1, _, _, _, h => ⟨h.1, fun i hi => wpOp_mono (fun a' w' h' => wpAny_of_G fuel _ a' w' h'.2) (h.2 i hi)⟩
theorem wpAnyG_first {f i : Nat} {oi : Oper} {v : Value} (hi : ops[i]? = some oi) (hsel : ∀ (j : Nat) (o : Oper) cs b, ops[j]? = some o → o.op ≠ .select cs b)
    (hQ : ∀ c a w, Q (.panic c) (a.put oi.dst v) w → Q (.panic c) a w) (n : Nat) (hf : f ≠ i → behind md ops n f i = true) :
    ∀ (fuel : Nat) (listed : Array Bool) (a : Act) (w : World),
      (∀ j oj, ops[j]? = some oj → j ≠ i → listed.getD j true = false → (∀ e ∈ oj.after, Region.binds md e = true → e.on ≠ i) → oi.apart ops oj = true) →
      Closed md ops listed → i ∈ Region.ready md ops listed → YieldsIf P ops S oi v a → S w →
      wpAnyG P md ops Q S f fuel (listed.setIfInBounds i true) (a.put oi.dst v) w → wpAnyG P md ops Q S f (fuel + 1) listed a w := by
  intro fuel
  induction fuel with
  | zero =>
    intro listed a w _ _ hr hy hS H
    refine ⟨fun h => (by rw [h] at hr; cases hr), fun j hj => ?_⟩
    by_cases hji : j = i
    · subst hji; exact hy.wpOp hi hS ⟨fun _ => hS, H⟩
    · have := ready_mono hj hji
      rw [H.1] at this
      cases this
  | succ fuel ih =>
    intro listed a w hfree hcl hr hy hS H
    refine ⟨fun h => (by rw [h] at hr; cases hr), fun j hj => ?_⟩
    by_cases hji : j = i
    · subst hji; exact hy.wpOp hi hS ⟨fun _ => hS, H⟩
    · have h1 := H.2 j (ready_mono hj hji)
      obtain ⟨hjun, oj, hoj, hall⟩ := mem_ready.1 hj
      have hnot : ∀ e ∈ oj.after, Region.binds md e = true → e.on ≠ i := fun e he hb heq => by
        have h1 := hall e he hb
        have h0 := (mem_ready.1 hr).1
        rw [heq] at h1
        rcases Nat.lt_or_ge i listed.size with h' | h'
        · simp [h'] at h0 h1; rw [h0] at h1; cases h1
        · simp [Array.getElem?_eq_none h'] at h1
      have h2 := wpOp_putIf hoj (hfree j oj hoj hji hjun hnot) (fun cs b => hsel i oi cs b hi) (fun cs b => hsel j oj cs b hoj) hQ hy h1
      have hfree' : ∀ k ok, ops[k]? = some ok → k ≠ i → (listed.setIfInBounds j true).getD k true = false →
          (∀ e ∈ ok.after, Region.binds md e = true → e.on ≠ i) → oi.apart ops ok = true := fun k ok hk hki hun hno => by
        refine hfree k ok hk hki ?_ hno
        by_cases hjk : j = k
        · subst hjk; exact hjun
        · rw [getD_set_ne true hjk] at hun; exact hun
      have hjf : j ≠ f := fun q => by
        subst q
        have hl := hcl.behind n j i (fun of_ hof e he hb => by rw [hoj] at hof; injection hof with hof; subst hof; exact hall e he hb) (hf hji)
        have h0 := (mem_ready.1 hr).1
        rcases Nat.lt_or_ge i listed.size with h' | h'
        · simp [h'] at h0 hl; rw [h0] at hl; cases hl
        · simp [Array.getElem?_eq_none h'] at hl
      refine wpOp_mono (fun a' w' h3 => ⟨fun _ => h3.2.1 hjf, ih (listed.setIfInBounds j true) a' w' hfree' (hcl.set hj) (ready_mono hr (Ne.symm hji)) h3.1 (h3.2.1 hjf) ?_⟩) h2
      rw [Array.setIfInBounds_comm _ _ hji]
      exact h3.2.2
/-- Take number i first. -/
theorem wpAnyG_take {f i : Nat} {oi : Oper} {v : Value} {fuel : Nat} {listed : Array Bool} {a : Act} {w : World} (hi : ops[i]? = some oi)
    (hs : Region.noSelect ops = true) (hf : Region.free md ops listed i = true) (hr : (Region.ready md ops listed).contains i = true) (hw : behind md ops 6 f i = true) (hc : closedB md ops listed = true)
    (hQ : ∀ c a w, Q (.panic c) (a.put oi.dst v) w → Q (.panic c) a w) (hy : YieldsIf P ops S oi v a) (hS : S w)
    (h : wpAnyG P md ops Q S f fuel (listed.setIfInBounds i true) (a.put oi.dst v) w) : wpAnyG P md ops Q S f (fuel + 1) listed a w :=
  wpAnyG_first hi (Region.noSelect_spec hs) hQ 6 (fun _ => hw) fuel listed a w (Region.free_spec hi hf) (Closed.of hc) (by simpa using hr) hy hS h
theorem wpAnyG_take' {f i : Nat} {oi : Oper} {fuel : Nat} {listed : Array Bool} {a : Act} {w : World} (hi : ops[i]? = some oi)
    (h : Region.noSelect ops = true ∧ Region.free md ops listed i = true ∧ (Region.ready md ops listed).contains i = true ∧ behind md ops 6 f i = true ∧ closedB md ops listed = true ∧
      (∀ v c a w, Q (.panic c) (a.put oi.dst v) w → Q (.panic c) a w) ∧ S w ∧ ∃ v, YieldsIf P ops S oi v a ∧ wpAnyG P md ops Q S f fuel (listed.setIfInBounds i true) (a.put oi.dst v) w) : wpAnyG P md ops Q S f (fuel + 1) listed a w := by
  obtain ⟨hs, hf, hr, hw, hc, hQ, hS, v, hy, h⟩ := h
  exact wpAnyG_take hi hs hf hr hw hc (hQ v) hy hS h
/-- One alone may come up: behind it S is to be shown anew, but behind the last. -/
theorem wpAnyG_one {f i : Nat} {o : Oper} {fuel : Nat} {listed : Array Bool} {a : Act} {w : World} (ho : ops[i]? = some o) (hr : Region.ready md ops listed = [i])
    (h : ∀ K' : Act → World → Prop, (∀ a w, (i ≠ f → S w) → wpAnyG P md ops Q S f fuel (listed.setIfInBounds i true) a w → K' a w) → if Region.wanted o (yielded ops a.tmps) = true then Oper.wp P o a w K' Q else K' (a.put o.dst undef) w) :
    wpAnyG P md ops Q S f (fuel + 1) listed a w := by
  refine ⟨fun h0 => (by rw [hr] at h0; cases h0), fun j hj => ?_⟩
  rw [hr] at hj
  obtain rfl := List.mem_singleton.1 hj
  exact wpOp_step ho (fun K' hK => h K' (fun a w h1 h2 => hK a w ⟨h1, h2⟩))
theorem wpAnyG_done {f : Nat} {listed : Array Bool} {a : Act} {w : World} (hr : Region.ready md ops listed = []) (h : Q .normal a w) : ∀ fuel, wpAnyG P md ops Q S f fuel listed a w
  | 0 => ⟨hr, h⟩
  | _ + 1 => ⟨fun _ => h, by rw [hr]; simp⟩
theorem wp_region_G {f : Nat} {id : Nat} {a : Act} {w : World} (hm : P.follows .mixedOrders = true) (h : wpAnyG P .any ops Q S f ops.size (Array.replicate ops.size false) a w.drew) : (Code.region id ops true).wp P Q a w :=
  wp_region_any hm (wpAny_of_G _ _ _ _ h)
end
end Go.Proofs.Ytbjnbhlpibadnaa
