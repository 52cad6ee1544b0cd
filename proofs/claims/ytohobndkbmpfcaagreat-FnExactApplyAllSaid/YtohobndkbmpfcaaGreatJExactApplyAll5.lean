/- Texts of the proof of FnExactApplyAll, joined: ES3b, ES4, ES5, Appl, Wr, Fil, EL1, EL1b, App2, EL2, All. -/
import Derived.Test.YtohobndkbmpfcaaGreatJExactApplyAll4
import Derived.Test.YtohobndkbmpfcaaGreatJExactApplyAll2
import Derived.Test.YtohobndkbmpfcaaGreatKHBook
namespace Go.Proofs.YtohobndkbmpfcaaGreat
open Go.RowKit
set_option maxHeartbeats 16000000
set_option maxRecDepth 100000
set_option linter.unusedSimpArgs false
set_option linter.unusedVariables false
theorem slau_e (g : Value) (x : Book) (e : Event) (fi : BookFi x) (es : EvSm e) (hne : e.ch ≠ e.to) : GC Tryz.prog 43 [.ptr 0 0 0,evV e] (sIn g x [] 0) (.tup []) (sOut g (lauR x e)) := by
 have sm := fi.sm
 have hm : x.chans.length ≤ 1000000000 := by have := sm.lc;omega
 have hlh := sm.lh
 have hli := sm.li
 have hmh1 : x.htlcs.length ≤ 1000 := by omega
 have hmc1 : x.circles.length ≤ 1000 := by omega
 have hLh : decide ((x.htlcs.length : Int) = 60) = decide ((60 : Int) ≤ (x.htlcs.length : Int)) := by apply decide_eq_decide.2;omega
 have hLi : decide ((x.circles.length : Int) = 20) = decide ((20 : Int) ≤ (x.circles.length : Int)) := by apply decide_eq_decide.2;omega

 refine GC.intro (rs := []) Tryz.func43 rfl Tryz.ntmps43 (Nat.le_of_ble_eq_true rfl) trivial ?_
 intro L O w0
 refine sL<|lst (zX 2003 rfl) Z<|nG<|aS<|aS<|aF [9,22,33]<|pq 0 (qmP rfl)<|pq 1 (qmP rfl)<|pq 2 (qc rfl)<|pq 3 (qf 0 ty.F71_0 rfl)<|sq 4 (roX (.agg [vI _ _,vI _ _,vI _ _,.own _,.own _,.own _]) ty.kd34 rfl)<|pq 6 (qf 1 ty.F41_1 rfl)<|sq 7 (roI ty.kd3 rfl)<|vst 5 rfl (St.lendO 2011 rfl (by intro s hs;cases hs;decide) rfl Tryz.func84 rfl rfl (skeys_e x hmh1 hmc1) flat_rowsOf rfl) (.inr rfl)<|vst 8 rfl (zL Tryz.func83 (shasInt_e (keyL x) _ (by unfold keyL;simp;omega)) rfl) (.inr rfl)<|fsB 14 (knownB x e.key) rfl (any_keys x e.key) ?_
 refine vst 9 rfl (z5a Tryz.func34 (scode_e _ _ _ _ _ _ _ _ _ _ _ _ _ _ _ _ _ _ _ ) (⟨stays.box (Eq.refl 8),trivial⟩) rfl rfl) (.inl rfl)<|vq 10 (rmB rfl) ?_
 refine AF.bool (t := 16) rfl ?_ ?_
 ·intro h1
  refine pno 11 Z<|pno 12 Z<|pno 13 Z<|pno 14 Z<|pno 15 Z<|pno 16 Z<|pno 17 Z<|vno 18 Z<|vno 19 Z<|vno 20 Z<|vno 21 Z<|vno 22 Z<|vq 23 (rkT Z)<|vq 24 (rmT Z)<|pno 25 Z<|vno 26 Z<|vno 27 Z<|vno 28 Z<|vno 29 Z<|vno 30 Z<|vno 31 Z<|vno 32 Z<|vno 33 Z<|vq 34 (rkT Z)<|fD<|gT<|aY Z<|aR<|rT ?_
  have hcd : lauC0 x e = failC (knownB x e.key) 0 9 := by
    have h := h1
    unfold lauC0
    rw [miss_two hne]
    simp only [zb1,zb2,zb3,zb4] at h
    rw [failC_old (c := failC (!two x.chans e.ch e.to) (failC (knownB x e.key) 0 9) 6) (failC_keep h),failC_old h]
  have hn : lauC0 x e ≠ 0 := by
    have h := h1
    simp only [zb1,zb2,zb3,zb4] at h
    rw [hcd];exact h
  have hcd2 : lauC x e = lauC0 x e := by
    unfold lauC
    rw [failC_old (failC_keep (failC_keep hn)),failC_old (failC_keep hn),failC_old hn]
  rw [lauR_no (by rw [hcd2];exact hn),hcd2,hcd]
  refine end_ret ?_ ⟨rfl,rfl,rfl,rfl,rfl,trivial⟩
  rfl
 ·intro h1
  refine pq 11 (qmP Z)<|pq 12 (qmP Z)<|pq 13 (qc Z)<|pq 14 (qf 0 ty.F71_0 Z)<|sq 15 (roX (.agg [vI _ _,vI _ _,vI _ _,.own _,.own _,.own _]) ty.kd34 Z)<|pq 16 (qf 2 ty.F41_2 Z)<|sq 17 (roI ty.kd3 Z)<|vq 18 (rf 3 ty.F41_3 Z)<|vq 19 (roI ty.kd3 Z)<|vst 20 Z (zL Tryz.func85 (stwo_e x _ _ hm) Z) (.inr Z)<|vq 21 (ruB Z) ?_
  refine vst 22 rfl (z5a Tryz.func34 (scode_e _ _ _ _ _ _ _ _ _ _ _ _ _ _ _ _ _ _ _ ) (⟨stays.box (Eq.refl 8),trivial⟩) rfl rfl) (.inl rfl)<|vq 23 (rkB rfl)<|vq 24 (rmB rfl) ?_
  refine AF.bool (t := 30) rfl ?_ ?_
  ·intro h2
   refine pno 25 Z<|vno 26 Z<|vno 27 Z<|vno 28 Z<|vno 29 Z<|vno 30 Z<|vno 31 Z<|vno 32 Z<|vno 33 Z<|vq 34 (rkT Z)<|fD<|gT<|aT [0,3,40] [.ptr 0 _ 0,.ptr 2003 _ 0,vB true] [0,1,2,3,4,2003,2011] [.box _ _ [vI _ _,vI _ _,vI _ _,.own _,.own _,.own _,.own _,vI _ _],.arr _ _ _,.arr _ _ _,.arr _ _ _,.arr _ _ _,.box _ _ [vI _ _,vI _ _,vI _ _,vI _ _,vI _ _,vI _ _,vB _],.arr _ _ _] Z Z<|aY Z<|aR<|rT ?_
   have hcd : lauC0 x e = failC (!two x.chans e.ch e.to) (failC (knownB x e.key) 0 9) 6 := by
     have h := h2
     unfold lauC0
     rw [miss_two hne]
     simp only [zb1,zb2,zb3,zb4] at h
     rw [failC_old h]
   have hn : lauC0 x e ≠ 0 := by
     have h := h2
     simp only [zb1,zb2,zb3,zb4] at h
     rw [hcd];exact h
   have hcd2 : lauC x e = lauC0 x e := by
     unfold lauC
     rw [failC_old (failC_keep (failC_keep hn)),failC_old (failC_keep hn),failC_old hn]
   rw [lauR_no (by rw [hcd2];exact hn),hcd2,hcd]
   refine end_ret ?_ ⟨rfl,rfl,rfl,rfl,rfl,trivial⟩
   rfl
  ·intro h2
   refine pq 25 (qmP rfl)<|vq 26 (rmP rfl)<|vq 27 (rc rfl)<|vq 28 (rf 0 ty.F71_0 rfl)<|vq 29 (rf 5 ty.F34_5 rfl)<|vq 30 (roO ty.kd32 rfl)<|vq 31 (rnI ty.sl32 rfl)<|vq 32 (rbB rfl)<|fsB 38 (decide ((20 : Int) ≤ (x.circles.length : Int))) rfl (by rw [length_rowsOf];exact hLi) ?_
   refine vst 33 rfl (z5a Tryz.func34 (scode_e _ _ _ _ _ _ _ _ _ _ _ _ _ _ _ _ _ _ _ ) (⟨stays.box (Eq.refl 8),trivial⟩) rfl rfl) (.inl rfl)<|vq 34 (rkB rfl)<|fD<|gT ?_
   refine AW.cond rfl ?_ ?_
   ·intro h3
    refine aR<|rT ?_
    have hcd : lauC0 x e = failC (decide ((20 : Int) ≤ (x.circles.length : Int))) (failC (!two x.chans e.ch e.to) (failC (knownB x e.key) 0 9) 6) 14 := by
      unfold lauC0
      rw [miss_two hne]
    have hn : lauC0 x e ≠ 0 := by
      have h := h3
      simp only [zb1,zb2,zb3,zb4] at h
      rw [hcd];exact h
    have hcd2 : lauC x e = lauC0 x e := by
      unfold lauC
      rw [failC_old (failC_keep (failC_keep hn)),failC_old (failC_keep hn),failC_old hn]
    rw [lauR_no (by rw [hcd2];exact hn),hcd2,hcd]
    refine end_ret ?_ ⟨rfl,rfl,rfl,rfl,rfl,trivial⟩
    rfl
   ·intro h3
    refine aK<|gT<|aS ?_
    have hz0 : lauC0 x e = 0 := by
      have h := h3
      unfold lauC0
      rw [miss_two hne]
      simp only [zb1,zb2,zb3,zb4] at h
      exact h
    have htw : two x.chans e.ch e.to = true := by
      rcases q : two x.chans e.ch e.to with _ | _
      ·exfalso
       have h := hz0
       unfold lauC0 at h
       rw [miss_two hne,q] at h
       exact failC_keep (failC_set (by decide)) h
      ·rfl
    obtain ⟨hne2,hca,hda⟩ := two_parts (show two x.chans e.ch e.to = true by first | (simpa using htw))
    obtain ⟨i,c,hi,hc,ho,hid⟩ := chan_there hca
    obtain ⟨j,d,hj,hd,hp,hjd⟩ := chan_there hda
    have hcm := sm.chans c (mem_of_get hc)
    have hdm := sm.chans d (mem_of_get hd)
    have hij : i ≠ j := idx_ne hc hd (by rw [hid,hjd];exact hne)
    refine AW.obj 0 (sBox g x.tick x.next x.wallet 0) (Eq.trans (b := sBox g x.tick x.next x.wallet _) rfl (congrArg (sBox g x.tick x.next x.wallet) (by have h := hz0;unfold lauC0 at h;rw [miss_two hne] at h;exact h))) ?_
    have hA : lauC x e = failC (decide (d.remote < e.amt)) (failC (decide (c.loc < addV e.amt e.fee)) (failC (!addOk e.amt e.fee) 0 10) 12) 11 := by unfold lauC;rw [ho,hp,hz0]
    refine aL<|lf 4 ty.F41_4 Z<|loI ty.kd3 Z<|lf 5 ty.F41_5 Z<|loI ty.kd3 Z<|lst (zL Tryz.func35 (saddAmt_e _ _) Z) Z<|lmX (.tup [vI _ _,vB _]) Z<|lxI Z<|lxB Z<|laI Z<|laB Z<|nG<|aS<|aS<|aF [3,23,45]<|pq 0 (qmP Z)<|vq 1 (rmB Z)<|vq 2 (ruB Z) ?_
    refine vst 3 rfl (z5a Tryz.func34 (scode_e _ _ _ _ _ _ _ _ _ _ _ _ _ _ _ _ _ _ _ ) (⟨stays.box (Eq.refl 8),trivial⟩) rfl rfl) (.inl rfl)<|vq 4 (rmB rfl) ?_
    refine AF.bool (t := 53) rfl ?_ ?_
    ·intro h4
     refine pno 5 Z<|pno 6 Z<|pno 7 Z<|pno 8 Z<|pno 9 Z<|pno 10 Z<|pno 11 Z<|pno 12 Z<|pno 13 Z<|pno 14 Z<|pno 15 Z<|pno 16 Z<|pno 17 Z<|pno 18 Z<|pno 19 Z<|pno 20 Z<|vno 21 Z<|vno 22 Z<|vno 23 Z<|vq 24 (rkT Z)<|vq 25 (rmT Z)<|pno 26 Z<|pno 27 Z<|pno 28 Z<|pno 29 Z<|pno 30 Z<|pno 31 Z<|pno 32 Z<|pno 33 Z<|pno 34 Z ?_
     refine pno 35 Z<|pno 36 Z<|pno 37 Z<|pno 38 Z<|pno 39 Z<|pno 40 Z<|pno 41 Z<|vno 42 Z<|vno 43 Z<|vno 44 Z<|vno 45 Z<|vq 46 (rkT Z)<|fD<|gT<|aY Z<|aR<|rT ?_
     have hcd : lauC x e = failC (!addOk e.amt e.fee) 0 10 := by
       have h := h4
       simp only [zb1,zb2,zb3,zb4] at h
       rw [hA]
       rw [failC_old (failC_keep h),failC_old h]
     have hn : lauC x e ≠ 0 := by
       have h := h4
       simp only [zb1,zb2,zb3,zb4] at h
       rw [hcd];exact h
     rw [lauR_no hn,hcd]
     refine end_ret ?_ ⟨rfl,rfl,rfl,rfl,rfl,trivial⟩
     rfl
    ·intro h4
     refine pq 5 (qmP rfl)<|pq 6 (qmP rfl)<|pq 7 (qc rfl)<|pq 8 (qf 0 ty.F71_0 rfl)<|pq 9 (qf 3 ty.F34_3 rfl)<|sq 10 (roO ty.kd30 rfl)<|pq 11 (qmP rfl)<|pq 12 (qc rfl)<|pq 13 (qf 0 ty.F71_0 rfl)<|sq 14 (roX (.agg [vI _ _,vI _ _,vI _ _,.own _,.own _,.own _]) ty.kd34 rfl)<|pq 15 (qf 2 ty.F41_2 rfl)<|sq 16 (roI ty.kd3 rfl)<|pq 21 (qmX (vI _ _) rfl)<|vst 17 rfl (zL Tryz.func38 (sAt_e x _ hm) rfl) (.inr rfl)<|vq 18 (rd (x := .ptr 1 _ 0) (rd_iaddr_own (i := i) rfl ty.el30 rfl rfl rfl ?hn1 (by rw [length_rowsOf];exact (List.getElem?_eq_some_iff.1 hc).1)) rfl) ?_
     case hn1 => rw [← chanAt_atI];exact hi
     refine vq 19 (rf 2 ty.F78_2 Z)<|vq 20 (rd (x := vI _ _) (rd_load_arr Z ty.kd3 Z Z Z (rows_some hc) Z) Z)<|vq 22 (rbB Z) ?_
     refine vst 23 rfl (z5a Tryz.func34 (scode_e _ _ _ _ _ _ _ _ _ _ _ _ _ _ _ _ _ _ _ ) (⟨stays.box (Eq.refl 8),trivial⟩) rfl rfl) (.inl rfl)<|vq 24 (rkB rfl)<|vq 25 (rmB rfl) ?_
     refine AF.bool (t := 74) rfl ?_ ?_
     ·intro h5
      refine pno 26 Z<|pno 27 Z<|pno 28 Z<|pno 29 Z<|pno 30 Z<|pno 31 Z<|pno 32 Z<|pno 33 Z<|pno 34 Z<|pno 35 Z<|pno 36 Z<|pno 37 Z<|pno 38 Z<|pno 39 Z<|pno 40 Z<|pno 41 Z<|vno 42 Z<|vno 43 Z<|vno 44 Z<|vno 45 Z<|vq 46 (rkT Z)<|fD<|gT<|aT [0,3,4,95] [.ptr 0 _ 0,.ptr 2003 _ 0,vI _ _,vB true] [0,1,2,3,4,2003,2011] [.box _ _ [vI _ _,vI _ _,vI _ _,.own _,.own _,.own _,.own _,vI _ _],.arr _ _ _,.arr _ _ _,.arr _ _ _,.arr _ _ _,.box _ _ [vI _ _,vI _ _,vI _ _,vI _ _,vI _ _,vI _ _,vB _],.arr _ _ _] Z Z<|aY Z<|aR<|rT ?_
      have hcd : lauC x e = failC (decide (c.loc < addV e.amt e.fee)) (failC (!addOk e.amt e.fee) 0 10) 12 := by
        have h := h5
        simp only [zb1,zb2,zb3,zb4] at h
        rw [hA]
        rw [failC_old h]
      have hn : lauC x e ≠ 0 := by
        have h := h5
        simp only [zb1,zb2,zb3,zb4] at h
        rw [hcd];exact h
      rw [lauR_no hn,hcd]
      refine end_ret ?_ ⟨rfl,rfl,rfl,rfl,rfl,trivial⟩
      rfl
     ·intro h5
      refine pq 26 (qmP rfl)<|pq 27 (qmP rfl)<|pq 28 (qc rfl)<|pq 29 (qf 0 ty.F71_0 rfl)<|pq 30 (qf 3 ty.F34_3 rfl)<|sq 31 (roO ty.kd30 rfl)<|pq 32 (qmP rfl)<|pq 33 (qc rfl)<|pq 34 (qf 0 ty.F71_0 rfl)<|sq 35 (roX (.agg [vI _ _,vI _ _,vI _ _,.own _,.own _,.own _]) ty.kd34 rfl)<|pq 36 (qf 3 ty.F41_3 rfl)<|sq 37 (roI ty.kd3 rfl)<|pq 42 (qf 4 ty.F41_4 rfl)<|sq 43 (roI ty.kd3 rfl)<|vst 38 rfl (zL Tryz.func38 (sAt_e x _ hm) rfl) (.inr rfl)<|vq 39 (rd (x := .ptr 1 _ 0) (rd_iaddr_own (i := j) rfl ty.el30 rfl rfl rfl ?hn2 (by rw [length_rowsOf];exact (List.getElem?_eq_some_iff.1 hd).1)) rfl) ?_
      case hn2 => rw [← chanAt_atI];exact hj
      refine vq 40 (rf 3 ty.F78_3 Z)<|vq 41 (rd (x := vI _ _) (rd_load_arr Z ty.kd3 Z Z Z (rows_some hd) Z) Z)<|vq 44 (rbB Z) ?_
      refine vst 45 rfl (z5a Tryz.func34 (scode_e _ _ _ _ _ _ _ _ _ _ _ _ _ _ _ _ _ _ _ ) (⟨stays.box (Eq.refl 8),trivial⟩) rfl rfl) (.inl rfl)<|vq 46 (rkB rfl)<|fD<|gT ?_
      refine AW.cond rfl ?_ ?_
      ·intro h6
       refine aR<|rT ?_
       have hcd : lauC x e = failC (decide (d.remote < e.amt)) (failC (decide (c.loc < addV e.amt e.fee)) (failC (!addOk e.amt e.fee) 0 10) 12) 11 := hA
       have hn : lauC x e ≠ 0 := by
         have h := h6
         simp only [zb1,zb2,zb3,zb4] at h
         rw [hcd];exact h
       rw [lauR_no hn,hcd]
       refine end_ret ?_ ⟨rfl,rfl,rfl,rfl,rfl,trivial⟩
       rfl
      ·intro h6
       refine aK<|gT<|aS ?_
       have hy0 : lauC x e = 0 := by
         rw [hA]
         have h := h6
         simp only [zb1,zb2,zb3,zb4] at h
         exact h
       refine aF [18,22]<|pq 0 (qmP Z)<|pq 1 (qmP Z)<|pq 2 (qc Z)<|pq 3 (qf 0 ty.F71_0 Z)<|pq 4 (qf 5 ty.F34_5 Z)<|sq 5 (roO ty.kd32 Z)<|pq 6 (qf 1 ty.F41_1 Z)<|sq 7 (roI ty.kd3 Z)<|pq 8 (qf 2 ty.F41_2 Z)<|fT [0,3,4,96,101,103,104] [.ptr 0 _ 0,.ptr 2003 _ 0,vI _ _,.ptr 0 _ 0,.own _,vI _ _,.ptr 2003 _ 2] [0,1,2,3,4,2003,2011] [.box _ _ [vI _ _,vI _ _,vI _ _,.own _,.own _,.own _,.own _,vI _ _],.arr _ _ _,.arr _ _ _,.arr _ _ _,.arr _ _ _,.box _ _ [vI _ _,vI _ _,vI _ _,vI _ _,vI _ _,vI _ _,vB _],.arr _ _ _] Z Z<|sq 9 (roI ty.kd3 Z)<|pq 10 (qf 3 ty.F41_3 Z)<|sq 11 (roI ty.kd3 Z)<|pq 12 (qf 4 ty.F41_4 Z)<|sq 13 (roI ty.kd3 Z)<|vq 14 (rf 5 ty.F41_5 Z)<|vq 15 (roI ty.kd3 Z)<|vq 16 (rd (x := .agg [vI _ _,vI _ _,vI _ _,vI _ _,vI _ _]) (rd_build Z ty.sa120 Z Z Z) Z) ?_
       refine vst 17 rfl (zS 2113 (rowsOf encCircle [⟨e.key,e.ch,e.to,e.amt,e.fee⟩]) ty.el32 ty.ze120 rfl) (.inr rfl)<|vst 18 rfl (zP 3 ty.el32 ty.ze120 ty.by120 rfl (Src.own rfl rfl) (by have := sm.li;simp [rowsOf];omega)) (.inl rfl)<|vq 19 (rc rfl)<|vq 20 (rf 0 ty.F71_0 rfl)<|vq 21 (rf 5 ty.F34_5 rfl)<|vst 22 rfl (zB 0 ty.co32 ty.inf32 rfl) (.inl rfl)<|fT [0,3,4] [.ptr 0 _ 0,.ptr 2003 _ 0,vI _ _] [0,1,2,3,4,2003,2011,2113] [.box _ _ [vI _ _,vI _ _,vI _ _,.own _,.own _,.own _,.own _,vI _ _],.arr _ _ _,.arr _ _ _,.arr _ _ _,.arr _ _ _,.box _ _ [vI _ _,vI _ _,vI _ _,vI _ _,vI _ _,vI _ _,vB _],.arr _ _ _,.arr _ _ _] rfl Z<|fD<|gT ?_
       refine AW.obj 3 (iAr (x.circles ++ [⟨e.key,e.ch,e.to,e.amt,e.fee⟩])) ((congrArg (AO.arr 120 5) (rowsOf_app encCircle _ [_]).symm)) ?_
       refine sL<|lmP Z<|lf 2 ty.F41_2 Z<|loI ty.kd3 Z<|lmI Z<|lq (rd (x := vI _ _) (rd_un rfl rfl (fits_i64 (by have h2 : A50 (addV e.amt e.fee) := addV_A50 _ _;unfold A50 at *;unfold i64;omega))) rfl) ?_
       refine lst (z5a Tryz.func88 (smove_e _ ({ x with circles := x.circles ++ [⟨e.key,e.ch,e.to,e.amt,e.fee⟩] }) _ _ _ _ _ (hm) i c (hi) (hc) (by have h1 := hcm.1;have h2 : A50 (addV e.amt e.fee) := addV_A50 _ _;unfold A50 at *;unfold i64;omega) (by have h1 := hcm.2.1;unfold A50 at h1;unfold i64;omega)) (⟨stays.box (Eq.refl 8),trivial⟩) rfl rfl) Z<|nA<|lmP Z<|lf 3 ty.F41_3 Z<|loI ty.kd3 Z<|lf 4 ty.F41_4 Z<|loI ty.kd3 Z<|lq (rd (x := vI _ _) (rd_un rfl rfl (fits_i64 (by have h2 := es.amt;unfold A50 at *;unfold i64;omega))) rfl) ?_
       refine lst (z5a Tryz.func88 (smove_e _ ({ x with circles := x.circles ++ [⟨e.key,e.ch,e.to,e.amt,e.fee⟩],chans := x.chans.set i { c with loc := c.loc + -addV e.amt e.fee,remote := c.remote + 0 } }) _ _ _ _ _ ((by rw [List.length_set];exact hm)) j d ((chanAt_set (c' := { c with loc := c.loc + -addV e.amt e.fee,remote := c.remote + 0 }) hc rfl).trans hj) (set_get hd hij _) (by have h1 := hdm.1;unfold A50 at h1;unfold i64;omega) (by have h1 := hdm.2.1;have h2 := es.amt;unfold A50 at *;unfold i64;omega)) (⟨stays.box (Eq.refl 8),trivial⟩) rfl rfl) Z<|nG ?_
       refine AW.obj 1 (AO.arr 78 7 (rowsOf encChan (updC (updC x.chans e.ch fun c => { c with loc := c.loc - addV e.amt e.fee }) e.to fun c => { c with remote := c.remote - e.amt }))) (congrArg (fun l => AO.arr 78 7 (rowsOf encChan l)) ((by simp only [Int.add_zero,Int.sub_eq_add_neg] : _ = ((x.chans.set i { c with loc := c.loc - addV e.amt e.fee }).set j { d with remote := d.remote - e.amt })).trans (set_two' fi.ids hc hd hid hjd hne (fun c => { c with loc := c.loc - addV e.amt e.fee }) (fun d => { d with remote := d.remote - e.amt }) (fun _ => rfl)))) ?_
       refine sL<|lmP Z<|lf 2 ty.F41_2 Z<|loI ty.kd3 Z<|lmI Z<|lq (rd (x := vI _ _) (rd_un rfl rfl (fits_i64 (by have h2 : A50 (addV e.amt e.fee) := addV_A50 _ _;unfold A50 at *;unfold i64;omega))) rfl) ?_
       refine lst (z5a Tryz.func36 (sline_e _ _ _ _ _ _ _ _ _ _ _ _ _ _ ([]) 0 (LG.nil) (by decide) _ _ _ (Fresh.nil _ _) (rangeA_neg (addV_A50 _ _))) (⟨stays.box (Eq.refl 8),trivial⟩) rfl rfl) Z<|nG<|aL<|lmP Z<|lf 2 ty.F41_2 Z<|loI ty.kd3 Z<|lmI rfl ?_
       refine lst (z5a Tryz.func36 (sline_e _ _ _ _ _ _ _ _ _ _ _ _ _ _ (addL [] 6 e.ch (-addV e.amt e.fee)) 1 (LG.nil.add (rangeA_neg (addV_A50 _ _))) (by decide) _ _ _ ((Fresh.nil _ _).add (.inl (by decide))) (rangeA_of (addV_A50 _ _))) (⟨stays.box (Eq.refl 8),trivial⟩) rfl rfl) Z<|lN ?_
       rw [lauR_yes hy0]
       unfold lauY
       refine end_go ?_ ⟨(Eq.trans (b := sBox g x.tick x.next x.wallet _) rfl (congrArg (sBox g x.tick x.next x.wallet) (by rw [hA] at hy0;exact hy0))),rfl,rfl,rfl,rfl,trivial⟩
       rfl

def zeroH : Htlc := ⟨0,0,0,0,0,false,0⟩
def zeroI : Circle := ⟨0,0,0,0,0⟩
def fndH (l : List Htlc) (key : Int) : Htlc := (l.find? fun c => c.key == key).getD zeroH
def fndI (l : List Circle) (key : Int) : Circle := (l.find? fun c => c.key == key).getD zeroI
abbrev hBox (h : Htlc) : AO := .box 117 none [int h.key,int h.inn,int h.out,int h.amtIn,int h.amtOut,boo h.kept,int h.age]
abbrev iBox (h : Circle) : AO := .box 120 none [int h.key,int h.frm,int h.to,int h.amt,int h.fee]
theorem find_take {α : Type} {g : α → Int} {l : List α} {key : Int} (hnd : l.Pairwise fun a b => g a ≠ g b) {k : Nat} (hk : k < l.length) : (l.take (k + 1)).find? (fun c => g c == key) = if g l[k] = key then some l[k] else (l.take k).find? (fun c => g c == key) := by
  rw [List.take_succ_eq_append_getElem hk,List.find?_append]
  by_cases q : g l[k] = key
  · rw [if_pos q]
    have : (l.take k).find? (fun c => g c == key) = none := by
      rw [List.find?_eq_none]
      intro x hx
      obtain ⟨j,hj,rfl⟩ := List.getElem_of_mem hx
      rw [List.length_take] at hj
      have h1 := List.pairwise_iff_getElem.1 hnd j k (by omega) hk (by omega)
      rw [List.getElem_take,← q]
      simpa using h1
    rw [this];simp [q]
  · rw [if_neg q];simp [q]
theorem fndH_take {l : List Htlc} {key : Int} (hnd : l.Pairwise fun a b => a.key ≠ b.key) {k : Nat} (hk : k < l.length) : fndH (l.take (k + 1)) key = if l[k].key = key then l[k] else fndH (l.take k) key := by
  unfold fndH
  rw [find_take (g := fun c => c.key) hnd hk]
  split <;> rfl
theorem fndI_take {l : List Circle} {key : Int} (hnd : l.Pairwise fun a b => a.key ≠ b.key) {k : Nat} (hk : k < l.length) : fndI (l.take (k + 1)) key = if l[k].key = key then l[k] else fndI (l.take k) key := by
  unfold fndI
  rw [find_take (g := fun c => c.key) hnd hk]
  split <;> rfl
theorem delH_take {l : List Htlc} {key : Int} {k : Nat} (hk : k < l.length) : delH (l.take (k + 1)) key = delH (l.take k) key ++ (if l[k].key = key then [] else [l[k]]) := by
  unfold delH
  rw [List.take_succ_eq_append_getElem hk,List.filter_append]
  by_cases q : l[k].key = key <;> simp [q]
theorem delI_take {l : List Circle} {key : Int} {k : Nat} (hk : k < l.length) : delI (l.take (k + 1)) key = delI (l.take k) key ++ (if l[k].key = key then [] else [l[k]]) := by
  unfold delI
  rw [List.take_succ_eq_append_getElem hk,List.filter_append]
  by_cases q : l[k].key = key <;> simp [q]
theorem delH_len {l : List Htlc} {key : Int} : (delH l key).length ≤ l.length := List.length_filter_le _ _
theorem delI_len {l : List Circle} {key : Int} : (delI l key).length ≤ l.length := List.length_filter_le _ _
theorem fndH_no {l : List Htlc} {key : Int} (h0 : ∀ h ∈ l,h.key ≠ 0) (h : (fndH l key).key = 0) : l.find? (fun c => c.key == key) = none := by
  rcases at_find (fun c : Htlc => c.key == key) l with ⟨_,q⟩ | ⟨i,c,_,q1,q2,_⟩
  · exact q
  · unfold fndH at h
    rw [q2] at h
    exact absurd h (h0 c (mem_of_get q1))
theorem fndH_yes {l : List Htlc} {key : Int} (h : ¬ (fndH l key).key = 0) : ∃ i : Nat,l[i]? = some (fndH l key) ∧ l.find? (fun c => c.key == key) = some (fndH l key) ∧ (fndH l key).key = key := by
  rcases at_find (fun c : Htlc => c.key == key) l with ⟨_,q⟩ | ⟨i,c,_,q1,q2,q3⟩
  · unfold fndH at h
    rw [q] at h
    exact absurd rfl h
  · have e : fndH l key = c := by unfold fndH;rw [q2];rfl
    rw [e]
    exact ⟨i,q1,q2,by simpa using q3⟩
theorem fndI_no {l : List Circle} {key : Int} (h0 : ∀ h ∈ l,h.key ≠ 0) (h : (fndI l key).key = 0) : l.find? (fun c => c.key == key) = none := by
  rcases at_find (fun c : Circle => c.key == key) l with ⟨_,q⟩ | ⟨i,c,_,q1,q2,_⟩
  · exact q
  · unfold fndI at h
    rw [q2] at h
    exact absurd h (h0 c (mem_of_get q1))
theorem fndI_yes {l : List Circle} {key : Int} (h : ¬ (fndI l key).key = 0) : ∃ i : Nat,l[i]? = some (fndI l key) ∧ l.find? (fun c => c.key == key) = some (fndI l key) ∧ (fndI l key).key = key := by
  rcases at_find (fun c : Circle => c.key == key) l with ⟨_,q⟩ | ⟨i,c,_,q1,q2,q3⟩
  · unfold fndI at h
    rw [q] at h
    exact absurd rfl h
  · have e : fndI l key = c := by unfold fndI;rw [q2];rfl
    rw [e]
    exact ⟨i,q1,q2,by simpa using q3⟩
def setK (x : Book) (key : Int) (good : Bool) : WR := match x.htlcs.find? (fun c => c.key == key) with
  | some h => setY x good h
  | none => ⟨x,[],15⟩
def landK (x : Book) (key : Int) (good : Bool) : WR := match x.circles.find? (fun c => c.key == key) with
  | some h => landY x good h
  | none => ⟨x,[],15⟩
theorem setK_eq (x : Book) (e : Event) : setK x e.key (decide (e.kind = 6)) = setR x e := rfl
theorem landK_eq (x : Book) (e : Event) : landK x e.key (decide (e.kind = 10)) = landR x e := rfl
theorem setK_none {x : Book} {key : Int} {good : Bool} (h : x.htlcs.find? (fun c => c.key == key) = none) : setK x key good = ⟨x,[],15⟩ := by unfold setK;rw [h]
theorem setK_some {x : Book} {key : Int} {good : Bool} {c : Htlc} (h : x.htlcs.find? (fun c => c.key == key) = some c) : setK x key good = setY x good c := by unfold setK;rw [h]
theorem landK_none {x : Book} {key : Int} {good : Bool} (h : x.circles.find? (fun c => c.key == key) = none) : landK x key good = ⟨x,[],15⟩ := by unfold landK;rw [h]
theorem landK_some {x : Book} {key : Int} {good : Bool} {c : Circle} (h : x.circles.find? (fun c => c.key == key) = some c) : landK x key good = landY x good c := by unfold landK;rw [h]
theorem sset_e (g : Value) (x : Book) (key : Int) (good : Bool) (fi : BookFi x) (hk0 : ∀ h ∈ x.htlcs,h.key ≠ 0) (hle : ∀ h ∈ x.htlcs,h.amtOut ≤ h.amtIn) : GC Tryz.prog 41 [.ptr 0 0 0,int key,boo good] (sIn g x [] 0) (.tup []) (sOut g (setK x key good)) := by
 have sm := fi.sm
 have hm : x.chans.length ≤ 1000000000 := by have := sm.lc;omega
 have hlh := sm.lh
 have hli := sm.li

 refine GC.intro (rs := []) Tryz.func41 rfl Tryz.ntmps41 (Nat.le_of_ble_eq_true rfl) trivial ?_
 intro L O w0
 refine sL<|lst (zS 2011 [] ty.el31 ty.ze117 rfl (by simp)) Z<|laO Z<|nA<|lq (rd (x := .agg [vI _ _,vI _ _,vI _ _,vI _ _,vI _ _,vB false,vI _ _]) (rd_build rfl ty.sa117 rfl rfl rfl) rfl)<|lst (zA 2007 ty.ze117 rfl) Z<|lst (zB 2007 ty.co117 ty.inf117 rfl) Z<|nG<|aS<|sL<|lmP Z<|lc Z<|lf 0 ty.F71_0 Z<|lf 4 ty.F34_4 Z<|loO ty.kd31 Z<|lnI ty.sl31 Z<|lmI Z<|nG<|aB ?_
 refine AW.loopE [(0,.ptr 0 _ 0),(1,vI _ _),(2,vB _),(6,.own _),(7,.ptr 2007 _ 0),(17,.own _),(18,vI _ _)] [(0,.box _ _ [vI _ _,vI _ _,vI _ _,.own _,.own _,.own _,.own _,vI _ _]),(1,.arr _ _ _),(2,.arr _ _ _),(3,.arr _ _ _),(4,.arr _ _ _)] (D := Nat) (fun k => [(19,int (k : Int))]) (fun k => [(2011,hAr (delH (x.htlcs.take k) key)),(2007,hBox (fndH (x.htlcs.take k) key))]) (fun k => k ≤ x.htlcs.length) (fun k => x.htlcs.length - k) (0) (Nat.zero_le _) ⟨rfl,trivial⟩ ⟨rfl,rfl,trivial⟩ ⟨rfl,rfl,rfl,rfl,rfl,rfl,rfl,trivial⟩ ⟨rfl,rfl,rfl,rfl,rfl,trivial⟩ ?_
 intro k hI
 refine sL<|lbB Z<|nG<|aS ?_
 refine AW.cond rfl ?_ ?_
 ·intro h1
  refine aK<|gT<|aS<|aB<|sL ?_
  have hk : k < x.htlcs.length := by simpa [length_rowsOf] using h1
  refine lq (rj k ty.el31 rfl (by rw [length_rowsOf];exact hk))<|lq (rd (x := .agg [vI _ _,vI _ _,vI _ _,vI _ _,vI _ _,vB _,vI _ _]) (rd_load_arr rfl ty.kd117 rfl rfl rfl (row_map hk) rfl) rfl)<|lst (zA 2009 ty.ze117 rfl) Z<|lT [0,1,2,6,7,9,17,18,19,22] [.ptr 0 _ 0,vI _ _,vB _,.own _,.ptr 2007 _ 0,.ptr 2009 _ 0,.own _,vI _ _,vI _ _,.agg [vI _ _,vI _ _,vI _ _,vI _ _,vI _ _,vB _,vI _ _]] [0,1,2,3,4,2007,2009,2011] [.box _ _ [vI _ _,vI _ _,vI _ _,.own _,.own _,.own _,.own _,vI _ _],.arr _ _ _,.arr _ _ _,.arr _ _ _,.arr _ _ _,.box _ _ [vI _ _,vI _ _,vI _ _,vI _ _,vI _ _,vB _,vI _ _],.box _ _ [vI _ _,vI _ _,vI _ _,vI _ _,vI _ _,vB false,vI _ _],.arr _ _ _] rfl Z<|lst (zB 2009 ty.co117 ty.inf117 rfl) Z<|nA<|lf 0 ty.F117_0 Z<|loI ty.kd3 Z<|lmI Z<|lbB Z<|nG ?_
  refine AW.cond rfl ?_ ?_
  ·intro h2
   refine aL<|loX (.agg [vI _ _,vI _ _,vI _ _,vI _ _,vI _ _,vB _,vI _ _]) ty.kd117 Z<|lst (zB 2007 ty.co117 ty.inf117 Z) Z<|lN<|gB<|gT<|aL<|lgI Z<|lmI Z<|nG ?_
   refine ⟨k + 1,hk,by omega,⟨(iq rfl),trivial⟩,⟨(congrArg hAr (by rw [delH_take hk,if_pos (by simpa using h2),List.append_nil])),(Eq.trans (b := hBox x.htlcs[k]) rfl (congrArg hBox (by rw [fndH_take fi.hks hk,if_pos (by simpa using h2)]))),trivial⟩,⟨rfl,rfl,rfl,rfl,rfl,rfl,rfl,trivial⟩,⟨rfl,rfl,rfl,rfl,rfl,trivial⟩⟩
  ·intro h2
   refine aL<|lmO Z<|loX (.agg [vI _ _,vI _ _,vI _ _,vI _ _,vI _ _,vB _,vI _ _]) ty.kd117 Z<|lst (zS 2030 (rowsOf encHtlc [x.htlcs[k]]) ty.el31 ty.ze117 rfl) Z<|lst (zP 2011 ty.el31 ty.ze117 ty.by117 rfl (Src.own rfl rfl) (by have := delH_len (l := x.htlcs.take k) (key := key);simp [rowsOf] at *;omega)) Z<|laO Z<|lN<|gB<|gT<|aL<|lgI Z<|lmI Z<|nG ?_
   refine ⟨k + 1,hk,by omega,⟨(iq rfl),trivial⟩,⟨(Eq.trans (b := AO.arr 117 7 (rowsOf encHtlc (delH (x.htlcs.take k) key ++ [x.htlcs[k]]))) (congrArg (AO.arr 117 7) (rowsOf_app encHtlc _ [_]).symm) (congrArg hAr (by rw [delH_take hk,if_neg (by simpa using h2)]))),(congrArg hBox (by rw [fndH_take fi.hks hk,if_neg (by simpa using h2)])),trivial⟩,⟨rfl,rfl,rfl,rfl,rfl,rfl,rfl,trivial⟩,⟨rfl,rfl,rfl,rfl,rfl,trivial⟩⟩
 ·intro h1
  refine aE<|eT<|eT<|eB<|gT<|aS<|aS ?_
  have hke : k = x.htlcs.length := by have h := h1;simp only [length_rowsOf,decide_eq_false_iff_not] at h;omega
  refine AW.obj 2011 (hAr (delH x.htlcs key)) (congrArg hAr (by rw [hke,List.take_length])) ?_
  refine AW.obj 2007 (hBox (fndH x.htlcs key)) (congrArg hBox (by rw [hke,List.take_length])) ?_
  refine aL<|lmP Z<|lf 0 ty.F117_0 Z<|loI ty.kd3 Z<|lbB Z ?_
  refine lst (z5a Tryz.func34 (scode_e _ _ _ _ _ _ _ _ _ _ _ _ _ _ _ _ _ _ _ ) (⟨stays.box (Eq.refl 8),trivial⟩) rfl rfl) Z<|lT [0,2,6,7,37] [.ptr 0 _ 0,vB _,.own _,.ptr 2007 _ 0,vB _] [0,1,2,3,4,2007,2011] [.box _ _ [vI _ _,vI _ _,vI _ _,.own _,.own _,.own _,.own _,vI _ _],.arr _ _ _,.arr _ _ _,.arr _ _ _,.arr _ _ _,.box _ _ [vI _ _,vI _ _,vI _ _,vI _ _,vI _ _,vB _,vI _ _],.arr _ _ _] rfl Z<|nG ?_
  refine AW.cond rfl ?_ ?_
  ·intro h3
   refine aR<|rT ?_
   have hz : (fndH x.htlcs key).key = 0 := by
     have h := h3
     rcases Classical.em ((fndH x.htlcs key).key = 0) with q | q
     ·exact q
     ·rw [decide_eq_false q] at h
      simp [failC] at h
   rw [setK_none (fndH_no hk0 hz)]
   refine end_ret ?_ ⟨Eq.trans (b := sBox g x.tick x.next x.wallet _) rfl (congrArg (sBox g x.tick x.next x.wallet) (by rw [decide_eq_true hz];rfl)),rfl,rfl,rfl,rfl,trivial⟩
   rfl
  ·intro h3
   refine aK<|gT<|aS ?_
   have hnz : ¬ (fndH x.htlcs key).key = 0 := fun q => by
     have h := h3
     rw [decide_eq_true q] at h
     simp [failC] at h
   obtain ⟨i,hh,hf,hkk⟩ := fndH_yes hnz
   generalize fndH x.htlcs key = h at *
   subst hkk
   have hhm := sm.htlcs h (mem_of_get hh)
   obtain ⟨ha,hb,hab⟩ := fi.hch h (mem_of_get hh)
   obtain ⟨a,c,hac,hc,hao,hcid⟩ := chan_there ha
   obtain ⟨b,d,hbd,hd,hbo,hdid⟩ := chan_there hb
   have hcm := sm.chans c (mem_of_get hc)
   have hdm := sm.chans d (mem_of_get hd)
   have hne : a ≠ b := idx_ne hc hd (by rw [hcid,hdid];exact hab)
   refine AW.obj 0 (sBox g x.tick x.next x.wallet 0) (Eq.trans (b := sBox g x.tick x.next x.wallet _) rfl (congrArg (sBox g x.tick x.next x.wallet) (by rw [decide_eq_false hnz];rfl))) ?_
   refine aL<|lmP Z<|lmO Z<|lc Z<|lf 0 ty.F71_0 Z<|lf 4 ty.F34_4 Z<|lst (zB 0 ty.co31 ty.inf31 Z) Z<|nG<|aS ?_
   refine AW.swap 2011 2 ?_
   refine aT [0,2,7] [.ptr 0 _ 0,vB _,.ptr 2007 _ 0] [0,1,2,3,4,2007] [.box _ _ [vI _ _,vI _ _,vI _ _,.own _,.own _,.own _,.own _,vI _ _],.arr _ _ _,.arr _ _ _,.arr _ _ _,.arr _ _ _,.box _ _ [vI _ _,vI _ _,vI _ _,vI _ _,vI _ _,vB _,vI _ _]] Z Z<|aF []<|pq 0 (qmP Z)<|pq 1 (qc Z)<|pq 2 (qf 0 ty.F71_0 Z)<|sq 3 (roX (.agg [vI _ _,vI _ _,vI _ _,.own _,.own _,.own _]) ty.kd34 Z)<|vq 4 (rf 1 ty.F117_1 Z)<|vq 5 (roI ty.kd3 Z)<|vst 6 Z (zL Tryz.func38 (sAt_e ({ x with htlcs := delH x.htlcs h.key }) _ hm) Z) (.inr Z)<|fsN 49 (a : Int) Z hac<|vq 7 (raI Z)<|fD<|gT<|aS<|sL<|lmB Z<|nG ?_
   refine AW.cond rfl ?_ ?_
   ·intro h4
    refine sL<|lmP Z<|lf 1 ty.F117_1 Z<|loI ty.kd3 Z<|lf 3 ty.F117_3 Z<|loI ty.kd3 Z ?_
    refine lst (z5a Tryz.func88 (smove_e _ ({ x with htlcs := delH x.htlcs h.key }) _ _ _ _ _ (hm) a c (hac) (hc) (by have h1 := hcm.1;have h2 := hcm.2.1;have h3 := hdm.1;have h4 := hdm.2.1;have h5 := hhm.1;have h6 := hhm.2.1;unfold A50 at *;unfold i64;omega) (by have h1 := hcm.1;have h2 := hcm.2.1;have h3 := hdm.1;have h4 := hdm.2.1;have h5 := hhm.1;have h6 := hhm.2.1;unfold A50 at *;unfold i64;omega)) (⟨stays.box (Eq.refl 8),trivial⟩) rfl rfl) Z<|lT [0,7,10] [.ptr 0 _ 0,.ptr 2007 _ 0,vI _ _] [0,1,2,3,4,2007] [.box _ _ [vI _ _,vI _ _,vI _ _,.own _,.own _,.own _,.own _,vI _ _],.arr _ _ _,.arr _ _ _,.arr _ _ _,.arr _ _ _,.box _ _ [vI _ _,vI _ _,vI _ _,vI _ _,vI _ _,vB _,vI _ _]] rfl Z<|nA<|lmP Z<|lf 2 ty.F117_2 Z<|loI ty.kd3 Z<|lf 4 ty.F117_4 Z<|loI ty.kd3 rfl ?_
    refine lst (z5a Tryz.func88 (smove_e _ ({ x with htlcs := delH x.htlcs h.key,chans := x.chans.set a { c with loc := c.loc + h.amtIn,remote := c.remote + 0 } }) _ _ _ _ _ ((by rw [List.length_set];exact hm)) b d ((chanAt_set (c' := { c with loc := c.loc + h.amtIn,remote := c.remote + 0 }) hc rfl).trans hbd) (set_get hd hne _) (by have h1 := hcm.1;have h2 := hcm.2.1;have h3 := hdm.1;have h4 := hdm.2.1;have h5 := hhm.1;have h6 := hhm.2.1;unfold A50 at *;unfold i64;omega) (by have h1 := hcm.1;have h2 := hcm.2.1;have h3 := hdm.1;have h4 := hdm.2.1;have h5 := hhm.1;have h6 := hhm.2.1;unfold A50 at *;unfold i64;omega)) (⟨stays.box (Eq.refl 8),trivial⟩) rfl rfl) Z<|nG<|aS<|aF [18]<|pq 0 (qmP rfl)<|pq 1 (qc rfl)<|pq 2 (qf 0 ty.F71_0 rfl)<|pq 3 (qf 3 ty.F34_3 rfl)<|sq 4 (roO ty.kd30 rfl)<|pq 5 (qmX (vI _ _) rfl)<|pq 6 (qmP rfl)<|pq 7 (qc rfl)<|pq 8 (qf 0 ty.F71_0 rfl)<|pq 9 (qf 3 ty.F34_3 rfl)<|sq 10 (roO ty.kd30 rfl)<|vq 11 (rmI rfl)<|vq 12 (rj a ty.el30 rfl (by rw [length_rowsOf,List.length_set,List.length_set];exact (List.getElem?_eq_some_iff.1 hc).1))<|vq 13 (rf 6 ty.F78_6 rfl)<|vq 14 (rd (x := vI _ _) (rd_load_arr rfl ty.kd3 rfl rfl rfl (rows_some (set_get (set_get_eq hc { c with loc := c.loc + h.amtIn,remote := c.remote + 0 }) (Ne.symm hne) { d with loc := d.loc + 0,remote := d.remote + h.amtOut })) rfl) rfl)<|vst 15 rfl (zL Tryz.func89 (sscUp_e _) rfl) (.inr rfl)<|fT [0,7,67,68,78] [.ptr 0 _ 0,.ptr 2007 _ 0,.own _,vI _ _,vI _ _] [0,1,2,3,4,2007] [.box _ _ [vI _ _,vI _ _,vI _ _,.own _,.own _,.own _,.own _,vI _ _],.arr _ _ _,.arr _ _ _,.arr _ _ _,.arr _ _ _,.box _ _ [vI _ _,vI _ _,vI _ _,vI _ _,vI _ _,vB _,vI _ _]] rfl Z<|vq 16 (rj a ty.el30 rfl (by rw [length_rowsOf,List.length_set,List.length_set];exact (List.getElem?_eq_some_iff.1 hc).1))<|vq 17 (rf 6 ty.F78_6 rfl)<|vst 18 rfl (zQ 1 [.v (.int .i64 (scoreUp c.score))] ty.co3 ty.inf3 rfl (rows_some (set_get (set_get_eq hc { c with loc := c.loc + h.amtIn,remote := c.remote + 0 }) (Ne.symm hne) { d with loc := d.loc + 0,remote := d.remote + h.amtOut }))) (.inl rfl)<|fD<|gT ?_
    refine AW.obj 1 (AO.arr 78 7 (rowsOf encChan (updC (updC x.chans h.inn fun c => { c with loc := c.loc + h.amtIn,score := scoreUp c.score }) h.out fun c => { c with remote := c.remote + h.amtOut }))) (Eq.trans (b := AO.arr 78 7 ((rowsOf encChan ((x.chans.set a { c with loc := c.loc + h.amtIn,remote := c.remote + 0 }).set b { d with loc := d.loc + 0,remote := d.remote + h.amtOut })).set a ((encChan { c with loc := c.loc + h.amtIn,remote := c.remote + 0,score := scoreUp c.score }).map PV.v))) rfl (congrArg (AO.arr 78 7) (rows_set.trans (congrArg (rowsOf encChan) ((set_three hne).trans ((by simp only [Int.add_zero] : _ = (x.chans.set a { c with loc := c.loc + h.amtIn,score := scoreUp c.score }).set b { d with remote := d.remote + h.amtOut }).trans (set_two' fi.ids hc hd hcid hdid hab (fun c => { c with loc := c.loc + h.amtIn,score := scoreUp c.score }) (fun d => { d with remote := d.remote + h.amtOut }) (fun _ => rfl)))))))) ?_
    refine sL<|lmP Z<|lf 4 ty.F117_4 Z<|loI ty.kd3 Z<|lf 3 ty.F117_3 Z<|loI ty.kd3 Z ?_
    refine lhI rfl ⟨rfl,fits_i64 (by have h1 := hcm.1;have h2 := hcm.2.1;have h3 := hdm.1;have h4 := hdm.2.1;have h5 := hhm.1;have h6 := hhm.2.1;unfold A50 at *;unfold i64;omega)⟩ ?_
    refine lst (z5a Tryz.func36 (sline_e _ _ _ _ _ _ _ _ _ _ _ _ _ _ ([]) 0 (LG.nil) (by decide) _ _ _ (Fresh.nil _ _) (inB_true.2 (by have h5 := hhm.1;have h6 := hhm.2.1;have h7 := hhm.2.2.2.2;have h8 := hle h (mem_of_get hh);unfold A50 at *;omega))) (⟨stays.box (Eq.refl 8),trivial⟩) rfl rfl) Z<|nG<|aL<|lmP Z<|lf 1 ty.F117_1 Z<|loI ty.kd3 Z<|lf 3 ty.F117_3 Z<|loI ty.kd3 rfl ?_
    refine lst (z5a Tryz.func36 (sline_e _ _ _ _ _ _ _ _ _ _ _ _ _ _ (addL [] 3 0 (h.amtOut - h.amtIn)) 1 (LG.nil.add (inB_true.2 (by have h5 := hhm.1;have h6 := hhm.2.1;have h7 := hhm.2.2.2.2;have h8 := hle h (mem_of_get hh);unfold A50 at *;omega))) (by decide) _ _ _ ((Fresh.nil _ _).add (.inl (by decide))) (rangeA_of hhm.1)) (⟨stays.box (Eq.refl 8),trivial⟩) rfl rfl) Z<|lT [0,7] [.ptr 0 _ 0,.ptr 2007 _ 0] [0,1,2,3,4,2007] [.box _ _ [vI _ _,vI _ _,vI _ _,.own _,.own _,.own _,.own _,vI _ _],.arr _ _ _,.arr _ _ _,.arr _ _ _,.arr _ _ _,.box _ _ [vI _ _,vI _ _,vI _ _,vI _ _,vI _ _,vB _,vI _ _]] rfl Z<|nG<|aL<|lmP Z<|lf 2 ty.F117_2 Z<|loI ty.kd3 Z<|lf 4 ty.F117_4 Z<|loI ty.kd3 Z<|lq (rd (x := vI _ _) (rd_un rfl rfl (fits_i64 (by have h1 := hcm.1;have h2 := hcm.2.1;have h3 := hdm.1;have h4 := hdm.2.1;have h5 := hhm.1;have h6 := hhm.2.1;unfold A50 at *;unfold i64;omega))) rfl) ?_
    refine lst (z5a Tryz.func36 (sline_e _ _ _ _ _ _ _ _ _ _ _ _ _ _ (addL (addL [] 3 0 (h.amtOut - h.amtIn)) 6 h.inn h.amtIn) 2 ((LG.nil.add (inB_true.2 (by have h5 := hhm.1;have h6 := hhm.2.1;have h7 := hhm.2.2.2.2;have h8 := hle h (mem_of_get hh);unfold A50 at *;omega))).add (rangeA_of hhm.1)) (by decide) _ _ _ (((Fresh.nil _ _).add (.inl (by decide))).add (.inl (by decide))) (rangeA_neg hhm.2.1)) (⟨stays.box (Eq.refl 8),trivial⟩) rfl rfl) Z<|lN ?_
    rw [setK_some hf,show good = true from h4]
    unfold setY
    refine end_go ?_ ⟨rfl,rfl,rfl,rfl,rfl,trivial⟩
    rfl
   ·intro h4
    refine sL<|lmP Z<|lf 1 ty.F117_1 Z<|loI ty.kd3 Z<|lf 3 ty.F117_3 Z<|loI ty.kd3 Z ?_
    refine lst (z5a Tryz.func88 (smove_e _ ({ x with htlcs := delH x.htlcs h.key }) _ _ _ _ _ (hm) a c (hac) (hc) (by have h1 := hcm.1;have h2 := hcm.2.1;have h3 := hdm.1;have h4 := hdm.2.1;have h5 := hhm.1;have h6 := hhm.2.1;unfold A50 at *;unfold i64;omega) (by have h1 := hcm.1;have h2 := hcm.2.1;have h3 := hdm.1;have h4 := hdm.2.1;have h5 := hhm.1;have h6 := hhm.2.1;unfold A50 at *;unfold i64;omega)) (⟨stays.box (Eq.refl 8),trivial⟩) rfl rfl) Z<|nA<|lmP Z<|lf 2 ty.F117_2 Z<|loI ty.kd3 Z<|lf 4 ty.F117_4 Z<|loI ty.kd3 rfl ?_
    refine lst (z5a Tryz.func88 (smove_e _ ({ x with htlcs := delH x.htlcs h.key,chans := x.chans.set a { c with loc := c.loc + 0,remote := c.remote + h.amtIn } }) _ _ _ _ _ ((by rw [List.length_set];exact hm)) b d ((chanAt_set (c' := { c with loc := c.loc + 0,remote := c.remote + h.amtIn }) hc rfl).trans hbd) (set_get hd hne _) (by have h1 := hcm.1;have h2 := hcm.2.1;have h3 := hdm.1;have h4 := hdm.2.1;have h5 := hhm.1;have h6 := hhm.2.1;unfold A50 at *;unfold i64;omega) (by have h1 := hcm.1;have h2 := hcm.2.1;have h3 := hdm.1;have h4 := hdm.2.1;have h5 := hhm.1;have h6 := hhm.2.1;unfold A50 at *;unfold i64;omega)) (⟨stays.box (Eq.refl 8),trivial⟩) rfl rfl) Z<|lT [0,7,10] [.ptr 0 _ 0,.ptr 2007 _ 0,vI _ _] [0,1,2,3,4,2007] [.box _ _ [vI _ _,vI _ _,vI _ _,.own _,.own _,.own _,.own _,vI _ _],.arr _ _ _,.arr _ _ _,.arr _ _ _,.arr _ _ _,.box _ _ [vI _ _,vI _ _,vI _ _,vI _ _,vI _ _,vB _,vI _ _]] rfl Z<|nG<|aS<|aF [18]<|pq 0 (qmP rfl)<|pq 1 (qc rfl)<|pq 2 (qf 0 ty.F71_0 rfl)<|pq 3 (qf 3 ty.F34_3 rfl)<|sq 4 (roO ty.kd30 rfl)<|pq 5 (qmX (vI _ _) rfl)<|pq 6 (qmP rfl)<|pq 7 (qc rfl)<|pq 8 (qf 0 ty.F71_0 rfl)<|pq 9 (qf 3 ty.F34_3 rfl)<|sq 10 (roO ty.kd30 rfl)<|vq 11 (rmI rfl)<|vq 12 (rj a ty.el30 rfl (by rw [length_rowsOf,List.length_set,List.length_set];exact (List.getElem?_eq_some_iff.1 hc).1))<|vq 13 (rf 6 ty.F78_6 rfl)<|vq 14 (rd (x := vI _ _) (rd_load_arr rfl ty.kd3 rfl rfl rfl (rows_some (set_get (set_get_eq hc { c with loc := c.loc + 0,remote := c.remote + h.amtIn }) (Ne.symm hne) { d with loc := d.loc + h.amtOut,remote := d.remote + 0 })) rfl) rfl)<|vst 15 rfl (zL Tryz.func90 (sscDown_e _) rfl) (.inr rfl)<|fT [0,7,110,111,121] [.ptr 0 _ 0,.ptr 2007 _ 0,.own _,vI _ _,vI _ _] [0,1,2,3,4,2007] [.box _ _ [vI _ _,vI _ _,vI _ _,.own _,.own _,.own _,.own _,vI _ _],.arr _ _ _,.arr _ _ _,.arr _ _ _,.arr _ _ _,.box _ _ [vI _ _,vI _ _,vI _ _,vI _ _,vI _ _,vB _,vI _ _]] rfl Z<|vq 16 (rj a ty.el30 rfl (by rw [length_rowsOf,List.length_set,List.length_set];exact (List.getElem?_eq_some_iff.1 hc).1))<|vq 17 (rf 6 ty.F78_6 rfl)<|vst 18 rfl (zQ 1 [.v (.int .i64 (scoreDown c.score))] ty.co3 ty.inf3 rfl (rows_some (set_get (set_get_eq hc { c with loc := c.loc + 0,remote := c.remote + h.amtIn }) (Ne.symm hne) { d with loc := d.loc + h.amtOut,remote := d.remote + 0 }))) (.inl rfl)<|fD<|gT ?_
    refine AW.obj 1 (AO.arr 78 7 (rowsOf encChan (updC (updC x.chans h.inn fun c => { c with remote := c.remote + h.amtIn,score := scoreDown c.score }) h.out fun c => { c with loc := c.loc + h.amtOut }))) (Eq.trans (b := AO.arr 78 7 ((rowsOf encChan ((x.chans.set a { c with loc := c.loc + 0,remote := c.remote + h.amtIn }).set b { d with loc := d.loc + h.amtOut,remote := d.remote + 0 })).set a ((encChan { c with loc := c.loc + 0,remote := c.remote + h.amtIn,score := scoreDown c.score }).map PV.v))) rfl (congrArg (AO.arr 78 7) (rows_set.trans (congrArg (rowsOf encChan) ((set_three hne).trans ((by simp only [Int.add_zero] : _ = (x.chans.set a { c with remote := c.remote + h.amtIn,score := scoreDown c.score }).set b { d with loc := d.loc + h.amtOut }).trans (set_two' fi.ids hc hd hcid hdid hab (fun c => { c with remote := c.remote + h.amtIn,score := scoreDown c.score }) (fun d => { d with loc := d.loc + h.amtOut }) (fun _ => rfl)))))))) ?_
    refine aL<|lmP Z<|lf 2 ty.F117_2 Z<|loI ty.kd3 Z<|lf 4 ty.F117_4 Z<|loI ty.kd3 Z ?_
    refine lst (z5a Tryz.func36 (sline_e _ _ _ _ _ _ _ _ _ _ _ _ _ _ ([]) 0 (LG.nil) (by decide) _ _ _ (Fresh.nil _ _) (rangeA_of hhm.2.1)) (⟨stays.box (Eq.refl 8),trivial⟩) rfl rfl) Z<|nG<|aL<|lmP Z<|lf 2 ty.F117_2 Z<|loI ty.kd3 Z<|lf 4 ty.F117_4 Z<|loI ty.kd3 Z<|lq (rd (x := vI _ _) (rd_un rfl rfl (fits_i64 (by have h1 := hcm.1;have h2 := hcm.2.1;have h3 := hdm.1;have h4 := hdm.2.1;have h5 := hhm.1;have h6 := hhm.2.1;unfold A50 at *;unfold i64;omega))) rfl) ?_
    refine lst (z5a Tryz.func36 (sline_e _ _ _ _ _ _ _ _ _ _ _ _ _ _ (addL [] 6 h.out h.amtOut) 1 (LG.nil.add (rangeA_of hhm.2.1)) (by decide) _ _ _ ((Fresh.nil _ _).add (.inl (by decide))) (rangeA_neg hhm.2.1)) (⟨stays.box (Eq.refl 8),trivial⟩) rfl rfl) Z<|lT [] [] [0,1,2,3,4,2007] [.box _ _ [vI _ _,vI _ _,vI _ _,.own _,.own _,.own _,.own _,vI _ _],.arr _ _ _,.arr _ _ _,.arr _ _ _,.arr _ _ _,.box _ _ [vI _ _,vI _ _,vI _ _,vI _ _,vI _ _,vB _,vI _ _]] rfl Z<|lN ?_
    rw [setK_some hf,show good = false from h4]
    unfold setY
    refine end_go ?_ ⟨rfl,rfl,rfl,rfl,rfl,trivial⟩
    rfl
theorem sland_e (g : Value) (x : Book) (key : Int) (good : Bool) (fi : BookFi x) (hk0 : ∀ h ∈ x.circles,h.key ≠ 0) (hle : ∀ h ∈ x.circles,0 ≤ h.amt ∧ 0 ≤ h.fee ∧ h.amt + h.fee ≤ 1125899906842624) : GC Tryz.prog 44 [.ptr 0 0 0,int key,boo good] (sIn g x [] 0) (.tup []) (sOut g (landK x key good)) := by
 have sm := fi.sm
 have hm : x.chans.length ≤ 1000000000 := by have := sm.lc;omega
 have hlh := sm.lh
 have hli := sm.li

 refine GC.intro (rs := []) Tryz.func44 rfl Tryz.ntmps44 (Nat.le_of_ble_eq_true rfl) trivial ?_
 intro L O w0
 refine sL<|lst (zS 2011 [] ty.el32 ty.ze120 rfl (by simp)) Z<|laO Z<|nA<|lq (rd (x := .agg [vI _ _,vI _ _,vI _ _,vI _ _,vI _ _]) (rd_build rfl ty.sa120 rfl rfl rfl) rfl)<|lst (zA 2007 ty.ze120 rfl) Z<|lst (zB 2007 ty.co120 ty.inf120 rfl) Z<|nG<|aS<|sL<|lmP Z<|lc Z<|lf 0 ty.F71_0 Z<|lf 5 ty.F34_5 Z<|loO ty.kd32 Z<|lnI ty.sl32 Z<|lmI Z<|nG<|aB ?_
 refine AW.loopE [(0,.ptr 0 _ 0),(1,vI _ _),(2,vB _),(6,.own _),(7,.ptr 2007 _ 0),(17,.own _),(18,vI _ _)] [(0,.box _ _ [vI _ _,vI _ _,vI _ _,.own _,.own _,.own _,.own _,vI _ _]),(1,.arr _ _ _),(2,.arr _ _ _),(3,.arr _ _ _),(4,.arr _ _ _)] (D := Nat) (fun k => [(19,int (k : Int))]) (fun k => [(2011,iAr (delI (x.circles.take k) key)),(2007,iBox (fndI (x.circles.take k) key))]) (fun k => k ≤ x.circles.length) (fun k => x.circles.length - k) (0) (Nat.zero_le _) ⟨rfl,trivial⟩ ⟨rfl,rfl,trivial⟩ ⟨rfl,rfl,rfl,rfl,rfl,rfl,rfl,trivial⟩ ⟨rfl,rfl,rfl,rfl,rfl,trivial⟩ ?_
 intro k hI
 refine sL<|lbB Z<|nG<|aS ?_
 refine AW.cond rfl ?_ ?_
 ·intro h1
  refine aK<|gT<|aS<|aB<|sL ?_
  have hk : k < x.circles.length := by simpa [length_rowsOf] using h1
  refine lq (rj k ty.el32 rfl (by rw [length_rowsOf];exact hk))<|lq (rd (x := .agg [vI _ _,vI _ _,vI _ _,vI _ _,vI _ _]) (rd_load_arr rfl ty.kd120 rfl rfl rfl (row_map hk) rfl) rfl)<|lst (zA 2009 ty.ze120 rfl) Z<|lT [0,1,2,6,7,9,17,18,19,22] [.ptr 0 _ 0,vI _ _,vB _,.own _,.ptr 2007 _ 0,.ptr 2009 _ 0,.own _,vI _ _,vI _ _,.agg [vI _ _,vI _ _,vI _ _,vI _ _,vI _ _]] [0,1,2,3,4,2007,2009,2011] [.box _ _ [vI _ _,vI _ _,vI _ _,.own _,.own _,.own _,.own _,vI _ _],.arr _ _ _,.arr _ _ _,.arr _ _ _,.arr _ _ _,.box _ _ [vI _ _,vI _ _,vI _ _,vI _ _,vI _ _],.box _ _ [vI _ _,vI _ _,vI _ _,vI _ _,vI _ _],.arr _ _ _] rfl Z<|lst (zB 2009 ty.co120 ty.inf120 rfl) Z<|nA<|lf 0 ty.F120_0 Z<|loI ty.kd3 Z<|lmI Z<|lbB Z<|nG ?_
  refine AW.cond rfl ?_ ?_
  ·intro h2
   refine aL<|loX (.agg [vI _ _,vI _ _,vI _ _,vI _ _,vI _ _]) ty.kd120 Z<|lst (zB 2007 ty.co120 ty.inf120 Z) Z<|lN<|gB<|gT<|aL<|lgI Z<|lmI Z<|nG ?_
   refine ⟨k + 1,hk,by omega,⟨(iq rfl),trivial⟩,⟨(congrArg iAr (by rw [delI_take hk,if_pos (by simpa using h2),List.append_nil])),(Eq.trans (b := iBox x.circles[k]) rfl (congrArg iBox (by rw [fndI_take fi.iks hk,if_pos (by simpa using h2)]))),trivial⟩,⟨rfl,rfl,rfl,rfl,rfl,rfl,rfl,trivial⟩,⟨rfl,rfl,rfl,rfl,rfl,trivial⟩⟩
  ·intro h2
   refine aL<|lmO Z<|loX (.agg [vI _ _,vI _ _,vI _ _,vI _ _,vI _ _]) ty.kd120 Z<|lst (zS 2030 (rowsOf encCircle [x.circles[k]]) ty.el32 ty.ze120 rfl) Z<|lst (zP 2011 ty.el32 ty.ze120 ty.by120 rfl (Src.own rfl rfl) (by have := delI_len (l := x.circles.take k) (key := key);simp [rowsOf] at *;omega)) Z<|laO Z<|lN<|gB<|gT<|aL<|lgI Z<|lmI Z<|nG ?_
   refine ⟨k + 1,hk,by omega,⟨(iq rfl),trivial⟩,⟨(Eq.trans (b := AO.arr 120 5 (rowsOf encCircle (delI (x.circles.take k) key ++ [x.circles[k]]))) (congrArg (AO.arr 120 5) (rowsOf_app encCircle _ [_]).symm) (congrArg iAr (by rw [delI_take hk,if_neg (by simpa using h2)]))),(congrArg iBox (by rw [fndI_take fi.iks hk,if_neg (by simpa using h2)])),trivial⟩,⟨rfl,rfl,rfl,rfl,rfl,rfl,rfl,trivial⟩,⟨rfl,rfl,rfl,rfl,rfl,trivial⟩⟩
 ·intro h1
  refine aE<|eT<|eT<|eB<|gT<|aS<|aS ?_
  have hke : k = x.circles.length := by have h := h1;simp only [length_rowsOf,decide_eq_false_iff_not] at h;omega
  refine AW.obj 2011 (iAr (delI x.circles key)) (congrArg iAr (by rw [hke,List.take_length])) ?_
  refine AW.obj 2007 (iBox (fndI x.circles key)) (congrArg iBox (by rw [hke,List.take_length])) ?_
  refine aL<|lmP Z<|lf 0 ty.F120_0 Z<|loI ty.kd3 Z<|lbB Z ?_
  refine lst (z5a Tryz.func34 (scode_e _ _ _ _ _ _ _ _ _ _ _ _ _ _ _ _ _ _ _ ) (⟨stays.box (Eq.refl 8),trivial⟩) rfl rfl) Z<|lT [0,2,6,7,37] [.ptr 0 _ 0,vB _,.own _,.ptr 2007 _ 0,vB _] [0,1,2,3,4,2007,2011] [.box _ _ [vI _ _,vI _ _,vI _ _,.own _,.own _,.own _,.own _,vI _ _],.arr _ _ _,.arr _ _ _,.arr _ _ _,.arr _ _ _,.box _ _ [vI _ _,vI _ _,vI _ _,vI _ _,vI _ _],.arr _ _ _] rfl Z<|nG ?_
  refine AW.cond rfl ?_ ?_
  ·intro h3
   refine aR<|rT ?_
   have hz : (fndI x.circles key).key = 0 := by
     have h := h3
     rcases Classical.em ((fndI x.circles key).key = 0) with q | q
     ·exact q
     ·rw [decide_eq_false q] at h
      simp [failC] at h
   rw [landK_none (fndI_no hk0 hz)]
   refine end_ret ?_ ⟨Eq.trans (b := sBox g x.tick x.next x.wallet _) rfl (congrArg (sBox g x.tick x.next x.wallet) (by rw [decide_eq_true hz];rfl)),rfl,rfl,rfl,rfl,trivial⟩
   rfl
  ·intro h3
   refine aK<|gT<|aS ?_
   have hnz : ¬ (fndI x.circles key).key = 0 := fun q => by
     have h := h3
     rw [decide_eq_true q] at h
     simp [failC] at h
   obtain ⟨i,hh,hf,hkk⟩ := fndI_yes hnz
   generalize fndI x.circles key = h at *
   subst hkk
   have hhm := sm.circles h (mem_of_get hh)
   obtain ⟨ha,hb,hab⟩ := fi.ich h (mem_of_get hh)
   obtain ⟨a,c,hac,hc,hao,hcid⟩ := chan_there ha
   obtain ⟨b,d,hbd,hd,hbo,hdid⟩ := chan_there hb
   have hcm := sm.chans c (mem_of_get hc)
   have hdm := sm.chans d (mem_of_get hd)
   have hne : a ≠ b := idx_ne hc hd (by rw [hcid,hdid];exact hab)
   refine AW.obj 0 (sBox g x.tick x.next x.wallet 0) (Eq.trans (b := sBox g x.tick x.next x.wallet _) rfl (congrArg (sBox g x.tick x.next x.wallet) (by rw [decide_eq_false hnz];rfl))) ?_
   refine aL<|lmP Z<|lmO Z<|lc Z<|lf 0 ty.F71_0 Z<|lf 5 ty.F34_5 Z<|lst (zB 0 ty.co32 ty.inf32 Z) Z<|nG<|aS ?_
   refine AW.swap 2011 3 ?_
   refine aT [0,2,7] [.ptr 0 _ 0,vB _,.ptr 2007 _ 0] [0,1,2,3,4,2007] [.box _ _ [vI _ _,vI _ _,vI _ _,.own _,.own _,.own _,.own _,vI _ _],.arr _ _ _,.arr _ _ _,.arr _ _ _,.arr _ _ _,.box _ _ [vI _ _,vI _ _,vI _ _,vI _ _,vI _ _]] Z Z<|aL<|lf 3 ty.F120_3 Z<|loI ty.kd3 Z<|lf 4 ty.F120_4 Z<|loI ty.kd3 Z ?_
   refine lhI rfl ⟨rfl,fits_i64 (by have h9 := hle h (mem_of_get hh);unfold i64;omega)⟩<|laI Z<|nG<|aS<|sL<|lmB Z<|nG ?_
   refine AW.cond rfl ?_ ?_
   ·intro h4
    refine sL<|lmP Z<|lf 1 ty.F120_1 Z<|loI ty.kd3 Z<|lmI Z ?_
    refine lst (z5a Tryz.func88 (smove_e _ ({ x with circles := delI x.circles h.key }) _ _ _ _ _ (hm) a c (hac) (hc) (by have h1 := hcm.1;have h2 := hcm.2.1;have h3 := hdm.1;have h4 := hdm.2.1;have h5 := hhm.1;have h6 := hhm.2;unfold A50 at *;unfold i64;omega) (by have h1 := hcm.1;have h2 := hcm.2.1;have h3 := hdm.1;have h4 := hdm.2.1;have h5 := hhm.1;have h6 := hhm.2;unfold A50 at *;unfold i64;omega)) (⟨stays.box (Eq.refl 8),trivial⟩) rfl rfl) Z<|nA<|lmP Z<|lf 2 ty.F120_2 Z<|loI ty.kd3 Z<|lf 3 ty.F120_3 Z<|loI ty.kd3 rfl ?_
    refine lst (z5a Tryz.func88 (smove_e _ ({ x with circles := delI x.circles h.key,chans := x.chans.set a { c with loc := c.loc + 0,remote := c.remote + (h.amt + h.fee) } }) _ _ _ _ _ ((by rw [List.length_set];exact hm)) b d ((chanAt_set (c' := { c with loc := c.loc + 0,remote := c.remote + (h.amt + h.fee) }) hc rfl).trans hbd) (set_get hd hne _) (by have h1 := hcm.1;have h2 := hcm.2.1;have h3 := hdm.1;have h4 := hdm.2.1;have h5 := hhm.1;have h6 := hhm.2;unfold A50 at *;unfold i64;omega) (by have h1 := hcm.1;have h2 := hcm.2.1;have h3 := hdm.1;have h4 := hdm.2.1;have h5 := hhm.1;have h6 := hhm.2;unfold A50 at *;unfold i64;omega)) (⟨stays.box (Eq.refl 8),trivial⟩) rfl rfl) Z<|lT [0,7,10] [.ptr 0 _ 0,.ptr 2007 _ 0,vI _ _] [0,1,2,3,4,2007] [.box _ _ [vI _ _,vI _ _,vI _ _,.own _,.own _,.own _,.own _,vI _ _],.arr _ _ _,.arr _ _ _,.arr _ _ _,.arr _ _ _,.box _ _ [vI _ _,vI _ _,vI _ _,vI _ _,vI _ _]] rfl Z<|nG ?_
    refine AW.obj 1 (AO.arr 78 7 (rowsOf encChan (updC (updC x.chans h.frm fun c => { c with remote := c.remote + (h.amt + h.fee) }) h.to fun c => { c with loc := c.loc + h.amt }))) (congrArg (fun l => AO.arr 78 7 (rowsOf encChan l)) ((by simp only [Int.add_zero] : _ = (x.chans.set a { c with remote := c.remote + (h.amt + h.fee) }).set b { d with loc := d.loc + h.amt }).trans (set_two' fi.ids hc hd hcid hdid hab (fun c => { c with remote := c.remote + (h.amt + h.fee) }) (fun d => { d with loc := d.loc + h.amt }) (fun _ => rfl)))) ?_
    refine sL<|lmP Z<|lf 4 ty.F120_4 Z<|loI ty.kd3 Z ?_
    refine lst (z5a Tryz.func36 (sline_e _ _ _ _ _ _ _ _ _ _ _ _ _ _ ([]) 0 (LG.nil) (by decide) _ _ _ (Fresh.nil _ _) (inB_true.2 (by have h9 := hle h (mem_of_get hh);omega))) (⟨stays.box (Eq.refl 8),trivial⟩) rfl rfl) Z<|nG<|aL<|lmP Z<|lf 2 ty.F120_2 Z<|loI ty.kd3 Z<|lf 3 ty.F120_3 Z<|loI ty.kd3 rfl ?_
    refine lst (z5a Tryz.func36 (sline_e _ _ _ _ _ _ _ _ _ _ _ _ _ _ (addL [] 4 0 h.fee) 1 (LG.nil.add (inB_true.2 (by have h9 := hle h (mem_of_get hh);omega))) (by decide) _ _ _ ((Fresh.nil _ _).add (.inl (by decide))) (inB_true.2 (by have h9 := hle h (mem_of_get hh);omega))) (⟨stays.box (Eq.refl 8),trivial⟩) rfl rfl) Z<|nG<|aL<|lmP Z<|lf 1 ty.F120_1 Z<|loI ty.kd3 Z<|lmI Z<|lq (rd (x := vI _ _) (rd_un rfl rfl (fits_i64 (by have h9 := hle h (mem_of_get hh);unfold i64;omega))) rfl)<|lsN 90 (-h.amt - h.fee) rfl (by omega) ?_
    refine lst (z5a Tryz.func36 (sline_e _ _ _ _ _ _ _ _ _ _ _ _ _ _ (addL (addL [] 4 0 h.fee) 6 h.to h.amt) 2 ((LG.nil.add (inB_true.2 (by have h9 := hle h (mem_of_get hh);omega))).add (inB_true.2 (by have h9 := hle h (mem_of_get hh);omega))) (by decide) _ _ _ (((Fresh.nil _ _).add (.inl (by decide))).add (.inl (by decide))) (inB_true.2 (by have h9 := hle h (mem_of_get hh);omega))) (⟨stays.box (Eq.refl 8),trivial⟩) rfl rfl) Z<|lT [] [] [0,1,2,3,4,2007] [.box _ _ [vI _ _,vI _ _,vI _ _,.own _,.own _,.own _,.own _,vI _ _],.arr _ _ _,.arr _ _ _,.arr _ _ _,.arr _ _ _,.box _ _ [vI _ _,vI _ _,vI _ _,vI _ _,vI _ _]] rfl Z<|lN ?_
    rw [landK_some hf,show good = true from h4]
    unfold landY
    refine end_go ?_ ⟨rfl,rfl,rfl,rfl,rfl,trivial⟩
    rfl
   ·intro h4
    refine sL<|lmP Z<|lf 1 ty.F120_1 Z<|loI ty.kd3 Z<|lmI Z ?_
    refine lst (z5a Tryz.func88 (smove_e _ ({ x with circles := delI x.circles h.key }) _ _ _ _ _ (hm) a c (hac) (hc) (by have h1 := hcm.1;have h2 := hcm.2.1;have h3 := hdm.1;have h4 := hdm.2.1;have h5 := hhm.1;have h6 := hhm.2;unfold A50 at *;unfold i64;omega) (by have h1 := hcm.1;have h2 := hcm.2.1;have h3 := hdm.1;have h4 := hdm.2.1;have h5 := hhm.1;have h6 := hhm.2;unfold A50 at *;unfold i64;omega)) (⟨stays.box (Eq.refl 8),trivial⟩) rfl rfl) Z<|nA<|lmP Z<|lf 2 ty.F120_2 Z<|loI ty.kd3 Z<|lf 3 ty.F120_3 Z<|loI ty.kd3 rfl ?_
    refine lst (z5a Tryz.func88 (smove_e _ ({ x with circles := delI x.circles h.key,chans := x.chans.set a { c with loc := c.loc + (h.amt + h.fee),remote := c.remote + 0 } }) _ _ _ _ _ ((by rw [List.length_set];exact hm)) b d ((chanAt_set (c' := { c with loc := c.loc + (h.amt + h.fee),remote := c.remote + 0 }) hc rfl).trans hbd) (set_get hd hne _) (by have h1 := hcm.1;have h2 := hcm.2.1;have h3 := hdm.1;have h4 := hdm.2.1;have h5 := hhm.1;have h6 := hhm.2;unfold A50 at *;unfold i64;omega) (by have h1 := hcm.1;have h2 := hcm.2.1;have h3 := hdm.1;have h4 := hdm.2.1;have h5 := hhm.1;have h6 := hhm.2;unfold A50 at *;unfold i64;omega)) (⟨stays.box (Eq.refl 8),trivial⟩) rfl rfl) Z<|nG ?_
    refine AW.obj 1 (AO.arr 78 7 (rowsOf encChan (updC (updC x.chans h.frm fun c => { c with loc := c.loc + (h.amt + h.fee) }) h.to fun c => { c with remote := c.remote + h.amt }))) (congrArg (fun l => AO.arr 78 7 (rowsOf encChan l)) ((by simp only [Int.add_zero] : _ = (x.chans.set a { c with loc := c.loc + (h.amt + h.fee) }).set b { d with remote := d.remote + h.amt }).trans (set_two' fi.ids hc hd hcid hdid hab (fun c => { c with loc := c.loc + (h.amt + h.fee) }) (fun d => { d with remote := d.remote + h.amt }) (fun _ => rfl)))) ?_
    refine aL<|lmP Z<|lf 1 ty.F120_1 Z<|loI ty.kd3 Z<|lmI Z ?_
    refine lst (z5a Tryz.func36 (sline_e _ _ _ _ _ _ _ _ _ _ _ _ _ _ ([]) 0 (LG.nil) (by decide) _ _ _ (Fresh.nil _ _) (inB_true.2 (by have h9 := hle h (mem_of_get hh);omega))) (⟨stays.box (Eq.refl 8),trivial⟩) rfl rfl) Z<|lT [0,7,10] [.ptr 0 _ 0,.ptr 2007 _ 0,vI _ _] [0,1,2,3,4,2007] [.box _ _ [vI _ _,vI _ _,vI _ _,.own _,.own _,.own _,.own _,vI _ _],.arr _ _ _,.arr _ _ _,.arr _ _ _,.arr _ _ _,.box _ _ [vI _ _,vI _ _,vI _ _,vI _ _,vI _ _]] rfl Z<|nG<|aL<|lmP Z<|lf 1 ty.F120_1 Z<|loI ty.kd3 Z<|lmI Z<|lq (rd (x := vI _ _) (rd_un rfl rfl (fits_i64 (by have h9 := hle h (mem_of_get hh);unfold i64;omega))) rfl)<|lsN 90 (-h.amt - h.fee) rfl (by omega) ?_
    refine lst (z5a Tryz.func36 (sline_e _ _ _ _ _ _ _ _ _ _ _ _ _ _ (addL [] 6 h.frm (h.amt + h.fee)) 1 (LG.nil.add (inB_true.2 (by have h9 := hle h (mem_of_get hh);omega))) (by decide) _ _ _ ((Fresh.nil _ _).add (.inl (by decide))) (inB_true.2 (by have h9 := hle h (mem_of_get hh);omega))) (⟨stays.box (Eq.refl 8),trivial⟩) rfl rfl) Z<|lN ?_
    rw [landK_some hf,show good = false from h4]
    unfold landY
    refine end_go ?_ ⟨rfl,rfl,rfl,rfl,rfl,trivial⟩
    rfl
theorem stick_e (g : Value) (x : Book) (sm : BookSm x) (ht : x.tick ≠ 1125899906842624) : GC Tryz.prog 42 [.ptr 0 0 0] (sIn g x [] 0) (.tup []) (sOut g (tickR x)) := by
 have bh := sm.lh
 have bc := sm.lc
 refine GC.intro (rs := []) Tryz.func42 rfl Tryz.ntmps42 (Nat.le_of_ble_eq_true rfl) trivial ?_
 intro L O w0
 refine aS<|sL<|lmP Z<|lmP Z<|lc Z<|lf 0 ty.F71_0 Z<|lf 0 ty.F34_0 Z<|loI ty.kd3 Z<|lbB Z<|lsB 10 false rfl (by simpa using ht) ?_
 refine lst (z5a Tryz.func34 (scode_e _ _ _ _ _ _ _ _ _ _ _ _ _ _ _ _ _ _ _ ) (⟨stays.box (Eq.refl 8),trivial⟩) rfl rfl) Z<|lsB 11 false rfl (by rfl)<|nG<|aN Z<|aK<|gT<|aS ?_
 refine AW.obj 0 (sBox g x.tick x.next x.wallet 0) rfl ?_
 refine aL<|lmP Z<|lc Z<|lf 0 ty.F71_0 Z<|lf 0 ty.F34_0 Z<|loI ty.kd3 Z ?_
 refine lhI rfl ⟨rfl,fits_i64 (by have := sm.tick;unfold A50 at this;unfold i64;omega)⟩<|lc Z<|lf 0 ty.F71_0 Z<|lf 0 ty.F34_0 Z<|lst (zB 0 ty.co3 ty.inf3 rfl) Z<|lT [0] [.ptr 0 _ 0] [0,1,2,3,4] [.box _ _ [vI _ _,vI _ _,vI _ _,.own _,.own _,.own _,.own _,vI _ _],.arr _ _ _,.arr _ _ _,.arr _ _ _,.arr _ _ _] rfl Z<|nG<|aS<|sL<|lmP Z<|lc Z<|lf 0 ty.F71_0 Z<|lf 4 ty.F34_4 Z<|loO ty.kd31 Z<|lnI ty.sl31 Z<|lmI Z<|nG<|aB ?_
 refine AW.loopE [(0,.ptr 0 _ 0),(26,vI _ _)] [(0,.box _ _ [vI _ _,vI _ _,vI _ _,.own _,.own _,.own _,.own _,vI _ _]),(1,.arr _ _ _),(3,.arr _ _ _),(4,.arr _ _ _)] (D := Nat) (fun k => [(27,int (k : Int))]) (fun k => [(2,hAr (mapTo ageH k x.htlcs))]) (fun k => k ≤ x.htlcs.length) (fun k => x.htlcs.length - k) (0) (Nat.zero_le _) ⟨rfl,trivial⟩ ⟨(congrArg hAr (mapTo_zero ageH x.htlcs).symm),trivial⟩ ⟨rfl,rfl,trivial⟩ ⟨rfl,rfl,rfl,rfl,trivial⟩ ?_
 intro k hI
 refine sL<|lbB Z<|nG<|aS ?_
 refine AW.cond rfl ?_ ?_
 ·intro h1
  refine aK<|gT<|aS<|aB<|sL<|lmI Z<|laI Z<|nA<|lmP Z<|lc Z<|lf 0 ty.F71_0 Z<|lf 4 ty.F34_4 Z<|loO ty.kd31 Z<|lmI Z ?_
  have hk : k < x.htlcs.length := by simpa [length_rowsOf] using h1
  have hhm := sm.htlcs _ (List.getElem_mem hk)
  refine lq (rj k ty.el31 rfl (by rw [length_rowsOf,mapTo_len _ _ _ (Nat.le_of_lt hk)];exact hk))<|lf 6 ty.F117_6 Z<|lq (rd (x := vI _ _) (rd_load_arr rfl ty.kd3 rfl rfl rfl (rows_some (mapTo_get ageH hk)) rfl) rfl)<|lbB Z<|nG ?_
  refine AW.cond rfl ?_ ?_
  ·intro h2
   refine aL<|lmP Z<|lc Z<|lf 0 ty.F71_0 Z<|lf 4 ty.F34_4 Z<|loO ty.kd31 Z<|lmI Z<|lq (rj k ty.el31 rfl (by rw [length_rowsOf,mapTo_len _ _ _ (Nat.le_of_lt hk)];exact hk))<|lf 6 ty.F117_6 Z<|lq (rd (x := vI _ _) (rd_load_arr rfl ty.kd3 rfl rfl rfl (rows_some (mapTo_get ageH hk)) rfl) rfl) ?_
   refine lhI rfl ⟨rfl,fits_i64 (by have := hhm.2.2.1;have := hhm.2.2.2.1;unfold i64;omega)⟩<|lT [0,26,27,44,45,49] [.ptr 0 _ 0,vI _ _,vI _ _,.own _,vI _ _,vI _ _] [0,1,2,3,4] [.box _ _ [vI _ _,vI _ _,vI _ _,.own _,.own _,.own _,.own _,vI _ _],.arr _ _ _,.arr _ _ _,.arr _ _ _,.arr _ _ _] rfl Z<|lq (rj k ty.el31 rfl (by rw [length_rowsOf,mapTo_len _ _ _ (Nat.le_of_lt hk)];exact hk))<|lf 6 ty.F117_6 Z<|lst (zQ 2 [.v (.int .i64 (x.htlcs[k].age + 1))] ty.co3 ty.inf3 rfl (rows_some (mapTo_get ageH hk))) Z<|lN<|gB<|gT ?_
   refine AW.obj 2 (hAr (mapTo ageH (k + 1) x.htlcs)) (Eq.trans (b := AO.arr 117 7 ((rowsOf encHtlc (mapTo ageH k x.htlcs)).set k ((encHtlc { x.htlcs[k] with age := x.htlcs[k].age + 1 }).map PV.v))) rfl (congrArg (AO.arr 117 7) (rows_set.trans (congrArg (rowsOf encHtlc) (by rw [← mapTo_set _ hk];unfold ageH;rw [show min (x.htlcs[k].age + 1) 1125899906842624 = x.htlcs[k].age + 1 by have h := h2;simp only [decide_eq_true_eq] at h;omega]))))) ?_
   refine aL<|lgI Z<|lmI Z<|nG ?_
   refine ⟨k + 1,hk,by omega,⟨(iq rfl),trivial⟩,⟨rfl,trivial⟩,⟨rfl,rfl,trivial⟩,⟨rfl,rfl,rfl,rfl,trivial⟩⟩
  ·intro h2
   refine aK<|gB<|gT<|aL<|lgI Z<|lmI Z<|nG ?_
   refine ⟨k + 1,hk,by omega,⟨(iq rfl),trivial⟩,⟨(congrArg hAr (mapTo_skip ageH hk (by have h := h2;have q := hhm.2.2.2.1;simp only [decide_eq_false_iff_not] at h;unfold ageH;rw [show min (x.htlcs[k].age + 1) 1125899906842624 = x.htlcs[k].age by omega]))),trivial⟩,⟨rfl,rfl,trivial⟩,⟨rfl,rfl,rfl,rfl,trivial⟩⟩
 ·intro h1
  refine aE<|eT<|eT<|eB<|gA<|lmP Z<|lc Z<|lf 0 ty.F71_0 Z<|lf 3 ty.F34_3 Z<|loO ty.kd30 Z<|lnI ty.sl30 Z<|lmI Z<|nG<|aB ?_
  have hkeh : k = x.htlcs.length := by have h := h1;simp only [length_rowsOf,decide_eq_false_iff_not] at h;omega
  refine AW.obj 2 (hAr (x.htlcs.map ageH)) (congrArg hAr (by rw [hkeh,mapTo_all])) ?_
  refine AW.loopE [(0,.ptr 0 _ 0),(58,vI _ _)] [(0,.box _ _ [vI _ _,vI _ _,vI _ _,.own _,.own _,.own _,.own _,vI _ _]),(2,.arr _ _ _),(3,.arr _ _ _),(4,.arr _ _ _)] (D := Nat) (fun j => [(59,int (j : Int))]) (fun j => [(1,.arr 78 7 (rowsOf encChan (mapTo (fadeC x.tick) j x.chans)))]) (fun j => j ≤ x.chans.length) (fun j => x.chans.length - j) (0) (Nat.zero_le _) ⟨rfl,trivial⟩ ⟨(congrArg (fun l => AO.arr 78 7 (rowsOf encChan l)) (mapTo_zero (fadeC x.tick) x.chans).symm),trivial⟩ ⟨rfl,rfl,trivial⟩ ⟨rfl,rfl,rfl,rfl,trivial⟩ ?_
  intro j hI
  refine sL<|lbB Z<|nG<|aS ?_
  refine AW.cond rfl ?_ ?_
  ·intro h3
   refine aK<|gT<|aS<|aB<|sL ?_
   have hj : j < x.chans.length := by simpa [length_rowsOf] using h3
   have hcm := sm.chans _ (List.getElem_mem hj)
   refine lmI Z<|laI Z<|nA<|lmP Z<|lc Z<|lf 0 ty.F71_0 Z<|lf 0 ty.F34_0 Z<|loI ty.kd3 Z ?_
   refine lhI rfl ⟨rfl,by decide⟩<|lbB Z<|nG ?_
   refine AW.cond rfl ?_ ?_
   ·intro h4
    refine aF [18]<|pq 0 (qmP rfl)<|pq 1 (qc rfl)<|pq 2 (qf 0 ty.F71_0 rfl)<|pq 3 (qf 3 ty.F34_3 rfl)<|sq 4 (roO ty.kd30 rfl)<|pq 5 (qmX (vI _ _) rfl)<|fT [0,3,58,59,73,74] [.ptr 0 _ 0,vI _ _,vI _ _,vI _ _,.own _,vI _ _] [0,1,2,3,4] [.box _ _ [vI _ _,vI _ _,vI _ _,.own _,.own _,.own _,.own _,vI _ _],.arr _ _ _,.arr _ _ _,.arr _ _ _,.arr _ _ _] rfl Z<|pq 6 (qmP rfl)<|pq 7 (qc rfl)<|pq 8 (qf 0 ty.F71_0 rfl)<|pq 9 (qf 3 ty.F34_3 rfl)<|sq 10 (roO ty.kd30 rfl)<|vq 11 (rmI rfl)<|vq 12 (rj j ty.el30 rfl (by rw [length_rowsOf,mapTo_len _ _ _ (Nat.le_of_lt hj)];exact hj))<|vq 13 (rf 6 ty.F78_6 rfl)<|vq 14 (rd (x := vI _ _) (rd_load_arr rfl ty.kd3 rfl rfl rfl (rows_some (mapTo_get _ hj)) rfl) rfl)<|vst 15 rfl (zL Tryz.func91 (sscFade_e _) rfl) (.inr rfl)<|vq 16 (rj j ty.el30 rfl (by rw [length_rowsOf,mapTo_len _ _ _ (Nat.le_of_lt hj)];exact hj))<|vq 17 (rf 6 ty.F78_6 rfl)<|vst 18 rfl (zQ 1 [.v (.int .i64 (fade x.chans[j].score))] ty.co3 ty.inf3 rfl (rows_some (mapTo_get _ hj))) (.inl rfl)<|fD<|gB<|gT ?_
    refine AW.obj 1 (.arr 78 7 (rowsOf encChan (mapTo (fadeC x.tick) (j + 1) x.chans))) (Eq.trans (b := AO.arr 78 7 ((rowsOf encChan (mapTo (fadeC x.tick) j x.chans)).set j ((encChan { x.chans[j] with score := fade x.chans[j].score }).map PV.v))) rfl (congrArg (AO.arr 78 7) (rows_set.trans (congrArg (rowsOf encChan) (by rw [← mapTo_set _ hj];unfold fadeC;rw [if_pos (by simpa using h4)]))))) ?_
    refine aL<|lgI Z<|lmI Z<|nG ?_
    refine ⟨j + 1,hj,by omega,⟨(iq rfl),trivial⟩,⟨rfl,trivial⟩,⟨rfl,rfl,trivial⟩,⟨rfl,rfl,rfl,rfl,trivial⟩⟩
   ·intro h4
    refine aK<|gB<|gT<|aL<|lgI Z<|lmI Z<|nG ?_
    refine ⟨j + 1,hj,by omega,⟨(iq rfl),trivial⟩,⟨(congrArg (fun l => AO.arr 78 7 (rowsOf encChan l)) (mapTo_skip (fadeC x.tick) hj (if_neg (by simpa using h4)))),trivial⟩,⟨rfl,rfl,trivial⟩,⟨rfl,rfl,rfl,rfl,trivial⟩⟩
  ·intro h3
   refine aE<|eT<|eT<|eB ?_
   refine end_go ?_ ⟨rfl,(congrArg (fun l => AO.arr 78 7 (rowsOf encChan l)) (by rw [show j = x.chans.length by have h := h3;simp only [length_rowsOf,decide_eq_false_iff_not] at h;omega,mapTo_all];rfl)),rfl,rfl,rfl,trivial⟩
   rfl

theorem addOk_over {a b : Int} (ha : 0 ≤ a ∧ a ≤ 1125899906842624) (hb : 0 ≤ b ∧ b ≤ 1125899906842624) : addOk a b = !decide (1125899906842624 < a + b) := by
  unfold addOk
  rw [amtOk_true.2 ha,amtOk_true.2 hb,Bool.true_and,Bool.true_and]
  refine Bool.eq_iff_iff.2 ?_
  rw [amtOk_true]
  simp
  omega
theorem keys_nz {x : Book} (h : bookOk x = true) : (∀ h ∈ x.htlcs,h.key ≠ 0) ∧ ∀ h ∈ x.circles,h.key ≠ 0 := by
  obtain ⟨_,_,_,_,h5,_⟩ := bookOk_parts h
  have hk := (parts_all h5).2.2.2.2
  have key : ∀ n ∈ keysOf x,n ≠ 0 := fun n hn => by
    obtain ⟨j,hj,rfl⟩ := List.getElem_of_mem hn
    have := List.all_eq_true.1 hk j (by simpa using hj)
    unfold keyAt at this
    simp only [Bool.and_eq_true] at this
    intro q
    have h1 := this.1
    simp [hj,q,keyOk,inB] at h1
  unfold keysOf at key
  exact ⟨fun y hy => key _ (List.mem_append_left _ (List.mem_map_of_mem hy)),fun y hy => key _ (List.mem_append_right _ (List.mem_map_of_mem hy))⟩
theorem over_1 {x : Book} {e : Event} (hn : x.next ≠ 1125899906842624) (hk : e.kind = 1) : overB x e = decide (1125899906842624 < x.wallet + e.amt) := by unfold overB;rw [if_neg hn,if_pos hk]
theorem over_2 {x : Book} {e : Event} (hn : x.next ≠ 1125899906842624) (hk : e.kind = 2) : overB x e = decide (1125899906842624 < e.amt + e.fee) := by unfold overB;simp [hn,hk]
theorem over_3n {x : Book} {e : Event} (hn : x.next ≠ 1125899906842624) (hk : e.kind = 3) (hc : chanAt x.chans e.ch = -1) : overB x e = false := by unfold overB;simp [hn,hk,hc]
theorem over_3s {x : Book} {e : Event} {i : Nat} {c : Chan} (hn : x.next ≠ 1125899906842624) (hk : e.kind = 3) (hc : chanAt x.chans e.ch = (i : Int)) (ho : chanOr x.chans e.ch = c) : overB x e = decide (1125899906842624 < x.wallet + c.loc - e.fee) := by unfold overB;simp [hn,hk,hc,ho]
theorem over_8 {x : Book} {e : Event} (hn : x.next ≠ 1125899906842624) (hk : e.kind = 8) : overB x e = decide (x.tick = 1125899906842624) := by unfold overB;simp [hn,hk]
theorem over_o {x : Book} {e : Event} (hn : x.next ≠ 1125899906842624) (h1 : ¬ e.kind = 1) (h2 : ¬ e.kind = 2) (h3 : ¬ e.kind = 3) (h8 : ¬ e.kind = 8) : overB x e = false := by unfold overB;simp [hn,h1,h2,h3,h8]
def spR (x : Book) (e : Event) : WR := if overB x e = true then ⟨x,[],2⟩ else workR x e
theorem spR_over {x : Book} {e : Event} (h : overB x e = true) : (⟨x,[],2⟩ : WR) = spR x e := by unfold spR;rw [if_pos h]
theorem spR_work {x : Book} {e : Event} (h : overB x e = false) : workR x e = spR x e := by unfold spR;rw [if_neg (by simp [h])]
theorem spR_next (x : Book) (e : Event) : (spR x e).b.next = x.next := by unfold spR;split <;> first | rfl | exact workR_next x e
theorem applyC_sp {x : Book} {e : Event} (h : (bookOk x && eventOk e) = true) : applyC x e = (spR x e).c := by
  unfold applyC spR
  rw [if_pos h]
  split <;> rfl
theorem spR_c {x : Book} {e : Event} (h : (spR x e).c = 0) : overB x e = false ∧ spR x e = workR x e := by
  unfold spR at *
  split at h
  · exact absurd h (by show ¬ ((2 : Int) = 0);decide)
  · rename_i q
    exact ⟨by simpa using q,if_neg q⟩
theorem sp_next {x : Book} {e : Event} (h : x.next = 1125899906842624) : overB x e = true := by unfold overB;rw [if_pos h]
theorem sopen2_e (g : Value) (x : Book) (e : Event) (hsum : addOk e.amt e.fee = false) : GC Tryz.prog 37 [.ptr 0 0 0,evV e] (sIn g x [] 0) (.tup []) (sIn g x [] 2) := by
 refine GC.intro (rs := []) Tryz.func37 rfl Tryz.ntmps37 (Nat.le_of_ble_eq_true rfl) trivial ?_
 intro L O w0
 refine sL<|lst (zX 2003 Z) Z<|nA<|lf 4 ty.F41_4 Z<|loI ty.kd3 Z<|lf 5 ty.F41_5 Z<|loI ty.kd3 Z<|lst (zL Tryz.func35 (saddAmt_e _ _) Z) Z<|lmX (.tup [vI _ _,vB _]) Z<|lxI Z<|lxB Z<|lsB 18 false Z hsum<|laI Z<|laZ Z<|nG<|aS<|aS<|aF [3,23,35]<|pq 0 (qmP Z)<|vq 1 (rmZ Z)<|vq 2 (ruT Z) ?_
 refine vst 3 rfl (z5a Tryz.func34 (scode_e _ _ _ _ _ _ _ _ _ _ _ _ _ _ _ _ _ _ _ ) (⟨stays.box (Eq.refl 8),trivial⟩) rfl rfl) (.inl rfl)<|fsB 22 true rfl (by simp [failC])<|fT [0,3,4,22] [.ptr 0 _ 0,.ptr 2003 _ 0,vI _ _,vB true] [0,1,2,3,4,2003] [.box _ _ [vI _ _,vI _ _,vI _ _,.own _,.own _,.own _,.own _,vI _ _],.arr _ _ _,.arr _ _ _,.arr _ _ _,.arr _ _ _,.box _ _ [vI _ _,vI _ _,vI _ _,vI _ _,vI _ _,vI _ _,vB _]] rfl Z<|vq 4 (rmT rfl)<|pno 5 Z<|pno 6 Z<|pno 7 Z<|pno 8 Z<|pno 9 Z<|vno 10 Z<|vno 11 Z<|vno 12 Z<|vno 13 Z<|vno 14 Z<|vno 15 Z<|vno 16 Z<|vno 17 Z<|vno 18 Z<|vno 19 Z<|vno 20 Z<|vno 21 Z<|vno 22 Z<|vno 23 Z<|vq 24 (rkT rfl)<|vq 25 (rmT rfl)<|pno 26 Z<|pno 27 Z<|pno 28 Z<|pno 29 Z<|pno 30 rfl ?_
 refine pno 31 Z<|vno 32 Z<|vno 33 Z<|vno 34 Z<|vno 35 Z<|vq 36 (rkT Z)<|fD<|gT<|aY Z<|aR<|rT ?_
 refine end_ret ?_ ⟨rfl,rfl,rfl,rfl,rfl,trivial⟩
 rfl
theorem stick2_e (g : Value) (x : Book) (ht : x.tick = 1125899906842624) : GC Tryz.prog 42 [.ptr 0 0 0] (sIn g x [] 0) (.tup []) (sIn g x [] 2) := by
 refine GC.intro (rs := []) Tryz.func42 rfl Tryz.ntmps42 (Nat.le_of_ble_eq_true rfl) trivial ?_
 intro L O w0
 refine aS<|sL<|lmP Z<|lmP Z<|lc Z<|lf 0 ty.F71_0 Z<|lf 0 ty.F34_0 Z<|loI ty.kd3 Z<|lbB Z<|lsB 10 true rfl (by simpa using ht) ?_
 refine lst (z5a Tryz.func34 (scode_e _ _ _ _ _ _ _ _ _ _ _ _ _ _ _ _ _ _ _ ) (⟨stays.box (Eq.refl 8),trivial⟩) rfl rfl) Z<|lsB 11 true rfl (by rfl)<|nG<|aY Z<|aR<|rT ?_
 refine end_ret ?_ ⟨rfl,rfl,rfl,rfl,rfl,trivial⟩
 rfl
theorem sapply_e (x : Book) (e : Event) (hw : BookWf x) : GX Tryz.prog 6 [bookV x,evV e] [] (appR x e) := by
 refine GX.intro (rs := [.cell 4 34 (some 6),.cell 5 37 (some 2),.tmp 6]) Tryz.func6 rfl Tryz.ntmps6 (Nat.le_of_ble_eq_true rfl) ⟨rfl,rfl,ty.kd34,rfl,rfl,ty.kd37,rfl,trivial⟩ ?_
 intro L O w0
 refine sL<|lst (zX 2002 Z) Z<|lst (zX 2003 Z) Z<|lst (zA 2004 ty.ze34 Z) Z<|lst (zA 2005 ty.ze37 Z) Z<|laI Z<|nG<|aS<|sL<|loX (.agg [vI _ _,vI _ _,vI _ _,vL _ _ _,vL _ _ _,vL _ _ _]) ty.kd34 Z<|lst (zL Tryz.func31 (spec_BookOk_e x hw) Z) Z<|luB Z<|lmB Z ?_
 refine AL.bool (t := 16) rfl ?_ ?_
 ·intro h1
  refine lno Z<|lno Z<|lno Z<|lkT Z<|nG<|aY Z<|sL<|lq (rd (x := .agg [vI _ _,vI _ _,vI _ _,vV _,vV _,vV _]) (rd_build Z ty.sa34 Z Z Z) Z)<|lq (rd (x := .agg [vI _ _,vV _]) (rd_build Z ty.sa37 Z Z Z) Z)<|lst (zB 2004 ty.co34 ty.inf34 Z) Z<|lst (zB 2005 ty.co37 ty.inf37 Z) Z<|lT [2,3,4,5,6] [.ptr 2002 _ 0,.ptr 2003 _ 0,.ptr 2004 _ 0,.ptr 2005 _ 0,vI _ _] [2002,2003,2004,2005] [.box _ _ [vI _ _,vI _ _,vI _ _,vL _ _ _,vL _ _ _,vL _ _ _],.box _ _ [vI _ _,vI _ _,vI _ _,vI _ _,vI _ _,vI _ _,vB _],.box _ _ [vI _ _,vI _ _,vI _ _,vV _,vV _,vV _],.box _ _ [vI _ _,vV _]] Z Z<|laI Z<|nG<|aR<|rT ?_
  have hbe : (bookOk x && eventOk e) = false := by simp_all
  have hc1 := applyC_bad hbe
  refine end_xret (.tup [zBookV,zPostV,int 1]) [] ?_ rfl trivial
  exact .inl ⟨by rw [hc1];decide,by rw [hc1],rfl⟩
 ·intro h1
  refine loX (.agg [vI _ _,vI _ _,vI _ _,vI _ _,vI _ _,vI _ _,vB _]) ty.kd41 Z<|lst (zL Tryz.func32 (seventOk_e e) Z) Z<|luB Z<|lkB Z<|nG ?_
  refine AW.cond rfl ?_ ?_
  ·intro h2
   refine sL<|lq (rd (x := .agg [vI _ _,vI _ _,vI _ _,vV _,vV _,vV _]) (rd_build Z ty.sa34 Z Z Z) Z)<|lq (rd (x := .agg [vI _ _,vV _]) (rd_build Z ty.sa37 Z Z Z) Z)<|lst (zB 2004 ty.co34 ty.inf34 Z) Z<|lst (zB 2005 ty.co37 ty.inf37 Z) Z<|laI Z<|nG<|aR<|rT ?_
   have hbe : (bookOk x && eventOk e) = false := by simp_all
   have hc1 := applyC_bad hbe
   refine end_xret (.tup [zBookV,zPostV,int 1]) [] ?_ rfl trivial
   exact .inl ⟨by rw [hc1];decide,by rw [hc1],rfl⟩
  ·intro h2
   refine aK<|gA ?_
   have hbe : (bookOk x && eventOk e) = true := by simp_all
   have hbk : bookOk x = true := by simp_all
   have hev : eventOk e = true := by simp_all
   have fi := bookOk_fi hbk
   have sm := fi.sm
   obtain ⟨es,an0,fn0⟩ := evSm_of hev
   have hm : x.chans.length ≤ 1000000000 := by have := sm.lc;omega
   obtain ⟨h_t,h_w,h_n,h_len,h_pt,h_ch⟩ := bookOk_parts hbk
   have hnx := inB_true.1 h_n
   have hwl := amtOk_true.1 h_w
   have hcs := applyC_sp hbe
   have hkk := ev_kind hev
   have hea := evAmt hev
   refine loX (.agg [vI _ _,vI _ _,vI _ _,vL _ _ _,vL _ _ _,vL _ _ _]) ty.kd34 Z<|lst (zC [(2003,1),(2008,2),(2013,3)] [1,2,3] [] Tryz.func33 (scopy_e x (by have := sm.lc;have := sm.lh;have := sm.li;omega)) (trivial) rfl rfl) Z<|lq (rd (x := .agg [vI _ _,vI _ _,vI _ _,.own _,.own _,.own _,vV _,vI _ _]) (rd_build rfl ty.sa71 rfl rfl rfl) rfl)<|lst (zX 0 rfl) Z<|lT [2,3,4,5,6,26] [.ptr 2002 _ 0,.ptr 2003 _ 0,.ptr 2004 _ 0,.ptr 2005 _ 0,vI _ _,.ptr 0 _ 0] [0,1,2,3,2002,2003,2004,2005] [.box _ _ [vI _ _,vI _ _,vI _ _,.own _,.own _,.own _,vV _,vI _ _],.arr _ _ _,.arr _ _ _,.arr _ _ _,.box _ _ [vI _ _,vI _ _,vI _ _,vL _ _ _,vL _ _ _,vL _ _ _],.box _ _ [vI _ _,vI _ _,vI _ _,vI _ _,vI _ _,vI _ _,vB _],.box _ _ [vI _ _,vI _ _,vI _ _,vV _,vV _,vV _],.box _ _ [vI _ _,vV _]] rfl Z<|laP Z<|nG ?_
   refine AW.adoptB 4 0 6 109 3 rfl (by decide) rfl ?_
   refine AW.pinB 0 rfl ?_
   intro gw
   refine AW.obj 4 (lAr []) rfl ?_
   refine sL<|lmP Z<|lf 1 ty.F34_1 Z<|loI ty.kd3 Z<|lbB Z ?_
   refine lst (z5a Tryz.func34 (scode_e _ _ _ _ _ _ _ _ _ _ _ _ _ _ _ _ _ _ _ ) (⟨stays.box (Eq.refl 8),trivial⟩) rfl rfl) Z<|nG ?_
   refine AW.seqE [(4,.ptr 2004 _ 0),(5,.ptr 2005 _ 0),(6,vI _ _),(7,.ptr 0 _ 0)] [(2002,.box _ _ [vI _ _,vI _ _,vI _ _,vL _ _ _,vL _ _ _,vL _ _ _]),(2003,.box _ _ [vI _ _,vI _ _,vI _ _,vI _ _,vI _ _,vI _ _,vB _]),(2004,.box _ _ [vI _ _,vI _ _,vI _ _,vV _,vV _,vV _]),(2005,.box _ _ [vI _ _,vV _])] (D := Unit) (fun jd => []) (fun jd => [(0,sBox gw (spR x e).b.tick (spR x e).b.next (spR x e).b.wallet (spR x e).c),(1,.arr 78 7 (rowsOf encChan (spR x e).b.chans)),(2,hAr (spR x e).b.htlcs),(3,iAr (spR x e).b.circles),(4,lAr (spR x e).l)]) (fun jd => True) ⟨rfl,rfl,rfl,rfl,trivial⟩ ⟨rfl,rfl,rfl,rfl,trivial⟩ ?_ ?_
   ·refine sL<|lmP Z<|lc Z<|lf 7 ty.F71_2 Z<|loI ty.kd3 Z<|lbB Z<|nG ?_
    refine AW.cond rfl ?_ ?_
    ·intro h3
     refine aS ?_
     have hnn : x.next ≠ 1125899906842624 := fun q => by
       have h := h3
       rw [decide_eq_true q] at h
       simp [failC] at h
     refine AW.obj 0 (sBox gw x.tick x.next x.wallet 0) (Eq.trans (b := sBox gw x.tick x.next x.wallet _) rfl (congrArg (sBox gw x.tick x.next x.wallet) (by rw [decide_eq_false hnn];rfl))) ?_
     refine aL<|lf 0 ty.F41_0 Z<|loI ty.kd3 Z<|nG<|aB<|sL<|lbB Z<|laB Z<|nG ?_
     refine AW.cond rfl ?_ ?_
     ·intro h4
      refine sL<|lf 2 ty.F34_2 Z<|loI ty.kd3 Z<|lf 4 ty.F41_4 Z<|loI ty.kd3 Z<|lst (zL Tryz.func35 (saddAmt_e _ _) Z) Z<|lT [3,4,5,6,7,46] [.ptr 2003 _ 0,.ptr 2004 _ 0,.ptr 2005 _ 0,vI _ _,.ptr 0 _ 0,.tup [vI _ _,vB _]] [0,1,2,3,4,2002,2003,2004,2005] [.box _ _ [vI _ _,vI _ _,vI _ _,.own _,.own _,.own _,.own _,vI _ _],.arr _ _ _,.arr _ _ _,.arr _ _ _,.arr _ _ _,.box _ _ [vI _ _,vI _ _,vI _ _,vL _ _ _,vL _ _ _,vL _ _ _],.box _ _ [vI _ _,vI _ _,vI _ _,vI _ _,vI _ _,vI _ _,vB _],.box _ _ [vI _ _,vI _ _,vI _ _,vV _,vV _,vV _],.box _ _ [vI _ _,vV _]] Z Z<|lmX (.tup [vI _ _,vB _]) Z<|lxI Z<|lxB Z<|laI Z<|laB Z<|nA<|lmP Z<|lmB Z<|luB Z ?_
      refine lst (z5a Tryz.func34 (scode_e _ _ _ _ _ _ _ _ _ _ _ _ _ _ _ _ _ _ _ ) (⟨stays.box (Eq.refl 8),trivial⟩) rfl rfl) Z<|luB Z<|nG ?_
      refine AW.cond rfl ?_ ?_
      ·intro h5
       refine aS ?_
       have haO : addOk x.wallet e.amt = true := by
         have h := h5
         rcases q : addOk x.wallet e.amt with _ | _
         ·rw [q] at h;simp [failC] at h
         ·rfl
       refine aL<|lmP Z<|lmI Z<|lsN 55 (x.wallet + e.amt) Z (addV_yes haO)<|lc Z<|lf 0 ty.F71_0 Z<|lf 2 ty.F34_2 Z<|lst (zB 0 ty.co3 ty.inf3 Z) Z<|lT [3,4,5,6,7] [.ptr 2003 _ 0,.ptr 2004 _ 0,.ptr 2005 _ 0,vI _ _,.ptr 0 _ 0] [0,1,2,3,4,2002,2003,2004,2005] [.box _ _ [vI _ _,vI _ _,vI _ _,.own _,.own _,.own _,.own _,vI _ _],.arr _ _ _,.arr _ _ _,.arr _ _ _,.arr _ _ _,.box _ _ [vI _ _,vI _ _,vI _ _,vL _ _ _,vL _ _ _,vL _ _ _],.box _ _ [vI _ _,vI _ _,vI _ _,vI _ _,vI _ _,vI _ _,vB _],.box _ _ [vI _ _,vI _ _,vI _ _,vV _,vV _,vV _],.box _ _ [vI _ _,vV _]] Z Z<|nA<|lmP Z<|lf 4 ty.F41_4 Z<|loI ty.kd3 Z ?_
       refine lst (z5a Tryz.func36 (sline_e _ _ _ _ _ _ _ _ _ _ _ _ _ _ ([]) 0 (LG.nil) (by decide) _ _ _ (Fresh.nil _ _) (rangeA_of es.amt)) (⟨stays.box (Eq.refl 8),trivial⟩) rfl rfl) Z<|nG<|aL<|lmP Z<|lf 4 ty.F41_4 Z<|loI ty.kd3 Z<|lq (rd (x := vI _ _) (rd_un rfl rfl (fits_i64 (by have := es.amt;unfold A50 at *;unfold i64;omega))) rfl) ?_
       refine lst (z5a Tryz.func36 (sline_e _ _ _ _ _ _ _ _ _ _ _ _ _ _ (addL [] 1 0 e.amt) 1 (LG.nil.add (rangeA_of es.amt)) (by decide) _ _ _ ((Fresh.nil _ _).add (.inl (by decide))) (rangeA_neg es.amt)) (⟨stays.box (Eq.refl 8),trivial⟩) rfl rfl) Z<|lN<|gB<|gT ?_
       have hkd : e.kind = 1 := by simpa using h4
       have hov : overB x e = false := by
         have h := h5
         rw [over_1 hnn hkd]
         rw [addOk_over hwl ⟨an0,(amtOk_true.1 hea.1).2⟩] at h
         rcases q : decide (1125899906842624 < x.wallet + e.amt) with _ | _
         ·(rw [q] at h) <;> first | rfl | (simp [failC] at h)
         ·(rw [q] at h) <;> first | rfl | (simp [failC] at h)
       have hw : depR x e = spR x e := (wk1 hkd).trans (spR_work hov)
       refine ⟨(),trivial,trivial,⟨(Eq.trans (b := sBox gw x.tick x.next (x.wallet + e.amt) 0) (Eq.trans (b := sBox gw x.tick x.next (x.wallet + e.amt) _) rfl (congrArg (sBox gw x.tick x.next (x.wallet + e.amt)) (by rw [show addOk x.wallet e.amt = true by rw [addOk_over hwl ⟨an0,(amtOk_true.1 hea.1).2⟩,← over_1 hnn hkd,hov];rfl];rfl))) (congrArg (fun r : WR => sBox gw r.b.tick r.b.next r.b.wallet r.c) hw)),(congrArg (fun r : WR => AO.arr 78 7 (rowsOf encChan r.b.chans)) hw),(congrArg (fun r : WR => hAr r.b.htlcs) hw),(congrArg (fun r : WR => iAr r.b.circles) hw),(congrArg (fun r : WR => lAr r.l) hw),trivial⟩,⟨rfl,rfl,rfl,rfl,trivial⟩,⟨rfl,rfl,rfl,rfl,trivial⟩⟩
      ·intro h5
       refine aK<|gB<|gT ?_
       have hkd : e.kind = 1 := by simpa using h4
       have hov : overB x e = true := by
         have h := h5
         rw [over_1 hnn hkd]
         rw [addOk_over hwl ⟨an0,(amtOk_true.1 hea.1).2⟩] at h
         rcases q : decide (1125899906842624 < x.wallet + e.amt) with _ | _
         ·(rw [q] at h) <;> first | rfl | (simp [failC] at h)
         ·(rw [q] at h) <;> first | rfl | (simp [failC] at h)
       have hw : (⟨x,[],2⟩ : WR) = spR x e := spR_over hov
       refine ⟨(),trivial,trivial,⟨(Eq.trans (b := sBox gw x.tick x.next x.wallet 2) (Eq.trans (b := sBox gw x.tick x.next x.wallet _) rfl (congrArg (sBox gw x.tick x.next x.wallet) (by first | rfl | (rw [show addOk x.wallet e.amt = false by rw [addOk_over hwl ⟨an0,(amtOk_true.1 hea.1).2⟩,← over_1 hnn hkd,hov];rfl];rfl)))) (congrArg (fun r : WR => sBox gw r.b.tick r.b.next r.b.wallet r.c) hw)),(congrArg (fun r : WR => AO.arr 78 7 (rowsOf encChan r.b.chans)) hw),(congrArg (fun r : WR => hAr r.b.htlcs) hw),(congrArg (fun r : WR => iAr r.b.circles) hw),(congrArg (fun r : WR => lAr r.l) hw),trivial⟩,⟨rfl,rfl,rfl,rfl,trivial⟩,⟨rfl,rfl,rfl,rfl,trivial⟩⟩
     ·intro h4
      refine sL<|lbB Z<|laB Z<|nG ?_
      refine AW.cond rfl ?_ ?_
      ·intro h6
       refine aL<|lmP Z ?_
       rcases hsum : addOk e.amt e.fee with _ | _
       ·skip
        refine loX (.agg [vI _ _,vI _ _,vI _ _,vI _ _,vI _ _,vI _ _,vB _]) ty.kd41 rfl ?_
        refine lst (z5a Tryz.func37 (sopen2_e _ x e hsum) (⟨stays.box (Eq.refl 8),trivial⟩) rfl rfl) Z<|lT [4,5,6,7] [.ptr 2004 _ 0,.ptr 2005 _ 0,vI _ _,.ptr 0 _ 0] [0,1,2,3,4,2002,2003,2004,2005] [.box _ _ [vI _ _,vI _ _,vI _ _,.own _,.own _,.own _,.own _,vI _ _],.arr _ _ _,.arr _ _ _,.arr _ _ _,.arr _ _ _,.box _ _ [vI _ _,vI _ _,vI _ _,vL _ _ _,vL _ _ _,vL _ _ _],.box _ _ [vI _ _,vI _ _,vI _ _,vI _ _,vI _ _,vI _ _,vB _],.box _ _ [vI _ _,vI _ _,vI _ _,vV _,vV _,vV _],.box _ _ [vI _ _,vV _]] rfl Z<|lN<|gB<|gT ?_
        have hkd : e.kind = 2 := by simpa using h6
        have hov : overB x e = true := by
          rw [over_2 hnn hkd]
          rw [addOk_over ⟨an0,(amtOk_true.1 hea.1).2⟩ ⟨fn0,(amtOk_true.1 hea.2).2⟩] at hsum
          simpa using hsum
        have hw : (⟨x,[],2⟩ : WR) = spR x e := spR_over hov
        refine ⟨(),trivial,trivial,⟨(Eq.trans (b := sBox gw x.tick x.next x.wallet 2) rfl (congrArg (fun r : WR => sBox gw r.b.tick r.b.next r.b.wallet r.c) hw)),(congrArg (fun r : WR => AO.arr 78 7 (rowsOf encChan r.b.chans)) hw),(congrArg (fun r : WR => hAr r.b.htlcs) hw),(congrArg (fun r : WR => iAr r.b.circles) hw),(congrArg (fun r : WR => lAr r.l) hw),trivial⟩,⟨rfl,rfl,rfl,rfl,trivial⟩,⟨rfl,rfl,rfl,rfl,trivial⟩⟩
       ·skip
        refine loX (.agg [vI _ _,vI _ _,vI _ _,vI _ _,vI _ _,vI _ _,vB _]) ty.kd41 rfl ?_
        refine lst (z5a Tryz.func37 (sopen_e _ x e sm es hsum) (⟨stays.box (Eq.refl 8),trivial⟩) rfl rfl) Z<|lN<|gB<|gT ?_
        have hkd : e.kind = 2 := by simpa using h6
        have hov : overB x e = false := by
          rw [over_2 hnn hkd]
          rw [addOk_over ⟨an0,(amtOk_true.1 hea.1).2⟩ ⟨fn0,(amtOk_true.1 hea.2).2⟩] at hsum
          simpa using hsum
        have hw : openR x e = spR x e := (wk2 hkd).trans (spR_work hov)
        refine ⟨(),trivial,trivial,⟨(congrArg (fun r : WR => sBox gw r.b.tick r.b.next r.b.wallet r.c) hw),(congrArg (fun r : WR => AO.arr 78 7 (rowsOf encChan r.b.chans)) hw),(congrArg (fun r : WR => hAr r.b.htlcs) hw),(congrArg (fun r : WR => iAr r.b.circles) hw),(congrArg (fun r : WR => lAr r.l) hw),trivial⟩,⟨rfl,rfl,rfl,rfl,trivial⟩,⟨rfl,rfl,rfl,rfl,trivial⟩⟩
      ·intro h6
       refine sL<|lbB Z<|laB Z<|nG ?_
       refine AW.cond rfl ?_ ?_
       ·intro h7
        refine sL<|loX (.agg [vI _ _,vI _ _,vI _ _,vL _ _ _,vL _ _ _,vL _ _ _]) ty.kd34 Z<|lf 2 ty.F41_2 Z<|loI ty.kd3 Z ?_
        rcases chan_find x.chans e.ch with ⟨hi,ho⟩ | ⟨i,c,hi,hc,ho,hid⟩
        ·skip
         refine lst (zL Tryz.func38 (sAt_e x _ hm) rfl) Z<|laI Z<|nG<|aS<|sL<|lmI Z<|lbB Z<|lsB 80 false rfl (by rw [show atI (fun c => c.id == e.ch) x.chans = _ from hi];simp)<|nG<|aN Z<|aK<|gA<|lmP Z<|lc Z<|lf 7 ty.F71_2 Z<|loI ty.kd3 Z<|lbB Z<|lsB 100 true rfl (by rfl)<|nG<|aY Z<|aL<|lmP Z<|loX (.agg [vI _ _,vI _ _,vI _ _,vI _ _,vI _ _,vI _ _,vB _]) ty.kd41 rfl ?_
         refine lst (z5a Tryz.func39 (sshut_e _ x e fi es fn0) (⟨stays.box (Eq.refl 8),trivial⟩) rfl rfl) Z<|lT [4,5,6,7] [.ptr 2004 _ 0,.ptr 2005 _ 0,vI _ _,.ptr 0 _ 0] [0,1,2,3,4,2002,2003,2004,2005] [.box _ _ [vI _ _,vI _ _,vI _ _,.own _,.own _,.own _,.own _,vI _ _],.arr _ _ _,.arr _ _ _,.arr _ _ _,.arr _ _ _,.box _ _ [vI _ _,vI _ _,vI _ _,vL _ _ _,vL _ _ _,vL _ _ _],.box _ _ [vI _ _,vI _ _,vI _ _,vI _ _,vI _ _,vI _ _,vB _],.box _ _ [vI _ _,vI _ _,vI _ _,vV _,vV _,vV _],.box _ _ [vI _ _,vV _]] rfl Z<|lN<|gB<|gT ?_
         have hkd : e.kind = 3 := by simpa using h7
         have hov : overB x e = false := over_3n hnn hkd hi
         have hw : shutR x e = spR x e := (wk3 hkd).trans (spR_work hov)
         refine ⟨(),trivial,trivial,⟨(congrArg (fun r : WR => sBox gw r.b.tick r.b.next r.b.wallet r.c) hw),(congrArg (fun r : WR => AO.arr 78 7 (rowsOf encChan r.b.chans)) hw),(congrArg (fun r : WR => hAr r.b.htlcs) hw),(congrArg (fun r : WR => iAr r.b.circles) hw),(congrArg (fun r : WR => lAr r.l) hw),trivial⟩,⟨rfl,rfl,rfl,rfl,trivial⟩,⟨rfl,rfl,rfl,rfl,trivial⟩⟩
        ·have hcm := sm.chans c (mem_of_get hc)
         refine lst (zL Tryz.func38 (sAt_e x _ hm) rfl) Z<|laI Z<|nG<|aS<|sL<|lmI Z<|lbB Z<|lsB 80 true rfl (by rw [show atI (fun c => c.id == e.ch) x.chans = _ from hi];simp)<|nG<|aY Z<|aF [14]<|pq 0 (qmP rfl)<|pq 1 (qf 2 ty.F34_2 rfl)<|sq 2 (roI ty.kd3 rfl)<|pq 3 (qf 3 ty.F34_3 rfl)<|sq 4 (roL ty.kd30 rfl)<|pq 5 (qmX (vI _ _) rfl)<|sq 6 (rd (x := .rp _) (rd_iaddr_p (i := i) rfl ty.el30 rfl rfl ?hn1 (rows_some hc)) rfl) ?_
         case hn1 => rw [← chanAt_atI];exact hi
         refine pq 7 (qd (x := .rp _) (zpfr ty.F78_2 Z) Z)<|sq 8 (rrI ty.kd3 Z) ?_
         refine sq 9 (rhI rfl ⟨rfl,fits_i64 (by have := hcm.1;have := es.amt;have := es.fee;have := sm.wallet;unfold A50 at *;unfold i64;omega)⟩)<|vq 10 (rf 5 ty.F41_5 rfl)<|vq 11 (roI ty.kd3 rfl) ?_
         refine vq 12 (rhI rfl ⟨rfl,fits_i64 (by have := hcm.1;have := es.amt;have := es.fee;have := sm.wallet;unfold A50 at *;unfold i64;omega)⟩)<|vq 13 (rbB rfl) ?_
         refine vst 14 rfl (z5a Tryz.func34 (scode_e _ _ _ _ _ _ _ _ _ _ _ _ _ _ _ _ _ _ _ ) (⟨stays.box (Eq.refl 8),trivial⟩) rfl rfl) (.inl rfl)<|fT [3,4,5,6,7] [.ptr 2003 _ 0,.ptr 2004 _ 0,.ptr 2005 _ 0,vI _ _,.ptr 0 _ 0] [0,1,2,3,4,2002,2003,2004,2005] [.box _ _ [vI _ _,vI _ _,vI _ _,.own _,.own _,.own _,.own _,vI _ _],.arr _ _ _,.arr _ _ _,.arr _ _ _,.arr _ _ _,.box _ _ [vI _ _,vI _ _,vI _ _,vL _ _ _,vL _ _ _,vL _ _ _],.box _ _ [vI _ _,vI _ _,vI _ _,vI _ _,vI _ _,vI _ _,vB _],.box _ _ [vI _ _,vI _ _,vI _ _,vV _,vV _,vV _],.box _ _ [vI _ _,vV _]] rfl Z<|fD<|gA<|lmP Z<|lc Z<|lf 7 ty.F71_2 Z<|loI ty.kd3 Z<|lbB Z<|nG ?_
         refine AW.cond rfl ?_ ?_
         ·intro h8
          refine AW.obj 0 (sBox gw x.tick x.next x.wallet 0) (Eq.trans (b := sBox gw x.tick x.next x.wallet _) rfl (congrArg (sBox gw x.tick x.next x.wallet) (by have h := h8;simp only [decide_eq_true_eq] at h;exact h))) ?_
          refine aL<|lmP Z<|loX (.agg [vI _ _,vI _ _,vI _ _,vI _ _,vI _ _,vI _ _,vB _]) ty.kd41 Z ?_
          refine lst (z5a Tryz.func39 (sshut_e _ x e fi es fn0) (⟨stays.box (Eq.refl 8),trivial⟩) rfl rfl) Z<|lN<|gB<|gT ?_
          have hkd : e.kind = 3 := by simpa using h7
          have hov : overB x e = false := by
            have h := h8
            rw [over_3s hnn hkd hi ho]
            rcases q : decide (1125899906842624 < x.wallet + c.loc - e.fee) with _ | _
            ·(rw [q] at h) <;> first | rfl | (simp [failC] at h)
            ·(rw [q] at h) <;> first | rfl | (simp [failC] at h)
          have hw : shutR x e = spR x e := (wk3 hkd).trans (spR_work hov)
          refine ⟨(),trivial,trivial,⟨(congrArg (fun r : WR => sBox gw r.b.tick r.b.next r.b.wallet r.c) hw),(congrArg (fun r : WR => AO.arr 78 7 (rowsOf encChan r.b.chans)) hw),(congrArg (fun r : WR => hAr r.b.htlcs) hw),(congrArg (fun r : WR => iAr r.b.circles) hw),(congrArg (fun r : WR => lAr r.l) hw),trivial⟩,⟨rfl,rfl,rfl,rfl,trivial⟩,⟨rfl,rfl,rfl,rfl,trivial⟩⟩
         ·intro h8
          refine aK<|gB<|gT ?_
          have hkd : e.kind = 3 := by simpa using h7
          have hov : overB x e = true := by
            have h := h8
            rw [over_3s hnn hkd hi ho]
            rcases q : decide (1125899906842624 < x.wallet + c.loc - e.fee) with _ | _
            ·(rw [q] at h) <;> first | rfl | (simp [failC] at h)
            ·(rw [q] at h) <;> first | rfl | (simp [failC] at h)
          have hw : (⟨x,[],2⟩ : WR) = spR x e := spR_over hov
          refine ⟨(),trivial,trivial,⟨(Eq.trans (b := sBox gw x.tick x.next x.wallet 2) (Eq.trans (b := sBox gw x.tick x.next x.wallet _) rfl (congrArg (sBox gw x.tick x.next x.wallet) (by rw [← over_3s hnn hkd hi ho,hov];rfl))) (congrArg (fun r : WR => sBox gw r.b.tick r.b.next r.b.wallet r.c) hw)),(congrArg (fun r : WR => AO.arr 78 7 (rowsOf encChan r.b.chans)) hw),(congrArg (fun r : WR => hAr r.b.htlcs) hw),(congrArg (fun r : WR => iAr r.b.circles) hw),(congrArg (fun r : WR => lAr r.l) hw),trivial⟩,⟨rfl,rfl,rfl,rfl,trivial⟩,⟨rfl,rfl,rfl,rfl,trivial⟩⟩
       ·intro h7
        refine sL<|lbB Z<|laB Z<|nG ?_
        refine AW.cond rfl ?_ ?_
        ·intro h9
         refine sL<|loX (.agg [vI _ _,vI _ _,vI _ _,vL _ _ _,vL _ _ _,vL _ _ _]) ty.kd34 Z<|lf 2 ty.F41_2 Z<|loI ty.kd3 Z ?_
         rcases chan_find x.chans e.ch with ⟨hi,ho⟩ | ⟨i,c,hi,hc,ho,hid⟩
         ·skip
          refine lst (zL Tryz.func38 (sAt_e x _ hm) rfl) Z<|lT [3,4,5,6,7,109] [.ptr 2003 _ 0,.ptr 2004 _ 0,.ptr 2005 _ 0,vI _ _,.ptr 0 _ 0,vI _ _] [0,1,2,3,4,2002,2003,2004,2005] [.box _ _ [vI _ _,vI _ _,vI _ _,.own _,.own _,.own _,.own _,vI _ _],.arr _ _ _,.arr _ _ _,.arr _ _ _,.arr _ _ _,.box _ _ [vI _ _,vI _ _,vI _ _,vL _ _ _,vL _ _ _,vL _ _ _],.box _ _ [vI _ _,vI _ _,vI _ _,vI _ _,vI _ _,vI _ _,vB _],.box _ _ [vI _ _,vI _ _,vI _ _,vV _,vV _,vV _],.box _ _ [vI _ _,vV _]] rfl Z<|laI Z<|nA<|lmP Z<|lmI Z<|lbB Z<|lsB 112 true rfl (by rw [show atI (fun c => c.id == e.ch) x.chans = _ from hi];simp) ?_
          refine lst (z5a Tryz.func34 (scode_e _ _ _ _ _ _ _ _ _ _ _ _ _ _ _ _ _ _ _ ) (⟨stays.box (Eq.refl 8),trivial⟩) rfl rfl) Z<|lsB 113 true rfl (by rfl)<|luZ Z<|nG<|aN Z<|aK<|gB<|gT ?_
          have hkd : e.kind = 4 := by simpa using h9
          have hov : overB x e = false := over_o hnn (by omega) (by omega) (by omega) (by omega)
          have hw : priR x e = spR x e := (wk4 hkd).trans (spR_work hov)
          rw [priR_no hi] at hw
          refine ⟨(),trivial,trivial,⟨(congrArg (fun r : WR => sBox gw r.b.tick r.b.next r.b.wallet r.c) hw),(congrArg (fun r : WR => AO.arr 78 7 (rowsOf encChan r.b.chans)) hw),(congrArg (fun r : WR => hAr r.b.htlcs) hw),(congrArg (fun r : WR => iAr r.b.circles) hw),(congrArg (fun r : WR => lAr r.l) hw),trivial⟩,⟨rfl,rfl,rfl,rfl,trivial⟩,⟨rfl,rfl,rfl,rfl,trivial⟩⟩
         ·have hcm := sm.chans c (mem_of_get hc)
          refine lst (zL Tryz.func38 (sAt_e x _ hm) rfl) Z<|laI Z<|nA<|lmP Z<|lmI Z<|lbB Z<|lsB 112 false rfl (by rw [show atI (fun c => c.id == e.ch) x.chans = _ from hi];simp) ?_
          refine lst (z5a Tryz.func34 (scode_e _ _ _ _ _ _ _ _ _ _ _ _ _ _ _ _ _ _ _ ) (⟨stays.box (Eq.refl 8),trivial⟩) rfl rfl) Z<|lsB 113 false rfl (by rfl)<|luT Z<|nG<|aY Z<|aS<|aF [10]<|pq 0 (qmP rfl)<|pq 1 (qc rfl)<|pq 2 (qf 0 ty.F71_0 rfl)<|pq 3 (qf 3 ty.F34_3 rfl)<|sq 4 (roO ty.kd30 rfl)<|pq 5 (qmX (vI _ _) rfl)<|vq 6 (rf 4 ty.F41_4 rfl)<|vq 7 (roI ty.kd3 rfl)<|vq 8 (rd (x := .ptr 1 _ 0) (rd_iaddr_own (i := i) rfl ty.el30 rfl rfl rfl ?hn2 (by rw [length_rowsOf];exact (List.getElem?_eq_some_iff.1 hc).1)) rfl) ?_
          case hn2 => rw [← chanAt_atI];exact hi
          refine vq 9 (rf 4 ty.F78_4 Z)<|vst 10 Z (zQ 1 [.v (.int .i64 e.amt)] ty.co3 ty.inf3 Z (rows_some hc)) (.inl Z)<|fT [3,4,5,6,7,11] [.ptr 2003 _ 0,.ptr 2004 _ 0,.ptr 2005 _ 0,vI _ _,.ptr 0 _ 0,vI _ _] [0,1,2,3,4,2002,2003,2004,2005] [.box _ _ [vI _ _,vI _ _,vI _ _,.own _,.own _,.own _,.own _,vI _ _],.arr _ _ _,.arr _ _ _,.arr _ _ _,.arr _ _ _,.box _ _ [vI _ _,vI _ _,vI _ _,vL _ _ _,vL _ _ _,vL _ _ _],.box _ _ [vI _ _,vI _ _,vI _ _,vI _ _,vI _ _,vI _ _,vB _],.box _ _ [vI _ _,vI _ _,vI _ _,vV _,vV _,vV _],.box _ _ [vI _ _,vV _]] Z Z<|fD<|gT ?_
          refine AW.obj 1 (AO.arr 78 7 (rowsOf encChan (x.chans.set i { c with base := e.amt }))) (Eq.trans (b := AO.arr 78 7 ((rowsOf encChan (x.chans)).set i ((encChan { c with base := e.amt }).map PV.v))) rfl (congrArg (AO.arr 78 7) (rows_set))) ?_
          refine aF [10]<|pq 0 (qmP rfl)<|pq 1 (qc rfl)<|pq 2 (qf 0 ty.F71_0 rfl)<|pq 3 (qf 3 ty.F34_3 rfl)<|sq 4 (roO ty.kd30 rfl)<|pq 5 (qmX (vI _ _) rfl)<|vq 6 (rf 5 ty.F41_5 rfl)<|vq 7 (roI ty.kd3 rfl)<|vq 8 (rd (x := .ptr 1 _ 0) (rd_iaddr_own (i := i) rfl ty.el30 rfl rfl rfl ?hn3 (by rw [length_rowsOf,List.length_set];exact (List.getElem?_eq_some_iff.1 hc).1)) rfl) ?_
          case hn3 => rw [← chanAt_atI];exact hi
          refine vq 9 (rf 5 ty.F78_5 Z)<|vst 10 Z (zQ 1 [.v (.int .i64 e.fee)] ty.co3 ty.inf3 Z (rows_some (set_get_eq hc { c with base := e.amt }))) (.inl Z)<|fD<|gB<|gT ?_
          have hkd : e.kind = 4 := by simpa using h9
          have hov : overB x e = false := over_o hnn (by omega) (by omega) (by omega) (by omega)
          have hw : priR x e = spR x e := (wk4 hkd).trans (spR_work hov)
          rw [priR_yes hi] at hw
          refine ⟨(),trivial,trivial,⟨(congrArg (fun r : WR => sBox gw r.b.tick r.b.next r.b.wallet r.c) hw),(Eq.trans (Eq.trans (b := AO.arr 78 7 ((rowsOf encChan (x.chans.set i { c with base := e.amt })).set i ((encChan { c with base := e.amt,ppm := e.fee }).map PV.v))) rfl (congrArg (AO.arr 78 7) (rows_set.trans (congrArg (rowsOf encChan) (by rw [List.set_set,set_upd fi.ids hc (fun c => { c with base := e.amt,ppm := e.fee }),hid]))))) (congrArg (fun r : WR => AO.arr 78 7 (rowsOf encChan r.b.chans)) hw)),(congrArg (fun r : WR => hAr r.b.htlcs) hw),(congrArg (fun r : WR => iAr r.b.circles) hw),(congrArg (fun r : WR => lAr r.l) hw),trivial⟩,⟨rfl,rfl,rfl,rfl,trivial⟩,⟨rfl,rfl,rfl,rfl,trivial⟩⟩
        ·intro h9
         refine sL<|lbB Z<|laB Z<|nG ?_
         refine AW.cond rfl ?_ ?_
         ·intro h10
          refine aL<|lmP Z<|loX (.agg [vI _ _,vI _ _,vI _ _,vI _ _,vI _ _,vI _ _,vB _]) ty.kd41 Z ?_
          refine lst (z5a Tryz.func40 (sadm_e _ x e fi es (ev_ne hev (.inl (by simpa using h10)))) (⟨stays.box (Eq.refl 8),trivial⟩) rfl rfl) Z<|lT [4,5,6,7] [.ptr 2004 _ 0,.ptr 2005 _ 0,vI _ _,.ptr 0 _ 0] [0,1,2,3,4,2002,2003,2004,2005] [.box _ _ [vI _ _,vI _ _,vI _ _,.own _,.own _,.own _,.own _,vI _ _],.arr _ _ _,.arr _ _ _,.arr _ _ _,.arr _ _ _,.box _ _ [vI _ _,vI _ _,vI _ _,vL _ _ _,vL _ _ _,vL _ _ _],.box _ _ [vI _ _,vI _ _,vI _ _,vI _ _,vI _ _,vI _ _,vB _],.box _ _ [vI _ _,vI _ _,vI _ _,vV _,vV _,vV _],.box _ _ [vI _ _,vV _]] rfl Z<|lN<|gB<|gT ?_
          have hkd : e.kind = 5 := by simpa using h10
          have hov : overB x e = false := over_o hnn (by omega) (by omega) (by omega) (by omega)
          have hw : admR x e = spR x e := (wk5 hkd).trans (spR_work hov)
          refine ⟨(),trivial,trivial,⟨(congrArg (fun r : WR => sBox gw r.b.tick r.b.next r.b.wallet r.c) hw),(congrArg (fun r : WR => AO.arr 78 7 (rowsOf encChan r.b.chans)) hw),(congrArg (fun r : WR => hAr r.b.htlcs) hw),(congrArg (fun r : WR => iAr r.b.circles) hw),(congrArg (fun r : WR => lAr r.l) hw),trivial⟩,⟨rfl,rfl,rfl,rfl,trivial⟩,⟨rfl,rfl,rfl,rfl,trivial⟩⟩
         ·intro h10
          refine aS<|sL<|lbB Z<|laB Z<|nG ?_
          refine AW.cond rfl ?_ ?_
          ·intro h11
           refine asB 140 true Z h11<|aK<|gT<|aY Z<|aL<|lmP Z<|lf 1 ty.F41_1 Z<|loI ty.kd3 Z<|lf 0 ty.F41_0 Z<|loI ty.kd3 Z<|lbB Z ?_
           refine lst (z5a Tryz.func41 (sset_e _ x _ _ fi (keys_nz hbk).1 (amts_of hbk).1) (⟨stays.box (Eq.refl 8),trivial⟩) rfl rfl) Z<|lN<|gB<|gT ?_
           have hkd : e.kind = 6 := by simpa using h11
           have hov : overB x e = false := over_o hnn (by omega) (by omega) (by omega) (by omega)
           have hw : setR x e = spR x e := (wk6 (.inl hkd)).trans (spR_work hov)
           rw [← setK_eq] at hw
           refine ⟨(),trivial,trivial,⟨(congrArg (fun r : WR => sBox gw r.b.tick r.b.next r.b.wallet r.c) hw),(congrArg (fun r : WR => AO.arr 78 7 (rowsOf encChan r.b.chans)) hw),(congrArg (fun r : WR => hAr r.b.htlcs) hw),(congrArg (fun r : WR => iAr r.b.circles) hw),(congrArg (fun r : WR => lAr r.l) hw),trivial⟩,⟨rfl,rfl,rfl,rfl,trivial⟩,⟨rfl,rfl,rfl,rfl,trivial⟩⟩
          ·intro h11
           refine asB 140 false Z h11<|aL<|lbB Z<|laB Z<|nG ?_
           refine AW.cond rfl ?_ ?_
           ·intro h12
            refine aL<|lmP Z<|lf 1 ty.F41_1 Z<|loI ty.kd3 Z<|lf 0 ty.F41_0 Z<|loI ty.kd3 Z<|lbB Z ?_
            refine lst (z5a Tryz.func41 (sset_e _ x _ _ fi (keys_nz hbk).1 (amts_of hbk).1) (⟨stays.box (Eq.refl 8),trivial⟩) rfl rfl) Z<|lT [4,5,6,7] [.ptr 2004 _ 0,.ptr 2005 _ 0,vI _ _,.ptr 0 _ 0] [0,1,2,3,4,2002,2003,2004,2005] [.box _ _ [vI _ _,vI _ _,vI _ _,.own _,.own _,.own _,.own _,vI _ _],.arr _ _ _,.arr _ _ _,.arr _ _ _,.arr _ _ _,.box _ _ [vI _ _,vI _ _,vI _ _,vL _ _ _,vL _ _ _,vL _ _ _],.box _ _ [vI _ _,vI _ _,vI _ _,vI _ _,vI _ _,vI _ _,vB _],.box _ _ [vI _ _,vI _ _,vI _ _,vV _,vV _,vV _],.box _ _ [vI _ _,vV _]] rfl Z<|lN<|gB<|gT ?_
            have hkd : e.kind = 7 := by simpa using h12
            have hov : overB x e = false := over_o hnn (by omega) (by omega) (by omega) (by omega)
            have hw : setR x e = spR x e := (wk6 (.inr hkd)).trans (spR_work hov)
            rw [← setK_eq] at hw
            refine ⟨(),trivial,trivial,⟨(congrArg (fun r : WR => sBox gw r.b.tick r.b.next r.b.wallet r.c) hw),(congrArg (fun r : WR => AO.arr 78 7 (rowsOf encChan r.b.chans)) hw),(congrArg (fun r : WR => hAr r.b.htlcs) hw),(congrArg (fun r : WR => iAr r.b.circles) hw),(congrArg (fun r : WR => lAr r.l) hw),trivial⟩,⟨rfl,rfl,rfl,rfl,trivial⟩,⟨rfl,rfl,rfl,rfl,trivial⟩⟩
           ·intro h12
            refine sL<|lbB Z<|laB Z<|nG ?_
            refine AW.cond rfl ?_ ?_
            ·intro h13
             refine aL<|lmP Z ?_
             rcases Classical.em (x.tick = 1125899906842624) with htk | htk
             ·skip
              refine lst (z5a Tryz.func42 (stick2_e _ x htk) (⟨stays.box (Eq.refl 8),trivial⟩) rfl rfl) Z<|lN<|gB<|gT ?_
              have hkd : e.kind = 8 := by simpa using h13
              have hov : overB x e = true := by rw [over_8 hnn hkd];simpa using htk
              have hw : (⟨x,[],2⟩ : WR) = spR x e := spR_over hov
              refine ⟨(),trivial,trivial,⟨(Eq.trans (b := sBox gw x.tick x.next x.wallet 2) rfl (congrArg (fun r : WR => sBox gw r.b.tick r.b.next r.b.wallet r.c) hw)),(congrArg (fun r : WR => AO.arr 78 7 (rowsOf encChan r.b.chans)) hw),(congrArg (fun r : WR => hAr r.b.htlcs) hw),(congrArg (fun r : WR => iAr r.b.circles) hw),(congrArg (fun r : WR => lAr r.l) hw),trivial⟩,⟨rfl,rfl,rfl,rfl,trivial⟩,⟨rfl,rfl,rfl,rfl,trivial⟩⟩
             ·skip
              refine lst (z5a Tryz.func42 (stick_e _ x sm htk) (⟨stays.box (Eq.refl 8),trivial⟩) rfl rfl) Z<|lN<|gB<|gT ?_
              have hkd : e.kind = 8 := by simpa using h13
              have hov : overB x e = false := by rw [over_8 hnn hkd];simpa using htk
              have hw : tickR x = spR x e := (wk8 hkd).trans (spR_work hov)
              refine ⟨(),trivial,trivial,⟨(congrArg (fun r : WR => sBox gw r.b.tick r.b.next r.b.wallet r.c) hw),(congrArg (fun r : WR => AO.arr 78 7 (rowsOf encChan r.b.chans)) hw),(congrArg (fun r : WR => hAr r.b.htlcs) hw),(congrArg (fun r : WR => iAr r.b.circles) hw),(congrArg (fun r : WR => lAr r.l) hw),trivial⟩,⟨rfl,rfl,rfl,rfl,trivial⟩,⟨rfl,rfl,rfl,rfl,trivial⟩⟩
            ·intro h13
             refine sL<|lbB Z<|laB Z<|nG ?_
             refine AW.cond rfl ?_ ?_
             ·intro h14
              refine aL<|lmP Z<|loX (.agg [vI _ _,vI _ _,vI _ _,vI _ _,vI _ _,vI _ _,vB _]) ty.kd41 Z ?_
              refine lst (z5a Tryz.func43 (slau_e _ x e fi es (ev_ne hev (.inr (by simpa using h14)))) (⟨stays.box (Eq.refl 8),trivial⟩) rfl rfl) Z<|lN<|gB<|gT ?_
              have hkd : e.kind = 9 := by simpa using h14
              have hov : overB x e = false := over_o hnn (by omega) (by omega) (by omega) (by omega)
              have hw : lauR x e = spR x e := (wk9 hkd).trans (spR_work hov)
              refine ⟨(),trivial,trivial,⟨(congrArg (fun r : WR => sBox gw r.b.tick r.b.next r.b.wallet r.c) hw),(congrArg (fun r : WR => AO.arr 78 7 (rowsOf encChan r.b.chans)) hw),(congrArg (fun r : WR => hAr r.b.htlcs) hw),(congrArg (fun r : WR => iAr r.b.circles) hw),(congrArg (fun r : WR => lAr r.l) hw),trivial⟩,⟨rfl,rfl,rfl,rfl,trivial⟩,⟨rfl,rfl,rfl,rfl,trivial⟩⟩
             ·intro h14
              refine aS<|sL<|lbB Z<|laB Z<|nG ?_
              refine AW.cond rfl ?_ ?_
              ·intro h15
               refine asB 159 true Z h15<|aK<|gT<|aY Z<|aL<|lmP Z<|lf 1 ty.F41_1 Z<|loI ty.kd3 Z<|lf 0 ty.F41_0 Z<|loI ty.kd3 Z<|lbB Z ?_
               refine lst (z5a Tryz.func44 (sland_e _ x _ _ fi (keys_nz hbk).2 (circle_fits hbk)) (⟨stays.box (Eq.refl 8),trivial⟩) rfl rfl) Z<|lT [4,5,6,7] [.ptr 2004 _ 0,.ptr 2005 _ 0,vI _ _,.ptr 0 _ 0] [0,1,2,3,4,2002,2003,2004,2005] [.box _ _ [vI _ _,vI _ _,vI _ _,.own _,.own _,.own _,.own _,vI _ _],.arr _ _ _,.arr _ _ _,.arr _ _ _,.arr _ _ _,.box _ _ [vI _ _,vI _ _,vI _ _,vL _ _ _,vL _ _ _,vL _ _ _],.box _ _ [vI _ _,vI _ _,vI _ _,vI _ _,vI _ _,vI _ _,vB _],.box _ _ [vI _ _,vI _ _,vI _ _,vV _,vV _,vV _],.box _ _ [vI _ _,vV _]] rfl Z<|lN<|gB<|gT ?_
               have hkd : e.kind = 10 := by simpa using h15
               have hov : overB x e = false := over_o hnn (by omega) (by omega) (by omega) (by omega)
               have hw : landR x e = spR x e := (wk10 (by omega)).trans (spR_work hov)
               rw [← landK_eq] at hw
               refine ⟨(),trivial,trivial,⟨(congrArg (fun r : WR => sBox gw r.b.tick r.b.next r.b.wallet r.c) hw),(congrArg (fun r : WR => AO.arr 78 7 (rowsOf encChan r.b.chans)) hw),(congrArg (fun r : WR => hAr r.b.htlcs) hw),(congrArg (fun r : WR => iAr r.b.circles) hw),(congrArg (fun r : WR => lAr r.l) hw),trivial⟩,⟨rfl,rfl,rfl,rfl,trivial⟩,⟨rfl,rfl,rfl,rfl,trivial⟩⟩
              ·intro h15
               refine asB 159 false Z h15<|aL<|lbB Z<|laB Z<|nG ?_
               refine AW.cond rfl ?_ ?_
               ·intro h16
                refine aL<|lmP Z<|lf 1 ty.F41_1 Z<|loI ty.kd3 Z<|lf 0 ty.F41_0 Z<|loI ty.kd3 Z<|lbB Z ?_
                refine lst (z5a Tryz.func44 (sland_e _ x _ _ fi (keys_nz hbk).2 (circle_fits hbk)) (⟨stays.box (Eq.refl 8),trivial⟩) rfl rfl) Z<|lN<|gB<|gT ?_
                have hkd : e.kind = 11 := by simpa using h16
                have hov : overB x e = false := over_o hnn (by omega) (by omega) (by omega) (by omega)
                have hw : landR x e = spR x e := (wk10 (by omega)).trans (spR_work hov)
                rw [← landK_eq] at hw
                refine ⟨(),trivial,trivial,⟨(congrArg (fun r : WR => sBox gw r.b.tick r.b.next r.b.wallet r.c) hw),(congrArg (fun r : WR => AO.arr 78 7 (rowsOf encChan r.b.chans)) hw),(congrArg (fun r : WR => hAr r.b.htlcs) hw),(congrArg (fun r : WR => iAr r.b.circles) hw),(congrArg (fun r : WR => lAr r.l) hw),trivial⟩,⟨rfl,rfl,rfl,rfl,trivial⟩,⟨rfl,rfl,rfl,rfl,trivial⟩⟩
               ·intro h16
                refine aK<|gB<|gT ?_
                exfalso
                have q1 : ¬ e.kind = 1 := by simpa using h4
                have q2 : ¬ e.kind = 2 := by simpa using h6
                have q3 : ¬ e.kind = 3 := by simpa using h7
                have q4 : ¬ e.kind = 4 := by simpa using h9
                have q5 : ¬ e.kind = 5 := by simpa using h10
                have q6 : ¬ e.kind = 6 := by simpa using h11
                have q7 : ¬ e.kind = 7 := by simpa using h12
                have q8 : ¬ e.kind = 8 := by simpa using h13
                have q9 : ¬ e.kind = 9 := by simpa using h14
                have q10 : ¬ e.kind = 10 := by simpa using h15
                have q11 : ¬ e.kind = 11 := by simpa using h16
                omega
    ·intro h3
     refine aK<|gT ?_
     have hov : overB x e = true := sp_next (by
       have h := h3
       rcases Classical.em (x.next = 1125899906842624) with q | q
       ·exact q
       ·rw [decide_eq_false q] at h
        simp [failC] at h)
     have hw : (⟨x,[],2⟩ : WR) = spR x e := spR_over hov
     refine ⟨(),trivial,trivial,⟨(Eq.trans (b := sBox gw x.tick x.next x.wallet _) rfl ((congrArg (sBox gw x.tick x.next x.wallet) (show _ = (2 : Int) by first | rfl | (have h := h3;rcases q : decide (x.next = 1125899906842624) with _ | _;(rw [q] at h;simp [failC] at h);rfl))).trans (congrArg (fun r : WR => sBox gw r.b.tick r.b.next r.b.wallet r.c) hw))),(congrArg (fun r : WR => AO.arr 78 7 (rowsOf encChan r.b.chans)) hw),(congrArg (fun r : WR => hAr r.b.htlcs) hw),(congrArg (fun r : WR => iAr r.b.circles) hw),(congrArg (fun r : WR => lAr r.l) hw),trivial⟩,⟨rfl,rfl,rfl,rfl,trivial⟩,⟨rfl,rfl,rfl,rfl,trivial⟩⟩
   ·intro jd hJ
    refine aS<|sL<|lmP Z<|lc Z<|lf 7 ty.F71_2 Z<|loI ty.kd3 Z<|lbB Z<|nG ?_
    refine AW.cond rfl ?_ ?_
    ·intro h17
     refine aS<|aG 8 [2004,2005]<|tq 0 (rd (x := .agg [vI _ _,vI _ _,vI _ _,vV _,vV _,vV _]) (rd_build Z ty.sa34 Z Z Z) Z)<|tq 1 (rd (x := .agg [vI _ _,vV _]) (rd_build Z ty.sa37 Z Z Z) Z)<|tq 2 (rmP Z)<|tq 3 (rc Z)<|tq 4 (rf 7 ty.F71_2 Z)<|tq 5 (roI ty.kd3 Z)<|yst 6 Z (zB 2004 ty.co34 ty.inf34 Z)<|yst 7 Z (zB 2005 ty.co37 ty.inf37 Z)<|yq 8 (raI Z)<|gD<|gT<|aR<|rT ?_
     refine end_xret (.tup [zBookV,zPostV,int (spR x e).c]) [] ?_ rfl trivial
     exact .inl ⟨by rw [hcs];simpa using h17,by rw [hcs],rfl⟩
    ·intro h17
     refine aK<|gT<|aS<|sL<|lmP Z<|lc Z<|lf 6 ty.F71_1 Z<|loO ty.kd35 Z<|lnI ty.sl35 Z<|lbB Z<|nG ?_
     refine AW.cond rfl ?_ ?_
     ·intro h18
      refine sL<|lmP Z<|lc Z<|lf 0 ty.F71_0 Z<|loX (.agg [vI _ _,vI _ _,vI _ _,.own _,.own _,.own _]) ty.kd34 Z<|lq (rd (x := .agg [vI _ _,vV _]) (rd_build Z ty.sa37 Z Z Z) Z)<|lst (zB 2004 ty.co34 ty.inf34 Z) Z<|lT [4,5,6,7,190] [.ptr 2004 _ 0,.ptr 2005 _ 0,vI _ _,.ptr 0 _ 0,.agg [vI _ _,vV _]] [0,1,2,3,4,2002,2003,2004,2005] [.box _ _ [vI _ _,vI _ _,vI _ _,.own _,.own _,.own _,.own _,vI _ _],.arr _ _ _,.arr _ _ _,.arr _ _ _,.arr _ _ _,.box _ _ [vI _ _,vI _ _,vI _ _,vL _ _ _,vL _ _ _,vL _ _ _],.box _ _ [vI _ _,vI _ _,vI _ _,vI _ _,vI _ _,vI _ _,vB _],.box _ _ [vI _ _,vI _ _,vI _ _,.own _,.own _,.own _],.box _ _ [vI _ _,vV _]] Z Z<|lst (zB 2005 ty.co37 ty.inf37 Z) Z<|laI Z<|nG<|aR<|rT ?_
      have hc0 : (spR x e).c = 0 := by simpa using h17
      obtain ⟨hov,hsp⟩ := spR_c hc0
      have hl0 : (spR x e).l = [] := List.length_eq_zero_iff.1 (by have h := h18;simp only [length_rowsOf,decide_eq_true_eq] at h;omega)
      refine end_xret (.tup [ownB (spR x e).b.tick (spR x e).b.next (spR x e).b.wallet,zPostV,int 0]) (ob3 (spR x e).b) ?_ rfl ⟨rfl,rfl,rfl,trivial⟩
      rw [hsp] at hl0 ⊢;exact .inr (.inl ⟨by rw [hcs];exact hc0,hl0,rfl,rfl⟩)
     ·intro h18
      refine aK<|gT<|aS<|aF [11]<|pq 0 (qmP Z)<|pq 1 (qc Z)<|pq 2 (qf 0 ty.F71_0 Z)<|pq 3 (qf 1 ty.F34_1 Z)<|sq 4 (roI ty.kd3 Z)<|pq 5 (qmP Z)<|pq 6 (qc Z)<|pq 7 (qf 6 ty.F71_1 Z)<|sq 8 (roO ty.kd35 Z)<|sq 9 (rd (x := .agg [vI _ _,.own _]) (rd_build Z ty.sa37 Z Z Z) Z)<|vst 10 Z (zA 2012 ty.ze37 Z) (.inr Z)<|vst 11 Z (zB 2012 ty.co37 ty.inf37 Z) (.inl Z)<|fT [4,5,6,7,12] [.ptr 2004 _ 0,.ptr 2005 _ 0,vI _ _,.ptr 0 _ 0,.ptr 2012 _ 0] [0,1,2,3,4,2002,2003,2004,2005,2012] [.box _ _ [vI _ _,vI _ _,vI _ _,.own _,.own _,.own _,.own _,vI _ _],.arr _ _ _,.arr _ _ _,.arr _ _ _,.arr _ _ _,.box _ _ [vI _ _,vI _ _,vI _ _,vL _ _ _,vL _ _ _,vL _ _ _],.box _ _ [vI _ _,vI _ _,vI _ _,vI _ _,vI _ _,vI _ _,vB _],.box _ _ [vI _ _,vI _ _,vI _ _,vV _,vV _,vV _],.box _ _ [vI _ _,vV _],.box _ _ [vI _ _,.own _]] Z Z<|fD<|gA<|lmP Z<|lc Z<|lf 0 ty.F71_0 Z<|lf 1 ty.F34_1 Z<|loI ty.kd3 Z ?_
      refine lhI rfl ⟨rfl,fits_i64 (by rw [spR_next];unfold i64;omega)⟩<|lc Z<|lf 0 ty.F71_0 Z<|lf 1 ty.F34_1 Z<|lst (zB 0 ty.co3 ty.inf3 rfl) Z<|nG<|aS<|aG 7 [2004,2005]<|tq 0 (rmP rfl)<|tq 1 (rc rfl)<|tq 2 (rf 0 ty.F71_0 rfl)<|tq 3 (roX (.agg [vI _ _,vI _ _,vI _ _,.own _,.own _,.own _]) ty.kd34 rfl)<|tq 4 (roX (.agg [vI _ _,.own _]) ty.kd37 rfl)<|yst 5 rfl (zB 2004 ty.co34 ty.inf34 rfl) ?_
      refine gX [4,5,6,214] [.ptr 2004 _ 0,.ptr 2005 _ 0,vI _ _,.agg [vI _ _,.own _]] [0,1,2,3,4,2002,2003,2004,2005,2012] [.box _ _ [vI _ _,vI _ _,vI _ _,.own _,.own _,.own _,.own _,vI _ _],.arr _ _ _,.arr _ _ _,.arr _ _ _,.arr _ _ _,.box _ _ [vI _ _,vI _ _,vI _ _,vL _ _ _,vL _ _ _,vL _ _ _],.box _ _ [vI _ _,vI _ _,vI _ _,vI _ _,vI _ _,vI _ _,vB _],.box _ _ [vI _ _,vI _ _,vI _ _,.own _,.own _,.own _],.box _ _ [vI _ _,vV _],.box _ _ [vI _ _,.own _]] rfl rfl ⟨rfl,rfl,trivial⟩<|yst 6 rfl (zB 2005 ty.co37 ty.inf37 rfl)<|yq 7 (raI rfl)<|gD<|gT<|aR ?_
      have hc0 : (spR x e).c = 0 := by simpa using h17
      obtain ⟨hov,hsp⟩ := spR_c hc0
      have hl0 : (spR x e).l ≠ [] := fun q => by
        have h := h18
        rw [q] at h
        simp [rowsOf] at h
      refine end_xret (.tup [ownB (spR x e).b.tick ((spR x e).b.next + 1) (spR x e).b.wallet,.agg [int (spR x e).b.next,.own 4],int 0]) (ob4 (spR x e).b (spR x e).l) ?_ rfl ⟨rfl,rfl,rfl,rfl,trivial⟩
      rw [hsp] at hl0 ⊢;exact .inr (.inr ⟨by rw [hcs];exact hc0,hl0,by rw [workR_next],rfl⟩)

theorem SlR.each {α : Type} {sz : Nat} {rep : World → Nat → Nat → List Value → α → Prop} {w : World} {lo hi : Nat} {v : Value} {xs : List α} {p : α → Prop} (h : SlR sz rep w lo hi v xs) (hp : ∀ lo hi cs x,rep w lo hi cs x → p x) : ∀ x ∈ xs,p x := by
  obtain ⟨a,cap,rfl,c1,c2,hsl⟩ := h
  intro x hx
  rcases hsl with hz | ⟨b,off,rfl,b1,b2,hel⟩
  · subst hz;simp at hx
  · obtain ⟨i,hi,rfl⟩ := List.getElem_of_mem hx
    obtain ⟨cs,h1,_⟩ := hel i hi
    exact hp _ _ _ _ h1
theorem BookWf.of {x : Book} {w : World} {v0 v1 v2 : Value} (h0 : SlR 7 repChan w 0 w.heap.size v0 x.chans) (h1 : SlR 7 repHtlc w 0 w.heap.size v1 x.htlcs) (h2 : SlR 5 repCircle w 0 w.heap.size v2 x.circles) (hn : x.chans.length ≤ 1048576) : BookWf x :=
  ⟨h0.each fun _ _ _ _ h => h.2,h1.each fun _ _ _ _ h => h.2,h2.each fun _ _ _ _ h => h.2,hn⟩
def Spot (S E lo hi : Nat) (f : List Nat) : Prop := S ≤ lo ∧ lo ≤ hi ∧ hi ≤ E ∧ ((lo = E ∧ hi = E) ∨ (hi = lo + 1 ∧ lo ∈ f))
theorem Spot.none (S E : Nat) (h : S ≤ E) : Spot S E E E [] := ⟨h,Nat.le_refl _,Nat.le_refl _,.inl ⟨rfl,rfl⟩⟩
theorem Spot.apart {S E lo hi lo' hi' : Nat} {f f' : List Nat} (h : Spot S E lo hi f) (h' : Spot S E lo' hi' f') (hd : ∀ b ∈ f,b ∉ f') : hi ≤ lo' ∨ hi' ≤ lo := by
  obtain ⟨h1,h2,h3,h4⟩ := h
  obtain ⟨k1,k2,k3,k4⟩ := h'
  rcases h4 with q | ⟨q,qm⟩ <;> rcases k4 with r | ⟨r,rm⟩
  · omega
  · omega
  · omega
  · have : lo ≠ lo' := fun e => hd lo qm (e ▸ rm)
    omega
theorem OB.slr {L : Nat → Prop} {ρ : Nat → Value} {H : Nat → AO} {α : Type} {enc : α → List Value} {sz : Nat} {rep : World → Nat → Nat → List Value → α → Prop} {w : World} {v : Value} {f : List Nat} {xs : List α} {e : Pin} {S : Nat} (h : OB L ρ H w v f (.arr e sz (rowsOf enc xs))) (hs : ∀ x,(enc x).length = sz) (hrep : ∀ x ∈ xs,rep w 0 w.heap.size (enc x) x) (hfl : ∀ lo hi lo' hi' cs x,rep w lo hi cs x → rep w lo' hi' cs x) (hS : S ≤ w.heap.size) (hf : ∀ b ∈ f,S ≤ b) :
    ∃ a c lo hi,v = .slice a xs.length c ∧ SlR sz rep w lo hi (.slice a xs.length c) xs ∧ Spot S w.heap.size lo hi f := by
  have h1 := (h.reads).slr hs hrep
  have hv : f = v.ownBlock.toList := by obtain ⟨_,_,_,_,_,q,_⟩ := h;exact q
  have hlt := h.lt
  obtain ⟨a,c,rfl,c1,c2,hsl⟩ := h1
  rcases hsl with hz | ⟨b,off,rfl,b1,b2,hel⟩
  · exact ⟨a,c,w.heap.size,w.heap.size,rfl,⟨a,c,rfl,c1,c2,.inl hz⟩,hS,Nat.le_refl _,Nat.le_refl _,.inl ⟨rfl,rfl⟩⟩
  · have hb : b ∈ f := by rw [hv];simp [Value.ownBlock]
    exact ⟨_,c,b,b + 1,rfl,⟨_,c,rfl,c1,c2,.inr ⟨b,off,rfl,Nat.le_refl _,Nat.lt_succ_self _,fun i hi => let ⟨cs,q1,q2⟩ := hel i hi;⟨cs,hfl _ _ _ _ _ _ q1,q2⟩⟩⟩,hf b hb,Nat.le_succ _,b2,.inr ⟨rfl,hb⟩⟩
def zeroBook : Book := ⟨0,0,0,[],[],[]⟩
def appB (x : Book) (e : Event) : Book := if applyC x e = 0 then (if (workR x e).l = [] then (workR x e).b else { (workR x e).b with next := (workR x e).b.next + 1 }) else zeroBook
def appP (x : Book) (e : Event) : Posting := if applyC x e = 0 then (if (workR x e).l = [] then ⟨0,[]⟩ else ⟨x.next,(workR x e).l⟩) else ⟨0,[]⟩
theorem appB_no {x : Book} {e : Event} (h : applyC x e ≠ 0) : appB x e = zeroBook ∧ appP x e = ⟨0,[]⟩ := by unfold appB appP;rw [if_neg h,if_neg h];exact ⟨rfl,rfl⟩
theorem appB_nil {x : Book} {e : Event} (h : applyC x e = 0) (h2 : (workR x e).l = []) : appB x e = (workR x e).b ∧ appP x e = ⟨0,[]⟩ := by unfold appB appP;rw [if_pos h,if_pos h,if_pos h2,if_pos h2];exact ⟨rfl,rfl⟩
theorem appB_yes {x : Book} {e : Event} (h : applyC x e = 0) (h2 : (workR x e).l ≠ []) : appB x e = { (workR x e).b with next := (workR x e).b.next + 1 } ∧ appP x e = ⟨x.next,(workR x e).l⟩ := by unfold appB appP;rw [if_pos h,if_pos h,if_neg h2,if_neg h2];exact ⟨rfl,rfl⟩
structure WrWf (r : WR) : Prop where
  chans : ∀ c ∈ r.b.chans,wfChan c
  htlcs : ∀ c ∈ r.b.htlcs,wfHtlc c
  circles : ∀ c ∈ r.b.circles,wfCircle c
  lines : ∀ l ∈ r.l,wfLine l
  lc : r.b.chans.length ≤ 100000
  lh : r.b.htlcs.length ≤ 100000
  li : r.b.circles.length ≤ 100000
  ll : r.l.length ≤ 100000
theorem rv_agg {L : Nat → Prop} {ρ : Nat → Value} {H : Nat → AO} {w : World} {l : List AV} {c : Value} (h : RV L ρ H w (.agg l) c) : ∃ cs,c = .agg cs.toArray ∧ RVL L ρ H w l cs := by rw [RV] at h;exact h
theorem rv_tup {L : Nat → Prop} {ρ : Nat → Value} {H : Nat → AO} {w : World} {l : List AV} {c : Value} (h : RV L ρ H w (.tup l) c) : ∃ cs,c = .tuple cs.toArray ∧ RVL L ρ H w l cs := by rw [RV] at h;exact h
theorem rv_own {L : Nat → Prop} {ρ : Nat → Value} {H : Nat → AO} {w : World} {id : Nat} {c : Value} (h : RV L ρ H w (.own id) c) (hh : (H id).here = true) : c = ρ id := by rw [RV] at h;exact h.2 hh

def chB (n : Int) (c : Chan) : Prop := (i64 c.id ∧ i64 c.size) ∧ (-n ≤ c.loc ∧ c.loc ≤ n) ∧ (-n ≤ c.remote ∧ c.remote ≤ n) ∧ (-n ≤ c.base ∧ c.base ≤ n) ∧ (-n ≤ c.ppm ∧ c.ppm ≤ n) ∧ (-n ≤ c.score ∧ c.score ≤ n)
theorem chB.wf {n : Int} {c : Chan} (h : chB n c) (hn : n ≤ 9007199254740992) : wfChan c := by
  obtain ⟨⟨h1,h2⟩,h3,h4,h5,h6,h7⟩ := h
  unfold wfChan
  refine ⟨h1,h2,?_,?_,?_,?_,?_⟩ <;> unfold i64 <;> omega
theorem chB.put {n m : Int} {c c' : Chan} (h : chB n c) (h1 : c'.id = c.id) (h2 : c'.size = c.size) (h3 : (-m ≤ c'.loc ∧ c'.loc ≤ m) ∧ (-m ≤ c'.remote ∧ c'.remote ≤ m) ∧ (-m ≤ c'.base ∧ c'.base ≤ m) ∧ (-m ≤ c'.ppm ∧ c'.ppm ≤ m) ∧ (-m ≤ c'.score ∧ c'.score ≤ m)) : chB m c' := ⟨⟨h1 ▸ h.1.1,h2 ▸ h.1.2⟩,h3⟩
theorem chB.mono {n m : Int} {c : Chan} (h : chB n c) (hn : n ≤ m) : chB m c := by
  refine h.put rfl rfl ?_
  have := h.2
  omega
theorem scoreUp_le (n : Int) : -100 ≤ scoreUp n ∧ scoreUp n ≤ 100 := by unfold scoreUp;split <;> omega
theorem scoreDown_le (n : Int) : -100 ≤ scoreDown n ∧ scoreDown n ≤ 100 := by unfold scoreDown;split <;> omega
theorem fade_le (n : Int) : -100 ≤ fade n ∧ fade n ≤ 100 := by unfold fade;repeat' split <;> omega
theorem upd_all {p q : Chan → Prop} {l : List Chan} {a : Int} {f : Chan → Chan} (h : ∀ c ∈ l,p c) (hf : ∀ c,p c → q (f c)) (hq : ∀ c,p c → q c) : ∀ c ∈ updC l a f,q c := fun c hc => by
  unfold updC at hc
  obtain ⟨d,hd,rfl⟩ := List.mem_map.1 hc
  split
  · exact hf d (h d hd)
  · exact hq d (h d hd)
theorem upd_len {l : List Chan} {a : Int} {f : Chan → Chan} : (updC l a f).length = l.length := List.length_map _
theorem lines_add {l : List Line} {k c n : Int} (h : ∀ y ∈ l,wfLine y) (hk : i64 k) (hc : i64 c) (hn : i64 n) : ∀ y ∈ addL l k c n,wfLine y := fun y hy => by
  rcases mem_addL hy with q | ⟨q1,q2,q3⟩
  · exact h y q
  · unfold wfLine
    rw [q1,q2,q3]
    exact ⟨hk,hc,hn⟩
theorem addL_len (l : List Line) (k c n : Int) : (addL l k c n).length ≤ l.length + 1 := by
  unfold addL
  split
  · omega
  · rw [insL_length];omega
theorem nil_lines : ∀ y ∈ ([] : List Line),wfLine y := by simp
theorem mem_insC {l : List Chan} {c d : Chan} (h : d ∈ insC l c) : d ∈ l ∨ d = c := by
  unfold insC at h
  simp only [List.mem_append,List.mem_singleton] at h
  rcases h with (h | h) | h
  · exact .inl (List.mem_of_mem_take h)
  · exact .inr h
  · exact .inl (List.mem_of_mem_drop h)
theorem insC_len (l : List Chan) (c : Chan) : (insC l c).length = l.length + 1 := by
  unfold insC
  simp only [List.length_append,List.length_take,List.length_drop,List.length_singleton]
  have : posC l c.id ≤ l.length := List.findIdx_le_length
  omega
theorem WrWf.same {x : Book} (hw : BookWf x) (sm : BookSm x) (c : Int) : WrWf ⟨x,[],c⟩ := ⟨hw.chans,hw.htlcs,hw.circles,nil_lines,by have := sm.lc;show x.chans.length ≤ _;omega,by have := sm.lh;show x.htlcs.length ≤ _;omega,by have := sm.li;show x.circles.length ≤ _;omega,by simp⟩
theorem chB.of {x : Book} (hw : BookWf x) (sm : BookSm x) : ∀ c ∈ x.chans,chB 1125899906842624 c := fun c hc => by
  have h1 := hw.chans c hc
  have h2 := sm.chans c hc
  unfold wfChan at h1
  unfold A50 at h2
  exact ⟨⟨h1.1,h1.2.1⟩,h2.1,h2.2.1,h2.2.2.2.1,h2.2.2.2.2,h2.2.2.1⟩
theorem upd_one {x : Book} {a n : Int} {f : Chan → Chan} (hw : BookWf x) (sm : BookSm x) (hf : ∀ c,chB 1125899906842624 c → chB 4503599627370496 (f c)) : ∀ c ∈ updC x.chans a f,wfChan c := fun c hc =>
  (upd_all (q := chB 4503599627370496) (chB.of hw sm) hf (fun c h => h.mono (by omega)) c hc).wf (by omega)
theorem upd_both {x : Book} {a b : Int} {f g : Chan → Chan} (hw : BookWf x) (sm : BookSm x) (hf : ∀ c,chB 1125899906842624 c → chB 4503599627370496 (f c)) (hg : ∀ c,chB 4503599627370496 c → chB 9007199254740992 (g c)) : ∀ c ∈ updC (updC x.chans a f) b g,wfChan c := fun c hc =>
  (upd_all (q := chB 9007199254740992) (upd_all (q := chB 4503599627370496) (chB.of hw sm) hf (fun c h => h.mono (by omega))) hg (fun c h => h.mono (by omega)) c hc).wf (by omega)
theorem i64_50 {n : Int} (h : A50 n) : i64 n := by unfold A50 at h;unfold i64;omega
theorem wr_dep {x : Book} {e : Event} (hw : BookWf x) (sm : BookSm x) (es : EvSm e) : WrWf (depR x e) := by
  have h := WrWf.same hw sm 0
  refine ⟨h.chans,h.htlcs,h.circles,lines_add (lines_add nil_lines (by (unfold i64;first | omega | (dsimp only;omega))) (by (unfold i64;first | omega | (dsimp only;omega))) (i64_50 es.amt)) (by (unfold i64;first | omega | (dsimp only;omega))) (by (unfold i64;first | omega | (dsimp only;omega))) (by have := es.amt;unfold A50 at this;unfold i64;omega),h.lc,h.lh,h.li,?_⟩
  have h1 := addL_len (addL [] 1 0 e.amt) 2 0 (-e.amt)
  have h2 := addL_len [] 1 0 e.amt
  show (addL (addL [] 1 0 e.amt) 2 0 (-e.amt)).length ≤ _
  simp at h2
  omega
theorem two_len (a b c d f g : Int) : (addL (addL [] a b c) d f g).length ≤ 100000 := by
  have h1 := addL_len (addL [] a b c) d f g
  have h2 := addL_len [] a b c
  simp at h2
  omega
theorem three_len (a b c d f g h i j : Int) : (addL (addL (addL [] a b c) d f g) h i j).length ≤ 100000 := by
  have h0 := addL_len (addL (addL [] a b c) d f g) h i j
  have h1 := addL_len (addL [] a b c) d f g
  have h2 := addL_len [] a b c
  simp at h2
  omega
theorem wr_open {x : Book} {e : Event} (hw : BookWf x) (sm : BookSm x) (es : EvSm e) (we : wfEvent e) : WrWf (openR x e) := by
  have h := WrWf.same hw sm 0
  have ha := es.amt
  have hf := es.fee
  by_cases q : openC x e = 0
  · rw [openR_yes q]
    refine ⟨fun c hc => ?_,h.htlcs,h.circles,lines_add (lines_add nil_lines (by (unfold i64;first | omega | (dsimp only;omega))) we.2.2.1 (i64_50 ha)) (by (unfold i64;first | omega | (dsimp only;omega))) (by (unfold i64;first | omega | (dsimp only;omega))) (by unfold A50 at ha;unfold i64;omega),?_,h.lh,h.li,two_len _ _ _ _ _ _⟩
    · rcases mem_insC hc with hc | rfl
      · exact h.chans c hc
      · unfold A50 at ha hf
        unfold wfChan
        refine ⟨we.2.2.1,?_,?_,?_,by (unfold i64;first | omega | (dsimp only;omega)),by (unfold i64;first | omega | (dsimp only;omega)),by (unfold i64;first | omega | (dsimp only;omega))⟩ <;> unfold i64 <;> dsimp only <;> omega
    · show (insC x.chans _).length ≤ _
      rw [insC_len]
      have := sm.lc
      omega
  · rw [openR_no q];exact WrWf.same hw sm _
theorem chanOr_A50 {x : Book} (sm : BookSm x) (ch : Int) : A50 (chanOr x.chans ch).loc ∧ A50 (chanOr x.chans ch).remote := by
  rcases chan_find x.chans ch with ⟨_,q⟩ | ⟨i,c,_,q1,q2,_⟩
  · rw [q];unfold zeroChan A50;simp
  · rw [q2]
    have := sm.chans c (mem_of_get q1)
    exact ⟨this.1,this.2.1⟩
theorem wr_shut {x : Book} {e : Event} (hw : BookWf x) (sm : BookSm x) (es : EvSm e) (we : wfEvent e) : WrWf (shutR x e) := by
  have h := WrWf.same hw sm 0
  have hf := es.fee
  have hl := (chanOr_A50 sm e.ch).1
  by_cases q : shutC x e = 0
  · rw [shutR_yes q]
    unfold shutY
    refine ⟨fun c hc => h.chans c ((List.mem_filter.1 hc).1),h.htlcs,h.circles,lines_add (lines_add (lines_add nil_lines (by (unfold i64;first | omega | (dsimp only;omega))) (by (unfold i64;first | omega | (dsimp only;omega))) ?_) (by (unfold i64;first | omega | (dsimp only;omega))) (by (unfold i64;first | omega | (dsimp only;omega))) (i64_50 hf)) (by (unfold i64;first | omega | (dsimp only;omega))) we.2.2.1 ?_,?_,h.lh,h.li,three_len _ _ _ _ _ _ _ _ _⟩
    · unfold A50 at hf hl;unfold i64;omega
    · unfold A50 at hf hl;unfold i64;omega
    · have h1 : (delC x.chans e.ch).length ≤ x.chans.length := List.length_filter_le _ _
      have := sm.lc
      show (delC x.chans e.ch).length ≤ _
      omega
  · rw [shutR_no q];exact WrWf.same hw sm _
theorem len_upd1 {x : Book} (sm : BookSm x) {a : Int} {f : Chan → Chan} : (updC x.chans a f).length ≤ 100000 := by rw [upd_len];have := sm.lc;omega
theorem len_upd2 {x : Book} (sm : BookSm x) {a b : Int} {f g : Chan → Chan} : (updC (updC x.chans a f) b g).length ≤ 100000 := by rw [upd_len,upd_len];have := sm.lc;omega
theorem wr_pri {x : Book} {e : Event} (hw : BookWf x) (sm : BookSm x) (es : EvSm e) : WrWf (priR x e) := by
  have h := WrWf.same hw sm 0
  have ha := es.amt
  have hf := es.fee
  unfold A50 at ha hf
  unfold priR
  split
  · exact WrWf.same hw sm _
  · refine ⟨upd_one (n := 0) hw sm (fun c hc => ?_),h.htlcs,h.circles,nil_lines,len_upd1 sm,h.lh,h.li,h.ll⟩
    refine chB.put hc rfl rfl ?_
    have := hc.2
    dsimp only at *
    omega
theorem wr_adm {x : Book} {e : Event} (hw : BookWf x) (sm : BookSm x) (es : EvSm e) (we : wfEvent e) : WrWf (admR x e) := by
  have h := WrWf.same hw sm 0
  have ha := es.amt
  have hs : A50 (admSum x e) := addV_A50 _ _
  unfold A50 at ha hs
  by_cases q : admC x e = 0
  · rw [admR_yes q]
    unfold admY
    refine ⟨upd_both hw sm (fun c hc => ?_) (fun c hc => ?_),fun c hc => ?_,h.circles,lines_add (lines_add nil_lines (by (unfold i64;first | omega | (dsimp only;omega))) we.2.2.2.1 ?_) (by (unfold i64;first | omega | (dsimp only;omega))) we.2.2.2.1 (i64_50 es.amt),len_upd2 sm,?_,h.li,two_len _ _ _ _ _ _⟩
    · refine chB.put hc rfl rfl ?_;have := hc.2;dsimp only at *;omega
    · refine chB.put hc rfl rfl ?_;have := hc.2;dsimp only at *;omega
    · rcases List.mem_append.1 hc with hc | hc
      · exact h.htlcs c hc
      · rw [List.mem_singleton] at hc
        subst hc
        unfold wfHtlc
        refine ⟨we.2.1,we.2.2.1,we.2.2.2.1,?_,?_,by (unfold i64;first | omega | (dsimp only;omega))⟩ <;> unfold i64 <;> dsimp only <;> omega
    · unfold i64;omega
    · have := sm.lh
      simp
      omega
  · rw [admR_no q];exact WrWf.same hw sm _
theorem wr_set {x : Book} {e : Event} (hw : BookWf x) (sm : BookSm x) : WrWf (setR x e) := by
  have h := WrWf.same hw sm 0
  unfold setR
  split
  · rename_i y hy
    have hm := List.mem_of_find?_eq_some hy
    have w1 := hw.htlcs y hm
    have s1 := sm.htlcs y hm
    unfold wfHtlc at w1
    have hdl : (delH x.htlcs y.key).length ≤ 100000 := by
      have h1 : (delH x.htlcs y.key).length ≤ x.htlcs.length := List.length_filter_le _ _
      have := sm.lh
      omega
    have hdm : ∀ c ∈ delH x.htlcs y.key,wfHtlc c := fun c hc => h.htlcs c ((List.mem_filter.1 hc).1)
    unfold A50 at s1
    unfold setY
    split
    · refine ⟨upd_both hw sm (fun c hc => ?_) (fun c hc => ?_),hdm,h.circles,lines_add (lines_add (lines_add nil_lines (by (unfold i64;first | omega | (dsimp only;omega))) (by (unfold i64;first | omega | (dsimp only;omega))) ?_) (by (unfold i64;first | omega | (dsimp only;omega))) w1.2.1 w1.2.2.2.1) (by (unfold i64;first | omega | (dsimp only;omega))) w1.2.2.1 ?_,len_upd2 sm,hdl,h.li,three_len _ _ _ _ _ _ _ _ _⟩
      · have := scoreUp_le c.score;refine chB.put hc rfl rfl ?_;have := hc.2;dsimp only at *;omega
      · refine chB.put hc rfl rfl ?_;have := hc.2;dsimp only at *;omega
      · unfold i64;omega
      · unfold i64;omega
    · refine ⟨upd_both hw sm (fun c hc => ?_) (fun c hc => ?_),hdm,h.circles,lines_add (lines_add nil_lines (by (unfold i64;first | omega | (dsimp only;omega))) w1.2.2.1 ?_) (by (unfold i64;first | omega | (dsimp only;omega))) w1.2.2.1 ?_,len_upd2 sm,hdl,h.li,two_len _ _ _ _ _ _⟩
      · have := scoreDown_le c.score;refine chB.put hc rfl rfl ?_;have := hc.2;dsimp only at *;omega
      · refine chB.put hc rfl rfl ?_;have := hc.2;dsimp only at *;omega
      · unfold i64;omega
      · unfold i64;omega
  · exact WrWf.same hw sm _
theorem wr_tick {x : Book} (hw : BookWf x) (sm : BookSm x) : WrWf (tickR x) := by
  have h := WrWf.same hw sm 0
  refine ⟨fun c hc => ?_,fun c hc => ?_,h.circles,nil_lines,?_,?_,h.li,h.ll⟩
  · obtain ⟨d,hd,rfl⟩ := List.mem_map.1 hc
    unfold fadeC
    split
    · have h1 := h.chans d hd
      have h2 := fade_le d.score
      unfold wfChan at *
      refine ⟨h1.1,h1.2.1,h1.2.2.1,h1.2.2.2.1,h1.2.2.2.2.1,h1.2.2.2.2.2.1,?_⟩
      unfold i64;dsimp only;omega
    · exact h.chans d hd
  · obtain ⟨d,hd,rfl⟩ := List.mem_map.1 hc
    have h1 := h.htlcs d hd
    have h2 := sm.htlcs d hd
    unfold wfHtlc ageH at *
    refine ⟨h1.1,h1.2.1,h1.2.2.1,h1.2.2.2.1,h1.2.2.2.2.1,?_⟩
    unfold i64;dsimp only;omega
  · show (x.chans.map _).length ≤ _
    rw [List.length_map];exact h.lc
  · show (x.htlcs.map _).length ≤ _
    rw [List.length_map];exact h.lh
theorem wr_lau {x : Book} {e : Event} (hw : BookWf x) (sm : BookSm x) (es : EvSm e) (we : wfEvent e) : WrWf (lauR x e) := by
  have h := WrWf.same hw sm 0
  have ha := es.amt
  have hf := es.fee
  have hs : A50 (addV e.amt e.fee) := addV_A50 _ _
  unfold A50 at ha hs hf
  by_cases q : lauC x e = 0
  · rw [lauR_yes q]
    unfold lauY
    refine ⟨upd_both hw sm (fun c hc => ?_) (fun c hc => ?_),h.htlcs,fun c hc => ?_,lines_add (lines_add nil_lines (by (unfold i64;first | omega | (dsimp only;omega))) we.2.2.1 ?_) (by (unfold i64;first | omega | (dsimp only;omega))) we.2.2.1 ?_,len_upd2 sm,h.lh,?_,two_len _ _ _ _ _ _⟩
    · refine chB.put hc rfl rfl ?_;have := hc.2;dsimp only at *;omega
    · refine chB.put hc rfl rfl ?_;have := hc.2;dsimp only at *;omega
    · rcases List.mem_append.1 hc with hc | hc
      · exact h.circles c hc
      · rw [List.mem_singleton] at hc
        subst hc
        unfold wfCircle
        refine ⟨we.2.1,we.2.2.1,we.2.2.2.1,?_,?_⟩ <;> unfold i64 <;> dsimp only <;> omega
    · unfold i64;omega
    · unfold i64;omega
    · have := sm.li
      simp
      omega
  · rw [lauR_no q];exact WrWf.same hw sm _
theorem wr_land {x : Book} {e : Event} (hw : BookWf x) (sm : BookSm x) : WrWf (landR x e) := by
  have h := WrWf.same hw sm 0
  unfold landR
  split
  · rename_i y hy
    have hm := List.mem_of_find?_eq_some hy
    have w1 := hw.circles y hm
    have s1 := sm.circles y hm
    unfold wfCircle at w1
    have hdl : (delI x.circles y.key).length ≤ 100000 := by
      have h1 : (delI x.circles y.key).length ≤ x.circles.length := List.length_filter_le _ _
      have := sm.li
      omega
    have hdm : ∀ c ∈ delI x.circles y.key,wfCircle c := fun c hc => h.circles c ((List.mem_filter.1 hc).1)
    unfold A50 at s1
    unfold landY
    split
    · refine ⟨upd_both hw sm (fun c hc => ?_) (fun c hc => ?_),h.htlcs,hdm,lines_add (lines_add (lines_add nil_lines (by (unfold i64;first | omega | (dsimp only;omega))) (by (unfold i64;first | omega | (dsimp only;omega))) w1.2.2.2.2) (by (unfold i64;first | omega | (dsimp only;omega))) w1.2.2.1 w1.2.2.2.1) (by (unfold i64;first | omega | (dsimp only;omega))) w1.2.1 ?_,len_upd2 sm,h.lh,hdl,three_len _ _ _ _ _ _ _ _ _⟩
      · refine chB.put hc rfl rfl ?_;have := hc.2;dsimp only at *;omega
      · refine chB.put hc rfl rfl ?_;have := hc.2;dsimp only at *;omega
      · unfold i64;omega
    · refine ⟨upd_both hw sm (fun c hc => ?_) (fun c hc => ?_),h.htlcs,hdm,lines_add (lines_add nil_lines (by (unfold i64;first | omega | (dsimp only;omega))) w1.2.1 ?_) (by (unfold i64;first | omega | (dsimp only;omega))) w1.2.1 ?_,len_upd2 sm,h.lh,hdl,two_len _ _ _ _ _ _⟩
      · refine chB.put hc rfl rfl ?_;have := hc.2;dsimp only at *;omega
      · refine chB.put hc rfl rfl ?_;have := hc.2;dsimp only at *;omega
      · unfold i64;omega
      · unfold i64;omega
  · exact WrWf.same hw sm _
theorem wr_work {x : Book} {e : Event} (hw : BookWf x) (sm : BookSm x) (es : EvSm e) (we : wfEvent e) : WrWf (workR x e) := by
  unfold workR
  repeat' split
  · exact wr_dep hw sm es
  · exact wr_open hw sm es we
  · exact wr_shut hw sm es we
  · exact wr_pri hw sm es
  · exact wr_adm hw sm es we
  · exact wr_set hw sm
  · exact wr_tick hw sm
  · exact wr_lau hw sm es we
  · exact wr_land hw sm
theorem applyC_ok {x : Book} {e : Event} (h : applyC x e = 0) : bookOk x = true ∧ eventOk e = true ∧ overB x e = false := by
  unfold applyC at h
  split at h
  · rename_i q
    rw [Bool.and_eq_true] at q
    split at h
    · omega
    · rename_i r
      exact ⟨q.1,q.2,by simpa using r⟩
  · omega
theorem wr_apply {x : Book} {e : Event} (hw : BookWf x) (we : wfEvent e) (h : applyC x e = 0) : WrWf (workR x e) := by
  obtain ⟨h1,h2,_⟩ := applyC_ok h
  exact wr_work hw (bookOk_fi h1).sm (evSm_of h2).1 we
theorem appB_len {x : Book} {e : Event} (hw : BookWf x) (we : wfEvent e) : (appB x e).chans.length ≤ 100000 ∧ (appB x e).htlcs.length ≤ 100000 ∧ (appB x e).circles.length ≤ 100000 ∧ (appP x e).lines.length ≤ 100000 := by
  by_cases q : applyC x e = 0
  · have w := wr_apply hw we q
    by_cases r : (workR x e).l = []
    · obtain ⟨e1,e2⟩ := appB_nil q r
      rw [e1,e2]
      exact ⟨w.lc,w.lh,w.li,by simp⟩
    · obtain ⟨e1,e2⟩ := appB_yes q r
      rw [e1,e2]
      exact ⟨w.lc,w.lh,w.li,w.ll⟩
  · obtain ⟨e1,e2⟩ := appB_no q
    rw [e1,e2]
    unfold zeroBook
    simp

def fill {α : Type} (rows : List α) (z : α) (k : Nat) : List α := rows.take k ++ List.replicate (rows.length - k) z
theorem fill_zero {α : Type} (rows : List α) (z : α) : fill rows z 0 = List.replicate rows.length z := by simp [fill]
theorem fill_all {α : Type} (rows : List α) (z : α) : fill rows z rows.length = rows := by simp [fill]
theorem fill_len {α : Type} {rows : List α} {z : α} (k : Nat) (h : k ≤ rows.length) : (fill rows z k).length = rows.length := by simp [fill];omega
theorem fill_get {α : Type} {rows : List α} {z : α} {k : Nat} (h : k < rows.length) : (fill rows z k)[k]? = some z := by
  unfold fill
  rw [List.getElem?_append_right (by simp;omega),List.length_take,Nat.min_eq_left (Nat.le_of_lt h),Nat.sub_self,List.getElem?_replicate,if_pos (by omega)]
theorem fill_set {α : Type} {rows : List α} {z c : α} {k : Nat} (h : rows[k]? = some c) : (fill rows z k).set k c = fill rows z (k + 1) := by
  obtain ⟨hk,rfl⟩ := List.getElem?_eq_some_iff.1 h
  unfold fill
  rw [List.set_append_right _ _ (by simp;omega)]
  simp only [List.length_take,Nat.min_eq_left (Nat.le_of_lt hk),Nat.sub_self]
  rw [show rows.length - k = (rows.length - (k + 1)) + 1 by omega,List.replicate_succ,List.set_cons_zero,List.take_succ_eq_append_getElem hk,List.append_assoc]
  rfl
def mkLs {α : Type} (mk : Int → α) (n : Nat) (k : Int) : Nat → List α
  | 0 => []
  | m + 1 => mkLs mk n k m ++ [mk (k + (n : Int) * (m : Int))]
theorem mkLs_len {α : Type} {mk : Int → α} {n : Nat} {k : Int} : ∀ {m : Nat},(mkLs mk n k m).length = m
  | 0 => rfl
  | m + 1 => by unfold mkLs;rw [List.length_append,mkLs_len];rfl
theorem mkLs_succ {α : Type} {mk : Int → α} {n : Nat} {k : Int} {m : Nat} : mkLs mk n k (m + 1) = mkLs mk n k m ++ [mk (k + (n : Int) * (m : Int))] := rfl
theorem mkLs_get {α : Type} {mk : Int → α} {n : Nat} {k : Int} {j : Nat} : ∀ {m : Nat},j < m → (mkLs mk n k m)[j]? = some (mk (k + (n : Int) * (j : Int)))
  | m + 1,h => by
    rw [mkLs_succ]
    rcases Nat.lt_or_ge j m with q | q
    · rw [List.getElem?_append_left (by rw [mkLs_len];exact q),mkLs_get q]
    · have e : j = m := by omega
      subst e
      rw [List.getElem?_append_right (by rw [mkLs_len];exact Nat.le_refl _),mkLs_len]
      simp
theorem marked_get {α : Type} {p l : List α} {j : Nat} (hp : p.length = j) (h : j < l.length) : (p ++ l.drop j)[j]? = some l[j] := by
  subst hp
  rw [List.getElem?_append_right (Nat.le_refl _),Nat.sub_self,List.getElem?_drop,Nat.add_zero]
  exact List.getElem?_eq_getElem h
theorem marked_set {α : Type} {p p' l : List α} {j : Nat} {c : α} (hp : p.length = j) (hp' : p' = p ++ [c]) (h : j < l.length) : (p ++ l.drop j).set j c = p' ++ l.drop (j + 1) := by
  subst hp hp'
  rw [List.set_append_right _ _ (Nat.le_refl _),Nat.sub_self,List.drop_eq_getElem_cons h,List.set_cons_zero,List.append_assoc]
  rfl
section
variable {P : Program} {o : Oper} {τ : Nat → AV} {H : Nat → AO} {X : Nat → Bool}
theorem rd_neB {T yT : TypeId} {x y : Operand} {a b : Bool} (ho : o.op = .binOp .neq T x y yT) (hx : ev τ x = boo a) (hy : ev τ y = boo b) (ht : P.underlying T = some .bool) : Rd P o τ H X (boo (!(a == b))) := by
  have he : ∀ W,(Op.equal T (.bool a) (.bool b)).run P W = .ok (a == b) W := fun W => run_equalIn_bool' W (Op.maxDepth - 1) T a b ht
  apply rd_eqv ho (by rw [hx];rfl) (by rw [hy];rfl)
  intro W
  simp [eqGuard,binOp,he]
end

theorem toEvent_e (x : Event) : GC Tryz.prog 8 [.agg [int x.kind,int x.key,int x.ch,int x.to,int x.amt,int x.fee,boo x.yes]] [] (.agg [int x.kind,int x.key,int x.ch,int x.to,int x.amt,int x.fee,boo x.yes]) [] := by
 refine GC.intro (rs := [.cell 2 41 (some 7)]) Tryz.func8 rfl Tryz.ntmps8 (Nat.le_of_ble_eq_true rfl) ⟨rfl,rfl,ty.kd41,trivial⟩ ?_
 intro L O w0
 refine sL<|lst (zX 2001 Z) Z<|lst (zA 2002 ty.ze41 Z) Z<|nA<|lst (zA 2003 ty.ze41 Z) Z<|nA<|lf 0 ty.F28_0 Z<|loI ty.kd3 Z<|lf 0 ty.F41_0 Z<|lst (zB 2003 ty.co3 ty.inf3 Z) Z<|nA<|lf 1 ty.F28_1 Z<|loI ty.kd3 Z<|lf 1 ty.F41_1 Z<|lst (zB 2003 ty.co3 ty.inf3 Z) Z<|nA<|lf 2 ty.F28_2 Z ?_
 refine loI ty.kd3 Z<|lf 2 ty.F41_2 Z<|lst (zB 2003 ty.co3 ty.inf3 Z) Z<|lT [1,2,3] [.ptr 2001 _ 0,.ptr 2002 _ 0,.ptr 2003 _ 0] [2001,2002,2003] [.box _ _ [vI _ _,vI _ _,vI _ _,vI _ _,vI _ _,vI _ _,vB _],.box _ _ [vI _ _,vI _ _,vI _ _,vI _ _,vI _ _,vI _ _,vB false],.box _ _ [vI _ _,vI _ _,vI _ _,vI _ _,vI _ _,vI _ _,vB false]] Z Z<|nA<|lf 3 ty.F28_3 Z<|loI ty.kd3 Z<|lf 3 ty.F41_3 Z<|lst (zB 2003 ty.co3 ty.inf3 Z) Z<|nA<|lf 4 ty.F28_4 Z<|loI ty.kd3 Z<|lf 4 ty.F41_4 Z<|lst (zB 2003 ty.co3 ty.inf3 Z) Z<|nA<|lf 5 ty.F28_5 Z<|loI ty.kd3 Z<|lf 5 ty.F41_5 Z<|lst (zB 2003 ty.co3 ty.inf3 Z) Z<|nG ?_
 refine sL<|lf 6 ty.F28_6 Z<|loB ty.kd4 Z<|lf 6 ty.F41_6 Z<|lst (zB 2003 ty.co4 ty.inf4 Z) Z<|lT [2,3] [.ptr 2002 _ 0,.ptr 2003 _ 0] [2001,2002,2003] [.box _ _ [vI _ _,vI _ _,vI _ _,vI _ _,vI _ _,vI _ _,vB _],.box _ _ [vI _ _,vI _ _,vI _ _,vI _ _,vI _ _,vI _ _,vB false],.box _ _ [vI _ _,vI _ _,vI _ _,vI _ _,vI _ _,vI _ _,vB _]] Z Z<|nA<|loX (.agg [vI _ _,vI _ _,vI _ _,vI _ _,vI _ _,vI _ _,vB _]) ty.kd41 Z<|lst (zB 2002 ty.co41 ty.inf41 Z) Z<|nG<|aR ?_
 refine end_ret ?_ trivial
 rfl
theorem toChan_e (x : Chan) : GC Tryz.prog 92 [.agg [int x.id,int x.size,int x.loc,int x.remote,int x.base,int x.ppm,int x.score]] [] (.agg [int x.id,int x.size,int x.loc,int x.remote,int x.base,int x.ppm,int x.score]) [] := by
 refine GC.intro (rs := [.cell 2 78 (some 7)]) Tryz.func92 rfl Tryz.ntmps92 (Nat.le_of_ble_eq_true rfl) ⟨rfl,rfl,ty.kd78,trivial⟩ ?_
 intro L O w0
 refine sL<|lst (zX 2001 Z) Z<|lst (zA 2002 ty.ze78 Z) Z<|nA<|lst (zA 2003 ty.ze78 Z) Z<|nA<|lf 0 ty.F122_0 Z<|loI ty.kd3 Z<|lf 0 ty.F78_0 Z<|lst (zB 2003 ty.co3 ty.inf3 Z) Z<|nA<|lf 1 ty.F122_1 Z<|loI ty.kd3 Z<|lf 1 ty.F78_1 Z<|lst (zB 2003 ty.co3 ty.inf3 Z) Z<|nA<|lf 2 ty.F122_2 Z ?_
 refine loI ty.kd3 Z<|lf 2 ty.F78_2 Z<|lst (zB 2003 ty.co3 ty.inf3 Z) Z<|lT [1,2,3] [.ptr 2001 _ 0,.ptr 2002 _ 0,.ptr 2003 _ 0] [2001,2002,2003] [.box _ _ [vI _ _,vI _ _,vI _ _,vI _ _,vI _ _,vI _ _,vI _ _],.box _ _ [vI _ _,vI _ _,vI _ _,vI _ _,vI _ _,vI _ _,vI _ _],.box _ _ [vI _ _,vI _ _,vI _ _,vI _ _,vI _ _,vI _ _,vI _ _]] Z Z<|nA<|lf 3 ty.F122_3 Z<|loI ty.kd3 Z<|lf 3 ty.F78_3 Z<|lst (zB 2003 ty.co3 ty.inf3 Z) Z<|nA<|lf 4 ty.F122_4 Z<|loI ty.kd3 Z<|lf 4 ty.F78_4 Z<|lst (zB 2003 ty.co3 ty.inf3 Z) Z<|nA<|lf 5 ty.F122_5 Z<|loI ty.kd3 Z<|lf 5 ty.F78_5 Z<|lst (zB 2003 ty.co3 ty.inf3 Z) Z<|nG ?_
 refine sL<|lf 6 ty.F122_6 Z<|loI ty.kd3 Z<|lf 6 ty.F78_6 Z<|lst (zB 2003 ty.co3 ty.inf3 Z) Z<|lT [2,3] [.ptr 2002 _ 0,.ptr 2003 _ 0] [2001,2002,2003] [.box _ _ [vI _ _,vI _ _,vI _ _,vI _ _,vI _ _,vI _ _,vI _ _],.box _ _ [vI _ _,vI _ _,vI _ _,vI _ _,vI _ _,vI _ _,vI _ _],.box _ _ [vI _ _,vI _ _,vI _ _,vI _ _,vI _ _,vI _ _,vI _ _]] Z Z<|nA<|loX (.agg [vI _ _,vI _ _,vI _ _,vI _ _,vI _ _,vI _ _,vI _ _]) ty.kd78 Z<|lst (zB 2002 ty.co78 ty.inf78 Z) Z<|nG<|aR ?_
 refine end_ret ?_ trivial
 rfl
theorem toHtlc_e (x : Htlc) : GC Tryz.prog 93 [.agg [int x.key,int x.inn,int x.out,int x.amtIn,int x.amtOut,boo x.kept,int x.age]] [] (.agg [int x.key,int x.inn,int x.out,int x.amtIn,int x.amtOut,boo x.kept,int x.age]) [] := by
 refine GC.intro (rs := [.cell 2 117 (some 7)]) Tryz.func93 rfl Tryz.ntmps93 (Nat.le_of_ble_eq_true rfl) ⟨rfl,rfl,ty.kd117,trivial⟩ ?_
 intro L O w0
 refine sL<|lst (zX 2001 Z) Z<|lst (zA 2002 ty.ze117 Z) Z<|nA<|lst (zA 2003 ty.ze117 Z) Z<|nA<|lf 0 ty.F124_0 Z<|loI ty.kd3 Z<|lf 0 ty.F117_0 Z<|lst (zB 2003 ty.co3 ty.inf3 Z) Z<|nA<|lf 1 ty.F124_1 Z<|loI ty.kd3 Z<|lf 1 ty.F117_1 Z<|lst (zB 2003 ty.co3 ty.inf3 Z) Z<|nA<|lf 2 ty.F124_2 Z ?_
 refine loI ty.kd3 Z<|lf 2 ty.F117_2 Z<|lst (zB 2003 ty.co3 ty.inf3 Z) Z<|lT [1,2,3] [.ptr 2001 _ 0,.ptr 2002 _ 0,.ptr 2003 _ 0] [2001,2002,2003] [.box _ _ [vI _ _,vI _ _,vI _ _,vI _ _,vI _ _,vB _,vI _ _],.box _ _ [vI _ _,vI _ _,vI _ _,vI _ _,vI _ _,vB false,vI _ _],.box _ _ [vI _ _,vI _ _,vI _ _,vI _ _,vI _ _,vB false,vI _ _]] Z Z<|nA<|lf 3 ty.F124_3 Z<|loI ty.kd3 Z<|lf 3 ty.F117_3 Z<|lst (zB 2003 ty.co3 ty.inf3 Z) Z<|nA<|lf 4 ty.F124_4 Z<|loI ty.kd3 Z<|lf 4 ty.F117_4 Z<|lst (zB 2003 ty.co3 ty.inf3 Z) Z<|nA<|lf 5 ty.F124_5 Z<|loB ty.kd4 Z<|lf 5 ty.F117_5 Z<|lst (zB 2003 ty.co4 ty.inf4 Z) Z<|nG ?_
 refine sL<|lf 6 ty.F124_6 Z<|loI ty.kd3 Z<|lf 6 ty.F117_6 Z<|lst (zB 2003 ty.co3 ty.inf3 Z) Z<|lT [2,3] [.ptr 2002 _ 0,.ptr 2003 _ 0] [2001,2002,2003] [.box _ _ [vI _ _,vI _ _,vI _ _,vI _ _,vI _ _,vB _,vI _ _],.box _ _ [vI _ _,vI _ _,vI _ _,vI _ _,vI _ _,vB false,vI _ _],.box _ _ [vI _ _,vI _ _,vI _ _,vI _ _,vI _ _,vB _,vI _ _]] Z Z<|nA<|loX (.agg [vI _ _,vI _ _,vI _ _,vI _ _,vI _ _,vB _,vI _ _]) ty.kd117 Z<|lst (zB 2002 ty.co117 ty.inf117 Z) Z<|nG<|aR ?_
 refine end_ret ?_ trivial
 rfl
theorem toCircle_e (x : Circle) : GC Tryz.prog 94 [.agg [int x.key,int x.frm,int x.to,int x.amt,int x.fee]] [] (.agg [int x.key,int x.frm,int x.to,int x.amt,int x.fee]) [] := by
 refine GC.intro (rs := [.cell 2 120 (some 5)]) Tryz.func94 rfl Tryz.ntmps94 (Nat.le_of_ble_eq_true rfl) ⟨rfl,rfl,ty.kd120,trivial⟩ ?_
 intro L O w0
 refine sL<|lst (zX 2001 Z) Z<|lst (zA 2002 ty.ze120 Z) Z<|nA<|lst (zA 2003 ty.ze120 Z) Z<|nA<|lf 0 ty.F126_0 Z<|loI ty.kd3 Z<|lf 0 ty.F120_0 Z<|lst (zB 2003 ty.co3 ty.inf3 Z) Z<|nA<|lf 1 ty.F126_1 Z<|loI ty.kd3 Z<|lf 1 ty.F120_1 Z<|lst (zB 2003 ty.co3 ty.inf3 Z) Z<|nA<|lf 2 ty.F126_2 Z ?_
 refine loI ty.kd3 Z<|lf 2 ty.F120_2 Z<|lst (zB 2003 ty.co3 ty.inf3 Z) Z<|lT [1,2,3] [.ptr 2001 _ 0,.ptr 2002 _ 0,.ptr 2003 _ 0] [2001,2002,2003] [.box _ _ [vI _ _,vI _ _,vI _ _,vI _ _,vI _ _],.box _ _ [vI _ _,vI _ _,vI _ _,vI _ _,vI _ _],.box _ _ [vI _ _,vI _ _,vI _ _,vI _ _,vI _ _]] Z Z<|nA<|lf 3 ty.F126_3 Z<|loI ty.kd3 Z<|lf 3 ty.F120_3 Z<|lst (zB 2003 ty.co3 ty.inf3 Z) Z<|nA<|lf 4 ty.F126_4 Z<|loI ty.kd3 Z<|lf 4 ty.F120_4 Z<|lst (zB 2003 ty.co3 ty.inf3 Z) Z<|nA<|loX (.agg [vI _ _,vI _ _,vI _ _,vI _ _,vI _ _]) ty.kd120 Z<|lst (zB 2002 ty.co120 ty.inf120 Z) Z<|nG<|aR ?_
 refine end_ret ?_ trivial
 rfl
theorem toEventS_e (l : List Event) (hm : l.length ≤ 1048576) : GC Tryz.prog 18 [.p (.lst 28 7 (rowsOf encEvent l))] [] (.own 2007) [(2007,.arr 41 7 (rowsOf encEvent l))] := by
 refine gi 2 Tryz.func18 rfl Tryz.ntmps18 rfl ?_
 intro L O w0
 refine sL<|laV Z<|nA<|lmL Z<|lnI ty.sl48 Z<|lst (St.make 2007 (m := l.length) rfl rfl (by decide) ty.el54 ty.ze41 rfl rfl rfl ?hn1 ?hn2 (Nat.le_trans (Nat.mul_le_mul_right _ ty.by41) (by omega)) (by unfold maxLen;omega)) rfl ?_
 case hn1 => rw [length_rowsOf]
 case hn2 => rw [length_rowsOf]
 refine laO Z<|nG<|aS<|sL<|laI Z<|nG<|aB ?_
 refine AW.loopE [(0,vL _ _ _),(2,vV _),(3,.own _)] [] (D := Nat) (fun k => [(4,int (k : Int))]) (fun k => [(2007,.arr 41 7 (fill (rowsOf encEvent l) [.v (.int .i64 0),.v (.int .i64 0),.v (.int .i64 0),.v (.int .i64 0),.v (.int .i64 0),.v (.int .i64 0),.v (.bool false)] k))]) (fun k => k ≤ l.length) (fun k => l.length - k) (0) (Nat.zero_le _) ⟨rfl,trivial⟩ ⟨(congrArg (fun q => AO.arr 41 7 q) (by rw [fill_zero,length_rowsOf];rfl)),trivial⟩ ⟨rfl,rfl,rfl,trivial⟩ trivial ?_
 intro k hI
 refine aS<|sL<|lmI Z<|lmL Z<|lnI ty.sl48 Z<|lbB Z<|nG ?_
 refine AW.cond rfl ?_ ?_
 ·intro h1
  refine aK<|gT<|aS<|aB<|aL<|lmO Z<|lmI Z<|lmL Z<|lmI Z ?_
  have hk : k < l.length := by simpa [length_rowsOf] using h1
  refine li k ty.el48 Z (row_map hk)<|lrX (.agg [vI _ _,vI _ _,vI _ _,vI _ _,vI _ _,vI _ _,vB _]) ty.kd28 Z<|lst (zL Tryz.func8 (toEvent_e _) Z) Z<|lT [0,2,3,4,14,15,20] [vL _ _ _,vV _,.own _,vI _ _,.own _,vI _ _,.agg [vI _ _,vI _ _,vI _ _,vI _ _,vI _ _,vI _ _,vB _]] [2007] [.arr _ _ _] Z Z ?_
  have hk : k < l.length := by simpa [length_rowsOf] using h1
  refine lq (rj k ty.el54 rfl (by rw [fill_len _ (by rw [length_rowsOf];omega),length_rowsOf];exact hk))<|lst (zQ 2007 [.v (.int .i64 l[k].kind),.v (.int .i64 l[k].key),.v (.int .i64 l[k].ch),.v (.int .i64 l[k].to),.v (.int .i64 l[k].amt),.v (.int .i64 l[k].fee),.v (.bool l[k].yes)] ty.co41 ty.inf41 rfl (fill_get (by rw [length_rowsOf];exact hk))) Z<|lN<|gB<|gT<|aL<|lmI Z<|lgI Z<|laI Z<|nG ?_
  refine ⟨k + 1,hk,by omega,⟨(iq rfl),trivial⟩,⟨(Eq.trans (b := AO.arr 41 7 ((fill (rowsOf encEvent l) [.v (.int .i64 0),.v (.int .i64 0),.v (.int .i64 0),.v (.int .i64 0),.v (.int .i64 0),.v (.int .i64 0),.v (.bool false)] k).set k ((encEvent l[k]).map PV.v))) rfl (congrArg (fun q => AO.arr 41 7 q) (fill_set (row_map hk)))),trivial⟩,⟨rfl,rfl,rfl,trivial⟩,trivial⟩
 ·intro h1
  refine aE<|eT<|eT<|eB<|gA<|lmO Z<|laO Z<|nG<|aR ?_
  refine end_ret ?_ ⟨(congrArg (fun q => AO.arr 41 7 q) (by have h := h1;simp only [length_rowsOf,decide_eq_false_iff_not] at h;rw [show k = (rowsOf encEvent l).length by rw [length_rowsOf];omega,fill_all])),trivial⟩
  rfl
theorem toChanS_e (l : List Chan) (hm : l.length ≤ 1048576) : GC Tryz.prog 45 [.p (.lst 122 7 (rowsOf encChan l))] [] (.own 2007) [(2007,.arr 78 7 (rowsOf encChan l))] := by
 refine gi 2 Tryz.func45 rfl Tryz.ntmps45 rfl ?_
 intro L O w0
 refine sL<|laV Z<|nA<|lmL Z<|lnI ty.sl22 Z<|lst (St.make 2007 (m := l.length) rfl rfl (by decide) ty.el30 ty.ze78 rfl rfl rfl ?hn1 ?hn2 (Nat.le_trans (Nat.mul_le_mul_right _ ty.by78) (by omega)) (by unfold maxLen;omega)) rfl ?_
 case hn1 => rw [length_rowsOf]
 case hn2 => rw [length_rowsOf]
 refine laO Z<|nG<|aS<|sL<|laI Z<|nG<|aB ?_
 refine AW.loopE [(0,vL _ _ _),(2,vV _),(3,.own _)] [] (D := Nat) (fun k => [(4,int (k : Int))]) (fun k => [(2007,.arr 78 7 (fill (rowsOf encChan l) [.v (.int .i64 0),.v (.int .i64 0),.v (.int .i64 0),.v (.int .i64 0),.v (.int .i64 0),.v (.int .i64 0),.v (.int .i64 0)] k))]) (fun k => k ≤ l.length) (fun k => l.length - k) (0) (Nat.zero_le _) ⟨rfl,trivial⟩ ⟨(congrArg (fun q => AO.arr 78 7 q) (by rw [fill_zero,length_rowsOf];rfl)),trivial⟩ ⟨rfl,rfl,rfl,trivial⟩ trivial ?_
 intro k hI
 refine aS<|sL<|lmI Z<|lmL Z<|lnI ty.sl22 Z<|lbB Z<|nG ?_
 refine AW.cond rfl ?_ ?_
 ·intro h1
  refine aK<|gT<|aS<|aB<|aL<|lmO Z<|lmI Z<|lmL Z<|lmI Z ?_
  have hk : k < l.length := by simpa [length_rowsOf] using h1
  refine li k ty.el22 Z (row_map hk)<|lrX (.agg [vI _ _,vI _ _,vI _ _,vI _ _,vI _ _,vI _ _,vI _ _]) ty.kd122 Z<|lst (zL Tryz.func92 (toChan_e _) Z) Z<|lT [0,2,3,4,14,15,20] [vL _ _ _,vV _,.own _,vI _ _,.own _,vI _ _,.agg [vI _ _,vI _ _,vI _ _,vI _ _,vI _ _,vI _ _,vI _ _]] [2007] [.arr _ _ _] Z Z ?_
  have hk : k < l.length := by simpa [length_rowsOf] using h1
  refine lq (rj k ty.el30 rfl (by rw [fill_len _ (by rw [length_rowsOf];omega),length_rowsOf];exact hk))<|lst (zQ 2007 [.v (.int .i64 l[k].id),.v (.int .i64 l[k].size),.v (.int .i64 l[k].loc),.v (.int .i64 l[k].remote),.v (.int .i64 l[k].base),.v (.int .i64 l[k].ppm),.v (.int .i64 l[k].score)] ty.co78 ty.inf78 rfl (fill_get (by rw [length_rowsOf];exact hk))) Z<|lN<|gB<|gT<|aL<|lmI Z<|lgI Z<|laI Z<|nG ?_
  refine ⟨k + 1,hk,by omega,⟨(iq rfl),trivial⟩,⟨(Eq.trans (b := AO.arr 78 7 ((fill (rowsOf encChan l) [.v (.int .i64 0),.v (.int .i64 0),.v (.int .i64 0),.v (.int .i64 0),.v (.int .i64 0),.v (.int .i64 0),.v (.int .i64 0)] k).set k ((encChan l[k]).map PV.v))) rfl (congrArg (fun q => AO.arr 78 7 q) (fill_set (row_map hk)))),trivial⟩,⟨rfl,rfl,rfl,trivial⟩,trivial⟩
 ·intro h1
  refine aE<|eT<|eT<|eB<|gA<|lmO Z<|laO Z<|nG<|aR ?_
  refine end_ret ?_ ⟨(congrArg (fun q => AO.arr 78 7 q) (by have h := h1;simp only [length_rowsOf,decide_eq_false_iff_not] at h;rw [show k = (rowsOf encChan l).length by rw [length_rowsOf];omega,fill_all])),trivial⟩
  rfl
theorem toHtlcS_e (l : List Htlc) (hm : l.length ≤ 1048576) : GC Tryz.prog 46 [.p (.lst 124 7 (rowsOf encHtlc l))] [] (.own 2007) [(2007,.arr 117 7 (rowsOf encHtlc l))] := by
 refine gi 2 Tryz.func46 rfl Tryz.ntmps46 rfl ?_
 intro L O w0
 refine sL<|laV Z<|nA<|lmL Z<|lnI ty.sl23 Z<|lst (St.make 2007 (m := l.length) rfl rfl (by decide) ty.el31 ty.ze117 rfl rfl rfl ?hn1 ?hn2 (Nat.le_trans (Nat.mul_le_mul_right _ ty.by117) (by omega)) (by unfold maxLen;omega)) rfl ?_
 case hn1 => rw [length_rowsOf]
 case hn2 => rw [length_rowsOf]
 refine laO Z<|nG<|aS<|sL<|laI Z<|nG<|aB ?_
 refine AW.loopE [(0,vL _ _ _),(2,vV _),(3,.own _)] [] (D := Nat) (fun k => [(4,int (k : Int))]) (fun k => [(2007,.arr 117 7 (fill (rowsOf encHtlc l) [.v (.int .i64 0),.v (.int .i64 0),.v (.int .i64 0),.v (.int .i64 0),.v (.int .i64 0),.v (.bool false),.v (.int .i64 0)] k))]) (fun k => k ≤ l.length) (fun k => l.length - k) (0) (Nat.zero_le _) ⟨rfl,trivial⟩ ⟨(congrArg (fun q => AO.arr 117 7 q) (by rw [fill_zero,length_rowsOf];rfl)),trivial⟩ ⟨rfl,rfl,rfl,trivial⟩ trivial ?_
 intro k hI
 refine aS<|sL<|lmI Z<|lmL Z<|lnI ty.sl23 Z<|lbB Z<|nG ?_
 refine AW.cond rfl ?_ ?_
 ·intro h1
  refine aK<|gT<|aS<|aB<|aL<|lmO Z<|lmI Z<|lmL Z<|lmI Z ?_
  have hk : k < l.length := by simpa [length_rowsOf] using h1
  refine li k ty.el23 Z (row_map hk)<|lrX (.agg [vI _ _,vI _ _,vI _ _,vI _ _,vI _ _,vB _,vI _ _]) ty.kd124 Z<|lst (zL Tryz.func93 (toHtlc_e _) Z) Z<|lT [0,2,3,4,14,15,20] [vL _ _ _,vV _,.own _,vI _ _,.own _,vI _ _,.agg [vI _ _,vI _ _,vI _ _,vI _ _,vI _ _,vB _,vI _ _]] [2007] [.arr _ _ _] Z Z ?_
  have hk : k < l.length := by simpa [length_rowsOf] using h1
  refine lq (rj k ty.el31 rfl (by rw [fill_len _ (by rw [length_rowsOf];omega),length_rowsOf];exact hk))<|lst (zQ 2007 [.v (.int .i64 l[k].key),.v (.int .i64 l[k].inn),.v (.int .i64 l[k].out),.v (.int .i64 l[k].amtIn),.v (.int .i64 l[k].amtOut),.v (.bool l[k].kept),.v (.int .i64 l[k].age)] ty.co117 ty.inf117 rfl (fill_get (by rw [length_rowsOf];exact hk))) Z<|lN<|gB<|gT<|aL<|lmI Z<|lgI Z<|laI Z<|nG ?_
  refine ⟨k + 1,hk,by omega,⟨(iq rfl),trivial⟩,⟨(Eq.trans (b := AO.arr 117 7 ((fill (rowsOf encHtlc l) [.v (.int .i64 0),.v (.int .i64 0),.v (.int .i64 0),.v (.int .i64 0),.v (.int .i64 0),.v (.bool false),.v (.int .i64 0)] k).set k ((encHtlc l[k]).map PV.v))) rfl (congrArg (fun q => AO.arr 117 7 q) (fill_set (row_map hk)))),trivial⟩,⟨rfl,rfl,rfl,trivial⟩,trivial⟩
 ·intro h1
  refine aE<|eT<|eT<|eB<|gA<|lmO Z<|laO Z<|nG<|aR ?_
  refine end_ret ?_ ⟨(congrArg (fun q => AO.arr 117 7 q) (by have h := h1;simp only [length_rowsOf,decide_eq_false_iff_not] at h;rw [show k = (rowsOf encHtlc l).length by rw [length_rowsOf];omega,fill_all])),trivial⟩
  rfl
theorem toCircleS_e (l : List Circle) (hm : l.length ≤ 1048576) : GC Tryz.prog 47 [.p (.lst 126 5 (rowsOf encCircle l))] [] (.own 2007) [(2007,.arr 120 5 (rowsOf encCircle l))] := by
 refine gi 2 Tryz.func47 rfl Tryz.ntmps47 rfl ?_
 intro L O w0
 refine sL<|laV Z<|nA<|lmL Z<|lnI ty.sl24 Z<|lst (St.make 2007 (m := l.length) rfl rfl (by decide) ty.el32 ty.ze120 rfl rfl rfl ?hn1 ?hn2 (Nat.le_trans (Nat.mul_le_mul_right _ ty.by120) (by omega)) (by unfold maxLen;omega)) rfl ?_
 case hn1 => rw [length_rowsOf]
 case hn2 => rw [length_rowsOf]
 refine laO Z<|nG<|aS<|sL<|laI Z<|nG<|aB ?_
 refine AW.loopE [(0,vL _ _ _),(2,vV _),(3,.own _)] [] (D := Nat) (fun k => [(4,int (k : Int))]) (fun k => [(2007,.arr 120 5 (fill (rowsOf encCircle l) [.v (.int .i64 0),.v (.int .i64 0),.v (.int .i64 0),.v (.int .i64 0),.v (.int .i64 0)] k))]) (fun k => k ≤ l.length) (fun k => l.length - k) (0) (Nat.zero_le _) ⟨rfl,trivial⟩ ⟨(congrArg (fun q => AO.arr 120 5 q) (by rw [fill_zero,length_rowsOf];rfl)),trivial⟩ ⟨rfl,rfl,rfl,trivial⟩ trivial ?_
 intro k hI
 refine aS<|sL<|lmI Z<|lmL Z<|lnI ty.sl24 Z<|lbB Z<|nG ?_
 refine AW.cond rfl ?_ ?_
 ·intro h1
  refine aK<|gT<|aS<|aB<|aL<|lmO Z<|lmI Z<|lmL Z<|lmI Z ?_
  have hk : k < l.length := by simpa [length_rowsOf] using h1
  refine li k ty.el24 Z (row_map hk)<|lrX (.agg [vI _ _,vI _ _,vI _ _,vI _ _,vI _ _]) ty.kd126 Z<|lst (zL Tryz.func94 (toCircle_e _) Z) Z<|lT [0,2,3,4,14,15,20] [vL _ _ _,vV _,.own _,vI _ _,.own _,vI _ _,.agg [vI _ _,vI _ _,vI _ _,vI _ _,vI _ _]] [2007] [.arr _ _ _] Z Z ?_
  have hk : k < l.length := by simpa [length_rowsOf] using h1
  refine lq (rj k ty.el32 rfl (by rw [fill_len _ (by rw [length_rowsOf];omega),length_rowsOf];exact hk))<|lst (zQ 2007 [.v (.int .i64 l[k].key),.v (.int .i64 l[k].frm),.v (.int .i64 l[k].to),.v (.int .i64 l[k].amt),.v (.int .i64 l[k].fee)] ty.co120 ty.inf120 rfl (fill_get (by rw [length_rowsOf];exact hk))) Z<|lN<|gB<|gT<|aL<|lmI Z<|lgI Z<|laI Z<|nG ?_
  refine ⟨k + 1,hk,by omega,⟨(iq rfl),trivial⟩,⟨(Eq.trans (b := AO.arr 120 5 ((fill (rowsOf encCircle l) [.v (.int .i64 0),.v (.int .i64 0),.v (.int .i64 0),.v (.int .i64 0),.v (.int .i64 0)] k).set k ((encCircle l[k]).map PV.v))) rfl (congrArg (fun q => AO.arr 120 5 q) (fill_set (row_map hk)))),trivial⟩,⟨rfl,rfl,rfl,trivial⟩,trivial⟩
 ·intro h1
  refine aE<|eT<|eT<|eB<|gA<|lmO Z<|laO Z<|nG<|aR ?_
  refine end_ret ?_ ⟨(congrArg (fun q => AO.arr 120 5 q) (by have h := h1;simp only [length_rowsOf,decide_eq_false_iff_not] at h;rw [show k = (rowsOf encCircle l).length by rw [length_rowsOf];omega,fill_all])),trivial⟩
  rfl
theorem eqAcc_e (x : Acc) : GC Tryz.prog 131 [.agg [int x.kind,int x.ch],.agg [int x.kind,int x.ch]] [] (boo true) [] := by
 refine gi 4 Tryz.func131 rfl Tryz.ntmps131 rfl ?_
 intro L O w0
 refine sL<|lst (zX 2002 rfl) Z<|lst (zX 2003 rfl) Z<|laZ Z<|nG<|aS<|sL<|lf 0 ty.F107_0 Z<|loI ty.kd3 Z<|lf 0 ty.F107_0 Z<|loI ty.kd3 Z<|lbB Z<|lsB 9 false rfl (by simp)<|nG<|aN Z<|aK<|gT<|aS<|sL<|lf 1 ty.F107_1 Z<|loI ty.kd3 Z<|lf 1 ty.F107_1 Z<|loI ty.kd3 Z<|lbB Z<|lsB 14 false rfl (by simp) ?_
 refine nG<|aN Z<|aK<|gA<|laT Z<|nG<|aR ?_
 refine end_ret ?_ trivial
 rfl
theorem eqLine_e (x : Line) : GC Tryz.prog 118 [.agg [int x.acc.kind,int x.acc.ch,int x.amt],.agg [int x.acc.kind,int x.acc.ch,int x.amt]] [] (boo true) [] := by
 refine gi 4 Tryz.func118 rfl Tryz.ntmps118 rfl ?_
 intro L O w0
 refine sL<|lst (zX 2002 rfl) Z<|lst (zX 2003 rfl) Z<|laZ Z<|nG<|aS<|sL<|lf 0 ty.F109_0 Z<|loX (.agg [vI _ _,vI _ _]) ty.kd107 Z<|lf 0 ty.F109_0 Z<|loX (.agg [vI _ _,vI _ _]) ty.kd107 Z<|lst (zL Tryz.func131 (eqAcc_e _) rfl) Z<|luZ Z<|lsB 10 false rfl (by simp)<|nG<|aN Z<|aK<|gT<|aS<|sL<|lf 2 ty.F109_1 Z<|loI ty.kd3 Z<|lf 2 ty.F109_1 Z<|loI ty.kd3 Z<|lbB rfl ?_
 refine lsB 15 false rfl (by simp)<|nG<|aN Z<|aK<|gA<|laT Z<|nG<|aR ?_
 refine end_ret ?_ trivial
 rfl
theorem eqEvent_e (x : Event) : GC Tryz.prog 73 [.agg [int x.kind,int x.key,int x.ch,int x.to,int x.amt,int x.fee,boo x.yes],.agg [int x.kind,int x.key,int x.ch,int x.to,int x.amt,int x.fee,boo x.yes]] [] (boo true) [] := by
 refine gi 4 Tryz.func73 rfl Tryz.ntmps73 rfl ?_
 intro L O w0
 refine sL<|lst (zX 2002 rfl) Z<|lst (zX 2003 rfl) Z<|laZ Z<|nG<|aS<|sL<|lf 0 ty.F41_0 Z<|loI ty.kd3 Z<|lf 0 ty.F41_0 Z<|loI ty.kd3 Z<|lbB Z<|lsB 9 false rfl (by simp)<|nG<|aN Z<|aK<|gT<|aS<|sL<|lf 1 ty.F41_1 Z<|loI ty.kd3 Z<|lf 1 ty.F41_1 Z<|loI ty.kd3 Z<|lbB Z<|lsB 14 false rfl (by simp) ?_
 refine nG<|aN Z<|aK<|gT<|aS<|sL<|lf 2 ty.F41_2 Z<|loI ty.kd3 Z<|lf 2 ty.F41_2 Z<|loI ty.kd3 Z<|lbB Z<|lsB 19 false rfl (by simp)<|nG<|aN Z<|aK<|gT<|aS<|sL<|lf 3 ty.F41_3 Z<|loI ty.kd3 Z<|lf 3 ty.F41_3 Z<|loI ty.kd3 Z<|lbB Z<|lsB 24 false rfl (by simp)<|nG ?_
 refine aN Z<|aK<|gT<|aS<|sL<|lf 4 ty.F41_4 Z<|loI ty.kd3 Z<|lf 4 ty.F41_4 Z<|loI ty.kd3 Z<|lbB Z<|lsB 29 false rfl (by simp)<|nG<|aN Z<|aK<|gT<|aS<|sL<|lf 5 ty.F41_5 Z<|loI ty.kd3 Z<|lT [2,3,4,31] [.ptr 2002 _ 0,.ptr 2003 _ 0,vB false,vI _ _] [2002,2003] [.box _ _ [vI _ _,vI _ _,vI _ _,vI _ _,vI _ _,vI _ _,vB _],.box _ _ [vI _ _,vI _ _,vI _ _,vI _ _,vI _ _,vI _ _,vB _]] rfl Z<|lf 5 ty.F41_5 Z<|loI ty.kd3 Z<|lbB Z<|lsB 34 false rfl (by simp)<|nG<|aN rfl ?_
 refine aK<|gT<|aS<|sL<|lf 6 ty.F41_6 Z<|loB ty.kd4 Z<|lf 6 ty.F41_6 Z<|loB ty.kd4 Z<|lq (rd (x := vB _) (rd_neB rfl rfl rfl Tryz.underlying4) rfl)<|lsB 39 false rfl (by simp)<|nG<|aN Z<|aK<|gA<|laT Z<|nG<|aR ?_
 refine end_ret ?_ trivial
 rfl
theorem eqChan_e (x : Chan) : GC Tryz.prog 115 [.agg [int x.id,int x.size,int x.loc,int x.remote,int x.base,int x.ppm,int x.score],.agg [int x.id,int x.size,int x.loc,int x.remote,int x.base,int x.ppm,int x.score]] [] (boo true) [] := by
 refine gi 4 Tryz.func115 rfl Tryz.ntmps115 rfl ?_
 intro L O w0
 refine sL<|lst (zX 2002 rfl) Z<|lst (zX 2003 rfl) Z<|laZ Z<|nG<|aS<|sL<|lf 0 ty.F78_0 Z<|loI ty.kd3 Z<|lf 0 ty.F78_0 Z<|loI ty.kd3 Z<|lbB Z<|lsB 9 false rfl (by simp)<|nG<|aN Z<|aK<|gT<|aS<|sL<|lf 1 ty.F78_1 Z<|loI ty.kd3 Z<|lf 1 ty.F78_1 Z<|loI ty.kd3 Z<|lbB Z<|lsB 14 false rfl (by simp) ?_
 refine nG<|aN Z<|aK<|gT<|aS<|sL<|lf 2 ty.F78_2 Z<|loI ty.kd3 Z<|lf 2 ty.F78_2 Z<|loI ty.kd3 Z<|lbB Z<|lsB 19 false rfl (by simp)<|nG<|aN Z<|aK<|gT<|aS<|sL<|lf 3 ty.F78_3 Z<|loI ty.kd3 Z<|lf 3 ty.F78_3 Z<|loI ty.kd3 Z<|lbB Z<|lsB 24 false rfl (by simp)<|nG ?_
 refine aN Z<|aK<|gT<|aS<|sL<|lf 4 ty.F78_4 Z<|loI ty.kd3 Z<|lf 4 ty.F78_4 Z<|loI ty.kd3 Z<|lbB Z<|lsB 29 false rfl (by simp)<|nG<|aN Z<|aK<|gT<|aS<|sL<|lf 5 ty.F78_5 Z<|loI ty.kd3 Z<|lT [2,3,4,31] [.ptr 2002 _ 0,.ptr 2003 _ 0,vB false,vI _ _] [2002,2003] [.box _ _ [vI _ _,vI _ _,vI _ _,vI _ _,vI _ _,vI _ _,vI _ _],.box _ _ [vI _ _,vI _ _,vI _ _,vI _ _,vI _ _,vI _ _,vI _ _]] rfl Z<|lf 5 ty.F78_5 Z<|loI ty.kd3 Z<|lbB Z<|lsB 34 false rfl (by simp)<|nG<|aN rfl ?_
 refine aK<|gT<|aS<|sL<|lf 6 ty.F78_6 Z<|loI ty.kd3 Z<|lf 6 ty.F78_6 Z<|loI ty.kd3 Z<|lbB Z<|lsB 39 false rfl (by simp)<|nG<|aN Z<|aK<|gA<|laT Z<|nG<|aR ?_
 refine end_ret ?_ trivial
 rfl
theorem eqHtlc_e (x : Htlc) : GC Tryz.prog 116 [.agg [int x.key,int x.inn,int x.out,int x.amtIn,int x.amtOut,boo x.kept,int x.age],.agg [int x.key,int x.inn,int x.out,int x.amtIn,int x.amtOut,boo x.kept,int x.age]] [] (boo true) [] := by
 refine gi 4 Tryz.func116 rfl Tryz.ntmps116 rfl ?_
 intro L O w0
 refine sL<|lst (zX 2002 rfl) Z<|lst (zX 2003 rfl) Z<|laZ Z<|nG<|aS<|sL<|lf 0 ty.F117_0 Z<|loI ty.kd3 Z<|lf 0 ty.F117_0 Z<|loI ty.kd3 Z<|lbB Z<|lsB 9 false rfl (by simp)<|nG<|aN Z<|aK<|gT<|aS<|sL<|lf 1 ty.F117_1 Z<|loI ty.kd3 Z<|lf 1 ty.F117_1 Z<|loI ty.kd3 Z<|lbB Z<|lsB 14 false rfl (by simp) ?_
 refine nG<|aN Z<|aK<|gT<|aS<|sL<|lf 2 ty.F117_2 Z<|loI ty.kd3 Z<|lf 2 ty.F117_2 Z<|loI ty.kd3 Z<|lbB Z<|lsB 19 false rfl (by simp)<|nG<|aN Z<|aK<|gT<|aS<|sL<|lf 3 ty.F117_3 Z<|loI ty.kd3 Z<|lf 3 ty.F117_3 Z<|loI ty.kd3 Z<|lbB Z<|lsB 24 false rfl (by simp)<|nG ?_
 refine aN Z<|aK<|gT<|aS<|sL<|lf 4 ty.F117_4 Z<|loI ty.kd3 Z<|lf 4 ty.F117_4 Z<|loI ty.kd3 Z<|lbB Z<|lsB 29 false rfl (by simp)<|nG<|aN Z<|aK<|gT<|aS<|sL<|lf 5 ty.F117_5 Z<|loB ty.kd4 Z<|lT [2,3,4,31] [.ptr 2002 _ 0,.ptr 2003 _ 0,vB false,vB _] [2002,2003] [.box _ _ [vI _ _,vI _ _,vI _ _,vI _ _,vI _ _,vB _,vI _ _],.box _ _ [vI _ _,vI _ _,vI _ _,vI _ _,vI _ _,vB _,vI _ _]] rfl Z<|lf 5 ty.F117_5 Z<|loB ty.kd4 Z<|lq (rd (x := vB _) (rd_neB rfl rfl rfl Tryz.underlying4) rfl)<|lsB 34 false rfl (by simp)<|nG<|aN rfl ?_
 refine aK<|gT<|aS<|sL<|lf 6 ty.F117_6 Z<|loI ty.kd3 Z<|lf 6 ty.F117_6 Z<|loI ty.kd3 Z<|lbB Z<|lsB 39 false rfl (by simp)<|nG<|aN Z<|aK<|gA<|laT Z<|nG<|aR ?_
 refine end_ret ?_ trivial
 rfl
theorem eqCircle_e (x : Circle) : GC Tryz.prog 117 [.agg [int x.key,int x.frm,int x.to,int x.amt,int x.fee],.agg [int x.key,int x.frm,int x.to,int x.amt,int x.fee]] [] (boo true) [] := by
 refine gi 4 Tryz.func117 rfl Tryz.ntmps117 rfl ?_
 intro L O w0
 refine sL<|lst (zX 2002 rfl) Z<|lst (zX 2003 rfl) Z<|laZ Z<|nG<|aS<|sL<|lf 0 ty.F120_0 Z<|loI ty.kd3 Z<|lf 0 ty.F120_0 Z<|loI ty.kd3 Z<|lbB Z<|lsB 9 false rfl (by simp)<|nG<|aN Z<|aK<|gT<|aS<|sL<|lf 1 ty.F120_1 Z<|loI ty.kd3 Z<|lf 1 ty.F120_1 Z<|loI ty.kd3 Z<|lbB Z<|lsB 14 false rfl (by simp) ?_
 refine nG<|aN Z<|aK<|gT<|aS<|sL<|lf 2 ty.F120_2 Z<|loI ty.kd3 Z<|lf 2 ty.F120_2 Z<|loI ty.kd3 Z<|lbB Z<|lsB 19 false rfl (by simp)<|nG<|aN Z<|aK<|gT<|aS<|sL<|lf 3 ty.F120_3 Z<|loI ty.kd3 Z<|lf 3 ty.F120_3 Z<|loI ty.kd3 Z<|lbB Z<|lsB 24 false rfl (by simp)<|nG ?_
 refine aN Z<|aK<|gT<|aS<|sL<|lf 4 ty.F120_4 Z<|loI ty.kd3 Z<|lf 4 ty.F120_4 Z<|loI ty.kd3 Z<|lbB Z<|lsB 29 false rfl (by simp)<|nG<|aN Z<|aK<|gA<|laT Z<|nG<|aR ?_
 refine end_ret ?_ trivial
 rfl
theorem eqLineS_e (l : List Line) (hm : l.length ≤ 1000000000) : GC Tryz.prog 64 [.p (.lst 109 3 (rowsOf encLine l)),.p (.lst 109 3 (rowsOf encLine l))] [] (boo true) [] := by
 refine gi 4 Tryz.func64 rfl Tryz.ntmps64 rfl ?_
 intro L O w0
 refine sL<|laZ Z<|nG<|aS<|sL<|lmL Z<|lnI ty.sl35 Z<|lmL Z<|lnI ty.sl35 Z<|lbB Z<|lsB 10 false rfl (by simp)<|nG<|aN Z<|aK<|gT<|aS<|sL<|laI Z<|nG<|aB ?_
 refine AW.loopE [(0,vL _ _ _),(1,vL _ _ _),(4,vB false)] [] (D := Nat) (fun k => [(5,int (k : Int))]) (fun k => []) (fun k => k ≤ l.length) (fun k => l.length - k) (0) (Nat.zero_le _) ⟨rfl,trivial⟩ trivial ⟨rfl,rfl,rfl,trivial⟩ trivial ?_
 intro k hI
 refine aS<|sL<|lmI Z<|lmL Z<|lnI ty.sl35 Z<|lbB Z<|nG ?_
 refine AW.cond rfl ?_ ?_
 ·intro h1
  refine aK<|gT<|aS<|aB<|aS<|aF []<|pq 0 (qmL Z)<|pq 1 (qmX (vI _ _) Z) ?_
  have hk : k < l.length := by simpa [length_rowsOf] using h1
  refine sq 2 (ri k ty.el35 Z (row_map hk))<|sq 3 (rrX (.agg [vI _ _,vI _ _,vI _ _]) ty.kd109 Z)<|pq 4 (qmL Z)<|vq 5 (rmI Z) ?_
  have hk : k < l.length := by simpa [length_rowsOf] using h1
  refine vq 6 (ri k ty.el35 rfl (row_map hk))<|vq 7 (rrX (.agg [vI _ _,vI _ _,vI _ _]) ty.kd109 rfl)<|vst 8 rfl (zL Tryz.func118 (eqLine_e _) rfl) (.inr rfl)<|fT [0,1,4,5,25] [vL _ _ _,vL _ _ _,vB false,vI _ _,vB true] [] [] rfl Z<|vq 9 (ruZ rfl)<|fsB 26 false rfl (by simp)<|fD<|gT<|aN Z<|aK<|gB<|gT<|aL<|lmI Z<|lgI Z<|laI Z<|nG ?_
  refine ⟨k + 1,hk,by omega,⟨(iq rfl),trivial⟩,trivial,⟨rfl,rfl,rfl,trivial⟩,trivial⟩
 ·intro h1
  refine aE<|eT<|eT<|eB<|gA<|laT Z<|nG<|aR ?_
  refine end_ret ?_ trivial
  rfl
theorem eqEventS_e (l : List Event) (hm : l.length ≤ 1000000000) : GC Tryz.prog 22 [.p (.lst 41 7 (rowsOf encEvent l)),.p (.lst 41 7 (rowsOf encEvent l))] [] (boo true) [] := by
 refine gi 4 Tryz.func22 rfl Tryz.ntmps22 rfl ?_
 intro L O w0
 refine sL<|laZ Z<|nG<|aS<|sL<|lmL Z<|lnI ty.sl54 Z<|lmL Z<|lnI ty.sl54 Z<|lbB Z<|lsB 10 false rfl (by simp)<|nG<|aN Z<|aK<|gT<|aS<|sL<|laI Z<|nG<|aB ?_
 refine AW.loopE [(0,vL _ _ _),(1,vL _ _ _),(4,vB false)] [] (D := Nat) (fun k => [(5,int (k : Int))]) (fun k => []) (fun k => k ≤ l.length) (fun k => l.length - k) (0) (Nat.zero_le _) ⟨rfl,trivial⟩ trivial ⟨rfl,rfl,rfl,trivial⟩ trivial ?_
 intro k hI
 refine aS<|sL<|lmI Z<|lmL Z<|lnI ty.sl54 Z<|lbB Z<|nG ?_
 refine AW.cond rfl ?_ ?_
 ·intro h1
  refine aK<|gT<|aS<|aB<|aS<|aF []<|pq 0 (qmL Z)<|pq 1 (qmX (vI _ _) Z) ?_
  have hk : k < l.length := by simpa [length_rowsOf] using h1
  refine sq 2 (ri k ty.el54 Z (row_map hk))<|sq 3 (rrX (.agg [vI _ _,vI _ _,vI _ _,vI _ _,vI _ _,vI _ _,vB _]) ty.kd41 Z)<|pq 4 (qmL Z)<|vq 5 (rmI Z) ?_
  have hk : k < l.length := by simpa [length_rowsOf] using h1
  refine vq 6 (ri k ty.el54 rfl (row_map hk))<|vq 7 (rrX (.agg [vI _ _,vI _ _,vI _ _,vI _ _,vI _ _,vI _ _,vB _]) ty.kd41 rfl)<|vst 8 rfl (zL Tryz.func73 (eqEvent_e _) rfl) (.inr rfl)<|fT [0,1,4,5,25] [vL _ _ _,vL _ _ _,vB false,vI _ _,vB true] [] [] rfl Z<|vq 9 (ruZ rfl)<|fsB 26 false rfl (by simp)<|fD<|gT<|aN Z<|aK<|gB<|gT<|aL<|lmI Z<|lgI Z<|laI Z<|nG ?_
  refine ⟨k + 1,hk,by omega,⟨(iq rfl),trivial⟩,trivial,⟨rfl,rfl,rfl,trivial⟩,trivial⟩
 ·intro h1
  refine aE<|eT<|eT<|eB<|gA<|laT Z<|nG<|aR ?_
  refine end_ret ?_ trivial
  rfl
theorem eqChanS_e (l : List Chan) (hm : l.length ≤ 1000000000) : GC Tryz.prog 61 [.p (.lst 78 7 (rowsOf encChan l)),.p (.lst 78 7 (rowsOf encChan l))] [] (boo true) [] := by
 refine gi 4 Tryz.func61 rfl Tryz.ntmps61 rfl ?_
 intro L O w0
 refine sL<|laZ Z<|nG<|aS<|sL<|lmL Z<|lnI ty.sl30 Z<|lmL Z<|lnI ty.sl30 Z<|lbB Z<|lsB 10 false rfl (by simp)<|nG<|aN Z<|aK<|gT<|aS<|sL<|laI Z<|nG<|aB ?_
 refine AW.loopE [(0,vL _ _ _),(1,vL _ _ _),(4,vB false)] [] (D := Nat) (fun k => [(5,int (k : Int))]) (fun k => []) (fun k => k ≤ l.length) (fun k => l.length - k) (0) (Nat.zero_le _) ⟨rfl,trivial⟩ trivial ⟨rfl,rfl,rfl,trivial⟩ trivial ?_
 intro k hI
 refine aS<|sL<|lmI Z<|lmL Z<|lnI ty.sl30 Z<|lbB Z<|nG ?_
 refine AW.cond rfl ?_ ?_
 ·intro h1
  refine aK<|gT<|aS<|aB<|aS<|aF []<|pq 0 (qmL Z)<|pq 1 (qmX (vI _ _) Z) ?_
  have hk : k < l.length := by simpa [length_rowsOf] using h1
  refine sq 2 (ri k ty.el30 Z (row_map hk))<|sq 3 (rrX (.agg [vI _ _,vI _ _,vI _ _,vI _ _,vI _ _,vI _ _,vI _ _]) ty.kd78 Z)<|pq 4 (qmL Z)<|vq 5 (rmI Z) ?_
  have hk : k < l.length := by simpa [length_rowsOf] using h1
  refine vq 6 (ri k ty.el30 rfl (row_map hk))<|vq 7 (rrX (.agg [vI _ _,vI _ _,vI _ _,vI _ _,vI _ _,vI _ _,vI _ _]) ty.kd78 rfl)<|vst 8 rfl (zL Tryz.func115 (eqChan_e _) rfl) (.inr rfl)<|fT [0,1,4,5,25] [vL _ _ _,vL _ _ _,vB false,vI _ _,vB true] [] [] rfl Z<|vq 9 (ruZ rfl)<|fsB 26 false rfl (by simp)<|fD<|gT<|aN Z<|aK<|gB<|gT<|aL<|lmI Z<|lgI Z<|laI Z<|nG ?_
  refine ⟨k + 1,hk,by omega,⟨(iq rfl),trivial⟩,trivial,⟨rfl,rfl,rfl,trivial⟩,trivial⟩
 ·intro h1
  refine aE<|eT<|eT<|eB<|gA<|laT Z<|nG<|aR ?_
  refine end_ret ?_ trivial
  rfl
theorem eqHtlcS_e (l : List Htlc) (hm : l.length ≤ 1000000000) : GC Tryz.prog 62 [.p (.lst 117 7 (rowsOf encHtlc l)),.p (.lst 117 7 (rowsOf encHtlc l))] [] (boo true) [] := by
 refine gi 4 Tryz.func62 rfl Tryz.ntmps62 rfl ?_
 intro L O w0
 refine sL<|laZ Z<|nG<|aS<|sL<|lmL Z<|lnI ty.sl31 Z<|lmL Z<|lnI ty.sl31 Z<|lbB Z<|lsB 10 false rfl (by simp)<|nG<|aN Z<|aK<|gT<|aS<|sL<|laI Z<|nG<|aB ?_
 refine AW.loopE [(0,vL _ _ _),(1,vL _ _ _),(4,vB false)] [] (D := Nat) (fun k => [(5,int (k : Int))]) (fun k => []) (fun k => k ≤ l.length) (fun k => l.length - k) (0) (Nat.zero_le _) ⟨rfl,trivial⟩ trivial ⟨rfl,rfl,rfl,trivial⟩ trivial ?_
 intro k hI
 refine aS<|sL<|lmI Z<|lmL Z<|lnI ty.sl31 Z<|lbB Z<|nG ?_
 refine AW.cond rfl ?_ ?_
 ·intro h1
  refine aK<|gT<|aS<|aB<|aS<|aF []<|pq 0 (qmL Z)<|pq 1 (qmX (vI _ _) Z) ?_
  have hk : k < l.length := by simpa [length_rowsOf] using h1
  refine sq 2 (ri k ty.el31 Z (row_map hk))<|sq 3 (rrX (.agg [vI _ _,vI _ _,vI _ _,vI _ _,vI _ _,vB _,vI _ _]) ty.kd117 Z)<|pq 4 (qmL Z)<|vq 5 (rmI Z) ?_
  have hk : k < l.length := by simpa [length_rowsOf] using h1
  refine vq 6 (ri k ty.el31 rfl (row_map hk))<|vq 7 (rrX (.agg [vI _ _,vI _ _,vI _ _,vI _ _,vI _ _,vB _,vI _ _]) ty.kd117 rfl)<|vst 8 rfl (zL Tryz.func116 (eqHtlc_e _) rfl) (.inr rfl)<|fT [0,1,4,5,25] [vL _ _ _,vL _ _ _,vB false,vI _ _,vB true] [] [] rfl Z<|vq 9 (ruZ rfl)<|fsB 26 false rfl (by simp)<|fD<|gT<|aN Z<|aK<|gB<|gT<|aL<|lmI Z<|lgI Z<|laI Z<|nG ?_
  refine ⟨k + 1,hk,by omega,⟨(iq rfl),trivial⟩,trivial,⟨rfl,rfl,rfl,trivial⟩,trivial⟩
 ·intro h1
  refine aE<|eT<|eT<|eB<|gA<|laT Z<|nG<|aR ?_
  refine end_ret ?_ trivial
  rfl
theorem eqCircleS_e (l : List Circle) (hm : l.length ≤ 1000000000) : GC Tryz.prog 63 [.p (.lst 120 5 (rowsOf encCircle l)),.p (.lst 120 5 (rowsOf encCircle l))] [] (boo true) [] := by
 refine gi 4 Tryz.func63 rfl Tryz.ntmps63 rfl ?_
 intro L O w0
 refine sL<|laZ Z<|nG<|aS<|sL<|lmL Z<|lnI ty.sl32 Z<|lmL Z<|lnI ty.sl32 Z<|lbB Z<|lsB 10 false rfl (by simp)<|nG<|aN Z<|aK<|gT<|aS<|sL<|laI Z<|nG<|aB ?_
 refine AW.loopE [(0,vL _ _ _),(1,vL _ _ _),(4,vB false)] [] (D := Nat) (fun k => [(5,int (k : Int))]) (fun k => []) (fun k => k ≤ l.length) (fun k => l.length - k) (0) (Nat.zero_le _) ⟨rfl,trivial⟩ trivial ⟨rfl,rfl,rfl,trivial⟩ trivial ?_
 intro k hI
 refine aS<|sL<|lmI Z<|lmL Z<|lnI ty.sl32 Z<|lbB Z<|nG ?_
 refine AW.cond rfl ?_ ?_
 ·intro h1
  refine aK<|gT<|aS<|aB<|aS<|aF []<|pq 0 (qmL Z)<|pq 1 (qmX (vI _ _) Z) ?_
  have hk : k < l.length := by simpa [length_rowsOf] using h1
  refine sq 2 (ri k ty.el32 Z (row_map hk))<|sq 3 (rrX (.agg [vI _ _,vI _ _,vI _ _,vI _ _,vI _ _]) ty.kd120 Z)<|pq 4 (qmL Z)<|vq 5 (rmI Z) ?_
  have hk : k < l.length := by simpa [length_rowsOf] using h1
  refine vq 6 (ri k ty.el32 rfl (row_map hk))<|vq 7 (rrX (.agg [vI _ _,vI _ _,vI _ _,vI _ _,vI _ _]) ty.kd120 rfl)<|vst 8 rfl (zL Tryz.func117 (eqCircle_e _) rfl) (.inr rfl)<|fT [0,1,4,5,25] [vL _ _ _,vL _ _ _,vB false,vI _ _,vB true] [] [] rfl Z<|vq 9 (ruZ rfl)<|fsB 26 false rfl (by simp)<|fD<|gT<|aN Z<|aK<|gB<|gT<|aL<|lmI Z<|lgI Z<|laI Z<|nG ?_
  refine ⟨k + 1,hk,by omega,⟨(iq rfl),trivial⟩,trivial,⟨rfl,rfl,rfl,trivial⟩,trivial⟩
 ·intro h1
  refine aE<|eT<|eT<|eB<|gA<|laT Z<|nG<|aR ?_
  refine end_ret ?_ trivial
  rfl
theorem eqIntS_e (l : List Int) (hm : l.length ≤ 1000000000) : GC Tryz.prog 21 [.p (.lst 3 1 (rowsOf encKey l)),.p (.lst 3 1 (rowsOf encKey l))] [] (boo true) [] := by
 refine gi 4 Tryz.func21 rfl Tryz.ntmps21 rfl ?_
 intro L O w0
 refine sL<|laZ Z<|nG<|aS<|sL<|lmL Z<|lnI ty.sl51 Z<|lmL Z<|lnI ty.sl51 Z<|lbB Z<|lsB 10 false rfl (by simp)<|nG<|aN Z<|aK<|gT<|aS<|sL<|laI Z<|nG<|aB ?_
 refine AW.loopE [(0,vL _ _ _),(1,vL _ _ _),(4,vB false)] [] (D := Nat) (fun k => [(5,int (k : Int))]) (fun k => []) (fun k => k ≤ l.length) (fun k => l.length - k) (0) (Nat.zero_le _) ⟨rfl,trivial⟩ trivial ⟨rfl,rfl,rfl,trivial⟩ trivial ?_
 intro k hI
 refine aS<|sL<|lmI Z<|lmL Z<|lnI ty.sl51 Z<|lbB Z<|nG ?_
 refine AW.cond rfl ?_ ?_
 ·intro h1
  refine aK<|gT<|aS<|aB<|aS<|aF []<|pq 0 (qmL Z)<|pq 1 (qmX (vI _ _) Z) ?_
  have hk : k < l.length := by simpa [length_rowsOf] using h1
  refine sq 2 (ri k ty.el51 Z (row_map hk))<|sq 3 (rrI ty.kd3 Z)<|pq 4 (qmL Z)<|vq 5 (rmI Z) ?_
  have hk : k < l.length := by simpa [length_rowsOf] using h1
  refine vq 6 (ri k ty.el51 rfl (row_map hk))<|vq 7 (rrI ty.kd3 rfl)<|vq 8 (rbB rfl)<|fsB 25 false rfl (by simp)<|fD<|gT<|aN Z<|aK<|gB<|gT<|aL<|lmI Z<|lgI Z<|laI Z<|nG ?_
  refine ⟨k + 1,hk,by omega,⟨(iq rfl),trivial⟩,trivial,⟨rfl,rfl,rfl,trivial⟩,trivial⟩
 ·intro h1
  refine aE<|eT<|eT<|eB<|gA<|laT Z<|nG<|aR ?_
  refine end_ret ?_ trivial
  rfl

def mk1Line (k : Int) : Line := ⟨⟨k,k + 1⟩,k + 2⟩
abbrev mkdLine (k : Int) (m : Nat) : List Line := mkLs mk1Line 3 k m
theorem markLineS_e (u : Value) (l : List Line) (k : Int) (hm : l.length ≤ 100000000) (hk : 0 ≤ k ∧ k ≤ 1000000000000) : GC Tryz.prog 68 [.own 0,int k] [(0,.arr ⟨109,some u⟩ 3 (rowsOf encLine l))] (int (k + 3 * (l.length : Int))) [(0,.arr ⟨109,some u⟩ 3 (rowsOf encLine (mkdLine k l.length)))] := by
 refine gi 4 Tryz.func68 rfl Tryz.ntmps68 rfl ?_
 intro L O w0
 refine sL<|laI Z<|nG<|aS<|sL<|laI Z<|nG<|aB ?_
 refine AW.loopE [(0,.own _),(4,vI _ _)] [] (D := Nat) (fun j => [(5,int (j : Int)),(1,int (k + 3 * (j : Int)))]) (fun j => [(0,.arr ⟨109,some u⟩ 3 (rowsOf encLine (mkdLine k j ++ l.drop j)))]) (fun j => j ≤ l.length) (fun j => l.length - j) (0) (Nat.zero_le _) ⟨rfl,(congrArg int (by omega)),trivial⟩ ⟨rfl,trivial⟩ ⟨rfl,rfl,trivial⟩ trivial ?_
 intro j hI
 refine aS<|sL<|lmI Z<|lmO Z<|lnI ty.sl35 Z<|lbB Z<|nG ?_
 refine AW.cond rfl ?_ ?_
 ·intro h1
  refine aK<|gT<|aS<|aB<|aS ?_
  have hj : j < l.length := by have h := h1;simp [length_rowsOf,mkLs_len] at h;omega
  refine aL<|lmO Z<|lmI Z<|lmI Z<|lq (rj j ty.el35 rfl (by simp [length_rowsOf,mkLs_len];omega))<|lf 0 ty.F109_0 Z<|lf 0 ty.F107_0 Z<|lst (zQ 0 [.v (.int .i64 (k + 3 * (j : Int)))] ty.co3 ty.inf3 rfl (rows_some (marked_get mkLs_len hj))) Z<|nA<|lmI Z<|lgI Z<|lsN 19 (k + 3 * (j : Int) + 1) rfl (by omega)<|laI Z<|nA<|lmO Z<|lmI Z<|lmI Z<|lq (rj j ty.el35 rfl (by simp [length_rowsOf,mkLs_len];omega))<|lf 0 ty.F109_0 Z<|lf 1 ty.F107_1 Z<|lst (zQ 0 [.v (.int .i64 (k + 3 * (j : Int) + 1))] ty.co3 ty.inf3 rfl (List.getElem?_set_self (by simp [length_rowsOf,mkLs_len];omega))) Z<|lT [0,1,4,5] [.own _,vI _ _,vI _ _,vI _ _] [0] [.arr _ _ _] rfl Z<|nG ?_
  refine sL<|lmI Z<|lgI Z<|lsN 27 (k + 3 * (j : Int) + 2) rfl (by omega)<|laI Z<|nA<|lmO Z<|lmI Z<|lmI Z<|lq (rj j ty.el35 rfl (by simp [length_rowsOf,mkLs_len];omega))<|lf 2 ty.F109_1 Z<|lst (zQ 0 [.v (.int .i64 (k + 3 * (j : Int) + 2))] ty.co3 ty.inf3 rfl (List.getElem?_set_self (by simp [length_rowsOf,mkLs_len];omega))) Z<|nG ?_
  refine AW.obj 0 (.arr ⟨109,some u⟩ 3 ((rowsOf encLine (mkdLine k j ++ l.drop j)).set j [.v (.int .i64 (k + 3 * (j : Int))),.v (.int .i64 (k + 3 * (j : Int) + 1)),.v (.int .i64 (k + 3 * (j : Int) + 2))])) (by show AO.arr _ _ (List.set (List.set (List.set _ _ _) _ _) _ _) = _;simp only [List.set_set];rfl) ?_
  refine aL<|lmI Z<|lgI Z<|lsN 34 (k + 3 * (j : Int) + 3) rfl (by omega)<|laI Z<|lN<|gB<|gT<|aL<|lmI Z<|lgI Z<|laI Z<|nG ?_
  refine ⟨j + 1,hj,by omega,⟨(iq rfl),(iq rfl),trivial⟩,⟨(Eq.trans (b := AO.arr ⟨109,some u⟩ 3 ((rowsOf encLine (mkdLine k j ++ l.drop j)).set j ((encLine (mk1Line (k + 3 * (j : Int)))).map PV.v))) rfl (congrArg (AO.arr ⟨109,some u⟩ 3) (rows_set.trans (congrArg (rowsOf encLine) (marked_set mkLs_len mkLs_succ hj))))),trivial⟩,⟨rfl,rfl,trivial⟩,trivial⟩
 ·intro h1
  refine aE<|eT<|eT<|eB<|gA<|lmI Z<|laI Z<|nG<|aR ?_
  have hje : j = l.length := by have h := h1;simp [length_rowsOf,mkLs_len] at h;omega
  refine end_ret ?_ ⟨(congrArg (fun q => AO.arr ⟨109,some u⟩ 3 (rowsOf encLine q)) (by rw [hje,List.drop_length,List.append_nil])),trivial⟩
  rw [hje]
  try rfl
theorem heldLineS_e (m : Nat) (k : Int) (hm : m ≤ 100000000) (hk : 0 ≤ k ∧ k ≤ 1000000000000) : GC Tryz.prog 72 [.p (.lst 109 3 (rowsOf encLine (mkdLine k m))),int k] [] (int (k + 3 * (m : Int))) [] := by
 refine gi 4 Tryz.func72 rfl Tryz.ntmps72 rfl ?_
 intro L O w0
 refine sL<|laI Z<|nG<|aS<|sL<|laI Z<|nG<|aB ?_
 refine AW.loopE [(0,vL _ _ _),(4,vI _ _)] [] (D := Nat) (fun j => [(5,int (j : Int)),(1,int (k + 3 * (j : Int)))]) (fun j => []) (fun j => j ≤ m) (fun j => m - j) (0) (Nat.zero_le _) ⟨rfl,(congrArg int (by omega)),trivial⟩ trivial ⟨rfl,rfl,trivial⟩ trivial ?_
 intro j hI
 refine aS<|sL<|lmI Z<|lmL Z<|lnI ty.sl35 Z<|lbB Z<|nG ?_
 refine AW.cond rfl ?_ ?_
 ·intro h1
  refine aK<|gT<|aS<|aB<|aS<|aS ?_
  have hj : j < m := by have h := h1;simp [length_rowsOf,mkLs_len] at h;omega
  refine aL<|lmL Z<|lmI Z<|li j ty.el35 rfl (rows_some (mkLs_get hj))<|lq (rd (x := .rp _) (zfr ty.F109_0 rfl) rfl)<|lq (rd (x := .rp _) (zfr ty.F107_0 rfl) rfl)<|lrI ty.kd3 Z<|lmI Z<|lbB Z<|lsB 19 false rfl (by unfold mk1Line;simp)<|nG<|aN Z<|aK<|gA<|lmI Z<|lgI Z<|lsN 21 (k + 3 * (j : Int) + 1) rfl (by omega)<|laI Z<|nG<|aS<|sL<|lmL Z<|lmI Z<|li j ty.el35 rfl (rows_some (mkLs_get hj))<|lq (rd (x := .rp _) (zfr ty.F109_0 rfl) rfl) ?_
  refine lq (rd (x := .rp _) (zfr ty.F107_1 rfl) rfl)<|lrI ty.kd3 Z<|lmI Z<|lbB Z<|lsB 29 false rfl (by unfold mk1Line;simp)<|nG<|aN Z<|aK<|gA<|lmI Z<|lgI Z<|lsN 31 (k + 3 * (j : Int) + 2) rfl (by omega)<|laI Z<|nG<|aS<|sL<|lmL Z<|lmI Z<|lT [0,1,4,5,32,33] [vL _ _ _,vI _ _,vI _ _,vI _ _,vL _ _ _,vI _ _] [] [] rfl Z<|li j ty.el35 rfl (rows_some (mkLs_get hj))<|lq (rd (x := .rp _) (zfr ty.F109_1 rfl) rfl)<|lrI ty.kd3 Z<|lmI Z<|lbB Z<|lsB 38 false rfl (by unfold mk1Line;simp) ?_
  refine nG<|aN Z<|aK<|gT<|aL<|lmI Z<|lgI Z<|lsN 40 (k + 3 * (j : Int) + 3) rfl (by omega)<|laI Z<|lN<|gB<|gT<|aL<|lmI Z<|lgI Z<|laI Z<|nG ?_
  refine ⟨j + 1,hj,by omega,⟨(iq rfl),(iq rfl),trivial⟩,trivial,⟨rfl,rfl,trivial⟩,trivial⟩
 ·intro h1
  refine aE<|eT<|eT<|eB<|gA<|lmI Z<|laI Z<|nG<|aR ?_
  have hje : j = m := by have h := h1;simp [length_rowsOf,mkLs_len] at h;omega
  refine end_ret ?_ trivial
  rw [hje]
  try rfl
def mk1Event (k : Int) : Event := ⟨k,k + 1,k + 2,k + 3,k + 4,k + 5,decide ((k + 6).tmod 3 = 0)⟩
abbrev mkdEvent (k : Int) (m : Nat) : List Event := mkLs mk1Event 7 k m
theorem markEventS_e (u : Value) (l : List Event) (k : Int) (hm : l.length ≤ 100000000) (hk : 0 ≤ k ∧ k ≤ 1000000000000) : GC Tryz.prog 23 [.own 0,int k] [(0,.arr ⟨41,some u⟩ 7 (rowsOf encEvent l))] (int (k + 7 * (l.length : Int))) [(0,.arr ⟨41,some u⟩ 7 (rowsOf encEvent (mkdEvent k l.length)))] := by
 refine gi 4 Tryz.func23 rfl Tryz.ntmps23 rfl ?_
 intro L O w0
 refine sL<|laI Z<|nG<|aS<|sL<|laI Z<|nG<|aB ?_
 refine AW.loopE [(0,.own _),(4,vI _ _)] [] (D := Nat) (fun j => [(5,int (j : Int)),(1,int (k + 7 * (j : Int)))]) (fun j => [(0,.arr ⟨41,some u⟩ 7 (rowsOf encEvent (mkdEvent k j ++ l.drop j)))]) (fun j => j ≤ l.length) (fun j => l.length - j) (0) (Nat.zero_le _) ⟨rfl,(congrArg int (by omega)),trivial⟩ ⟨rfl,trivial⟩ ⟨rfl,rfl,trivial⟩ trivial ?_
 intro j hI
 refine aS<|sL<|lmI Z<|lmO Z<|lnI ty.sl54 Z<|lbB Z<|nG ?_
 refine AW.cond rfl ?_ ?_
 ·intro h1
  refine aK<|gT<|aS<|aB<|aS ?_
  have hj : j < l.length := by have h := h1;simp [length_rowsOf,mkLs_len] at h;omega
  refine aL<|lmO Z<|lmI Z<|lmI Z<|lq (rj j ty.el54 rfl (by simp [length_rowsOf,mkLs_len];omega))<|lf 0 ty.F41_0 Z<|lst (zQ 0 [.v (.int .i64 (k + 7 * (j : Int)))] ty.co3 ty.inf3 rfl (rows_some (marked_get mkLs_len hj))) Z<|nA<|lmI Z<|lgI Z<|lsN 18 (k + 7 * (j : Int) + 1) rfl (by omega)<|laI Z<|nA<|lmO Z<|lmI Z<|lmI Z<|lq (rj j ty.el54 rfl (by simp [length_rowsOf,mkLs_len];omega))<|lf 1 ty.F41_1 Z<|lst (zQ 0 [.v (.int .i64 (k + 7 * (j : Int) + 1))] ty.co3 ty.inf3 rfl (List.getElem?_set_self (by simp [length_rowsOf,mkLs_len];omega))) Z<|lT [0,1,4,5] [.own _,vI _ _,vI _ _,vI _ _] [0] [.arr _ _ _] rfl Z<|nA ?_
  refine lmI Z<|lgI Z<|lsN 25 (k + 7 * (j : Int) + 2) rfl (by omega)<|laI Z<|nA<|lmO Z<|lmI Z<|lmI Z<|lq (rj j ty.el54 rfl (by simp [length_rowsOf,mkLs_len];omega))<|lf 2 ty.F41_2 Z<|lst (zQ 0 [.v (.int .i64 (k + 7 * (j : Int) + 2))] ty.co3 ty.inf3 rfl (List.getElem?_set_self (by simp [length_rowsOf,mkLs_len];omega))) Z<|nA<|lmI Z<|lgI Z<|lsN 32 (k + 7 * (j : Int) + 3) rfl (by omega)<|laI Z<|nA<|lmO Z<|lmI Z<|lmI Z<|lq (rj j ty.el54 rfl (by simp [length_rowsOf,mkLs_len];omega)) ?_
  refine lf 3 ty.F41_3 Z<|lst (zQ 0 [.v (.int .i64 (k + 7 * (j : Int) + 3))] ty.co3 ty.inf3 rfl (List.getElem?_set_self (by simp [length_rowsOf,mkLs_len];omega))) Z<|lT [0,1,4,5] [.own _,vI _ _,vI _ _,vI _ _] [0] [.arr _ _ _] rfl Z<|nA<|lmI Z<|lgI Z<|lsN 39 (k + 7 * (j : Int) + 4) rfl (by omega)<|laI Z<|nA<|lmO Z<|lmI Z<|lmI Z<|lq (rj j ty.el54 rfl (by simp [length_rowsOf,mkLs_len];omega))<|lf 4 ty.F41_4 Z<|lst (zQ 0 [.v (.int .i64 (k + 7 * (j : Int) + 4))] ty.co3 ty.inf3 rfl (List.getElem?_set_self (by simp [length_rowsOf,mkLs_len];omega))) Z<|nA<|lmI Z<|lgI Z<|lsN 46 (k + 7 * (j : Int) + 5) rfl (by omega)<|laI Z<|lN ?_
  refine gA<|lmO Z<|lmI Z<|lmI Z<|lq (rj j ty.el54 rfl (by simp [length_rowsOf,mkLs_len];omega))<|lf 5 ty.F41_5 Z<|lst (zQ 0 [.v (.int .i64 (k + 7 * (j : Int) + 5))] ty.co3 ty.inf3 rfl (List.getElem?_set_self (by simp [length_rowsOf,mkLs_len];omega))) Z<|lT [0,1,4,5] [.own _,vI _ _,vI _ _,vI _ _] [0] [.arr _ _ _] rfl Z<|nA<|lmI Z<|lgI Z<|lsN 53 (k + 7 * (j : Int) + 6) rfl (by omega)<|laI Z<|nA<|lmO Z<|lmI Z<|lmI rfl ?_
  refine lhI rfl ⟨rfl,by decide⟩<|lbB Z<|lq (rj j ty.el54 rfl (by simp [length_rowsOf,mkLs_len];omega))<|lf 6 ty.F41_6 Z<|lst (zQ 0 [.v (.bool (decide ((k + 7 * (j : Int) + 6).tmod 3 = 0)))] ty.co4 ty.inf4 rfl (List.getElem?_set_self (by simp [length_rowsOf,mkLs_len];omega))) Z<|nG ?_
  refine AW.obj 0 (.arr ⟨41,some u⟩ 7 ((rowsOf encEvent (mkdEvent k j ++ l.drop j)).set j [.v (.int .i64 (k + 7 * (j : Int))),.v (.int .i64 (k + 7 * (j : Int) + 1)),.v (.int .i64 (k + 7 * (j : Int) + 2)),.v (.int .i64 (k + 7 * (j : Int) + 3)),.v (.int .i64 (k + 7 * (j : Int) + 4)),.v (.int .i64 (k + 7 * (j : Int) + 5)),.v (.bool (decide ((k + 7 * (j : Int) + 6).tmod 3 = 0)))])) (by show AO.arr _ _ (List.set (List.set (List.set (List.set (List.set (List.set (List.set _ _ _) _ _) _ _) _ _) _ _) _ _) _ _) = _;simp only [List.set_set];rfl) ?_
  refine aL<|lmI Z<|lgI Z<|lsN 62 (k + 7 * (j : Int) + 7) rfl (by omega)<|laI Z<|lN<|gB<|gT<|aL<|lmI Z<|lgI Z<|laI Z<|nG ?_
  refine ⟨j + 1,hj,by omega,⟨(iq rfl),(iq rfl),trivial⟩,⟨(Eq.trans (b := AO.arr ⟨41,some u⟩ 7 ((rowsOf encEvent (mkdEvent k j ++ l.drop j)).set j ((encEvent (mk1Event (k + 7 * (j : Int)))).map PV.v))) rfl (congrArg (AO.arr ⟨41,some u⟩ 7) (rows_set.trans (congrArg (rowsOf encEvent) (marked_set mkLs_len mkLs_succ hj))))),trivial⟩,⟨rfl,rfl,trivial⟩,trivial⟩
 ·intro h1
  refine aE<|eT<|eT<|eB<|gA<|lmI Z<|laI Z<|nG<|aR ?_
  have hje : j = l.length := by have h := h1;simp [length_rowsOf,mkLs_len] at h;omega
  refine end_ret ?_ ⟨(congrArg (fun q => AO.arr ⟨41,some u⟩ 7 (rowsOf encEvent q)) (by rw [hje,List.drop_length,List.append_nil])),trivial⟩
  rw [hje]
  try rfl
def mk1Chan (k : Int) : Chan := ⟨k,k + 1,k + 2,k + 3,k + 4,k + 5,k + 6⟩
abbrev mkdChan (k : Int) (m : Nat) : List Chan := mkLs mk1Chan 7 k m
theorem markChanS_e (u : Value) (l : List Chan) (k : Int) (hm : l.length ≤ 100000000) (hk : 0 ≤ k ∧ k ≤ 1000000000000) : GC Tryz.prog 65 [.own 0,int k] [(0,.arr ⟨78,some u⟩ 7 (rowsOf encChan l))] (int (k + 7 * (l.length : Int))) [(0,.arr ⟨78,some u⟩ 7 (rowsOf encChan (mkdChan k l.length)))] := by
 refine gi 4 Tryz.func65 rfl Tryz.ntmps65 rfl ?_
 intro L O w0
 refine sL<|laI Z<|nG<|aS<|sL<|laI Z<|nG<|aB ?_
 refine AW.loopE [(0,.own _),(4,vI _ _)] [] (D := Nat) (fun j => [(5,int (j : Int)),(1,int (k + 7 * (j : Int)))]) (fun j => [(0,.arr ⟨78,some u⟩ 7 (rowsOf encChan (mkdChan k j ++ l.drop j)))]) (fun j => j ≤ l.length) (fun j => l.length - j) (0) (Nat.zero_le _) ⟨rfl,(congrArg int (by omega)),trivial⟩ ⟨rfl,trivial⟩ ⟨rfl,rfl,trivial⟩ trivial ?_
 intro j hI
 refine aS<|sL<|lmI Z<|lmO Z<|lnI ty.sl30 Z<|lbB Z<|nG ?_
 refine AW.cond rfl ?_ ?_
 ·intro h1
  refine aK<|gT<|aS<|aB<|aS ?_
  have hj : j < l.length := by have h := h1;simp [length_rowsOf,mkLs_len] at h;omega
  refine aL<|lmO Z<|lmI Z<|lmI Z<|lq (rj j ty.el30 rfl (by simp [length_rowsOf,mkLs_len];omega))<|lf 0 ty.F78_0 Z<|lst (zQ 0 [.v (.int .i64 (k + 7 * (j : Int)))] ty.co3 ty.inf3 rfl (rows_some (marked_get mkLs_len hj))) Z<|nA<|lmI Z<|lgI Z<|lsN 18 (k + 7 * (j : Int) + 1) rfl (by omega)<|laI Z<|nA<|lmO Z<|lmI Z<|lmI Z<|lq (rj j ty.el30 rfl (by simp [length_rowsOf,mkLs_len];omega))<|lf 1 ty.F78_1 Z<|lst (zQ 0 [.v (.int .i64 (k + 7 * (j : Int) + 1))] ty.co3 ty.inf3 rfl (List.getElem?_set_self (by simp [length_rowsOf,mkLs_len];omega))) Z<|lT [0,1,4,5] [.own _,vI _ _,vI _ _,vI _ _] [0] [.arr _ _ _] rfl Z<|nA ?_
  refine lmI Z<|lgI Z<|lsN 25 (k + 7 * (j : Int) + 2) rfl (by omega)<|laI Z<|nA<|lmO Z<|lmI Z<|lmI Z<|lq (rj j ty.el30 rfl (by simp [length_rowsOf,mkLs_len];omega))<|lf 2 ty.F78_2 Z<|lst (zQ 0 [.v (.int .i64 (k + 7 * (j : Int) + 2))] ty.co3 ty.inf3 rfl (List.getElem?_set_self (by simp [length_rowsOf,mkLs_len];omega))) Z<|nA<|lmI Z<|lgI Z<|lsN 32 (k + 7 * (j : Int) + 3) rfl (by omega)<|laI Z<|nA<|lmO Z<|lmI Z<|lmI Z<|lq (rj j ty.el30 rfl (by simp [length_rowsOf,mkLs_len];omega)) ?_
  refine lf 3 ty.F78_3 Z<|lst (zQ 0 [.v (.int .i64 (k + 7 * (j : Int) + 3))] ty.co3 ty.inf3 rfl (List.getElem?_set_self (by simp [length_rowsOf,mkLs_len];omega))) Z<|lT [0,1,4,5] [.own _,vI _ _,vI _ _,vI _ _] [0] [.arr _ _ _] rfl Z<|nA<|lmI Z<|lgI Z<|lsN 39 (k + 7 * (j : Int) + 4) rfl (by omega)<|laI Z<|nA<|lmO Z<|lmI Z<|lmI Z<|lq (rj j ty.el30 rfl (by simp [length_rowsOf,mkLs_len];omega))<|lf 4 ty.F78_4 Z<|lst (zQ 0 [.v (.int .i64 (k + 7 * (j : Int) + 4))] ty.co3 ty.inf3 rfl (List.getElem?_set_self (by simp [length_rowsOf,mkLs_len];omega))) Z<|nA<|lmI Z<|lgI Z<|lsN 46 (k + 7 * (j : Int) + 5) rfl (by omega)<|laI Z<|lN ?_
  refine gA<|lmO Z<|lmI Z<|lmI Z<|lq (rj j ty.el30 rfl (by simp [length_rowsOf,mkLs_len];omega))<|lf 5 ty.F78_5 Z<|lst (zQ 0 [.v (.int .i64 (k + 7 * (j : Int) + 5))] ty.co3 ty.inf3 rfl (List.getElem?_set_self (by simp [length_rowsOf,mkLs_len];omega))) Z<|lT [0,1,4,5] [.own _,vI _ _,vI _ _,vI _ _] [0] [.arr _ _ _] rfl Z<|nA<|lmI Z<|lgI Z<|lsN 53 (k + 7 * (j : Int) + 6) rfl (by omega)<|laI Z<|nA<|lmO Z<|lmI Z<|lmI Z<|lq (rj j ty.el30 rfl (by simp [length_rowsOf,mkLs_len];omega))<|lf 6 ty.F78_6 Z<|lst (zQ 0 [.v (.int .i64 (k + 7 * (j : Int) + 6))] ty.co3 ty.inf3 rfl (List.getElem?_set_self (by simp [length_rowsOf,mkLs_len];omega))) Z<|nG ?_
  refine AW.obj 0 (.arr ⟨78,some u⟩ 7 ((rowsOf encChan (mkdChan k j ++ l.drop j)).set j [.v (.int .i64 (k + 7 * (j : Int))),.v (.int .i64 (k + 7 * (j : Int) + 1)),.v (.int .i64 (k + 7 * (j : Int) + 2)),.v (.int .i64 (k + 7 * (j : Int) + 3)),.v (.int .i64 (k + 7 * (j : Int) + 4)),.v (.int .i64 (k + 7 * (j : Int) + 5)),.v (.int .i64 (k + 7 * (j : Int) + 6))])) (by show AO.arr _ _ (List.set (List.set (List.set (List.set (List.set (List.set (List.set _ _ _) _ _) _ _) _ _) _ _) _ _) _ _) = _;simp only [List.set_set];rfl) ?_
  refine aL<|lmI Z<|lgI Z<|lsN 60 (k + 7 * (j : Int) + 7) rfl (by omega)<|laI Z<|lN<|gB<|gT<|aL<|lmI Z<|lgI Z<|laI Z<|nG ?_
  refine ⟨j + 1,hj,by omega,⟨(iq rfl),(iq rfl),trivial⟩,⟨(Eq.trans (b := AO.arr ⟨78,some u⟩ 7 ((rowsOf encChan (mkdChan k j ++ l.drop j)).set j ((encChan (mk1Chan (k + 7 * (j : Int)))).map PV.v))) rfl (congrArg (AO.arr ⟨78,some u⟩ 7) (rows_set.trans (congrArg (rowsOf encChan) (marked_set mkLs_len mkLs_succ hj))))),trivial⟩,⟨rfl,rfl,trivial⟩,trivial⟩
 ·intro h1
  refine aE<|eT<|eT<|eB<|gA<|lmI Z<|laI Z<|nG<|aR ?_
  have hje : j = l.length := by have h := h1;simp [length_rowsOf,mkLs_len] at h;omega
  refine end_ret ?_ ⟨(congrArg (fun q => AO.arr ⟨78,some u⟩ 7 (rowsOf encChan q)) (by rw [hje,List.drop_length,List.append_nil])),trivial⟩
  rw [hje]
  try rfl
theorem heldChanS_e (m : Nat) (k : Int) (hm : m ≤ 100000000) (hk : 0 ≤ k ∧ k ≤ 1000000000000) : GC Tryz.prog 69 [.p (.lst 78 7 (rowsOf encChan (mkdChan k m))),int k] [] (int (k + 7 * (m : Int))) [] := by
 refine gi 4 Tryz.func69 rfl Tryz.ntmps69 rfl ?_
 intro L O w0
 refine sL<|laI Z<|nG<|aS<|sL<|laI Z<|nG<|aB ?_
 refine AW.loopE [(0,vL _ _ _),(4,vI _ _)] [] (D := Nat) (fun j => [(5,int (j : Int)),(1,int (k + 7 * (j : Int)))]) (fun j => []) (fun j => j ≤ m) (fun j => m - j) (0) (Nat.zero_le _) ⟨rfl,(congrArg int (by omega)),trivial⟩ trivial ⟨rfl,rfl,trivial⟩ trivial ?_
 intro j hI
 refine aS<|sL<|lmI Z<|lmL Z<|lnI ty.sl30 Z<|lbB Z<|nG ?_
 refine AW.cond rfl ?_ ?_
 ·intro h1
  refine aK<|gT<|aS<|aB<|aS<|aS ?_
  have hj : j < m := by have h := h1;simp [length_rowsOf,mkLs_len] at h;omega
  refine aL<|lmL Z<|lmI Z<|li j ty.el30 rfl (rows_some (mkLs_get hj))<|lq (rd (x := .rp _) (zfr ty.F78_0 rfl) rfl)<|lrI ty.kd3 Z<|lmI Z<|lbB Z<|lsB 18 false rfl (by unfold mk1Chan;simp)<|nG<|aN Z<|aK<|gA<|lmI Z<|lgI Z<|lsN 20 (k + 7 * (j : Int) + 1) rfl (by omega)<|laI Z<|nG<|aS<|sL<|lmL Z<|lmI Z<|li j ty.el30 rfl (rows_some (mkLs_get hj))<|lq (rd (x := .rp _) (zfr ty.F78_1 rfl) rfl)<|lrI ty.kd3 rfl ?_
  refine lmI Z<|lbB Z<|lsB 27 false rfl (by unfold mk1Chan;simp)<|nG<|aN Z<|aK<|gA<|lmI Z<|lgI Z<|lsN 29 (k + 7 * (j : Int) + 2) rfl (by omega)<|laI Z<|nG<|aS<|sL<|lmL Z<|lmI Z<|li j ty.el30 rfl (rows_some (mkLs_get hj))<|lq (rd (x := .rp _) (zfr ty.F78_2 rfl) rfl)<|lT [0,1,4,5,33] [vL _ _ _,vI _ _,vI _ _,vI _ _,.rp _] [] [] rfl Z<|lrI ty.kd3 Z<|lmI Z<|lbB Z<|lsB 36 false rfl (by unfold mk1Chan;simp)<|nG ?_
  refine aN Z<|aK<|gA<|lmI Z<|lgI Z<|lsN 38 (k + 7 * (j : Int) + 3) rfl (by omega)<|laI Z<|nG<|aS<|sL<|lmL Z<|lmI Z<|li j ty.el30 rfl (rows_some (mkLs_get hj))<|lq (rd (x := .rp _) (zfr ty.F78_3 rfl) rfl)<|lrI ty.kd3 Z<|lmI Z<|lbB Z<|lsB 45 false rfl (by unfold mk1Chan;simp)<|nG<|aN Z<|aK<|gA<|lmI rfl ?_
  refine lgI Z<|lsN 47 (k + 7 * (j : Int) + 4) rfl (by omega)<|laI Z<|nG<|aS<|sL<|lmL Z<|lmI Z<|li j ty.el30 rfl (rows_some (mkLs_get hj))<|lq (rd (x := .rp _) (zfr ty.F78_4 rfl) rfl)<|lrI ty.kd3 Z<|lmI Z<|lbB Z<|lsB 54 false rfl (by unfold mk1Chan;simp)<|nG<|aN Z<|aK<|gA<|lmI Z<|lgI Z<|lsN 56 (k + 7 * (j : Int) + 5) rfl (by omega)<|laI Z<|nG<|aS ?_
  refine sL<|lmL Z<|lmI Z<|li j ty.el30 rfl (rows_some (mkLs_get hj))<|lq (rd (x := .rp _) (zfr ty.F78_5 rfl) rfl)<|lT [0,1,4,5,60] [vL _ _ _,vI _ _,vI _ _,vI _ _,.rp _] [] [] rfl Z<|lrI ty.kd3 Z<|lmI Z<|lbB Z<|lsB 63 false rfl (by unfold mk1Chan;simp)<|nG<|aN Z<|aK<|gA<|lmI Z<|lgI Z<|lsN 65 (k + 7 * (j : Int) + 6) rfl (by omega)<|laI Z<|nG<|aS<|sL<|lmL Z<|lmI Z<|li j ty.el30 rfl (rows_some (mkLs_get hj)) ?_
  refine lq (rd (x := .rp _) (zfr ty.F78_6 rfl) rfl)<|lrI ty.kd3 Z<|lmI Z<|lbB Z<|lsB 72 false rfl (by unfold mk1Chan;simp)<|nG<|aN Z<|aK<|gT<|aL<|lmI Z<|lgI Z<|lsN 74 (k + 7 * (j : Int) + 7) rfl (by omega)<|laI Z<|lN<|gB<|gT<|aL<|lmI Z<|lgI Z<|laI Z<|nG ?_
  refine ⟨j + 1,hj,by omega,⟨(iq rfl),(iq rfl),trivial⟩,trivial,⟨rfl,rfl,trivial⟩,trivial⟩
 ·intro h1
  refine aE<|eT<|eT<|eB<|gA<|lmI Z<|laI Z<|nG<|aR ?_
  have hje : j = m := by have h := h1;simp [length_rowsOf,mkLs_len] at h;omega
  refine end_ret ?_ trivial
  rw [hje]
  try rfl
def mk1Htlc (k : Int) : Htlc := ⟨k,k + 1,k + 2,k + 3,k + 4,decide ((k + 5).tmod 3 = 0),k + 6⟩
abbrev mkdHtlc (k : Int) (m : Nat) : List Htlc := mkLs mk1Htlc 7 k m
theorem markHtlcS_e (u : Value) (l : List Htlc) (k : Int) (hm : l.length ≤ 100000000) (hk : 0 ≤ k ∧ k ≤ 1000000000000) : GC Tryz.prog 66 [.own 0,int k] [(0,.arr ⟨117,some u⟩ 7 (rowsOf encHtlc l))] (int (k + 7 * (l.length : Int))) [(0,.arr ⟨117,some u⟩ 7 (rowsOf encHtlc (mkdHtlc k l.length)))] := by
 refine gi 4 Tryz.func66 rfl Tryz.ntmps66 rfl ?_
 intro L O w0
 refine sL<|laI Z<|nG<|aS<|sL<|laI Z<|nG<|aB ?_
 refine AW.loopE [(0,.own _),(4,vI _ _)] [] (D := Nat) (fun j => [(5,int (j : Int)),(1,int (k + 7 * (j : Int)))]) (fun j => [(0,.arr ⟨117,some u⟩ 7 (rowsOf encHtlc (mkdHtlc k j ++ l.drop j)))]) (fun j => j ≤ l.length) (fun j => l.length - j) (0) (Nat.zero_le _) ⟨rfl,(congrArg int (by omega)),trivial⟩ ⟨rfl,trivial⟩ ⟨rfl,rfl,trivial⟩ trivial ?_
 intro j hI
 refine aS<|sL<|lmI Z<|lmO Z<|lnI ty.sl31 Z<|lbB Z<|nG ?_
 refine AW.cond rfl ?_ ?_
 ·intro h1
  refine aK<|gT<|aS<|aB<|aS ?_
  have hj : j < l.length := by have h := h1;simp [length_rowsOf,mkLs_len] at h;omega
  refine aL<|lmO Z<|lmI Z<|lmI Z<|lq (rj j ty.el31 rfl (by simp [length_rowsOf,mkLs_len];omega))<|lf 0 ty.F117_0 Z<|lst (zQ 0 [.v (.int .i64 (k + 7 * (j : Int)))] ty.co3 ty.inf3 rfl (rows_some (marked_get mkLs_len hj))) Z<|nA<|lmI Z<|lgI Z<|lsN 18 (k + 7 * (j : Int) + 1) rfl (by omega)<|laI Z<|nA<|lmO Z<|lmI Z<|lmI Z<|lq (rj j ty.el31 rfl (by simp [length_rowsOf,mkLs_len];omega))<|lf 1 ty.F117_1 Z<|lst (zQ 0 [.v (.int .i64 (k + 7 * (j : Int) + 1))] ty.co3 ty.inf3 rfl (List.getElem?_set_self (by simp [length_rowsOf,mkLs_len];omega))) Z<|lT [0,1,4,5] [.own _,vI _ _,vI _ _,vI _ _] [0] [.arr _ _ _] rfl Z<|nA ?_
  refine lmI Z<|lgI Z<|lsN 25 (k + 7 * (j : Int) + 2) rfl (by omega)<|laI Z<|nA<|lmO Z<|lmI Z<|lmI Z<|lq (rj j ty.el31 rfl (by simp [length_rowsOf,mkLs_len];omega))<|lf 2 ty.F117_2 Z<|lst (zQ 0 [.v (.int .i64 (k + 7 * (j : Int) + 2))] ty.co3 ty.inf3 rfl (List.getElem?_set_self (by simp [length_rowsOf,mkLs_len];omega))) Z<|nA<|lmI Z<|lgI Z<|lsN 32 (k + 7 * (j : Int) + 3) rfl (by omega)<|laI Z<|nA<|lmO Z<|lmI Z<|lmI Z<|lq (rj j ty.el31 rfl (by simp [length_rowsOf,mkLs_len];omega)) ?_
  refine lf 3 ty.F117_3 Z<|lst (zQ 0 [.v (.int .i64 (k + 7 * (j : Int) + 3))] ty.co3 ty.inf3 rfl (List.getElem?_set_self (by simp [length_rowsOf,mkLs_len];omega))) Z<|lT [0,1,4,5] [.own _,vI _ _,vI _ _,vI _ _] [0] [.arr _ _ _] rfl Z<|nA<|lmI Z<|lgI Z<|lsN 39 (k + 7 * (j : Int) + 4) rfl (by omega)<|laI Z<|nA<|lmO Z<|lmI Z<|lmI Z<|lq (rj j ty.el31 rfl (by simp [length_rowsOf,mkLs_len];omega))<|lf 4 ty.F117_4 Z<|lst (zQ 0 [.v (.int .i64 (k + 7 * (j : Int) + 4))] ty.co3 ty.inf3 rfl (List.getElem?_set_self (by simp [length_rowsOf,mkLs_len];omega))) Z<|nA<|lmI Z<|lgI Z<|lsN 46 (k + 7 * (j : Int) + 5) rfl (by omega)<|laI Z<|lN ?_
  refine gA<|lmO Z<|lmI Z<|lmI Z ?_
  refine lhI rfl ⟨rfl,by decide⟩<|lbB Z<|lq (rj j ty.el31 rfl (by simp [length_rowsOf,mkLs_len];omega))<|lf 5 ty.F117_5 Z<|lst (zQ 0 [.v (.bool (decide ((k + 7 * (j : Int) + 5).tmod 3 = 0)))] ty.co4 ty.inf4 rfl (List.getElem?_set_self (by simp [length_rowsOf,mkLs_len];omega))) Z<|lT [0,1,4,5] [.own _,vI _ _,vI _ _,vI _ _] [0] [.arr _ _ _] rfl Z<|nA<|lmI Z<|lgI Z<|lsN 55 (k + 7 * (j : Int) + 6) rfl (by omega)<|laI Z<|nA<|lmO Z<|lmI Z<|lmI Z<|lq (rj j ty.el31 rfl (by simp [length_rowsOf,mkLs_len];omega))<|lf 6 ty.F117_6 Z<|lst (zQ 0 [.v (.int .i64 (k + 7 * (j : Int) + 6))] ty.co3 ty.inf3 rfl (List.getElem?_set_self (by simp [length_rowsOf,mkLs_len];omega))) Z<|nG ?_
  refine AW.obj 0 (.arr ⟨117,some u⟩ 7 ((rowsOf encHtlc (mkdHtlc k j ++ l.drop j)).set j [.v (.int .i64 (k + 7 * (j : Int))),.v (.int .i64 (k + 7 * (j : Int) + 1)),.v (.int .i64 (k + 7 * (j : Int) + 2)),.v (.int .i64 (k + 7 * (j : Int) + 3)),.v (.int .i64 (k + 7 * (j : Int) + 4)),.v (.bool (decide ((k + 7 * (j : Int) + 5).tmod 3 = 0))),.v (.int .i64 (k + 7 * (j : Int) + 6))])) (by show AO.arr _ _ (List.set (List.set (List.set (List.set (List.set (List.set (List.set _ _ _) _ _) _ _) _ _) _ _) _ _) _ _) = _;simp only [List.set_set];rfl) ?_
  refine aL<|lmI Z<|lgI Z<|lsN 62 (k + 7 * (j : Int) + 7) rfl (by omega)<|laI Z<|lN<|gB<|gT<|aL<|lmI Z<|lgI Z<|laI Z<|nG ?_
  refine ⟨j + 1,hj,by omega,⟨(iq rfl),(iq rfl),trivial⟩,⟨(Eq.trans (b := AO.arr ⟨117,some u⟩ 7 ((rowsOf encHtlc (mkdHtlc k j ++ l.drop j)).set j ((encHtlc (mk1Htlc (k + 7 * (j : Int)))).map PV.v))) rfl (congrArg (AO.arr ⟨117,some u⟩ 7) (rows_set.trans (congrArg (rowsOf encHtlc) (marked_set mkLs_len mkLs_succ hj))))),trivial⟩,⟨rfl,rfl,trivial⟩,trivial⟩
 ·intro h1
  refine aE<|eT<|eT<|eB<|gA<|lmI Z<|laI Z<|nG<|aR ?_
  have hje : j = l.length := by have h := h1;simp [length_rowsOf,mkLs_len] at h;omega
  refine end_ret ?_ ⟨(congrArg (fun q => AO.arr ⟨117,some u⟩ 7 (rowsOf encHtlc q)) (by rw [hje,List.drop_length,List.append_nil])),trivial⟩
  rw [hje]
  try rfl
theorem heldHtlcS_e (m : Nat) (k : Int) (hm : m ≤ 100000000) (hk : 0 ≤ k ∧ k ≤ 1000000000000) : GC Tryz.prog 70 [.p (.lst 117 7 (rowsOf encHtlc (mkdHtlc k m))),int k] [] (int (k + 7 * (m : Int))) [] := by
 refine gi 4 Tryz.func70 rfl Tryz.ntmps70 rfl ?_
 intro L O w0
 refine sL<|laI Z<|nG<|aS<|sL<|laI Z<|nG<|aB ?_
 refine AW.loopE [(0,vL _ _ _),(4,vI _ _)] [] (D := Nat) (fun j => [(5,int (j : Int)),(1,int (k + 7 * (j : Int)))]) (fun j => []) (fun j => j ≤ m) (fun j => m - j) (0) (Nat.zero_le _) ⟨rfl,(congrArg int (by omega)),trivial⟩ trivial ⟨rfl,rfl,trivial⟩ trivial ?_
 intro j hI
 refine aS<|sL<|lmI Z<|lmL Z<|lnI ty.sl31 Z<|lbB Z<|nG ?_
 refine AW.cond rfl ?_ ?_
 ·intro h1
  refine aK<|gT<|aS<|aB<|aS<|aS ?_
  have hj : j < m := by have h := h1;simp [length_rowsOf,mkLs_len] at h;omega
  refine aL<|lmL Z<|lmI Z<|li j ty.el31 rfl (rows_some (mkLs_get hj))<|lq (rd (x := .rp _) (zfr ty.F117_0 rfl) rfl)<|lrI ty.kd3 Z<|lmI Z<|lbB Z<|lsB 18 false rfl (by unfold mk1Htlc;simp)<|nG<|aN Z<|aK<|gA<|lmI Z<|lgI Z<|lsN 20 (k + 7 * (j : Int) + 1) rfl (by omega)<|laI Z<|nG<|aS<|sL<|lmL Z<|lmI Z<|li j ty.el31 rfl (rows_some (mkLs_get hj))<|lq (rd (x := .rp _) (zfr ty.F117_1 rfl) rfl)<|lrI ty.kd3 rfl ?_
  refine lmI Z<|lbB Z<|lsB 27 false rfl (by unfold mk1Htlc;simp)<|nG<|aN Z<|aK<|gA<|lmI Z<|lgI Z<|lsN 29 (k + 7 * (j : Int) + 2) rfl (by omega)<|laI Z<|nG<|aS<|sL<|lmL Z<|lmI Z<|li j ty.el31 rfl (rows_some (mkLs_get hj))<|lq (rd (x := .rp _) (zfr ty.F117_2 rfl) rfl)<|lT [0,1,4,5,33] [vL _ _ _,vI _ _,vI _ _,vI _ _,.rp _] [] [] rfl Z<|lrI ty.kd3 Z<|lmI Z<|lbB Z<|lsB 36 false rfl (by unfold mk1Htlc;simp)<|nG ?_
  refine aN Z<|aK<|gA<|lmI Z<|lgI Z<|lsN 38 (k + 7 * (j : Int) + 3) rfl (by omega)<|laI Z<|nG<|aS<|sL<|lmL Z<|lmI Z<|li j ty.el31 rfl (rows_some (mkLs_get hj))<|lq (rd (x := .rp _) (zfr ty.F117_3 rfl) rfl)<|lrI ty.kd3 Z<|lmI Z<|lbB Z<|lsB 45 false rfl (by unfold mk1Htlc;simp)<|nG<|aN Z<|aK<|gA<|lmI rfl ?_
  refine lgI Z<|lsN 47 (k + 7 * (j : Int) + 4) rfl (by omega)<|laI Z<|nG<|aS<|sL<|lmL Z<|lmI Z<|li j ty.el31 rfl (rows_some (mkLs_get hj))<|lq (rd (x := .rp _) (zfr ty.F117_4 rfl) rfl)<|lrI ty.kd3 Z<|lmI Z<|lbB Z<|lsB 54 false rfl (by unfold mk1Htlc;simp)<|nG<|aN Z<|aK<|gA<|lmI Z<|lgI Z<|lsN 56 (k + 7 * (j : Int) + 5) rfl (by omega)<|laI Z<|nG<|aS ?_
  refine sL<|lmL Z<|lmI Z<|li j ty.el31 Z (rows_some (mkLs_get hj))<|lq (rd (x := .rp _) (zfr ty.F117_5 Z) Z)<|lT [0,1,4,5,60] [vL _ _ _,vI _ _,vI _ _,vI _ _,.rp _] [] [] Z Z<|lrB ty.kd4 Z<|lmI Z ?_
  refine lhI rfl ⟨rfl,by decide⟩<|lbB Z<|lq (rd (x := vB _) (rd_neB rfl rfl rfl Tryz.underlying4) rfl)<|lsB 65 false rfl (by unfold mk1Htlc;simp)<|nG<|aN Z<|aK<|gA<|lmI Z<|lgI Z<|lsN 67 (k + 7 * (j : Int) + 6) rfl (by omega)<|laI Z<|nG<|aS<|sL<|lmL Z<|lmI Z<|li j ty.el31 rfl (rows_some (mkLs_get hj))<|lq (rd (x := .rp _) (zfr ty.F117_6 rfl) rfl)<|lrI ty.kd3 Z<|lmI Z<|lbB Z<|lsB 74 false rfl (by unfold mk1Htlc;simp)<|nG ?_
  refine aN Z<|aK<|gT<|aL<|lmI Z<|lgI Z<|lsN 76 (k + 7 * (j : Int) + 7) rfl (by omega)<|laI Z<|lN<|gB<|gT<|aL<|lmI Z<|lgI Z<|laI Z<|nG ?_
  refine ⟨j + 1,hj,by omega,⟨(iq rfl),(iq rfl),trivial⟩,trivial,⟨rfl,rfl,trivial⟩,trivial⟩
 ·intro h1
  refine aE<|eT<|eT<|eB<|gA<|lmI Z<|laI Z<|nG<|aR ?_
  have hje : j = m := by have h := h1;simp [length_rowsOf,mkLs_len] at h;omega
  refine end_ret ?_ trivial
  rw [hje]
  try rfl
def mk1Circle (k : Int) : Circle := ⟨k,k + 1,k + 2,k + 3,k + 4⟩
abbrev mkdCircle (k : Int) (m : Nat) : List Circle := mkLs mk1Circle 5 k m
theorem markCircleS_e (u : Value) (l : List Circle) (k : Int) (hm : l.length ≤ 100000000) (hk : 0 ≤ k ∧ k ≤ 1000000000000) : GC Tryz.prog 67 [.own 0,int k] [(0,.arr ⟨120,some u⟩ 5 (rowsOf encCircle l))] (int (k + 5 * (l.length : Int))) [(0,.arr ⟨120,some u⟩ 5 (rowsOf encCircle (mkdCircle k l.length)))] := by
 refine gi 4 Tryz.func67 rfl Tryz.ntmps67 rfl ?_
 intro L O w0
 refine sL<|laI Z<|nG<|aS<|sL<|laI Z<|nG<|aB ?_
 refine AW.loopE [(0,.own _),(4,vI _ _)] [] (D := Nat) (fun j => [(5,int (j : Int)),(1,int (k + 5 * (j : Int)))]) (fun j => [(0,.arr ⟨120,some u⟩ 5 (rowsOf encCircle (mkdCircle k j ++ l.drop j)))]) (fun j => j ≤ l.length) (fun j => l.length - j) (0) (Nat.zero_le _) ⟨rfl,(congrArg int (by omega)),trivial⟩ ⟨rfl,trivial⟩ ⟨rfl,rfl,trivial⟩ trivial ?_
 intro j hI
 refine aS<|sL<|lmI Z<|lmO Z<|lnI ty.sl32 Z<|lbB Z<|nG ?_
 refine AW.cond rfl ?_ ?_
 ·intro h1
  refine aK<|gT<|aS<|aB<|aS ?_
  have hj : j < l.length := by have h := h1;simp [length_rowsOf,mkLs_len] at h;omega
  refine aL<|lmO Z<|lmI Z<|lmI Z<|lq (rj j ty.el32 rfl (by simp [length_rowsOf,mkLs_len];omega))<|lf 0 ty.F120_0 Z<|lst (zQ 0 [.v (.int .i64 (k + 5 * (j : Int)))] ty.co3 ty.inf3 rfl (rows_some (marked_get mkLs_len hj))) Z<|nA<|lmI Z<|lgI Z<|lsN 18 (k + 5 * (j : Int) + 1) rfl (by omega)<|laI Z<|nA<|lmO Z<|lmI Z<|lmI Z<|lq (rj j ty.el32 rfl (by simp [length_rowsOf,mkLs_len];omega))<|lf 1 ty.F120_1 Z<|lst (zQ 0 [.v (.int .i64 (k + 5 * (j : Int) + 1))] ty.co3 ty.inf3 rfl (List.getElem?_set_self (by simp [length_rowsOf,mkLs_len];omega))) Z<|lT [0,1,4,5] [.own _,vI _ _,vI _ _,vI _ _] [0] [.arr _ _ _] rfl Z<|nA ?_
  refine lmI Z<|lgI Z<|lsN 25 (k + 5 * (j : Int) + 2) rfl (by omega)<|laI Z<|nA<|lmO Z<|lmI Z<|lmI Z<|lq (rj j ty.el32 rfl (by simp [length_rowsOf,mkLs_len];omega))<|lf 2 ty.F120_2 Z<|lst (zQ 0 [.v (.int .i64 (k + 5 * (j : Int) + 2))] ty.co3 ty.inf3 rfl (List.getElem?_set_self (by simp [length_rowsOf,mkLs_len];omega))) Z<|nA<|lmI Z<|lgI Z<|lsN 32 (k + 5 * (j : Int) + 3) rfl (by omega)<|laI Z<|nA<|lmO Z<|lmI Z<|lmI Z<|lq (rj j ty.el32 rfl (by simp [length_rowsOf,mkLs_len];omega)) ?_
  refine lf 3 ty.F120_3 Z<|lst (zQ 0 [.v (.int .i64 (k + 5 * (j : Int) + 3))] ty.co3 ty.inf3 rfl (List.getElem?_set_self (by simp [length_rowsOf,mkLs_len];omega))) Z<|lT [0,1,4,5] [.own _,vI _ _,vI _ _,vI _ _] [0] [.arr _ _ _] rfl Z<|nA<|lmI Z<|lgI Z<|lsN 39 (k + 5 * (j : Int) + 4) rfl (by omega)<|laI Z<|nA<|lmO Z<|lmI Z<|lmI Z<|lq (rj j ty.el32 rfl (by simp [length_rowsOf,mkLs_len];omega))<|lf 4 ty.F120_4 Z<|lst (zQ 0 [.v (.int .i64 (k + 5 * (j : Int) + 4))] ty.co3 ty.inf3 rfl (List.getElem?_set_self (by simp [length_rowsOf,mkLs_len];omega))) Z<|nG ?_
  refine AW.obj 0 (.arr ⟨120,some u⟩ 5 ((rowsOf encCircle (mkdCircle k j ++ l.drop j)).set j [.v (.int .i64 (k + 5 * (j : Int))),.v (.int .i64 (k + 5 * (j : Int) + 1)),.v (.int .i64 (k + 5 * (j : Int) + 2)),.v (.int .i64 (k + 5 * (j : Int) + 3)),.v (.int .i64 (k + 5 * (j : Int) + 4))])) (by show AO.arr _ _ (List.set (List.set (List.set (List.set (List.set _ _ _) _ _) _ _) _ _) _ _) = _;simp only [List.set_set];rfl) ?_
  refine aL<|lmI Z<|lgI Z<|lsN 46 (k + 5 * (j : Int) + 5) rfl (by omega)<|laI Z<|lN<|gB<|gT<|aL<|lmI Z<|lgI Z<|laI Z<|nG ?_
  refine ⟨j + 1,hj,by omega,⟨(iq rfl),(iq rfl),trivial⟩,⟨(Eq.trans (b := AO.arr ⟨120,some u⟩ 5 ((rowsOf encCircle (mkdCircle k j ++ l.drop j)).set j ((encCircle (mk1Circle (k + 5 * (j : Int)))).map PV.v))) rfl (congrArg (AO.arr ⟨120,some u⟩ 5) (rows_set.trans (congrArg (rowsOf encCircle) (marked_set mkLs_len mkLs_succ hj))))),trivial⟩,⟨rfl,rfl,trivial⟩,trivial⟩
 ·intro h1
  refine aE<|eT<|eT<|eB<|gA<|lmI Z<|laI Z<|nG<|aR ?_
  have hje : j = l.length := by have h := h1;simp [length_rowsOf,mkLs_len] at h;omega
  refine end_ret ?_ ⟨(congrArg (fun q => AO.arr ⟨120,some u⟩ 5 (rowsOf encCircle q)) (by rw [hje,List.drop_length,List.append_nil])),trivial⟩
  rw [hje]
  try rfl
theorem heldCircleS_e (m : Nat) (k : Int) (hm : m ≤ 100000000) (hk : 0 ≤ k ∧ k ≤ 1000000000000) : GC Tryz.prog 71 [.p (.lst 120 5 (rowsOf encCircle (mkdCircle k m))),int k] [] (int (k + 5 * (m : Int))) [] := by
 refine gi 4 Tryz.func71 rfl Tryz.ntmps71 rfl ?_
 intro L O w0
 refine sL<|laI Z<|nG<|aS<|sL<|laI Z<|nG<|aB ?_
 refine AW.loopE [(0,vL _ _ _),(4,vI _ _)] [] (D := Nat) (fun j => [(5,int (j : Int)),(1,int (k + 5 * (j : Int)))]) (fun j => []) (fun j => j ≤ m) (fun j => m - j) (0) (Nat.zero_le _) ⟨rfl,(congrArg int (by omega)),trivial⟩ trivial ⟨rfl,rfl,trivial⟩ trivial ?_
 intro j hI
 refine aS<|sL<|lmI Z<|lmL Z<|lnI ty.sl32 Z<|lbB Z<|nG ?_
 refine AW.cond rfl ?_ ?_
 ·intro h1
  refine aK<|gT<|aS<|aB<|aS<|aS ?_
  have hj : j < m := by have h := h1;simp [length_rowsOf,mkLs_len] at h;omega
  refine aL<|lmL Z<|lmI Z<|li j ty.el32 rfl (rows_some (mkLs_get hj))<|lq (rd (x := .rp _) (zfr ty.F120_0 rfl) rfl)<|lrI ty.kd3 Z<|lmI Z<|lbB Z<|lsB 18 false rfl (by unfold mk1Circle;simp)<|nG<|aN Z<|aK<|gA<|lmI Z<|lgI Z<|lsN 20 (k + 5 * (j : Int) + 1) rfl (by omega)<|laI Z<|nG<|aS<|sL<|lmL Z<|lmI Z<|li j ty.el32 rfl (rows_some (mkLs_get hj))<|lq (rd (x := .rp _) (zfr ty.F120_1 rfl) rfl)<|lrI ty.kd3 rfl ?_
  refine lmI Z<|lbB Z<|lsB 27 false rfl (by unfold mk1Circle;simp)<|nG<|aN Z<|aK<|gA<|lmI Z<|lgI Z<|lsN 29 (k + 5 * (j : Int) + 2) rfl (by omega)<|laI Z<|nG<|aS<|sL<|lmL Z<|lmI Z<|li j ty.el32 rfl (rows_some (mkLs_get hj))<|lq (rd (x := .rp _) (zfr ty.F120_2 rfl) rfl)<|lT [0,1,4,5,33] [vL _ _ _,vI _ _,vI _ _,vI _ _,.rp _] [] [] rfl Z<|lrI ty.kd3 Z<|lmI Z<|lbB Z<|lsB 36 false rfl (by unfold mk1Circle;simp)<|nG ?_
  refine aN Z<|aK<|gA<|lmI Z<|lgI Z<|lsN 38 (k + 5 * (j : Int) + 3) rfl (by omega)<|laI Z<|nG<|aS<|sL<|lmL Z<|lmI Z<|li j ty.el32 rfl (rows_some (mkLs_get hj))<|lq (rd (x := .rp _) (zfr ty.F120_3 rfl) rfl)<|lrI ty.kd3 Z<|lmI Z<|lbB Z<|lsB 45 false rfl (by unfold mk1Circle;simp)<|nG<|aN Z<|aK<|gA<|lmI rfl ?_
  refine lgI Z<|lsN 47 (k + 5 * (j : Int) + 4) rfl (by omega)<|laI Z<|nG<|aS<|sL<|lmL Z<|lmI Z<|li j ty.el32 rfl (rows_some (mkLs_get hj))<|lq (rd (x := .rp _) (zfr ty.F120_4 rfl) rfl)<|lrI ty.kd3 Z<|lmI Z<|lbB Z<|lsB 54 false rfl (by unfold mk1Circle;simp)<|nG<|aN Z<|aK<|gT<|aL<|lmI Z<|lgI Z<|lsN 56 (k + 5 * (j : Int) + 5) rfl (by omega)<|laI Z<|lN<|gB<|gT<|aL ?_
  refine lmI Z<|lgI Z<|laI Z<|nG ?_
  refine ⟨j + 1,hj,by omega,⟨(iq rfl),(iq rfl),trivial⟩,trivial,⟨rfl,rfl,trivial⟩,trivial⟩
 ·intro h1
  refine aE<|eT<|eT<|eB<|gA<|lmI Z<|lT [4,57] [vI _ _,vI _ _] [] [] Z Z<|laI Z<|nG<|aR ?_
  have hje : j = m := by have h := h1;simp [length_rowsOf,mkLs_len] at h;omega
  refine end_ret ?_ trivial
  rw [hje]
  try rfl
def mk1Int (k : Int) : Int := k
abbrev mkdInt (k : Int) (m : Nat) : List Int := mkLs mk1Int 1 k m
theorem markIntS_e (u : Value) (l : List Int) (k : Int) (hm : l.length ≤ 100000000) (hk : 0 ≤ k ∧ k ≤ 1000000000000) : GC Tryz.prog 25 [.own 0,int k] [(0,.arr ⟨3,some u⟩ 1 (rowsOf encKey l))] (int (k + 1 * (l.length : Int))) [(0,.arr ⟨3,some u⟩ 1 (rowsOf encKey (mkdInt k l.length)))] := by
 refine gi 4 Tryz.func25 rfl Tryz.ntmps25 rfl ?_
 intro L O w0
 refine sL<|laI Z<|nG<|aS<|sL<|laI Z<|nG<|aB ?_
 refine AW.loopE [(0,.own _),(4,vI _ _)] [] (D := Nat) (fun j => [(5,int (j : Int)),(1,int (k + 1 * (j : Int)))]) (fun j => [(0,.arr ⟨3,some u⟩ 1 (rowsOf encKey (mkdInt k j ++ l.drop j)))]) (fun j => j ≤ l.length) (fun j => l.length - j) (0) (Nat.zero_le _) ⟨rfl,(congrArg int (by omega)),trivial⟩ ⟨rfl,trivial⟩ ⟨rfl,rfl,trivial⟩ trivial ?_
 intro j hI
 refine aS<|sL<|lmI Z<|lmO Z<|lnI ty.sl51 Z<|lbB Z<|nG ?_
 refine AW.cond rfl ?_ ?_
 ·intro h1
  refine aK<|gT<|aS<|aB<|aS ?_
  have hj : j < l.length := by have h := h1;simp [length_rowsOf,mkLs_len] at h;omega
  refine aL<|lmO Z<|lmI Z<|lmI Z<|lq (rj j ty.el51 rfl (by simp [length_rowsOf,mkLs_len];omega))<|lst (zQ 0 [.v (.int .i64 (k + 1 * (j : Int)))] ty.co3 ty.inf3 rfl (rows_some (marked_get mkLs_len hj))) Z<|nG ?_
  refine AW.obj 0 (.arr ⟨3,some u⟩ 1 ((rowsOf encKey (mkdInt k j ++ l.drop j)).set j [.v (.int .i64 (k + 1 * (j : Int)))])) (by show AO.arr _ _ (List.set _ _ _) = _;rfl) ?_
  refine aL<|lmI Z<|lgI Z<|lsN 17 (k + 1 * (j : Int) + 1) rfl (by omega)<|laI Z<|lN<|gB<|gT<|aL<|lmI Z<|lgI Z<|laI Z<|nG ?_
  refine ⟨j + 1,hj,by omega,⟨(iq rfl),(iq rfl),trivial⟩,⟨(Eq.trans (b := AO.arr ⟨3,some u⟩ 1 ((rowsOf encKey (mkdInt k j ++ l.drop j)).set j ((encKey (mk1Int (k + 1 * (j : Int)))).map PV.v))) rfl (congrArg (AO.arr ⟨3,some u⟩ 1) (rows_set.trans (congrArg (rowsOf encKey) (marked_set mkLs_len mkLs_succ hj))))),trivial⟩,⟨rfl,rfl,trivial⟩,trivial⟩
 ·intro h1
  refine aE<|eT<|eT<|eB<|gA<|lmI Z<|laI Z<|nG<|aR ?_
  have hje : j = l.length := by have h := h1;simp [length_rowsOf,mkLs_len] at h;omega
  refine end_ret ?_ ⟨(congrArg (fun q => AO.arr ⟨3,some u⟩ 1 (rowsOf encKey q)) (by rw [hje,List.drop_length,List.append_nil])),trivial⟩
  rw [hje]
  try rfl
theorem heldIntS_e (m : Nat) (k : Int) (hm : m ≤ 100000000) (hk : 0 ≤ k ∧ k ≤ 1000000000000) : GC Tryz.prog 27 [.p (.lst 3 1 (rowsOf encKey (mkdInt k m))),int k] [] (int (k + 1 * (m : Int))) [] := by
 refine gi 4 Tryz.func27 rfl Tryz.ntmps27 rfl ?_
 intro L O w0
 refine sL<|laI Z<|nG<|aS<|sL<|laI Z<|nG<|aB ?_
 refine AW.loopE [(0,vL _ _ _),(4,vI _ _)] [] (D := Nat) (fun j => [(5,int (j : Int)),(1,int (k + 1 * (j : Int)))]) (fun j => []) (fun j => j ≤ m) (fun j => m - j) (0) (Nat.zero_le _) ⟨rfl,(congrArg int (by omega)),trivial⟩ trivial ⟨rfl,rfl,trivial⟩ trivial ?_
 intro j hI
 refine aS<|sL<|lmI Z<|lmL Z<|lnI ty.sl51 Z<|lbB Z<|nG ?_
 refine AW.cond rfl ?_ ?_
 ·intro h1
  refine aK<|gT<|aS<|aB<|aS<|aS ?_
  have hj : j < m := by have h := h1;simp [length_rowsOf,mkLs_len] at h;omega
  refine aL<|lmL Z<|lmI Z<|li j ty.el51 rfl (rows_some (mkLs_get hj))<|lrI ty.kd3 Z<|lmI Z<|lbB Z<|lsB 17 false rfl (by unfold mk1Int;simp)<|nG<|aN Z<|aK<|gT<|aL<|lmI Z<|lgI Z<|lsN 19 (k + 1 * (j : Int) + 1) rfl (by omega)<|laI Z<|lN<|gB<|gT<|aL<|lmI Z<|lgI Z<|laI Z<|nG ?_
  refine ⟨j + 1,hj,by omega,⟨(iq rfl),(iq rfl),trivial⟩,trivial,⟨rfl,rfl,trivial⟩,trivial⟩
 ·intro h1
  refine aE<|eT<|eT<|eB<|gA<|lmI Z<|laI Z<|nG<|aR ?_
  have hje : j = m := by have h := h1;simp [length_rowsOf,mkLs_len] at h;omega
  refine end_ret ?_ trivial
  rw [hje]
  try rfl

abbrev appAV (x : Book) (e : Event) : AV := .tup [.agg [int (appB x e).tick,int (appB x e).next,int (appB x e).wallet,.own 11,.own 12,.own 13],.agg [int (appP x e).id,.own 14],int (applyC x e)]
abbrev appOb (x : Book) (e : Event) : List (Nat × AO) := [(11,.arr 78 7 (rowsOf encChan (appB x e).chans)),(12,hAr (appB x e).htlcs),(13,iAr (appB x e).circles),(14,lAr (appP x e).lines)]
def OBF (w : World) (v : Value) (f : List Nat) (o : AO) : Prop := ∀ (L : Nat → Prop) (ρ : Nat → Value) (H : Nat → AO),OB L ρ H w v f o
theorem OBF.of {L : Nat → Prop} {ρ : Nat → Value} {H : Nat → AO} {w : World} {v : Value} {f : List Nat} {α : Type} {enc : α → List Value} {e : TypeId} {sz : Nat} {l : List α} (h : OB L ρ H w v f (.arr ⟨e,none⟩ sz (rowsOf enc l))) : OBF w v f (.arr ⟨e,none⟩ sz (rowsOf enc l)) := fun L' ρ' H' => by
  obtain ⟨xs,fr,k1,k2,k3,k4,k5⟩ := h
  have hfr := k1.flat_fp flat_rowsOf
  subst hfr
  exact ⟨xs,[],k1,by simp,k3,k4,k5⟩
theorem OBF.nil {w : World} {e : TypeId} {sz : Nat} : OBF w (.slice none 0 0) [] (.arr ⟨e,none⟩ sz []) := fun L ρ H => ⟨[],[],by simp [RWR],by simp,World.ownsRow_nil _ _ _ _,rfl,fun u hu => by cases hu⟩
theorem rv_own1 {L : Nat → Prop} {ρ : Nat → Value} {H : Nat → AO} {w : World} {id : Nat} {c : Value} (h : RV L ρ H w (.own id) c) : c.oneCell' = true := by rw [RV] at h;exact h.1
theorem rv_own_mk {L : Nat → Prop} {ρ : Nat → Value} {H : Nat → AO} {w : World} {id : Nat} {c : Value} (h : c.oneCell' = true) (h2 : c = ρ id) : RV L ρ H w (.own id) c := by rw [RV];exact ⟨h,fun _ => h2⟩
theorem app_key {x : Book} {e : Event} {L : Nat → Prop} {w' : World} {y : AV} {ob1 : List (Nat × AO)} {v : Value} {ρ' : Nat → Value} {fp' : Nat → List Nat} (hR : appR x e y ob1) (g2 : RV L ρ' (ofO ob1) w' y v) (g3 : ∀ i,OB L ρ' (ofO ob1) w' (ρ' i) (fp' i) (ofO ob1 i)) :
    ∃ v1 v2 v3 v4 : Value,∃ k1 k2 k3 k4 : Bool,v = .tuple #[.agg #[.int .i64 (appB x e).tick,.int .i64 (appB x e).next,.int .i64 (appB x e).wallet,v1,v2,v3],.agg #[.int .i64 (appP x e).id,v4],.int .i64 (applyC x e)] ∧ (v1.oneCell' = true ∧ v2.oneCell' = true ∧ v3.oneCell' = true ∧ v4.oneCell' = true) ∧
      OBF w' v1 (if k1 then fp' 1 else []) (.arr 78 7 (rowsOf encChan (appB x e).chans)) ∧ OBF w' v2 (if k2 then fp' 2 else []) (hAr (appB x e).htlcs) ∧ OBF w' v3 (if k3 then fp' 3 else []) (iAr (appB x e).circles) ∧ OBF w' v4 (if k4 then fp' 4 else []) (lAr (appP x e).lines) := by
  rcases hR with ⟨h0,rfl,rfl⟩ | ⟨h0,hl,rfl,rfl⟩ | ⟨h0,hl,rfl,rfl⟩
  · obtain ⟨e1,e2⟩ := appB_no h0
    obtain ⟨cs,rfl,g⟩ := rv_tup g2
    simp only [RVL] at g
    obtain ⟨v1,_,rfl,k1,v2,_,rfl,k2,v3,_,rfl,k3,rfl⟩ := g
    obtain ⟨cs,rfl,g⟩ := rv_agg k1
    simp only [RVL] at g
    obtain ⟨u1,_,rfl,j1,u2,_,rfl,j2,u3,_,rfl,j3,u4,_,rfl,j4,u5,_,rfl,j5,u6,_,rfl,j6,rfl⟩ := g
    obtain ⟨cs,rfl,g⟩ := rv_agg k2
    simp only [RVL] at g
    obtain ⟨t1,_,rfl,i1,t2,_,rfl,i2,rfl⟩ := g
    rw [j1.v_eq,j2.v_eq,j3.v_eq,j4.v_eq,j5.v_eq,j6.v_eq,i1.v_eq,i2.v_eq,k3.v_eq]
    refine ⟨_,_,_,_,false,false,false,false,by rw [e1,e2];rfl,⟨rfl,rfl,rfl,rfl⟩,?_⟩
    rw [e1,e2]
    exact ⟨OBF.nil,OBF.nil,OBF.nil,OBF.nil⟩
  · obtain ⟨e1,e2⟩ := appB_nil h0 hl
    obtain ⟨cs,rfl,g⟩ := rv_tup g2
    simp only [RVL] at g
    obtain ⟨v1,_,rfl,k1,v2,_,rfl,k2,v3,_,rfl,k3,rfl⟩ := g
    obtain ⟨cs,rfl,g⟩ := rv_agg k1
    simp only [RVL] at g
    obtain ⟨u1,_,rfl,j1,u2,_,rfl,j2,u3,_,rfl,j3,u4,_,rfl,j4,u5,_,rfl,j5,u6,_,rfl,j6,rfl⟩ := g
    obtain ⟨cs,rfl,g⟩ := rv_agg k2
    simp only [RVL] at g
    obtain ⟨t1,_,rfl,i1,t2,_,rfl,i2,rfl⟩ := g
    rw [j1.v_eq,j2.v_eq,j3.v_eq,i1.v_eq,i2.v_eq,k3.v_eq]
    refine ⟨_,_,_,_,true,true,true,false,by rw [e1,e2,h0],⟨rv_own1 j4,rv_own1 j5,rv_own1 j6,rfl⟩,?_⟩
    rw [e1,e2,rv_own j4 rfl,rv_own j5 rfl,rv_own j6 rfl]
    exact ⟨OBF.of (g3 1),OBF.of (g3 2),OBF.of (g3 3),OBF.nil⟩
  · obtain ⟨e1,e2⟩ := appB_yes h0 hl
    obtain ⟨cs,rfl,g⟩ := rv_tup g2
    simp only [RVL] at g
    obtain ⟨v1,_,rfl,k1,v2,_,rfl,k2,v3,_,rfl,k3,rfl⟩ := g
    obtain ⟨cs,rfl,g⟩ := rv_agg k1
    simp only [RVL] at g
    obtain ⟨u1,_,rfl,j1,u2,_,rfl,j2,u3,_,rfl,j3,u4,_,rfl,j4,u5,_,rfl,j5,u6,_,rfl,j6,rfl⟩ := g
    obtain ⟨cs,rfl,g⟩ := rv_agg k2
    simp only [RVL] at g
    obtain ⟨t1,_,rfl,i1,t2,_,rfl,i2,rfl⟩ := g
    rw [j1.v_eq,j2.v_eq,j3.v_eq,i1.v_eq,k3.v_eq]
    refine ⟨_,_,_,_,true,true,true,true,by rw [e1,e2,h0],⟨rv_own1 j4,rv_own1 j5,rv_own1 j6,rv_own1 i2⟩,?_⟩
    rw [e1,e2,rv_own j4 rfl,rv_own j5 rfl,rv_own j6 rfl,rv_own i2 rfl]
    exact ⟨OBF.of (g3 1),OBF.of (g3 2),OBF.of (g3 3),OBF.of (g3 4)⟩
theorem app_gc {f : FuncId} {x : Book} {e : Event} (hc : GX Tryz.prog f [bookV x,evV e] [] (appR x e)) : GC Tryz.prog f [bookV x,evV e] [] (appAV x e) (appOb x e) := by
  intro L w cs ρ fp hL hargs hob hdj hLf
  refine Calls.mono (hc L w cs ρ fp hL hargs hob hdj hLf) ?_
  rintro r w' ⟨y,ob1,hR,v,ρ',fp',rfl,g1,g2,g3,g4,g5⟩
  obtain ⟨v1,v2,v3,v4,k1,k2,k3,k4,rfl,⟨o1,o2,o3,o4⟩,b1,b2,b3,b4⟩ := app_key hR g2 g3
  have hsub : ∀ (k : Bool) i,∀ b ∈ (if k then fp' i else []),b ∈ fp' i := fun k i b hb => by cases k <;> simp_all
  refine ⟨_,_,⟨rfl,rfl⟩,_,(fun i => if i = 11 then v1 else if i = 12 then v2 else if i = 13 then v3 else if i = 14 then v4 else undef),(fun i => if i = 11 then (if k1 then fp' 1 else []) else if i = 12 then (if k2 then fp' 2 else []) else if i = 13 then (if k3 then fp' 3 else []) else if i = 14 then (if k4 then fp' 4 else []) else []),rfl,g1,?_,fun i => ?_,fun i j hij b hb hb' => ?_,fun i b hb => ?_⟩
  · rw [RV]
    refine ⟨[_,_,_],rfl,?_⟩
    simp only [RVL]
    refine ⟨_,_,rfl,?_,_,_,rfl,?_,_,_,rfl,RV.v_mk rfl,rfl⟩
    · rw [RV]
      refine ⟨[_,_,_,_,_,_],rfl,?_⟩
      simp only [RVL]
      exact ⟨_,_,rfl,RV.v_mk rfl,_,_,rfl,RV.v_mk rfl,_,_,rfl,RV.v_mk rfl,_,_,rfl,rv_own_mk o1 rfl,_,_,rfl,rv_own_mk o2 rfl,_,_,rfl,rv_own_mk o3 rfl,rfl⟩
    · rw [RV]
      refine ⟨[_,_],rfl,?_⟩
      simp only [RVL]
      exact ⟨_,_,rfl,RV.v_mk rfl,_,_,rfl,rv_own_mk o4 rfl,rfl⟩
  · by_cases h1 : i = 11
    · subst h1;exact b1 _ _ _
    by_cases h2 : i = 12
    · subst h2;exact b2 _ _ _
    by_cases h3 : i = 13
    · subst h3;exact b3 _ _ _
    by_cases h4 : i = 14
    · subst h4;exact b4 _ _ _
    simp only [if_neg h1,if_neg h2,if_neg h3,if_neg h4,ofO]
    rfl
  · have key : ∀ i b,b ∈ (if i = 11 then (if k1 then fp' 1 else []) else if i = 12 then (if k2 then fp' 2 else []) else if i = 13 then (if k3 then fp' 3 else []) else if i = 14 then (if k4 then fp' 4 else []) else []) → 11 ≤ i ∧ b ∈ fp' (i - 10) := fun i b hb => by
      split at hb
      · rename_i q;subst q;exact ⟨by omega,hsub _ _ b hb⟩
      split at hb
      · rename_i q;subst q;exact ⟨by omega,hsub _ _ b hb⟩
      split at hb
      · rename_i q;subst q;exact ⟨by omega,hsub _ _ b hb⟩
      split at hb
      · rename_i q;subst q;exact ⟨by omega,hsub _ _ b hb⟩
      · cases hb
    obtain ⟨p1,p2⟩ := key i b hb
    obtain ⟨p3,p4⟩ := key j b hb'
    exact g4 (i - 10) (j - 10) (by omega) b p2 p4
  · have key : ∀ i b,b ∈ (if i = 11 then (if k1 then fp' 1 else []) else if i = 12 then (if k2 then fp' 2 else []) else if i = 13 then (if k3 then fp' 3 else []) else if i = 14 then (if k4 then fp' 4 else []) else []) → ∃ j,b ∈ fp' j := fun i b hb => by
      split at hb
      · exact ⟨1,hsub _ _ b hb⟩
      split at hb
      · exact ⟨2,hsub _ _ b hb⟩
      split at hb
      · exact ⟨3,hsub _ _ b hb⟩
      split at hb
      · exact ⟨4,hsub _ _ b hb⟩
      · cases hb
    obtain ⟨j,hj⟩ := key i b hb
    exact g5 j b hj
theorem apply_g (x : Book) (e : Event) (hw : BookWf x) : GC Tryz.prog 9 [bookV x,evV e] [] (appAV x e) (appOb x e) := app_gc (apply_e x e hw)
theorem sapply_g (x : Book) (e : Event) (hw : BookWf x) : GC Tryz.prog 6 [bookV x,evV e] [] (appAV x e) (appOb x e) := app_gc (sapply_e x e hw)
abbrev ownBk (x : Book) : AV := .agg [int x.tick,int x.next,int x.wallet,.own 1,.own 2,.own 3]
abbrev obBk (u1 u2 u3 : Value) (x : Book) : List (Nat × AO) := [(1,.arr ⟨78,some u1⟩ 7 (rowsOf encChan x.chans)),(2,.arr ⟨117,some u2⟩ 7 (rowsOf encHtlc x.htlcs)),(3,.arr ⟨120,some u3⟩ 5 (rowsOf encCircle x.circles))]
theorem appFlat (x : Book) (e : Event) : ∀ p ∈ appOb x e,flatO p.2 := fun p hp => by
  simp only [appOb,List.mem_cons,List.not_mem_nil,or_false] at hp
  rcases hp with rfl | rfl | rfl | rfl <;> exact ⟨rfl,flat_rowsOf⟩
theorem lentBk {f : FuncId} {u1 u2 u3 : Value} {x : Book} {e : Event} (hc : GC Tryz.prog f [bookV x,evV e] [] (appAV x e) (appOb x e)) : GC Tryz.prog f [ownBk x,evV e] (obBk u1 u2 u3 x) (appAV x e) (appOb x e ++ obBk u1 u2 u3 x) :=
  hc.lent rfl rfl (by intro id hid;simp [ownN,ownNL] at hid;rcases hid with rfl | rfl | rfl | rfl <;> rfl) (by intro p hp;simp [obBk] at hp;rcases hp with rfl | rfl | rfl <;> rfl) (appFlat x e) (by intro p hp;simp [obBk] at hp;rcases hp with rfl | rfl | rfl <;> rfl)

abbrev lbookV (x : Book) : AV := .agg [int x.tick,int x.next,int x.wallet,.p (.lst 122 7 (rowsOf encChan x.chans)),.p (.lst 124 7 (rowsOf encHtlc x.htlcs)),.p (.lst 126 5 (rowsOf encCircle x.circles))]
abbrev postV (p : Posting) : AV := .agg [int p.id,.p (.lst 109 3 (rowsOf encLine p.lines))]
theorem lbookArg {L : Nat → Prop} {ρ : Nat → Value} {H : Nat → AO} {x : Book} {w : World} {c : Value} (h : RV L ρ H w (lbookV x) c) (wc : ∀ c ∈ x.chans,wfChan c) (wh : ∀ c ∈ x.htlcs,wfHtlc c) (wi : ∀ c ∈ x.circles,wfCircle c) :
    ∃ a0 c0 a1 c1 a2 c2,c = .agg #[.int .i64 x.tick,.int .i64 x.next,.int .i64 x.wallet,.slice a0 x.chans.length c0,.slice a1 x.htlcs.length c1,.slice a2 x.circles.length c2] ∧
      SlR 7 repChan w 0 w.heap.size (.slice a0 x.chans.length c0) x.chans ∧ SlR 7 repHtlc w 0 w.heap.size (.slice a1 x.htlcs.length c1) x.htlcs ∧ SlR 5 repCircle w 0 w.heap.size (.slice a2 x.circles.length c2) x.circles := by
  rw [RV] at h
  obtain ⟨cs,rfl,h⟩ := h
  simp only [RVL] at h
  obtain ⟨v0,r0,rfl,h0,v1,r1,rfl,h1,v2,r2,rfl,h2,v3,r3,rfl,h3,v4,r4,rfl,h4,v5,r5,rfl,h5,rfl⟩ := h
  have s3 := h3.slr (rep := repChan) (fun x => rfl) (fun c hc => ⟨rfl,wc c hc⟩)
  have s4 := h4.slr (rep := repHtlc) (fun x => rfl) (fun c hc => ⟨rfl,wh c hc⟩)
  have s5 := h5.slr (rep := repCircle) (fun x => rfl) (fun c hc => ⟨rfl,wi c hc⟩)
  obtain ⟨a0,c0,rfl⟩ := s3.form
  obtain ⟨a1,c1,rfl⟩ := s4.form
  obtain ⟨a2,c2,rfl⟩ := s5.form
  exact ⟨a0,c0,a1,c1,a2,c2,by rw [h0.v_eq,h1.v_eq,h2.v_eq],s3,s4,s5⟩
theorem szBook_e (x : Book) (l : Int) (wc : ∀ c ∈ x.chans,wfChan c) (wh : ∀ c ∈ x.htlcs,wfHtlc c) (wi : ∀ c ∈ x.circles,wfCircle c) (l1 : 0 ≤ l) (l2 : l ≤ 1048576) : GC Tryz.prog 5 [lbookV x,int l] [] (int (szBook x l)) [] := GC.of_old (RV.v_mk rfl) fun L ρ w cs h => by
 obtain ⟨c,d,rfl,hc,hd⟩ := h.two
 obtain ⟨a0,c0,a1,c1,a2,c2,rfl,s0,s1,s2⟩ := lbookArg hc wc wh wi
 rw [hd.v_eq]
 exact szBook_c x _ _ _ _ _ _ l w s0 s1 s2 l1 l2
def mkdBook (x : Book) (k : Int) : Book := { x with chans := mkdChan k x.chans.length,htlcs := mkdHtlc (k + 7 * (x.chans.length : Int)) x.htlcs.length,circles := mkdCircle (k + 7 * (x.chans.length : Int) + 7 * (x.htlcs.length : Int)) x.circles.length }
theorem toBook_e (x : Book) (hc : x.chans.length ≤ 1048576) (hh : x.htlcs.length ≤ 1048576) (hi : x.circles.length ≤ 1048576) : GC Tryz.prog 7 [lbookV x] [] (ownBk x) [(1,.arr 78 7 (rowsOf encChan x.chans)),(2,hAr x.htlcs),(3,iAr x.circles)] := by
 refine GC.intro (rs := [.cell 2 34 (some 6)]) Tryz.func7 rfl Tryz.ntmps7 (Nat.le_of_ble_eq_true rfl) ⟨rfl,rfl,ty.kd34,trivial⟩ ?_
 intro L O w0
 refine sL<|lst (zX 2001 Z) Z<|lst (zA 2002 ty.ze34 Z) Z<|nA<|lst (zA 2003 ty.ze34 Z) Z<|nA<|lf 0 ty.F26_0 Z<|loI ty.kd3 Z<|lf 0 ty.F34_0 Z<|lst (zB 2003 ty.co3 ty.inf3 Z) Z<|nA<|lf 1 ty.F26_1 Z<|loI ty.kd3 Z<|lf 1 ty.F34_1 Z<|lst (zB 2003 ty.co3 ty.inf3 Z) Z<|nA<|lf 2 ty.F26_2 Z ?_
 refine loI ty.kd3 Z<|lf 2 ty.F34_2 Z<|lst (zB 2003 ty.co3 ty.inf3 rfl) Z<|lT [1,2,3] [.ptr 2001 _ 0,.ptr 2002 _ 0,.ptr 2003 _ 0] [2001,2002,2003] [.box _ _ [vI _ _,vI _ _,vI _ _,vL _ _ _,vL _ _ _,vL _ _ _],.box _ _ [vI _ _,vI _ _,vI _ _,vV _,vV _,vV _],.box _ _ [vI _ _,vI _ _,vI _ _,vV _,vV _,vV _]] rfl Z<|nA<|lf 3 ty.F26_3 Z<|loL ty.kd22 Z<|lst (zC [(2007,1)] [1] [] Tryz.func45 (toChanS_e _ (by assumption)) (trivial) rfl rfl) Z<|lf 3 ty.F34_3 Z<|lst (zB 2003 ty.co30 ty.inf30 rfl) Z<|nA<|lf 4 ty.F26_4 Z<|loL ty.kd23 Z<|lst (zC [(2007,2)] [2] [] Tryz.func46 (toHtlcS_e _ (by assumption)) (trivial) rfl rfl) Z<|lf 4 ty.F34_4 Z<|lst (zB 2003 ty.co31 ty.inf31 rfl) Z<|nA<|lf 5 ty.F26_5 Z<|loL ty.kd24 Z<|lst (zC [(2007,3)] [3] [] Tryz.func47 (toCircleS_e _ (by assumption)) (trivial) rfl rfl) Z<|lf 5 ty.F34_5 rfl ?_
 refine lst (zB 2003 ty.co32 ty.inf32 Z) Z<|lT [2,3] [.ptr 2002 _ 0,.ptr 2003 _ 0] [1,2,3,2001,2002,2003] [.arr _ _ _,.arr _ _ _,.arr _ _ _,.box _ _ [vI _ _,vI _ _,vI _ _,vL _ _ _,vL _ _ _,vL _ _ _],.box _ _ [vI _ _,vI _ _,vI _ _,vV _,vV _,vV _],.box _ _ [vI _ _,vI _ _,vI _ _,.own _,.own _,.own _]] Z Z<|nA<|loX (.agg [vI _ _,vI _ _,vI _ _,.own _,.own _,.own _]) ty.kd34 Z<|lst (zB 2002 ty.co34 ty.inf34 Z) Z<|nG<|aR ?_
 refine end_ret ?_ ⟨rfl,rfl,rfl,trivial⟩
 rfl
theorem eqBook_e (x : Book) (hc : x.chans.length ≤ 1048576) (hh : x.htlcs.length ≤ 1048576) (hi : x.circles.length ≤ 1048576) : GC Tryz.prog 10 [bookV x,bookV x] [] (boo true) [] := by
 refine gi 4 Tryz.func10 rfl Tryz.ntmps10 rfl ?_
 intro L O w0
 refine sL<|lst (zX 2002 rfl) Z<|lst (zX 2003 rfl) Z<|laZ Z<|nG<|aS<|sL<|lf 0 ty.F34_0 Z<|loI ty.kd3 Z<|lf 0 ty.F34_0 Z<|loI ty.kd3 Z<|lbB Z<|lsB 9 false rfl (by simp)<|nG<|aN Z<|aK<|gT<|aS<|sL<|lf 1 ty.F34_1 Z<|loI ty.kd3 Z<|lf 1 ty.F34_1 Z<|loI ty.kd3 Z<|lbB Z<|lsB 14 false rfl (by simp) ?_
 refine nG<|aN Z<|aK<|gT<|aS<|sL<|lf 2 ty.F34_2 Z<|loI ty.kd3 Z<|lf 2 ty.F34_2 Z<|loI ty.kd3 Z<|lbB Z<|lsB 19 false rfl (by simp)<|nG<|aN Z<|aK<|gT<|aS<|sL<|lf 3 ty.F34_3 Z<|loL ty.kd30 Z<|lf 3 ty.F34_3 Z<|loL ty.kd30 Z<|lst (zL Tryz.func61 (eqChanS_e _ (by omega)) rfl) Z<|lT [2,3,4,24] [.ptr 2002 _ 0,.ptr 2003 _ 0,vB false,vB true] [2002,2003] [.box _ _ [vI _ _,vI _ _,vI _ _,vL _ _ _,vL _ _ _,vL _ _ _],.box _ _ [vI _ _,vI _ _,vI _ _,vL _ _ _,vL _ _ _,vL _ _ _]] rfl Z<|luZ Z<|lsB 25 false rfl (by simp) ?_
 refine nG<|aN Z<|aK<|gT<|aS<|sL<|lf 4 ty.F34_4 Z<|loL ty.kd31 Z<|lf 4 ty.F34_4 Z<|loL ty.kd31 Z<|lst (zL Tryz.func62 (eqHtlcS_e _ (by omega)) rfl) Z<|luZ Z<|lsB 31 false rfl (by simp)<|nG<|aN Z<|aK<|gT<|aS<|sL<|lf 5 ty.F34_5 Z<|loL ty.kd32 Z<|lf 5 ty.F34_5 Z<|loL ty.kd32 Z<|lst (zL Tryz.func63 (eqCircleS_e _ (by omega)) rfl) Z<|luZ Z<|lsB 37 false rfl (by simp) ?_
 refine nG<|aN Z<|aK<|gA<|laT Z<|nG<|aR ?_
 refine end_ret ?_ trivial
 rfl
theorem eqPosting_e (p : Posting) (hl : p.lines.length ≤ 1048576) : GC Tryz.prog 11 [postV p,postV p] [] (boo true) [] := by
 refine gi 4 Tryz.func11 rfl Tryz.ntmps11 rfl ?_
 intro L O w0
 refine sL<|lst (zX 2002 rfl) Z<|lst (zX 2003 rfl) Z<|laZ Z<|nG<|aS<|sL<|lf 0 ty.F37_0 Z<|loI ty.kd3 Z<|lf 0 ty.F37_0 Z<|loI ty.kd3 Z<|lbB Z<|lsB 9 false rfl (by simp)<|nG<|aN Z<|aK<|gT<|aS<|sL<|lf 1 ty.F37_1 Z<|loL ty.kd35 Z<|lf 1 ty.F37_1 Z<|loL ty.kd35 Z<|lst (zL Tryz.func64 (eqLineS_e _ (by omega)) rfl) Z<|luZ rfl ?_
 refine lsB 15 false rfl (by simp)<|nG<|aN Z<|aK<|gA<|laT Z<|nG<|aR ?_
 refine end_ret ?_ trivial
 rfl
theorem markBook_e (u1 u2 u3 : Value) (x : Book) (k : Int) (hc : x.chans.length ≤ 1048576) (hh : x.htlcs.length ≤ 1048576) (hi : x.circles.length ≤ 1048576) (hk : 0 ≤ k ∧ k ≤ 100000000000) : GC Tryz.prog 12 [ownBk x,int k] (obBk u1 u2 u3 x) (int (k + 7 * (x.chans.length : Int) + 7 * (x.htlcs.length : Int) + 5 * (x.circles.length : Int))) (obBk u1 u2 u3 (mkdBook x k)) := by
 refine gi 4 Tryz.func12 rfl Tryz.ntmps12 rfl ?_
 intro L O w0
 refine sL<|lst (zX 2002 Z) Z<|laI Z<|nA<|lf 3 ty.F34_3 Z<|loO ty.kd30 Z<|lmI Z ?_
 refine lst (zC [(0,1)] [] [0] Tryz.func65 (markChanS_e _ _ _ (by omega) (by omega)) (⟨stays.arr (by simp [rowsOf,mkLs_len]),trivial⟩) rfl rfl) Z<|laI Z<|nA<|lf 4 ty.F34_4 Z<|loO ty.kd31 Z<|lmI rfl ?_
 refine lst (zC [(0,2)] [] [0] Tryz.func66 (markHtlcS_e _ _ _ (by omega) (by omega)) (⟨stays.arr (by simp [rowsOf,mkLs_len]),trivial⟩) rfl rfl) Z<|laI Z<|nA<|lf 5 ty.F34_5 Z<|loO ty.kd32 Z<|lmI rfl ?_
 refine lst (zC [(0,3)] [] [0] Tryz.func67 (markCircleS_e _ _ _ (by omega) (by omega)) (⟨stays.arr (by simp [rowsOf,mkLs_len]),trivial⟩) rfl rfl) Z<|lT [1,4,16] [vI _ _,vI _ _,vI _ _] [1,2,3,2002] [.arr _ _ _,.arr _ _ _,.arr _ _ _,.box _ _ [vI _ _,vI _ _,vI _ _,.own _,.own _,.own _]] rfl Z<|laI Z<|nA<|lmI Z<|laI Z<|nG<|aR ?_
 refine end_ret ?_ ⟨rfl,rfl,rfl,trivial⟩
 rfl
theorem heldBook_e (x : Book) (k : Int) (hc : x.chans.length ≤ 1048576) (hh : x.htlcs.length ≤ 1048576) (hi : x.circles.length ≤ 1048576) (hk : 0 ≤ k ∧ k ≤ 100000000000) : GC Tryz.prog 14 [bookV (mkdBook x k),int k] [] (int (k + 7 * (x.chans.length : Int) + 7 * (x.htlcs.length : Int) + 5 * (x.circles.length : Int))) [] := by
 refine gi 4 Tryz.func14 rfl Tryz.ntmps14 rfl ?_
 intro L O w0
 refine sL<|lst (zX 2002 rfl) Z<|laI Z<|nA<|lf 3 ty.F34_3 Z<|loL ty.kd30 Z<|lmI Z<|lst (zL Tryz.func69 (heldChanS_e _ _ (by omega) (by omega)) rfl) Z<|laI Z<|nG<|aS<|sL<|lmI Z<|lbB Z<|lsB 10 false rfl (by simp;omega)<|nG<|aN Z<|aK<|gA<|lf 4 ty.F34_4 Z<|loL ty.kd31 rfl ?_
 refine lmI Z<|lst (zL Tryz.func70 (heldHtlcS_e _ _ (by omega) (by omega)) rfl) Z<|laI Z<|nG<|aS<|sL<|lmI Z<|lbB Z<|lsB 16 false rfl (by simp;omega)<|nG<|aN Z<|aK<|gA<|lf 5 ty.F34_5 Z<|loL ty.kd32 Z<|lmI Z<|lst (zL Tryz.func71 (heldCircleS_e _ _ (by omega) (by omega)) rfl) Z<|lT [1,4,20] [vI _ _,vI _ _,vI _ _] [2002] [.box _ _ [vI _ _,vI _ _,vI _ _,vL _ _ _,vL _ _ _,vL _ _ _]] rfl Z<|laI Z<|nG<|aS<|sL<|lmI rfl ?_
 refine lbB Z<|lsB 22 false rfl (by simp;omega)<|nG<|aN Z<|aK<|gA<|lmI Z<|laI Z<|nG<|aR ?_
 refine end_ret ?_ trivial
 rfl

structure AllS where
  now : Book
  codes : List Int
  ps : List Posting
def allF (s : AllS) (e : Event) : AllS := ⟨if applyC s.now e = 0 then appB s.now e else s.now,s.codes ++ [applyC s.now e],if applyC s.now e = 0 ∧ (appP s.now e).lines ≠ [] then s.ps ++ [appP s.now e] else s.ps⟩
def allS (x : Book) (es : List Event) : AllS := es.foldl allF ⟨x,[],[]⟩
theorem allS_succ {x : Book} {es : List Event} {k : Nat} (h : k < es.length) : allS x (es.take (k + 1)) = allF (allS x (es.take k)) es[k] := by
  unfold allS
  rw [List.take_succ_eq_append_getElem h,List.foldl_append]
  rfl
theorem appB_wf {x : Book} {e : Event} (hw : BookWf x) (we : wfEvent e) : BookWf (appB x e) := by
  by_cases q : applyC x e = 0
  · have w := wr_apply hw we q
    have hl := w.lc
    by_cases r : (workR x e).l = []
    · rw [(appB_nil q r).1]
      exact ⟨w.chans,w.htlcs,w.circles,by omega⟩
    · rw [(appB_yes q r).1]
      exact ⟨w.chans,w.htlcs,w.circles,by show (workR x e).b.chans.length ≤ _;omega⟩
  · rw [(appB_no q).1]
    unfold zeroBook
    exact ⟨by simp,by simp,by simp,by simp⟩
theorem allF_wf {s : AllS} {e : Event} (hw : BookWf s.now) (we : wfEvent e) : BookWf (allF s e).now := by
  unfold allF
  dsimp only
  split
  · exact appB_wf hw we
  · exact hw
theorem allS_wf {x : Book} {es : List Event} (hw : BookWf x) (we : ∀ e ∈ es,wfEvent e) : ∀ k,k ≤ es.length → BookWf (allS x (es.take k)).now
  | 0,_ => by rw [List.take_zero];exact hw
  | k + 1,h => by
    rw [allS_succ (by omega)]
    exact allF_wf (allS_wf hw we k (by omega)) (we _ (List.getElem_mem _))
theorem allS_codes {x : Book} {es : List Event} : ∀ k,k ≤ es.length → (allS x (es.take k)).codes.length = k
  | 0,_ => by rw [List.take_zero];rfl
  | k + 1,h => by
    rw [allS_succ (by omega)]
    have := allS_codes (x := x) k (by omega : k ≤ es.length)
    unfold allF
    simp
    exact this
theorem allS_ps {x : Book} {es : List Event} : ∀ k,k ≤ es.length → (allS x (es.take k)).ps.length ≤ k
  | 0,_ => by rw [List.take_zero];exact Nat.le_refl _
  | k + 1,h => by
    rw [allS_succ (by omega)]
    have := allS_ps (x := x) k (by omega : k ≤ es.length)
    unfold allF
    dsimp only
    split
    · simp;omega
    · omega
def rowsP (ps : List Posting) : List (List PV) := ps.map fun p => [.v (.int .i64 p.id),.lst 109 3 (rowsOf encLine p.lines)]
theorem rowsP_len (l : List Posting) : (rowsP l).length = l.length := List.length_map _
theorem appP_id {x : Book} {e : Event} (hb : applyC x e = 0) : decide (0 < (appP x e).id) = !decide ((appP x e).lines = []) := by
  obtain ⟨h1,h2,h3⟩ := applyC_ok hb
  have hn := (bookOk_parts h1).2.2.1
  have := inB_true.1 hn
  by_cases r : (workR x e).l = []
  · rw [(appB_nil hb r).2];simp
  · rw [(appB_yes hb r).2]
    simp [r]
    omega
theorem allF_ok {s : AllS} {e : Event} (h : applyC s.now e = 0) : (allF s e).now = appB s.now e := if_pos h
theorem allF_no {s : AllS} {e : Event} (h : applyC s.now e ≠ 0) : (allF s e).now = s.now := if_neg h
theorem allF_ps {s : AllS} {e : Event} (h : applyC s.now e = 0) (h2 : (appP s.now e).lines ≠ []) : (allF s e).ps = s.ps ++ [appP s.now e] := if_pos ⟨h,h2⟩
theorem allF_ps1 {s : AllS} {e : Event} (h : applyC s.now e ≠ 0) : (allF s e).ps = s.ps := if_neg fun q => h q.1
theorem allF_ps2 {s : AllS} {e : Event} (h2 : (appP s.now e).lines = []) : (allF s e).ps = s.ps := if_neg fun q => q.2 h2
end Go.Proofs.YtohobndkbmpfcaaGreat

